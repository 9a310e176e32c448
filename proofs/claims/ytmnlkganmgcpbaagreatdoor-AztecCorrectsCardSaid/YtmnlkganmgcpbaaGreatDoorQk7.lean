import Derived.Test.YtmnlkganmgcpbaaGreatDoorQk6
set_option maxRecDepth 100000
set_option maxHeartbeats 4000000
set_option linter.unusedVariables false
set_option linter.unusedSectionVars false
set_option linter.unusedSimpArgs false
namespace Go.Proofs.YtmnlkganmgcpbaaGreatDoor
section
open Go.RowKit
theorem Is (x y i:Nat) (a:y<=1):jx (2* x+y) (i+1)=jx x i:=by
 unfold jx;have e:(2* x+y)/2^(i+1)=x/2^i:=by
  rw[Nat.pow_succ,Nat.mul_comm (2^i) 2,<-Nat.div_div_eq_div_mul];congr 1;omega
 rw[e]
theorem Hl (x y:Nat) (a:y<=1):jx (2* x+y) 0=(y==1):=by
 unfold jx;rw[Nat.pow_zero,Nat.div_one];have e:(2* x+y)%2=y:=oO;rw[e]
theorem yW (x y j:Nat) (a:y<=1):∀k,k<=j->lowF (2* x+y) (j+1) k=lowF x j k
 |0,_=>rfl
 |k+1,h=>by
  show lowF _ _ k++[jx _ (j+1-1-k)]=lowF _ _ k++[jx _ (j-1-k)];rw[yW x y j a k oO,show j+1-1-k=(j-1-k)+1 from by omega,Is _ _ _ a]
theorem pD (x y j:Nat) (a:y<=1):aH (2* x+y) (j+1)=aH x j++[y==1]:=by
 show lowF _ _ j++[jx _ (j+1-1-j)]=_;rw[yW x y j a j (Nat.le_refl _),show j+1-1-j=0 from by omega,Hl _ _ a];rfl
def ij (b:List Bool) (k j:Nat):List Bool:=(List.range j).map λi=>b.getD (k+i) true
theorem pC (b:List Bool) (k j:Nat):ij b k (j+1)=ij b k j++[b.getD (k+j) true]:=by
 unfold ij;rw[List.range_succ,List.map_append];rfl
theorem CL (b:List Bool) (k j:Nat):∀i,ij b k (j+i)=ij b k j++ij b (k+j) i
 |0=>by show ij b k j=_++[];rw[List.append_nil]
 |i+1=>by
  rw[<-Nat.add_assoc,pC,pC,CL b k j i,List.append_assoc,Nat.add_assoc]
theorem BI (b:List Bool) (k:Nat):(ir b k==1)=b.getD k true:=by
 unfold ir;by_cases h:k<b.length
 ·simp only[List.getD_eq_getElem?_getD,List.getElem?_eq_getElem h,Option.getD_some];cases b[k]<;>simp[h]
 ·have e:b.getD k true=true:=by rw[List.getD_eq_getElem?_getD,List.getElem?_eq_none oO];rfl
  rw[if_neg (λa=>h a.1),e];rfl
theorem BF (b:List Bool) (k:Nat):∀j,aH (sfV b k j) j=ij b k j
 |0=>rfl
 |j+1=>by
  show aH (2* sfV b k j+ir b (k+j)) (j+1)=_;rw[pD _ _ _ (qy b _),BF b k j,pC,BI]
theorem L9 (a:Nat):2^(a+1)=2* 2^a:=by rw[Nat.pow_succ,Nat.mul_comm]
theorem JD (b:List Bool) (s k:Nat) (hs:2<=s):1<=(jk b s k).1/\(jk b s k).1<2^s-1/\k+(s-1)<=(jk b s k).2/\(jk b s k).2<=k+s/\lz s (jk b s k).1=ij b k ((jk b s k).2-k):=by
 obtain⟨a,rfl⟩:∃a,s=a+1:=⟨s-1,by omega⟩;have l:=Gr b k a;have f:=BF b k a;have i:2<=2^a:=by
  have:=Nat.pow_le_pow_right (n:=2) oO (show 1<=a by omega);simpa using this
 have e2:=L9 a;have g:(2^(a+1)-1)/2=2^a-1:=oO;unfold jk;rw[Nat.add_sub_cancel];generalize j:sfV b k a=v at*;by_cases c:v=0
 ·rw[if_pos c];refine⟨Nat.le_refl _,by show 1<_;omega,Nat.le_refl _,by show k+a<=_;omega,?_⟩;show lz (a+1) 1=ij b k (k+a-k);rw[Nat.add_sub_cancel_left,<-f,c];unfold lz;rw[if_pos (.inl rfl)];rfl
 ·rw[if_neg c];by_cases d:v=2^a-1
  ·rw[if_pos d];refine⟨by show 1<=2* v;omega,by show 2* v<_;omega,Nat.le_refl _,by show k+a<=_;omega,?_⟩;show lz (a+1) (2* v)=ij b k (k+a-k);rw[Nat.add_sub_cancel_left,<-f];unfold lz;have e:2* v/2=v:=oO;rw[e,if_pos (.inr (by rw[g];exact d))];rfl
  ·rw[if_neg d];have hb:=qy b (k+a);refine⟨by show 1<=2* v+_;omega,by show 2* v+_<_;omega,by show k+a<=k+(a+1);omega,Nat.le_refl _,?_⟩;show lz (a+1) (2* v+ir b (k+a))=ij b k (k+(a+1)-k);rw[Nat.add_sub_cancel_left];unfold lz;have e:(2* v+ir b (k+a))/2=v:=oO;rw[e,if_neg (by rw[g];omega),pD _ _ _ hb,f,pC,BI]
theorem xR (b:List Bool) (s:Nat) (hs:2<=s):∀(f k:Nat),b.length<=f+k->k<b.length+s->
 (∀x∈stuffFrom b s f k,1<=x/\x<2^s-1)/\(stuffFrom b s f k).length<=b.length-k/\
 (k<b.length->(stuffFrom b s f k).length* (s-1)+k<=b.length+s-2)/\
 ∃e,b.length<=e/\e<b.length+s/\k<=e/\((stuffFrom b s f k).map (lz s)).flatten=ij b k (e-k)/\e-k<=(stuffFrom b s f k).length* s
 |0,k,g,c=>by
  refine⟨λx a=>(by cases a),Nat.zero_le _,λh=>absurd h oO,k,by omega,c,Nat.le_refl _,?_,by simp⟩;rw[Nat.sub_self];rfl
 |f+1,k,g,c=>by
  by_cases d:k<b.length
  ·have i:=JD b s k hs;have e1:stuffFrom b s (f+1) k=(jk b s k).1::stuffFrom b s f (jk b s k).2:=by
    show(if k<b.length then _ else _)=_;rw[if_pos d]
   obtain⟨j,l,w,y,m⟩:=i;generalize jk b s k=q at*;obtain⟨n,z,o,e,p,t,A,u,i8⟩:=xR b s hs f q.2 oO oO;rw[e1];generalize stuffFrom b s f q.2=r at*;refine⟨λx a=>?_,?_,λ_=>?_,e,p,t,by omega,?_,?_⟩
   ·rcases List.mem_cons.1 a with rfl|a
    ·exact⟨j,l⟩
    ·exact n x a
   ·rw[List.length_cons];omega
   ·rw[List.length_cons,Nat.succ_mul];by_cases h:q.2<b.length
    ·have:=o h;omega
    ·have v:r.length=0:=oO;rw[v];omega
   ·rw[List.map_cons,List.flatten_cons,u,m,show e-k=(q.2-k)+(e-q.2)from by omega,CL,show k+(q.2-k)=q.2 from by omega]
   ·rw[List.length_cons,Nat.succ_mul];omega
  ·rw[zn b s (f+1) k oO];refine⟨λx a=>(by cases a),Nat.zero_le _,λh=>absurd h d,k,by omega,c,Nat.le_refl _,?_,by simp⟩;rw[Nat.sub_self];rfl
theorem BR (s:Nat) (a:List Int):∀k,k<=a.length->gS s a k=((a.take k).map λw=>lz s w.toNat).flatten
 |0,_=>rfl
 |k+1,h=>by
  show gS s a k++lz s (a.getD k 0).toNat=_;rw[BR s a k oO,List.take_add_one,List.getElem?_eq_getElem oO,List.map_append,List.flatten_append];congr 1;rw[List.getD_eq_getElem?_getD,List.getElem?_eq_getElem oO];simp
def zN (l:List Nat):List Int:=l.map λx:Nat=>(x:Int)
theorem xz (l:List Nat):(zN l).length=l.length:=by simp[zN]
theorem M7 (s:Nat) (l:List Nat):gS s (zN l) (zN l).length=(l.map (lz s)).flatten:=by
 rw[BR s (zN l) _ (Nat.le_refl _),List.take_length];congr 1;unfold zN;rw[List.map_map];rfl
theorem kM (b:List Bool) (s:Nat) (hs:2<=s) (u:s<=12) (hb:b.length<=80000):∃e,b.length<=e/\e<b.length+s/\aO (zN (aI b s)) s=(ij b 0 e,0)/\
 b.length<=(aI b s).length* s/\(aI b s).length* (s-1)<=b.length+s-2/\(∀x∈aI b s,1<=x/\x<2^s-1)/\(aI b s).length<=b.length:=by
 obtain⟨a,c,i,e,j,k,t,l,m⟩:=xR b s hs b.length 0 oO oO;refine⟨e,j,k,?_,?_,?_,a,by have n:(aI b s).length<=b.length-0:=c;omega⟩
 ·have hl:(aI b s).length<=b.length:=c;have q:zb s (zN (aI b s))=true:=by
   unfold zb;rw[List.all_eq_true];intro x d;obtain⟨y,f,rfl⟩:=List.mem_map.1 d;have:=a y f;rw[decide_eq_true oO,decide_eq_true oO];rfl
  have r:okW s (zN (aI b s))=true:=by
   unfold okW;rw[List.all_eq_true];intro x d;obtain⟨y,f,rfl⟩:=List.mem_map.1 d;have:=a y f;rw[beq_eq_false_iff_ne.2 oO,beq_eq_false_iff_ne.2 oO];rfl
  have hq:¬1048576/(s:Int)<((zN (aI b s)).length:Int):=by
   rw[xz];have n:(87381:Int)<=1048576/(s:Int):=(Int.le_ediv_iff_mul_le oO).2 oO;omega
  unfold aO;rw[if_neg oO,if_neg (by rw[show((s:Nat):Int).toNat=s from rfl,q];simp),if_neg hq,if_neg (by rw[show((s:Nat):Int).toNat=s from rfl,r];simp)];rw[show((s:Nat):Int).toNat=s from rfl,M7];have g:=l;rw[Nat.sub_zero]at g;rw[show((aI b s).map (lz s)).flatten=ij b 0 e from g]
 ·have v:e-0<=(aI b s).length* s:=m;omega
 ·by_cases o:0<b.length
  ·have:=i o;exact this
  ·have p:(aI b s).length=0:=by
    have:(aI b s).length<=b.length-0:=c;omega
   rw[p];omega
end
section
open Go.RowKit Go.WideMaps Go.Maps
inductive Atom (p:ByteArray) (a m:Nat):az->Prop
 |chars (n:Nat):n<32->bV m n=1->preB p a (eJ m n)=true->Atom p a m ⟨n,-1,0,false,an m,a+(eJ m n).size,m⟩
 |nh (n:Nat):n<32->bV m n=2->Atom p a m ⟨n,-1,0,false,an m,a,modeF m n⟩
 |shift (n s:Nat):n<32->bV m n=3->s<32->bV (modeF m n) s=1->preB p a (eJ (modeF m n) s)=true->Atom p a m ⟨n,(s:Int),0,false,an m+an (modeF m n),a+(eJ (modeF m n) s).size,m⟩
 |short (n j:Nat):n<32->bV m n=4->1<=j->j<=31->a+j<=p.size->Atom p a m ⟨n,-1,j,false,an m+5+8* j,a+j,m⟩
 |long (n j:Nat):n<32->bV m n=4->31<=j->j<=2078->a+j<=p.size->Atom p a m ⟨n,-1,j,true,an m+16+8* j,a+j,m⟩
theorem JZ {p:ByteArray} {a m n:Nat} {b:az} (hn:n<32) (c:bV m n=4) (h:pB p n a m b) (g:b.run≠0) (hs:b.long=false->b.run<=31) (hl:b.run<=2078):Atom p a m b:=by
 rcases h with h|⟨e,i,d,j⟩
 ·exact absurd h g
 ·rw[e];cases f:b.long with
  |true=>
   have:=Atom.long (p:=p) (a:=a) (m:=m) n b.run hn c (j f) hl d;simpa using this
  |false=>
   have:=Atom.short (p:=p) (a:=a) (m:=m) n b.run hn c i (hs f) d;simpa using this
def xc (a:az):Prop:=(a.long=false->a.run<=31)/\a.run<=2078
theorem xi {C:Nat->Nat->Nat} {num at_ m:Nat} {a:az} {n sz:Nat} {lg:Bool} (hb:xc a) (b:lg=false->n<=31) (c:n<=2078):xc (cQ C num at_ m a n sz lg):=by
 unfold cQ;split
 ·exact⟨b,c⟩
 ·exact hb
theorem uG {C:Nat->Nat->Nat} {num at_ m:Nat}:∀k,k<=2048->xc (ff C num at_ m k)
 |0,_=>⟨λ_=>Nat.zero_le _,Nat.zero_le _⟩
 |k+1,h=>xi (uG k oO) (λe=>by cases e) oO
theorem tR {C:Nat->Nat->Nat} {num at_ m K:Nat} (a:K<=2048):∀k,k<=31->xc (dH C num at_ m K k)
 |0,_=>uG K a
 |k+1,h=>xi (tR a k oO) (λ_=>by omega) oO
theorem Dr {C:Nat->Nat->Nat} {p:ByteArray} {n a m:Nat} (c:a<p.size) (hn:n<32) (d:bV m n=4):Atom p a m (eW C n a m (p.size-a)):=by
 obtain⟨e,f⟩:=p8 (C:=C) (num:=n) (m:=m) c;have b:xc (eW C n a m (p.size-a)):=tR oO _ oO;exact JZ hn d e f b.1 b.2
theorem zB {p:ByteArray} {a m n md:Nat} {b:az}:∀k,b∈optSK p a m n md k->∃s,s<k/\b∈mS p a m n md s
 |0,h=>by cases h
 |k+1,h=>by
  unfold optSK at h;rw[List.mem_append]at h;rcases h with h|h
  ·obtain⟨s,d,c⟩:=zB k h;exact⟨s,by omega,c⟩
  ·exact⟨k,by omega,h⟩
theorem zy {p:ByteArray} {a m n md s:Nat} {b:az} (h:b∈mS p a m n md s):∀k,s<k->b∈optSK p a m n md k
 |0,c=>by omega
 |k+1,c=>by
  unfold optSK;rw[List.mem_append];by_cases e:s=k
  ·subst e;exact .inr h
  ·exact .inl (zy h k oO)
theorem IJ {C:Nat->Nat->Nat} {p:ByteArray} {a m n:Nat} (e:a<p.size) (hn:n<32) {c:az} (b:c∈dU C p a m n):Atom p a m c:=by
 unfold dU at b;split at b
 ·split at b
  ·rw[List.mem_singleton]at b;subst b;exact .chars n hn (by assumption) (by assumption)
  ·cases b
 split at b
 ·rw[List.mem_singleton]at b;subst b;exact .nh n hn (by assumption)
 split at b
 ·rename_i f
  obtain⟨s,hs,h⟩:=zB 32 b;unfold mS at h;split at h
  ·rename_i d
   rw[List.mem_singleton]at h;subst h;exact .shift n s hn f hs d.1 d.2
  ·cases h
 split at b
 ·rw[List.mem_singleton]at b;subst b;exact Dr e hn (by assumption)
 ·cases b
theorem Cz {C:Nat->Nat->Nat} {p:ByteArray} {a m:Nat} {b:az}:∀k,b∈bJ C p a m k->∃n,n<k/\b∈dU C p a m n
 |0,h=>by cases h
 |k+1,h=>by
  unfold bJ at h;rw[List.mem_append]at h;rcases h with h|h
  ·obtain⟨s,d,c⟩:=Cz k h;exact⟨s,by omega,c⟩
  ·exact⟨k,by omega,h⟩
theorem zP {C:Nat->Nat->Nat} {p:ByteArray} {a m:Nat} (c:a<p.size) {b:az} (d:b∈bJ C p a m 32):Atom p a m b:=by
 obtain⟨n,hn,h⟩:=Cz 32 d;exact IJ c hn h
theorem Atom.opt {C:Nat->Nat->Nat} {p:ByteArray} {a m:Nat} (o:a<p.size) {c:az} (h:Atom p a m c):∃g∈dU C p a m c.num,g.bI C<=c.bI C/\(c.run=0->g=c):=by
 cases h with
 |chars n hn b d=>
  refine⟨_,?_,Nat.le_refl _,λ_=>rfl⟩;show _∈dU C p a m n;unfold dU;rw[if_pos b,if_pos d];exact List.mem_singleton.2 rfl
 |nh n hn b=>
  refine⟨_,?_,Nat.le_refl _,λ_=>rfl⟩;show _∈dU C p a m n;unfold dU;rw[b,if_neg oO,if_pos rfl];exact List.mem_singleton.2 rfl
 |shift n s hn b hs l d=>
  refine⟨_,?_,Nat.le_refl _,λ_=>rfl⟩;show _∈dU C p a m n;unfold dU;rw[b,if_neg oO,if_neg oO,if_pos rfl];refine zy (s:=s) ?_ 32 hs;unfold mS;rw[if_pos ⟨l,d⟩];exact List.mem_singleton.2 rfl
 |short n j hn b f i k=>
  refine⟨eW C n a m (p.size-a),?_,tA _ _ f oO,λe=>by simp only at e;omega⟩;show _∈dU C p a m n;unfold dU;rw[b,if_neg oO,if_neg oO,if_neg oO,if_pos rfl];exact List.mem_singleton.2 rfl
 |long n j hn b f i k=>
  refine⟨eW C n a m (p.size-a),?_,?_,λe=>by simp only at e;omega⟩
  ·show _∈dU C p a m n;unfold dU;rw[b,if_neg oO,if_neg oO,if_neg oO,if_pos rfl];exact List.mem_singleton.2 rfl
  ·exact Nat.le_trans (qU oO _).1 (Bp _ _ f oO)
theorem Atom.MN {p:ByteArray} {a m:Nat} {b:az} (h:Atom p a m b):b.num<32:=by cases h<;>assumption
theorem Atom.size_pos {p:ByteArray} {a m:Nat} {b:az} (h:Atom p a m b):4<=b.size:=by
 have:=km m;cases h<;>simp only<;>omega
theorem Atom.Nw {p:ByteArray} {a m:Nat} (i:a<p.size) {e:az} (h:Atom p a m e):e.at_<=p.size:=by
 cases h with
 |chars n hn b c=>exact uk c oO
 |nh n hn b=>show a<=_;omega
 |shift n s hn b hs k c=>exact uk c oO
 |short n j hn b f g d=>exact d
 |long n j hn b f g d=>exact d
theorem Atom.Nz {p:ByteArray} {a m:Nat} {b:az} (h:Atom p a m b):a<=b.at_:=by
 cases h<;>simp only<;>omega
theorem Atom.Ek {p:ByteArray} {a m:Nat} (c:m<5) {b:az} (h:Atom p a m b):b.mode<5:=by
 cases h<;>simp only<;>first|exact pe _ _|exact c
structure KP (p:ByteArray) (C:Nat->Nat->Nat):Prop where
 le:∀a m,a<p.size->m<5->∀b,Atom p a m b->C a m<=b.bI C
 ex:∀a m,a<p.size->m<5->∃b,Atom p a m b/\b.bI C=C a m
 zero:∀a m,p.size<=a->C a m=0
theorem cj.ac {p:ByteArray} {C:Nat->Nat->Nat} (i:p.size<=4096) (h:cj p C):KP p C:=by
 refine⟨λa m b c f g=>?_,λa m b c=>?_,h.zero⟩
 ·obtain⟨j,d,e,_⟩:=g.opt (C:=C) b;exact Nat.le_trans ((h.fix a b).1 m c j (rR d 32 g.MN)) e
 ·rcases(h.fix a b).2 m c with d|⟨f,d,e⟩
  ·have:=h.fin i a m c;omega
  ·exact⟨f,zP b d,e⟩
section
variable {n : Nat} {w wr : World} {db rb : Nat} {b0 b : List Bool} {mode : Nat} {out : List UInt8}
theorem DE.reads (h:DE n w wr db rb b0 b mode out) (m:Nat) (f:m<=40):
 Calls Tryz.prog 182 #[.pointer (some ⟨rb,0,none⟩),.int .i64 (m:Int)] wr λe w'=>e= .returned (.tuple #[.int .i64 (bm b 0 m).1,.int .i64 (bm b 0 m).2])/\
  ((b.length<m/\w'=wr)\/(m<=b.length/\DE n w w' db rb b0 (b.drop m) mode out)):=by
 obtain⟨A,c,d,g,k3⟩:=h.R;refine(F5 rb A b.length c m b wr d.cells (frozen_of_row _ _ _ _ _ d) f (by have:=h.lb;omega) g).mono ?_;rintro e w' ⟨i,a⟩;refine⟨i,?_⟩;rcases a with a|⟨a,l,o,rfl,j,k⟩
 ·exact .inl a
 ·exact .inr ⟨a,h.take a j d k⟩
theorem DE.facts (h:DE n w wr db rb b0 b mode out):wr.cell? ⟨db,1,none⟩=some (.pointer (some ⟨rb,0,none⟩))/\wr.cell? ⟨db,482,none⟩=some (.int .i64 (mode:Int))/\wr.frozen? ⟨db,482,none⟩=false/\wr.frozen? ⟨db,483,none⟩=false:=by
 obtain⟨o,e,c0,f,co,a,g,i,c,j,d,k,l,m⟩:=h.D;exact⟨a.cell 1 _ c,a.cell 482 _ d,frozen_of_row _ _ _ _ _ a,frozen_of_row _ _ _ _ _ a⟩
theorem DE.pr (h:DE n w wr db rb b0 b mode out) (m k:Nat) (c:m<5) (d:k<32):∀j v,(pr m k)[j]?=some v->wr.cell? ((⟨db,2+m* 96+k* 3,none⟩:Addr).add j)=some v:=by
 intro j v a;obtain⟨y,l,c0,o,co,f,p,q,r,g,s,t,u,x⟩:=h.D;have i:j<3:=by
  rcases Nat.lt_or_ge j 3 with h|h
  ·exact h
  ·rw[List.getElem?_eq_none (by show 3<=j;exact h)]at a;cases a
 rw[add_plain];refine f.cell _ _ ?_;have e:2+m* 96+k* 3+j=2+(m* 96+(k* 3+j)):=oO;rw[e];refine g _ _ ?_;rw[xY m (k* 3+j) c oO,Bh m k j d i];exact a
theorem zA:(Tryz.prog.info? 5).map (λi=>(i.zero,i.size,i.bytes))=some (some (.int .u8 0),1,1):=oK
theorem tj {l:Array Oper} {S:World->Prop} {K:Act->World->Prop} {r:List (Bool×Nat×Oper)} {k:Nat} {f:Oper} {a:Act} {W:World} {base:Nat} {A:Option Addr} {c:Nat} (o:W.ownsRow base 5 1 (.slice A out.length c) out.length (out.map vU)) (hb:base<=W.heap.size)
 (z:Region.wanted f (yielded l a.tmps)=true) (s y:Operand) (p:f.op= .call {callee:= .builtin .append,args:=#[s,y],argTypes:=#[22,9]}) (hs:a.eval s= .slice A out.length c) (d:ByteArray) (q:a.eval y= .string d) (hl:out.length<=100000000) (F:d.size<=1000)
 (t:∀g i e,e.ownsRow base 5 1 (.slice g (out++d.data.toList).length i) (out++d.data.toList).length ((out++d.data.toList).map vU)->W.grownBy e (Value.slice A out.length c).ownBlock->S e/\bn Tryz.prog l S K r (a.put f.dst (.slice g (out++d.data.toList).length i)) e):
 bn Tryz.prog l S K ((true,k,f)::r) a W:=by
 obtain⟨u,v,B,C,D⟩:=info_parts zA;obtain⟨G,e,E,j,x,_⟩:=Lib.run_append_own_string (P:=Tryz.prog) W base 22 9 f.type 5 u Tryz.underlying22 Tryz.underlying9 v B C D _ _ _ o d oM oO hb;have e1:out.length+d.size=(out++d.data.toList).length:=by simp
 have e2:out.map vU++Lib.strCells d=(out++d.data.toList).map vU:=by rw[List.map_append];rfl
 rw[e1,e2]at j;obtain⟨g,i,rfl⟩:=cU j;have m:=t g i e j x;refine fD z ?_ m.1 m.2;unfold execOp;simp only[p,resolve,invoke,builtin,Sem.run_bind,Sem.run_pure,Result.andThen_ok,List.map_toArray,List.map_cons,List.map_nil,hs,q,E]
end
theorem DE.AH {n:Nat} {w wr:World} {db c:Nat} {b0 b:List Bool} {i:Nat} {out:List UInt8} (h:DE n w wr db c b0 b i out) {d:Option Addr} {co:Nat} (j:wr.ownsRow n 5 1 (.slice d out.length co) out.length (out.map vU)) {W:World} (hg:wr.grownBy W (Value.slice d out.length co).ownBlock) {e:Option Addr} {f:Nat} {a:List UInt8}
 (m:W.ownsRow n 5 1 (.slice e a.length f) a.length (a.map vU)):(∃u,W.cell? ⟨db,483,none⟩=some u)/\W.frozen? ⟨db,483,none⟩=false/\DE n w (W.setCell ⟨db,483,none⟩ (.slice e a.length f)) db c b0 b i a:=by
 obtain⟨g,k⟩:=h.grow j hg m;obtain⟨o,c0,p,q,_,_,_,_,_,_,l,_⟩:=Classical.choose_spec h.D;exact⟨⟨_,g.cell 483 _ l⟩,frozen_of_row _ _ _ _ _ g,k⟩
theorem DE.outs {n:Nat} {w wr:World} {db e:Nat} {b0 b:List Bool} {j:Nat} {out:List UInt8} (h:DE n w wr db e b0 b j out):∃A c,wr.cell? ⟨db,483,none⟩=some (.slice A out.length c)/\wr.ownsRow n 5 1 (.slice A out.length c) out.length (out.map vU)/\∀W,af wr W->W.cell? ⟨db,483,none⟩=some (.slice A out.length c):=by
 obtain⟨s,k,c0,f,co,a,l,m,o,p,q,d,r,g⟩:=h.D;exact⟨f,co,a.cell 483 _ d,g,λW i=>(a.below i).cell 483 _ d⟩
def fp (md:Nat) (b:List Bool) (out:List UInt8):Int×List Bool×List UInt8:=
 if b.length<an md then(10,b,out)
 else if bV md (numF b 0 (an md))=1 then(0,b.drop (an md),out++(eJ md (numF b 0 (an md))).data.toList)
 else(22,b.drop (an md),out)
theorem ru (b:List Bool) (m:Nat):numF b 0 (an m)<32:=by
 have a:=ji b 0 (an m);have c:2^an m<=2^5:=Nat.pow_le_pow_right oO (fT m);omega
theorem Dx (n:Nat) (w wr:World) (db l:Nat) (b0 b:List Bool) (t:Nat) (out:List UInt8) (md:Nat) (h:DE n w wr db l b0 b t out) (U:md<5) (bt:out.length<=90000000):
 Calls Tryz.prog 183 #[.pointer (some ⟨db,0,none⟩),.int .i64 (md:Int)] wr λe w'=>e= .returned (.int .i64 (fp md b out).1)/\DE n w w' db l b0 (fp md b out).2.1 t (fp md b out).2.2:=by
 have bi:=Lib.hid h;have m:Hid (DE n w wr.drew db l b0 b t out):=h.below (ai (Below.refl _ _));have bv:=fT md;have c:Hid (∀W:World,(W.cell? ⟨db,1,none⟩=some (.pointer (some ⟨l,0,none⟩)))->W.cell? ⟨db,1,none⟩=some (.pointer (some ⟨l,0,none⟩))):=λW h=>h;have bx:(md:Int)<5:=oO;clear h;by_cases s:b.length<an md
 ·have H:Hid (bm b 0 (an md)=(0,10)):=by show _=_;unfold bm;rw[if_pos oO]
  have q:Hid (fp md b out=(10,b,out)):=by show _=_;unfold fp;rw[if_pos s]
  have M:=Lib.hid s;clear s;go_enter Tryz.func183,Tryz.ntmps183;go_wp2;refine yO (λW=>W.cell? ⟨db,1,none⟩=some (.pointer (some ⟨l,0,none⟩))) [1,2,3,4,5,0,6,7,0,8,9,10,11,12] m.out.facts.1 ?_;refine zO c.out ?_;refine zO c.out ?_;refine zO c.out ?_;refine zO c.out ?_;refine zO c.out ?_;refine zZ ?_;refine(eZ md _).mono ?_;rintro e ap ⟨rfl,x⟩;rw[x];clear x;refine⟨_,rfl,m.out.facts.1,jO ?_⟩;refine zZ ?_;refine(m.out.reads (an md) oO).mono ?_;rintro e d ⟨rfl,f⟩;have V:d=wr.drew:=by
   rcases f with f|f
   ·exact f.2
   ·have:=M.out;omega
  rw[H.out,V];clear f V;refine⟨_,rfl,m.out.facts.1,jO ?_⟩;refine zO c.out ?_;refine zO c.out ?_;refine zO c.out ?_;refine zO c.out ?_;refine zO c.out ?_;refine ag ?_;go_wp2;go_ret;rw[q.out];exact⟨rfl,m.out⟩
 ·obtain⟨k,C⟩:∃k,k=numF b 0 (an md):=⟨_,rfl⟩;have al:k<32:=by rw[C];exact ru b md
  have H:Hid (bm b 0 (an md)=(((k:Nat):Int),0)):=by show _=_;unfold bm;rw[if_neg oO,C]
  have q:Hid (fp md b out=if bV md k=1 then(0,b.drop (an md),out++(eJ md k).data.toList)else(22,b.drop (an md),out)):=by show _=_;unfold fp;rw[if_neg s,C]
  have M:=Lib.hid s;have a6:=jZ md U k al;clear s C;go_enter Tryz.func183,Tryz.ntmps183;go_wp2;refine yO (λW=>W.cell? ⟨db,1,none⟩=some (.pointer (some ⟨l,0,none⟩))) [1,2,3,4,5,0,6,7,0,8,9,10,11,12] m.out.facts.1 ?_;refine zO c.out ?_;refine zO c.out ?_;refine zO c.out ?_;refine zO c.out ?_;refine zO c.out ?_;refine zZ ?_;refine(eZ md _).mono ?_;rintro e ap ⟨rfl,x⟩;rw[x];clear x;refine⟨_,rfl,m.out.facts.1,jO ?_⟩;refine zZ ?_;refine(m.out.reads (an md) oO).mono ?_;rintro e d ⟨rfl,f⟩;have y:Hid (DE n w d db l b0 (b.drop (an md)) t out):=by
   rcases f with f|f
   ·exact absurd f.1 M.out
   ·exact f.2
  rw[H.out];clear f;refine⟨_,rfl,y.out.facts.1,jO ?_⟩;refine zO c.out ?_;refine zO c.out ?_;refine zO c.out ?_;refine zO c.out ?_;refine zO c.out ?_;refine ag ?_;have z:Hid (∀j v,(pr md k)[j]?=some v->d.cell? ((⟨db,2+md* 96+k* 3,none⟩:Addr).add j)=some v):=y.out.pr md k U al;have X:Hid (pr md k=[.int .i64 ((bV md k:Nat):Int),.int .i64 ((modeF md k:Nat):Int),.string (eJ md k)]):=rfl;obtain⟨u,N⟩:∃u,u=bV md k:=⟨_,rfl⟩;obtain⟨g,Y⟩:∃g,g=modeF md k:=⟨_,rfl⟩;obtain⟨a,D⟩:∃a,a=eJ md k:=⟨_,rfl⟩;rw[X.out]at z;rw[<-N,<-D]at q;rw[<-N,<-Y,<-D]at z;rw[<-D]at a6;clear N Y D X m;have bz:(k:Int)<32:=oO;by_cases P:u=1
  ·subst P;have av:(((1:Nat):Int)!=1)=false:=rfl;have a7:Hid (fp md b out=(0,b.drop (an md),out++a.data.toList)):=by show _=_;rw[q.out,if_pos rfl]
   clear q
   go_wp2_with(first
    |((with_reducible show wpList _ _ _ (⟨_,Op.load 168 _,_,_,_,_⟩::_) _ _);refine bj rfl 168 _ rfl _ Tryz.underlying168 rfl ⟨db,2+md* 96+k* 3,none⟩ [_,_,_] di rfl z.out ?_)
    |((with_reducible show wpList _ _ _ (⟨_,Op.alloc 168,_,_,_,_⟩::_) _ _);refine aM rfl 168 rfl _ gr ?_)
    |((with_reducible show wpList _ _ _ (⟨_,Op.store 168 _ _,_,_,_,_⟩::_) _ _);refine aR rfl 168 _ _ rfl 168 _ _ rfl rfl di rfl (eX _ _ _) ?_))
   have a8:Hid (ak (d.alloc (.cells (mc ((1:Nat):Int) (g:Int) a).toArray 168)) d.heap.size (mc ((1:Nat):Int) (g:Int) a)):=ak.new _ (mc ((1:Nat):Int) (g:Int) a).toArray _ _ rfl;have be:Hid (aa (d.alloc (.cells (mc ((1:Nat):Int) (g:Int) a).toArray 168)) d.heap.size (mc ((1:Nat):Int) (g:Int) a).toArray 168):=aa.new _ _ _ _ rfl;have O:Hid (DE n w (d.alloc (.cells (mc ((1:Nat):Int) (g:Int) a).toArray 168)) db l b0 (b.drop (an md)) t out):=y.out.below (ax _ _);clear z y;show Code.wp _ _ _ _ (d.alloc (.cells (mc ((1:Nat):Int) (g:Int) a).toArray 168));generalize d.alloc (.cells (mc ((1:Nat):Int) (g:Int) a).toArray 168)=r at*;generalize d.heap.size=i at*;obtain⟨J,co,a0,Q,S⟩:=O.out.outs;have Z:Hid (r.drew.cell? ⟨db,483,none⟩=some (.slice J out.length co)):=S _ (ai (Below.refl _ _));have A:Hid (r.drew.ownsRow n 5 1 (.slice J out.length co) out.length (out.map vU)):=au Q (ai (Below.refl _ _));have E:Hid (DE n w r.drew db l b0 (b.drop (an md)) t out):=O.out.below (ai (Below.refl _ _));have G:Hid (aa r.drew i (mc ((1:Nat):Int) (g:Int) a).toArray 168):=be.out.below (ai (Below.refl _ _));have B:Hid (r.drew.cell? ⟨i,2,none⟩=some (.string a)):=a8.out.drew.2 2 oS;have o:Hid (∀W:World,(W.cell? ⟨i,2,none⟩=some (.string a))->W.cell? ⟨i,2,none⟩=some (.string a)):=λW h=>h;clear a0 Q S O;refine yO (λW=>W.cell? ⟨i,2,none⟩=some (.string a)) [1,2,3,4,6,7,0,5,8,0,9,10,0,11] B.out ?_;refine zO o.out ?_;refine zO o.out ?_;refine zO o.out ?_;refine zO o.out ?_;refine zO o.out ?_;refine zO o.out ?_;have a1:=Z.out;refine' zQ (v:= .slice J out.length co) (w':=r.drew) rfl (by go_simp) B.out ?_;clear a1;refine' tj A.out E.out.ge rfl _ _ rfl rfl a rfl oO oO ?_;intro a2 a3 K ab F;obtain⟨⟨u8,bo⟩,bq,ac⟩:=E.out.AH A.out F ab;have ad:=Lib.hid ac;have am:Hid (K.cell? ⟨i,2,none⟩=some (.string a)):=by
    refine(F.cell_far ⟨i,2,none⟩ (World.block_lt_of_cell? _ _ B.out) ?_).trans B.out;intro e;obtain⟨bs,hq⟩:=qx A.out e.symm;have p:=G.out;unfold aa at p;rw[hq]at p;injection p with p;injection p with _ p _;exact absurd p oD
   have a9:Hid (i≠db):=by
    obtain⟨bb,_,_,_,_,L,_⟩:=E.out.D;exact G.out.tag.ne L.tag oD
   have bf:Hid (Tag K i 168):=G.out.tag.grown F (λe=>(qx A.out e.symm).ne G.out.tag oD rfl);refine⟨am.out,?_⟩;clear ab F ac Z A E B;simp only[yQ,yU,yX,yY];refine zO o.out ?_;refine zO o.out ?_;refine .inl ⟨rfl,?_⟩;go_simp;have bd:i≠db:=by
    obtain⟨bb,_,_,_,_,L,_⟩:=ad.out.D;intro e;have a4:Tag (K.setCell ⟨db,483,none⟩ (.slice a2 (out++a.data.toList).length a3)) i 168:=by
     refine Tag.eT ?_ _ ?_ _
     ·exact bf.out
     ·exact a9.out
    exact(a4.ne L.tag oD) e
   refine⟨(World.cell?_setCell_other _ _ _ _ (λe=>bd (by injection e with e;exact e.symm))).trans am.out,?_⟩;refine ag ?_;go_wp2;go_ret;rw[a7.out];have T:=ad.out;rw[show(out++a.data.toList).length=out.length+a.size from by simp]at T;exact⟨rfl,T⟩
  ·have a5:((u:Int)==1)=false:=by rw[beq_eq_false_iff_ne];omega
   have av:((u:Int)!=1)=true:=by rw[bne,a5];rfl
   go_wp2_with(first
    |((with_reducible show wpList _ _ _ (⟨_,Op.load 168 _,_,_,_,_⟩::_) _ _);refine bj rfl 168 _ rfl _ Tryz.underlying168 rfl ⟨db,2+md* 96+k* 3,none⟩ [_,_,_] di rfl z.out ?_)
    |((with_reducible show wpList _ _ _ (⟨_,Op.alloc 168,_,_,_,_⟩::_) _ _);refine aM rfl 168 rfl _ gr ?_)
    |((with_reducible show wpList _ _ _ (⟨_,Op.store 168 _ _,_,_,_,_⟩::_) _ _);refine aR rfl 168 _ _ rfl 168 _ _ rfl rfl di rfl (eX _ _ _) ?_))
   go_ret;rw[q.out,if_neg P];exact⟨rfl,y.out.below (ax _ _)⟩
def byRes:Nat->List Bool->List UInt8->Int×List Bool×List UInt8
 |0,b,out=>(0,b,out)
 |k+1,b,out=>if b.length<8 then(10,b,out)else byRes k (b.drop 8) (out++[UInt8.ofNat (numF b 0 8)])
def cP (b:List Bool) (out:List UInt8):Int×List Bool×List UInt8:=
 if b.length<5 then(10,b,out)
 else if numF b 0 5=0 then(if(b.drop 5).length<11 then(10,b.drop 5,out)else byRes (numF (b.drop 5) 0 11+31) ((b.drop 5).drop 11) out)
 else byRes (numF b 0 5) (b.drop 5) out
theorem qG {m:Array Oper} {n:List Oper} {b:Oper} {a:Act} {Q:Exit->Act->World->Prop} {W:World} {base:Nat} {A:Option Addr} {c:Nat} {out:List UInt8} (o:W.ownsRow base 5 1 (.slice A out.length c) out.length (out.map vU)) (hb:base<=W.heap.size)
 (z:b.guard=none) (s y:Operand) (p:b.op= .call {callee:= .builtin .append,args:=#[s,y],argTypes:=#[22,22]}) (hs:a.eval s= .slice A out.length c) (g:Nat) (x:UInt8) (q:a.eval y= .slice (some ⟨g,0,none⟩) 1 1) (r:RG vU 0 W (some ⟨g,0,none⟩) [x]) (hl:out.length<=100000000)
 (t:∀i j k,Hid (k.ownsRow base 5 1 (.slice i (out++[x]).length j) (out++[x]).length ((out++[x]).map vU))->Hid (W.grownBy k (Value.slice A out.length c).ownBlock)->wpList Tryz.prog m Q n (a.put b.dst (.slice i (out++[x]).length j)) k):
 wpList Tryz.prog m Q (b::n) a W:=by
 obtain⟨u,v,B,C,D⟩:=info_parts zA;refine aV (f:=vU) (d:=0) NX z s y _ p base 5 u _ 1 Tryz.underlying22 v B C D rfl _ out.length out hs o (some ⟨g,0,none⟩) 1 1 [x] q rfl r oM oO hb ?_;intro E w' l w;have e:out.length+1=(out++[x]).length:=by simp
 rw[e]at l;obtain⟨i,j,rfl⟩:=cU l;exact t i j w' l w
theorem Eh {c:Nat} (h:c<256):IntKind.u8.wrap (c:Int)=(((UInt8.ofNat c).toNat:Nat):Int):=by
 have e:(UInt8.ofNat c).toNat=c:=by rw[UInt8.toNat_ofNat'];omega
 rw[e];show((c:Int)%256)=_;omega
theorem Ft (n:Nat) (w F:World) (db p:Nat) (b0 b:List Bool) (r:Nat) (out:List UInt8) (h:DE n w F db p b0 b r out) (am:out.length<=80000000):
 Calls Tryz.prog 184 #[.pointer (some ⟨db,0,none⟩)] F λe w'=>e= .returned (.int .i64 (cP b out).1)/\DE n w w' db p b0 (cP b out).2.1 r (cP b out).2.2:=by
 have G:=Lib.hid h;have bf:=h.facts.1;have ap:=Lib.hid am;clear h am;by_cases v:b.length<5
 ·have H:Hid (bm b 0 5=(0,10)):=by show _=_;unfold bm;rw[if_pos oO]
  have z:Hid (cP b out=(10,b,out)):=by show _=_;unfold cP;rw[if_pos v]
  have M:=Lib.hid v;clear v;go_enter Tryz.func184,Tryz.ntmps184;go_wp2_with(go_at_call 182;refine(G.out.reads 5 oO).mono ?_;rintro e u ⟨rfl,f⟩;have a9:Hid (u=F):=(f.elim (λh=>h.2) (λh=>absurd M.out oO));rw[H.out,a9.out];clear f)
  go_ret;rw[z.out];exact⟨rfl,G.out⟩
 ·have M:=Lib.hid v;obtain⟨k,V⟩:∃k,k=numF b 0 5:=⟨_,rfl⟩;have bq:k<32:=by rw[V];exact ji b 0 5
  have H:Hid (bm b 0 5=(((k:Nat):Int),0)):=by show _=_;unfold bm;rw[if_neg oO,V]
  have z:Hid (cP b out=if k=0 then(if(b.drop 5).length<11 then(10,b.drop 5,out)else byRes (numF (b.drop 5) 0 11+31) ((b.drop 5).drop 11) out)else byRes k (b.drop 5) out):=by
   show _=_;unfold cP;rw[if_neg v,V]
  clear v V;by_cases k0:k=0
  ·subst k0;by_cases E:(b.drop 5).length<11
   ·have Z:Hid (bm (b.drop 5) 0 11=(0,10)):=by show _=_;unfold bm;rw[if_pos oO]
    have N:Hid (cP b out=(10,b.drop 5,out)):=by show _=_;rw[z.out,if_pos rfl,if_pos E]
    have ab:=Lib.hid E;clear E;go_enter Tryz.func184,Tryz.ntmps184
    go_wp2_with(first
     |(go_at_call 182;(with_reducible show Calls _ _ _ F _);refine(G.out.reads 5 oO).mono ?_;rintro e u ⟨rfl,f⟩;have y:Hid (DE n w u db p b0 (b.drop 5) r out):=(f.elim (λh=>absurd h.1 M.out) (λh=>h.2));have av:=y.out.facts.1;rw[H.out];clear f)
     |(go_at_call 182;refine(y.out.reads 11 oO).mono ?_;rintro e X ⟨rfl,J⟩;have bb:Hid (X=u):=(J.elim (λh=>h.2) (λh=>absurd ab.out oO));rw[Z.out,bb.out];clear J))
    go_ret;rw[N.out];exact⟨rfl,y.out⟩
   ·obtain⟨j,W⟩:∃j,j=numF (b.drop 5) 0 11:=⟨_,rfl⟩;have bo:j<2048:=by rw[W];exact ji (b.drop 5) 0 11
    have Z:Hid (bm (b.drop 5) 0 11=(((j:Nat):Int),0)):=by show _=_;unfold bm;rw[if_neg oO,W]
    have N:Hid (cP b out=byRes (j+31) ((b.drop 5).drop 11) out):=by show _=_;rw[z.out,if_pos rfl,if_neg E,W]
    have ab:=Lib.hid E;clear E W z;go_enter Tryz.func184,Tryz.ntmps184
    go_wp2_with(first
     |(go_at_call 182;(with_reducible show Calls _ _ _ F _);refine(G.out.reads 5 oO).mono ?_;rintro e u ⟨rfl,f⟩;have y:Hid (DE n w u db p b0 (b.drop 5) r out):=(f.elim (λh=>absurd h.1 M.out) (λh=>h.2));have av:=y.out.facts.1;rw[H.out];clear f)
     |(go_at_call 182;refine(y.out.reads 11 oO).mono ?_;rintro e X ⟨rfl,J⟩;have bd:Hid (DE n w X db p b0 ((b.drop 5).drop 11) r out):=(J.elim (λh=>absurd h.1 ab.out) (λh=>h.2));rw[Z.out];clear J))
    go_loopw [34] (λA wr=>∃(i:Nat) (b':List Bool) (a:List UInt8),i<=(j+31)/\A= .int .i64 i/\Hid (DE n w wr db p b0 b' r a)/\Hid (a.length=out.length+i)/\Hid (byRes ((j+31)-i) b' a=cP b out)) (λA _=>(j+31)-(intOf A).toNat)
    case atStart=>exact⟨0,_,out,Nat.zero_le _,rfl,bd.out,rfl,by show _=_;rw[Nat.sub_zero];exact N.out.symm⟩
    case round=>
     obtain⟨i,b',a,a0,rfl,g,K,l⟩:=hrel;have a1:=g.out.facts.1;by_cases v:i<(j+31)
     ·have s:Hid (byRes ((j+31)-i) b' a=if b'.length<8 then(10,b',a)else byRes ((j+31)-(i+1)) (b'.drop 8) (a++[UInt8.ofNat (numF b' 0 8)])):=by
       show _=_;obtain⟨q,hq⟩:∃q,q=(j+31)-(i+1):=⟨_,rfl⟩;rw[show(j+31)-i=q+1 from by omega,<-hq];rfl
      by_cases d:b'.length<8
      ·have C:Hid (bm b' 0 8=(0,10)):=by show _=_;unfold bm;rw[if_pos oO]
       have o:Hid (cP b out=(10,b',a)):=by show _=_;rw[<-l.out,s.out,if_pos d]
       have B:=Lib.hid d;clear d s l;go_wp2_with(go_at_call 182;refine(g.out.reads 8 oO).mono ?_;rintro e t ⟨rfl,m⟩;have ac:Hid (t=wr):=(m.elim (λh=>h.2) (λh=>absurd B.out oO));rw[C.out,ac.out];clear m)
       go_ret;rw[o.out];exact⟨rfl,g.out⟩
      ·obtain⟨c,hc⟩:∃c,c=numF b' 0 8:=⟨_,rfl⟩;have al:c<256:=by rw[hc];exact ji b' 0 8
       have C:Hid (bm b' 0 8=(((c:Nat):Int),0)):=by show _=_;unfold bm;rw[if_neg oO,hc]
       have o:Hid (byRes ((j+31)-(i+1)) (b'.drop 8) (a++[UInt8.ofNat c])=cP b out):=by show _=_;rw[<-l.out,s.out,if_neg d,hc]
       have B:=Lib.hid d;have be:=Eh al;clear d s l hc;generalize UInt8.ofNat c=x at*
       go_wp2_with(first
        |(go_at_call 182;refine(g.out.reads 8 oO).mono ?_;rintro e t ⟨rfl,m⟩;have D:Hid (DE n w t db p b0 (b'.drop 8) r a):=(m.elim (λh=>absurd h.1 B.out) (λh=>h.2));obtain⟨a2,co,a3,L,Y⟩:=D.out.outs;have O:=Lib.hid L;rw[C.out];clear m L Y)
        |(at_builtin;refine qG (fa O.out _) (by have:=D.out.ge;simp;omega) rfl _ _ rfl rfl t.heap.size x rfl (RG.one _ _ _ _ rfl) (by have:=K.out;have:=ap.out;omega) ?_;intro a4 a5 a6 P Q;obtain⟨⟨u8,a7⟩,a8,S⟩:=(D.out.below (ax _ _)).AH (fa O.out _) Q.out P.out;have ad:=Lib.hid S;clear P Q S))
       have T:(a++[x]).length=a.length+1:=by simp
       have U:=ad.out;rw[T]at U;exact⟨⟨i+1,b'.drop 8,a++[x],by omega,by go_num,U,by show _=_;rw[T,K.out];omega,o.out⟩,by simp[intOf];omega⟩
     ·obtain rfl:i=(j+31):=oO;have o:Hid (cP b out=(0,b',a)):=by show _=_;rw[<-l.out,Nat.sub_self];rfl
      go_wp2;go_ret;rw[o.out];exact⟨rfl,g.out⟩
  ·have N:Hid (cP b out=byRes k (b.drop 5) out):=by show _=_;rw[z.out,if_neg k0]
   have bi:((k:Int)==0)=false:=by rw[beq_eq_false_iff_ne];omega
   clear z k0;go_enter Tryz.func184,Tryz.ntmps184;go_wp2_with(go_at_call 182;refine(G.out.reads 5 oO).mono ?_;rintro e u ⟨rfl,f⟩;have y:Hid (DE n w u db p b0 (b.drop 5) r out):=(f.elim (λh=>absurd h.1 M.out) (λh=>h.2));rw[H.out];clear f)
   go_loopw [34] (λA wr=>∃(i:Nat) (b':List Bool) (a:List UInt8),i<=k/\A= .int .i64 i/\Hid (DE n w wr db p b0 b' r a)/\Hid (a.length=out.length+i)/\Hid (byRes (k-i) b' a=cP b out)) (λA _=>k-(intOf A).toNat)
   case atStart=>exact⟨0,_,out,Nat.zero_le _,rfl,y.out,rfl,by show _=_;rw[Nat.sub_zero];exact N.out.symm⟩
   case round=>
    obtain⟨i,b',a,a0,rfl,g,K,l⟩:=hrel;have a1:=g.out.facts.1;by_cases v:i<k
    ·have s:Hid (byRes (k-i) b' a=if b'.length<8 then(10,b',a)else byRes (k-(i+1)) (b'.drop 8) (a++[UInt8.ofNat (numF b' 0 8)])):=by
      show _=_;obtain⟨q,hq⟩:∃q,q=k-(i+1):=⟨_,rfl⟩;rw[show k-i=q+1 from by omega,<-hq];rfl
     by_cases d:b'.length<8
     ·have C:Hid (bm b' 0 8=(0,10)):=by show _=_;unfold bm;rw[if_pos oO]
      have o:Hid (cP b out=(10,b',a)):=by show _=_;rw[<-l.out,s.out,if_pos d]
      have B:=Lib.hid d;clear d s l;go_wp2_with(go_at_call 182;refine(g.out.reads 8 oO).mono ?_;rintro e t ⟨rfl,m⟩;have ac:Hid (t=wr):=(m.elim (λh=>h.2) (λh=>absurd B.out oO));rw[C.out,ac.out];clear m)
      go_ret;rw[o.out];exact⟨rfl,g.out⟩
     ·obtain⟨c,hc⟩:∃c,c=numF b' 0 8:=⟨_,rfl⟩;have al:c<256:=by rw[hc];exact ji b' 0 8
      have C:Hid (bm b' 0 8=(((c:Nat):Int),0)):=by show _=_;unfold bm;rw[if_neg oO,hc]
      have o:Hid (byRes (k-(i+1)) (b'.drop 8) (a++[UInt8.ofNat c])=cP b out):=by show _=_;rw[<-l.out,s.out,if_neg d,hc]
      have B:=Lib.hid d;have be:=Eh al;clear d s l hc;generalize UInt8.ofNat c=x at*
      go_wp2_with(first
       |(go_at_call 182;refine(g.out.reads 8 oO).mono ?_;rintro e t ⟨rfl,m⟩;have D:Hid (DE n w t db p b0 (b'.drop 8) r a):=(m.elim (λh=>absurd h.1 B.out) (λh=>h.2));obtain⟨a2,co,a3,L,Y⟩:=D.out.outs;have O:=Lib.hid L;rw[C.out];clear m L Y)
       |(at_builtin;refine qG (fa O.out _) (by have:=D.out.ge;simp;omega) rfl _ _ rfl rfl t.heap.size x rfl (RG.one _ _ _ _ rfl) (by have:=K.out;have:=ap.out;omega) ?_;intro a4 a5 a6 P Q;obtain⟨⟨u8,a7⟩,a8,S⟩:=(D.out.below (ax _ _)).AH (fa O.out _) Q.out P.out;have ad:=Lib.hid S;clear P Q S))
      have T:(a++[x]).length=a.length+1:=by simp
      have U:=ad.out;rw[T]at U;exact⟨⟨i+1,b'.drop 8,a++[x],by omega,by go_num,U,by show _=_;rw[T,K.out];omega,o.out⟩,by simp[intOf];omega⟩
    ·obtain rfl:i=k:=oO;have o:Hid (cP b out=(0,b',a)):=by show _=_;rw[<-l.out,Nat.sub_self];rfl
     go_wp2;go_ret;rw[o.out];exact⟨rfl,g.out⟩
def sC (a k:Nat) (b:List Bool) (out:List UInt8):Int×List Bool×List UInt8×Nat:=
 if bV a k=1 then(0,b,out++(eJ a k).data.toList,a)
 else if bV a k=2 then(0,b,out,modeF a k)
 else if bV a k=3 then((fp (modeF a k) b out).1,(fp (modeF a k) b out).2.1,(fp (modeF a k) b out).2.2,a)
 else if bV a k=4 then((cP b out).1,(cP b out).2.1,(cP b out).2.2,a)
 else(22,b,out,a)
def bw (a:Nat) (b:List Bool) (out:List UInt8):Int×List Bool×List UInt8×Nat:=
 if b.length<an a then(10,b,out,a)else sC a (numF b 0 (an a)) (b.drop (an a)) out
theorem EO {a:Act} {d:Oper} {W:World} {q:Operand} (e:d.op= .load 168 q) (c:Addr) (b:List Value) (hl:b.length=3) (f:a.eval q= .pointer (some c)) (h:∀j v,b[j]?=some v->W.cell? (c.add j)=some v):
 (execOp a.eval d).run Tryz.prog W= .ok (.value (.agg b.toArray)) W:=by
 have g:=gF (P:=Tryz.prog) W 168 _ c b Tryz.underlying168 rfl (by rw[hl];exact di) h;unfold execOp;simp only[e,f,Instr.loadAt,Instr.sureAddr,Sem.run_bind,Sem.run_pure,Result.andThen_ok,g]
theorem JW:∀m,m<5->∀n,n<32->bV m n<5:=of_decide_eq_true oK
theorem Jf (n:Nat) (w wr:World) (db l:Nat) (b0 b:List Bool) (a:Nat) (out:List UInt8) (h:DE n w wr db l b0 b a out) (a3:out.length<=80000000):
 Calls Tryz.prog 136 #[.pointer (some ⟨db,0,none⟩)] wr λe w'=>e= .returned (.int .i64 (bw a b out).1)/\DE n w w' db l b0 (bw a b out).2.1 (bw a b out).2.2.2 (bw a b out).2.2.1:=by
 have ab:=h.md;have m:Hid (DE n w wr.drew db l b0 b a out):=h.below (ai (Below.refl _ _));have b7:=fT a;have d:Hid (∀W:World,(W.cell? ⟨db,1,none⟩=some (.pointer (some ⟨l,0,none⟩))/\W.cell? ⟨db,482,none⟩=some (.int .i64 (a:Int)))->W.cell? ⟨db,1,none⟩=some (.pointer (some ⟨l,0,none⟩))/\W.cell? ⟨db,482,none⟩=some (.int .i64 (a:Int))):=λW h=>h;have b8:(a:Int)<5:=oO;have ac:=Lib.hid a3;clear h a3;by_cases E:b.length<an a
 ·have N:Hid (bm b 0 (an a)=(0,10)):=by show _=_;unfold bm;rw[if_pos oO]
  have O:Hid (bw a b out=(10,b,out,a)):=by show _=_;unfold bw;rw[if_pos E]
  have S:=Lib.hid E;clear E;go_enter Tryz.func136,Tryz.ntmps136;go_wp2;refine yO (λW=>W.cell? ⟨db,1,none⟩=some (.pointer (some ⟨l,0,none⟩))/\W.cell? ⟨db,482,none⟩=some (.int .i64 (a:Int))) [1,2,3,4,5,6,7,8,0,9,10,0,11,12,13,14,15] ⟨m.out.facts.1,m.out.facts.2.1⟩ ?_;refine zO d.out ?_;refine zO d.out ?_;refine zO d.out ?_;refine zO d.out ?_;refine zO d.out ?_;refine zO d.out ?_;refine zO d.out ?_;refine zO d.out ?_;refine zZ ?_;refine(eZ a _).mono ?_;rintro e bd ⟨rfl,H⟩;rw[H];clear H;refine⟨_,rfl,⟨m.out.facts.1,m.out.facts.2.1⟩,jO ?_⟩;refine zZ ?_;refine(m.out.reads (an a) oO).mono ?_;rintro e C ⟨rfl,o⟩;have a4:C=wr.drew:=by
   rcases o with o|o
   ·exact o.2
   ·have:=S.out;omega
  rw[N.out,a4];clear o a4;refine⟨_,rfl,⟨m.out.facts.1,m.out.facts.2.1⟩,jO ?_⟩;refine zO d.out ?_;refine zO d.out ?_;refine zO d.out ?_;refine zO d.out ?_;refine zO d.out ?_;refine ag ?_;go_wp2;go_ret;rw[O.out];exact⟨rfl,m.out⟩
 ·obtain⟨k,P⟩:∃k,k=numF b 0 (an a):=⟨_,rfl⟩;have av:k<32:=by rw[P];exact ru b a
  have N:Hid (bm b 0 (an a)=(((k:Nat):Int),0)):=by show _=_;unfold bm;rw[if_neg oO,P]
  have O:Hid (bw a b out=sC a k (b.drop (an a)) out):=by show _=_;unfold bw;rw[if_neg E,P]
  have S:=Lib.hid E;have bv:=jZ a ab k av;clear E P;go_enter Tryz.func136,Tryz.ntmps136;go_wp2;refine yO (λW=>W.cell? ⟨db,1,none⟩=some (.pointer (some ⟨l,0,none⟩))/\W.cell? ⟨db,482,none⟩=some (.int .i64 (a:Int))) [1,2,3,4,5,6,7,8,0,9,10,0,11,12,13,14,15] ⟨m.out.facts.1,m.out.facts.2.1⟩ ?_;refine zO d.out ?_;refine zO d.out ?_;refine zO d.out ?_;refine zO d.out ?_;refine zO d.out ?_;refine zO d.out ?_;refine zO d.out ?_;refine zO d.out ?_;refine zZ ?_;refine(eZ a _).mono ?_;rintro e bd ⟨rfl,H⟩;rw[H];clear H;refine⟨_,rfl,⟨m.out.facts.1,m.out.facts.2.1⟩,jO ?_⟩;refine zZ ?_;refine(m.out.reads (an a) oO).mono ?_;rintro e C ⟨rfl,o⟩;have T:Hid (DE n w C db l b0 (b.drop (an a)) a out):=by
   rcases o with o|o
   ·exact absurd o.1 S.out
   ·exact o.2
  rw[N.out];clear o;refine⟨_,rfl,⟨T.out.facts.1,T.out.facts.2.1⟩,jO ?_⟩;refine zO d.out ?_;refine zO d.out ?_;refine zO d.out ?_;refine zO d.out ?_;refine zO d.out ?_;refine ag ?_;go_wp2;obtain⟨f,U⟩:∃f,f=bV a k:=⟨_,rfl⟩;obtain⟨c,V⟩:∃c,c=modeF a k:=⟨_,rfl⟩;obtain⟨g,X⟩:∃g,g=eJ a k:=⟨_,rfl⟩;have a8:c<5:=by rw[V];exact pe _ _
  have cb:f<5:=by rw[U];exact JW a ab k av
  have J:Hid (DE n w C.drew db l b0 (b.drop (an a)) a out):=T.out.below (ai (Below.refl _ _));have ad:Hid (∀j v,(mc (f:Int) (c:Int) g)[j]?=some v->C.drew.cell? ((⟨db,2+a* 96+k* 3,none⟩:Addr).add j)=some v):=by
   show∀j v,_;rw[U,V,X];exact J.out.pr a k ab av
  have u:Hid (bw a b out=if f=1 then(0,b.drop (an a),out++g.data.toList,a)else if f=2 then(0,b.drop (an a),out,c)
   else if f=3 then((fp c (b.drop (an a)) out).1,(fp c (b.drop (an a)) out).2.1,(fp c (b.drop (an a)) out).2.2,a)
   else if f=4 then((cP (b.drop (an a)) out).1,(cP (b.drop (an a)) out).2.1,(cP (b.drop (an a)) out).2.2,a)else(22,b.drop (an a),out,a)):=by
   show _=_;rw[O.out];unfold sC;rw[<-U,<-V,<-X]
  rw[<-X]at bv;have q:Hid (∀W:World,(W.cell? ⟨db,482,none⟩=some (.int .i64 (a:Int))/\∀j v,(mc (f:Int) (c:Int) g)[j]?=some v->W.cell? ((⟨db,2+a* 96+k* 3,none⟩:Addr).add j)=some v)->W.cell? ⟨db,482,none⟩=some (.int .i64 (a:Int))):=λW h=>h.1;have b9:(k:Int)<32:=oO;clear U V X O m T d N S;generalize b.drop (an a)=i at*;refine yO (λW=>W.cell? ⟨db,482,none⟩=some (.int .i64 (a:Int))/\∀j v,(mc (f:Int) (c:Int) g)[j]?=some v->W.cell? ((⟨db,2+a* 96+k* 3,none⟩:Addr).add j)=some v) [1,2,3,4,5,6,7,8,9,10,11,0,12,13] ⟨J.out.facts.2.1,ad.out⟩ ?_;generalize C.drew=s at*;have al:Hid (∀Q:Array Value,(s.alloc (.cells Q 168)).cell? ⟨db,482,none⟩=some (.int .i64 (a:Int))/\∀j v,(mc (f:Int) (c:Int) g)[j]?=some v->(s.alloc (.cells Q 168)).cell? ((⟨db,2+a* 96+k* 3,none⟩:Addr).add j)=some v):=by
   show∀Q,_;intro Q;refine⟨(J.out.below (ax _ _)).facts.2.1,λj v be=>?_⟩;have a0:=ad.out j v be;exact((ax s _).cell (World.block_lt_of_cell? _ _ a0)).trans a0
  refine zO q.out ?_;refine zO q.out ?_;refine zO q.out ?_;refine zO q.out ?_;refine zO q.out ?_;refine zO q.out ?_;refine zO q.out ?_;refine zO q.out ?_;refine zO q.out ?_;refine zO q.out ?_;refine' zV rfl (λW bf=>EO rfl ⟨db,2+a* 96+k* 3,none⟩ (mc (f:Int) (c:Int) g) rfl rfl bf.2) ?_;refine' ep 168 rfl rfl _ gr (al.out _) ?_;simp only[yQ,yU,yX,yY];refine vt 168 rfl _ _ rfl 168 _ (mc (f:Int) (c:Int) g) rfl rfl di rfl (eX _ _ _) (al.out _) ?_;simp only[Act.put];refine ag ?_;have B:Hid (ak (s.alloc (.cells (mc (f:Int) (c:Int) g).toArray 168)) s.heap.size (mc (f:Int) (c:Int) g)):=ak.new _ (mc (f:Int) (c:Int) g).toArray _ _ rfl;have L:Hid (aa (s.alloc (.cells (mc (f:Int) (c:Int) g).toArray 168)) s.heap.size (mc (f:Int) (c:Int) g).toArray 168):=aa.new _ _ _ _ rfl;have r:Hid (DE n w (s.alloc (.cells (mc (f:Int) (c:Int) g).toArray 168)) db l b0 i a out):=J.out.below (ax _ _);clear ad J al q;generalize s.alloc (.cells (mc (f:Int) (c:Int) g).toArray 168)=p at*;generalize s.heap.size=t at*;have c0:p.cell? ⟨t,0,none⟩=some (.int .i64 (f:Int)):=B.out.2 0 oS;have c1:p.cell? ⟨t,1,none⟩=some (.int .i64 (c:Int)):=B.out.2 1 oS;by_cases D:f=1
  ·subst D;have x:Hid (bw a b out=(0,i,out++g.data.toList,a)):=by show _=_;rw[u.out,if_pos rfl]
   clear u;go_wp2;obtain⟨Z,co,bi,a1,a2⟩:=r.out.outs;have a5:Hid (p.drew.cell? ⟨db,483,none⟩=some (.slice Z out.length co)):=a2 _ (ai (Below.refl _ _));have Y:Hid (p.drew.ownsRow n 5 1 (.slice Z out.length co) out.length (out.map vU)):=au a1 (ai (Below.refl _ _));have F:Hid (DE n w p.drew db l b0 i a out):=r.out.below (ai (Below.refl _ _));have a9:Hid (aa p.drew t (mc ((1:Nat):Int) (c:Int) g).toArray 168):=L.out.below (ai (Below.refl _ _));have M:Hid (p.drew.cell? ⟨t,2,none⟩=some (.string g)):=B.out.drew.2 2 oS;have z:Hid (∀W:World,(W.cell? ⟨t,2,none⟩=some (.string g))->W.cell? ⟨t,2,none⟩=some (.string g)):=λW h=>h;clear bi a1 a2 r c0 c1;refine yO (λW=>W.cell? ⟨t,2,none⟩=some (.string g)) [1,2,3,4,6,7,0,5,8,0,9,10,0,11] M.out ?_;refine zO z.out ?_;refine zO z.out ?_;refine zO z.out ?_;refine zO z.out ?_;refine zO z.out ?_;refine zO z.out ?_;have bo:=a5.out;refine' zQ (v:= .slice Z out.length co) (w':=p.drew) rfl (by go_simp) M.out ?_;clear bo;refine' tj Y.out F.out.ge rfl _ _ rfl rfl g rfl (by have:=ac.out;omega) oO ?_;intro bz b1 bq a6 am;obtain⟨⟨u8,b2⟩,b3,a7⟩:=F.out.AH Y.out am a6;have K:=Lib.hid a7;have bb:Hid (bq.cell? ⟨t,2,none⟩=some (.string g)):=by
    refine(am.cell_far ⟨t,2,none⟩ (World.block_lt_of_cell? _ _ M.out) ?_).trans M.out;intro e;obtain⟨b4,hq⟩:=qx Y.out e.symm;have A:=a9.out;unfold aa at A;rw[hq]at A;injection A with A;injection A with _ A _;exact absurd A oD
   have bx:Hid (t≠db):=by
    obtain⟨ca,_,_,_,_,bs,_⟩:=F.out.D;exact a9.out.tag.ne bs.tag oD
   refine⟨bb.out,?_⟩;clear a6 am a7 a5 Y F M;simp only[yQ,yU,yX,yY];refine zO z.out ?_;refine zO z.out ?_;refine .inl ⟨rfl,?_⟩;go_simp;refine⟨(World.cell?_setCell_other _ _ _ _ (λe=>bx.out (by injection e with e;exact e.symm))).trans bb.out,?_⟩;refine ag ?_;go_wp2;go_ret;rw[x.out];have y:=K.out;rw[show(out++g.data.toList).length=out.length+g.size from by simp]at y;exact⟨rfl,y⟩
  ·by_cases G:f=2
   ·subst G;have x:Hid (bw a b out=(0,i,out,c)):=by show _=_;rw[u.out,if_neg oO,if_pos rfl]
    obtain⟨_,b5,b6,_⟩:=r.out.facts;have F:=Lib.hid (r.out.No c a8);clear u r B L D;go_wp2;go_ret;rw[x.out];exact⟨rfl,F.out⟩
   ·by_cases k3:f=3
    ·subst k3;have x:Hid (bw a b out=((fp c i out).1,(fp c i out).2.1,(fp c i out).2.2,a)):=by show _=_;rw[u.out,if_neg oO,if_neg oO,if_pos rfl]
     have ap:Hid (Calls Tryz.prog 183 #[.pointer (some ⟨db,0,none⟩),.int .i64 (c:Int)] p λe w'=>e= .returned (.int .i64 (fp c i out).1)/\DE n w w' db l b0 (fp c i out).2.1 a (fp c i out).2.2):=Dx n w p db l b0 i a out c r.out a8 (by have:=ac.out;omega);clear u r B L D G;go_wp2_with(go_at_call 183;refine ap.out.mono ?_;rintro e bt ⟨rfl,y⟩;have K:=Lib.hid y;clear y)
     go_ret;rw[x.out];exact⟨rfl,K.out⟩
    ·by_cases k4:f=4
     ·subst k4;have x:Hid (bw a b out=((cP i out).1,(cP i out).2.1,(cP i out).2.2,a)):=by show _=_;rw[u.out,if_neg oO,if_neg oO,if_neg oO,if_pos rfl]
      have ap:Hid (Calls Tryz.prog 184 #[.pointer (some ⟨db,0,none⟩)] p λe w'=>e= .returned (.int .i64 (cP i out).1)/\DE n w w' db l b0 (cP i out).2.1 a (cP i out).2.2):=Ft n w p db l b0 i a out r.out ac.out;clear u r B L D G k3;go_wp2_with(go_at_call 184;refine ap.out.mono ?_;rintro e bt ⟨rfl,y⟩;have K:=Lib.hid y;clear y)
      go_ret;rw[x.out];exact⟨rfl,K.out⟩
     ·have x:Hid (bw a b out=(22,i,out,a)):=by show _=_;rw[u.out,if_neg D,if_neg G,if_neg k3,if_neg k4]
      have k0:f=0:=oO;subst k0;clear u B L D G k3 k4;go_wp2;go_ret;rw[x.out];exact⟨rfl,r.out⟩
theorem yv (A:Option Addr) (n c:Nat) (b:List Bool) (w:World) (hn:n<=1048576) (hb:SR vB false w A n c b):
 Calls Tryz.prog 134 #[.slice A n c] w λe w'=>∃i j l,e= .returned (.pointer (some ⟨i,0,none⟩))/\aa w' i #[.slice j b.length l,.bool true] 225/\SR vB false w' j b.length l b/\w.heap.size<=i/\(∀k,j=some k->Tag w' k.block 4)/\Below w.heap.size w w':=by
 obtain⟨t,u,x,y,z⟩:=info_parts gZ;have v:=Lib.hid hb;have m:Hid (n=b.length):=hb.hn;clear hb;go_enter Tryz.func134,Tryz.ntmps134;go_wp2_with(at_builtin;refine aV (f:=vB) (d:=false) wh rfl _ _ _ rfl w.heap.size 4 t _ 1 Tryz.underlying26 u x y z rfl (.slice none 0 0) 0 [] rfl (World.ownsRow_nil _ _ _ _) A n c b rfl m.out v.out.rd oM oO (Nat.le_refl _) ?_;intro v1 o s hg;have p:Hid (Below w.heap.size w o):=(Below.refl _ _).grown hg (Nat.le_refl _) (λq hq=>by cases hq);have g:o.ownsRow w.heap.size 4 1 v1 b.length (b.map vB):=(by rw[<-m.out];simpa using s);obtain⟨D,n1,c1,rfl,a⟩:=(SG.cd (f:=vB) (d:=false) g).parts;have r:n1=b.length:=a.hn;rw[r]at a g⊢;have B:=Lib.hid g;have C:=Lib.hid a;clear s g hg a r)
 go_ret;refine⟨_,_,_,rfl,aa.new _ _ _ _ rfl,C.out.below (ax _ _),p.out.size,?_,ah p.out _⟩;intro k e;subst e;exact(qx B.out rfl).below (ax _ _)
def Bu:Array Value:=(Value.slice none 0 0::Value.pointer none::cg.toList++[Value.int .i64 0,Value.slice none 0 0]).toArray
theorem GB:(Tryz.prog.info? 187).map (·.zero)=some (some (.agg Bu)):=oK
theorem Ii:Bu.size=484:=oK
theorem JJ:Bu[482]?=some (.int .i64 0):=oK
theorem Jp:Bu[483]?=some (.slice none 0 0):=oK
theorem G1:(Tryz.prog.underlying 187).map (λd=>match d with|.struct a=>a.toList.mapM (λf=>(Tryz.prog.info? f.type).map λi=>(f.offset,i.size))|_=>none)=some (some [(0,1),(1,1),(2,480),(482,1),(483,1)]):=oK
theorem AD (s m:Value) (hs:s.cells=#[s]) (q:m.cells=#[m]):∃R:Array Value,Tryz.prog.built 187 [(0,s),(1,m),(2,.agg eg)]=some R/\R.size=484/\R[0]?=some s/\R[1]?=some m/\(∀i v,eg[i]?=some v->R[2+i]?=some v)/\R[482]?=some (.int .i64 0)/\R[483]?=some (.slice none 0 0):=by
 have e:=GB;have f:=G1;have c:=Ii;have l:=ni;have r:=JJ;have t:=Jp;generalize Bu=Z at*;generalize eg=Tb at*;cases g:Tryz.prog.info? 187 with
 |none=>rw[g]at e;cases e
 |some u=>
  cases k:Tryz.prog.underlying 187 with
  |none=>rw[k]at f;cases f
  |some d=>
   rw[g]at e;rw[k]at f;have z:u.zero=some (.agg Z):=Option.some.inj e;have n:=Option.some.inj f;cases d<;>(try(simp at n;done))
   rename_i A
   simp only at n;unfold Program.built;rw[g,k];simp only[z,n];have e1:(Value.agg Tb).cells=Tb:=rfl;have e2:(Value.agg Z).cells=Z:=rfl;have w:(Z.setIfInBounds 0 s).size=484:=by simp[c]
   have p:((Z.setIfInBounds 0 s).setIfInBounds 1 m).size=484:=by simp[c]
   have key:∀(Y:Array Value),Y.size=484->(Tb.zipIdx.foldl (λa (x:Value×Nat)=>a.setIfInBounds (2+x.2) x.1) Y).size=484/\∀i,(Tb.zipIdx.foldl (λa (x:Value×Nat)=>a.setIfInBounds (2+x.2) x.1) Y)[i]?=if 2<=i/\i<482 then Tb[i-2]? else Y[i]?:=by
    intro Y j;have hl:Tb.toList.length=480:=by rw[Array.length_toList];exact l
    have y:Tb.zipIdx.foldl (λa (x:Value×Nat)=>a.setIfInBounds (2+x.2) x.1) Y=(Tb.toList.zipIdx 0).foldl (λa (x:Value×Nat)=>a.setIfInBounds (2+x.2) x.1) Y:=by
     rw[<-Array.foldl_toList,Array.toList_zipIdx]
    rw[y];refine⟨by rw[oJ];exact j,λi=>?_⟩;rw[qo 2 Tb.toList 0 Y i (by rw[hl,j];omega),hl];simp only[Nat.add_zero,Array.getElem?_toList]
   have b:=key _ p;simp only[Instr.fill,List.getElem?_toArray,List.getElem?_cons_zero,List.getElem?_cons_succ,e1,e2,hs,q,List.size_toArray,List.length_cons,List.length_nil,l,c,ne_eq,not_true_eq_false,decide_false,Bool.false_or];rw[o4,o4];obtain⟨Y,j⟩:∃Y,Y=Array.foldl (λa (x:Value×Nat)=>a.setIfInBounds (2+x.2) x.1) ((Z.setIfInBounds 0 s).setIfInBounds 1 m) Tb.zipIdx:=⟨_,rfl⟩;rw[<-j]at b⊢;rw[if_neg oS,if_neg (by rw[w];simp),if_neg (by rw[p];simp)];refine⟨_,rfl,b.1,?_,?_,λi v o=>?_,?_,?_⟩
   ·rw[b.2,if_neg oO,Array.getElem?_setIfInBounds_ne oO];simp[c]
   ·rw[b.2,if_neg oO];simp[c]
   ·have g:i<480:=by rw[<-l];exact(Array.getElem?_eq_some_iff.1 o).1
    rw[b.2,if_pos oO,Nat.add_sub_cancel_left];exact o
   ·rw[b.2,if_neg oO,Array.getElem?_setIfInBounds_ne oO,Array.getElem?_setIfInBounds_ne oO];exact r
   ·rw[b.2,if_neg oO,Array.getElem?_setIfInBounds_ne oO,Array.getElem?_setIfInBounds_ne oO];exact t
def decF:Nat->Nat->List Bool->List UInt8->List UInt8×Int
 |0,_,_,out=>(out,0)
 |f+1,a,b,out=>if gX b=true then(out,0)else if(bw a b out).1=0 then decF f (bw a b out).2.2.2 (bw a b out).2.1 (bw a b out).2.2.1 else([],(bw a b out).1)
def dJ (b:List Bool):List UInt8×Int:=if 1048576<b.length then([],4)else decF (b.length+1) 0 b []
theorem Cw (b0:List Bool):∀(k:Nat) (b:List Bool) (out:List UInt8),b0.drop (b0.length-b.length)=b->b.length<=b0.length->b0.drop (b0.length-(byRes k b out).2.1.length)=(byRes k b out).2.1/\(byRes k b out).2.1.length<=b.length/\(byRes k b out).2.2.length+(byRes k b out).2.1.length<=out.length+b.length
 |0,b,out,h,hl=>⟨h,Nat.le_refl _,Nat.le_refl _⟩
 |k+1,b,out,h,hl=>by
  unfold byRes;split
  ·exact⟨h,Nat.le_refl _,Nat.le_refl _⟩
  ·rename_i e
   have c:(b.drop 8).length=b.length-8:=List.length_drop;have a:=Cw b0 k (b.drop 8) (out++[UInt8.ofNat (numF b 0 8)]) (by rw[c,show b0.length-(b.length-8)=(b0.length-b.length)+8 from by omega,<-List.drop_drop,h]) oO;rw[c,List.length_append]at a;exact⟨a.1,by have:=a.2.1;omega,by have d:=a.2.2;simp only[List.length_cons,List.length_nil]at d;omega⟩
theorem ua {b0 b:List Bool} (h:b0.drop (b0.length-b.length)=b) (hl:b.length<=b0.length) (m:Nat) (c:m<=b.length):b0.drop (b0.length-(b.drop m).length)=b.drop m/\(b.drop m).length=b.length-m:=by
 have a:(b.drop m).length=b.length-m:=List.length_drop;refine⟨?_,a⟩;rw[a,show b0.length-(b.length-m)=(b0.length-b.length)+m from by omega,<-List.drop_drop,h]
theorem CZ (m k:Nat) (a:m<5) (b:k<32):(eJ m k).data.toList.length<=2:=by
 have:=jZ m a k b;simpa using this
theorem Kq {b0 b:List Bool} {a:Nat} {out:List UInt8} (e:a<5) (h:b0.drop (b0.length-b.length)=b) (hl:b.length<=b0.length):(bw a b out).1=0->b0.drop (b0.length-(bw a b out).2.1.length)=(bw a b out).2.1/\(bw a b out).2.1.length<b.length/\(bw a b out).2.2.1.length+(bw a b out).2.1.length<=out.length+b.length/\(bw a b out).2.2.2<5:=by
 have p:=km a;unfold bw;split
 ·intro h;simp at h
 ·rename_i u
  have i:=ru b a;generalize numF b 0 (an a)=k at*;obtain⟨c,r⟩:=ua h hl (an a) oO;unfold sC;have hc:=CZ a k e i;have g:=pe a k;split
  ·intro _;refine⟨c,by show(b.drop _).length<_;omega,?_,e⟩;show(out++_).length+(b.drop _).length<=_;rw[List.length_append];omega
  split
  ·intro _;exact⟨c,by show(b.drop _).length<_;omega,by show out.length+(b.drop _).length<=_;omega,g⟩
  split
  ·have v:=km (modeF a k);show(fp _ _ _).1=0->_;unfold fp;split
   ·intro h;simp at h
   ·have o:=ru (b.drop (an a)) (modeF a k);generalize numF (b.drop (an a)) 0 (an (modeF a k))=l at*;have w:=CZ (modeF a k) l g o;obtain⟨d,f⟩:=ua c oO (an (modeF a k)) oO;split
    ·intro _;refine⟨d,by show((b.drop _).drop _).length<_;omega,?_,e⟩;show(out++_).length+((b.drop _).drop _).length<=_;rw[List.length_append];omega
    ·intro h;simp at h
  split
  ·show(cP _ _).1=0->_;have l5:∀j b',j<=b'.length->b0.drop (b0.length-b'.length)=b'->b'.length<=b.length-an a->∀q,b0.drop (b0.length-(byRes q (b'.drop j) out).2.1.length)=(byRes q (b'.drop j) out).2.1/\(byRes q (b'.drop j) out).2.1.length<b.length/\(byRes q (b'.drop j) out).2.2.length+(byRes q (b'.drop j) out).2.1.length<=out.length+b.length/\a<5:=by
    intro j b' m hb x q;obtain⟨d,f⟩:=ua hb oO j m;obtain⟨n,s,t⟩:=Cw b0 q (b'.drop j) out d oO;exact⟨n,by omega,by omega,e⟩
   unfold cP;split
   ·intro h;simp at h
   split
   ·split
    ·intro h;simp at h
    ·intro _;obtain⟨d,f⟩:=ua c oO 5 oO;exact l5 11 _ oO d oO _
   ·intro _;exact l5 5 _ oO c oO _
  ·intro h;simp at h
theorem ti {P:Program} {c:Array Oper} {d:List Oper} {b:Oper} {a:Act} {Q:Exit->Act->World->Prop} {w w':World} {v:Value} (i:b.guard=none) (e:(execOp a.eval b).run P w= .ok (.value v) w') (f:wpList P c Q d (a.put b.dst v) w'):wpList P c Q (b::d) a w:=by
 refine wpList_plain i λK g=>?_;unfold Oper.wp;rw[e];exact g _ _ f
theorem DM {a:Act} {b:Oper} {W:World} {x0 c d:Operand} (e:b.op= .build 187 #[(0,x0),(1,c),(2,d)]) {s m:Value} {Tb:Array Value}
 (f:a.eval x0=s) (g:a.eval c=m) (i:a.eval d= .agg Tb) (R:Array Value) (j:Tryz.prog.built 187 [(0,s),(1,m),(2,.agg Tb)]=some R):
 (execOp a.eval b).run Tryz.prog W= .ok (.value (.agg R)) W:=by
 have k:=run_build (P:=Tryz.prog) W 187 #[(0,s),(1,m),(2,.agg Tb)] R j;unfold execOp;simp only[e,List.map_toArray,List.map_cons,List.map_nil,f,g,i,k,Sem.run_bind,Sem.run_pure,Result.andThen_ok]
theorem GZ {a:Act} {b:Oper} {W:World} {x:Operand} (c:b.op= .box 187 x) {R:Array Value} (d:a.eval x= .agg R):
 (execOp a.eval b).run Tryz.prog W= .ok (.value (.pointer (some ⟨W.heap.size,0,none⟩))) (W.alloc (.cells R 187)):=by
 unfold execOp;simp only[c,d,Instr.box,newVar,newRow,Value.cells,Sem.run_bind,Sem.run_pure];rfl
def rE (W:World) (a:Nat):Nat:=match W.cell? ⟨a,0,none⟩with|some (.slice _ k _)=>k|_=>0
theorem DE.rE {n:Nat} {w wr:World} {db a:Nat} {b0 b:List Bool} {e:Nat} {out:List UInt8} (h:DE n w wr db a b0 b e out):rE wr a=b.length:=by
 obtain⟨A,c,d,_⟩:=h.R;unfold Go.Proofs.YtmnlkganmgcpbaaGreatDoor.rE;rw[d.cell 0 _ rfl];rfl
theorem Fq (A:Option Addr) (n c:Nat) (b:List Bool) (w:World) (hb:SR vB false w A n c b):
 Calls Tryz.prog 91 #[.slice A n c] w (RT vU 0 w (dJ b)):=by
 have hn:n=b.length:=hb.hn;have ck:n<=9223372036854775807:=by have:=hb.hm;have:=hb.hc;unfold maxLen at*;omega
 by_cases hl:n<=1048576
 ·have bd:Hid (dJ b=decF (n+1) 0 b []):=by show _=_;unfold dJ;rw[if_neg oO,hn]
  have be:decide ((1048576:Int)<(n:Int))=false:=by simp;omega
  have K:=Lib.hid hb;have q:=Lib.hid hn;have L:=Lib.hid hl;have U:=yv A n c b w hl hb;have a9:=Lib.hid U;clear hb hn U;go_enter Tryz.func91,Tryz.ntmps91
  go_wp2_with(first
   |(go_at_call 134;refine a9.out.mono ?_;rintro e M ⟨d,bf,c1,rfl,V,W,X,Y,Z⟩;have ab:=Lib.hid V;have ac:=Lib.hid W;have ad:=Lib.hid X;have al:=Lib.hid Y;have F:=Lib.hid Z;obtain⟨R,N,am,ap,av,a0,a1,a2⟩:=AD (.slice A n c) (.pointer (some ⟨d,0,none⟩)) rfl rfl;have a3:=Lib.hid N;have a4:Hid (R.size=484/\R[0]?=some (.slice A n c)/\R[1]?=some (.pointer (some ⟨d,0,none⟩))/\(∀i v,eg[i]?=some v->R[2+i]?=some v)/\R[482]?=some (.int .i64 0)/\R[483]?=some (.slice none 0 0)):=⟨am,ap,av,a0,a1,a2⟩;clear V W X Y Z N am ap av a0 a1 a2)
   |(go_at_call 129;refine(lf _).mono ?_;rintro e r ⟨rfl,a5⟩;have z:=Lib.hid a5;clear a5;have b5:Hid (eg=eg):=rfl;generalize a6:eg=Tb at*;have bb:=Lib.hid a6;clear a6 b5)
   |((with_reducible show wpList _ _ _ (⟨_,Op.build 187 _,_,_,_,_⟩::_) _ _);refine ti rfl (DM (Tb:=Tb) (s:= .slice A n c) (m:= .pointer (some ⟨d,0,none⟩)) rfl rfl rfl rfl R a3.out) ?_)
   |((with_reducible show wpList _ _ _ (⟨_,Op.box 187 _,_,_,_,_⟩::_) _ _);refine ti rfl (GZ rfl rfl) ?_))
  have b6:Hid (DE w.heap.size w (r.alloc (.cells R 187)) r.heap.size d b b 0 []):=by
   obtain⟨bi,bo,bq,O,bs,bt⟩:=a4.out;rw[<-bb.out]at O;have J:Below M.heap.size M (r.alloc (.cells R 187)):=ah z.out _;refine⟨ah (ae F.out z.out) _,⟨R,A,c,none,0,aa.new _ _ _ _ rfl,bi,by rw[<-q.out];exact bo,bq,O,bs,bt,by rw[<-q.out];exact K.out,World.ownsRow_nil _ _ _ _⟩,⟨bf,c1,ab.out.below J,ac.out.below J,λbv e=>(al.out bv e).below J⟩,⟨(ae F.out z.out).size,ad.out⟩,rfl,by omega,Nat.le_refl _,by rw[<-q.out];exact L.out⟩
  generalize r.alloc (.cells R 187)=ca at*;generalize r.heap.size=db at*;clear a4 a3 F z ab ac ad al bb a9 K;go_loopw [5] (λev wr=>∃(b':List Bool) (a f:Nat) (out:List UInt8),Hid (DE w.heap.size w wr db d b b' a out)/\Hid (b.drop (b.length-b'.length)=b')/\Hid (decF f a b' out=dJ b)/\Hid (b'.length<f)/\Hid (out.length+b'.length<=b.length)) (λ_ wr=>rE wr d)
  case atStart=>exact⟨b,0,n+1,[],b6.out,by show _=_;rw[Nat.sub_self];rfl,bd.out.symm,by show _<_;rw[q.out];omega,by show _<=_;simp⟩
  case round=>
   obtain⟨b',a,f,out,k,P,hF,Q,E⟩:=hrel;obtain⟨t,rfl⟩:∃t,f=t+1:=⟨f-1,by have:=Q.out;omega⟩;have u:Hid (Calls Tryz.prog 135 #[.pointer (some ⟨db,0,none⟩)] wr λe w'=>e= .returned (.bool (gX b'))/\Below wr.heap.size wr w'):=Iz _ w wr db d b b' a out k.out P.out;cases l:gX b' with
   |true=>
    have o:Hid (dJ b=(out,0)):=by
     show _=_;rw[<-hF.out];unfold decF;rw[if_pos l]
    rw[l]at u;clear hF l;go_wp2_with(go_at_call 135;refine u.out.mono ?_;rintro e S ⟨rfl,j⟩;have p:=Lib.hid (k.out.below j);obtain⟨cb,co,ce,T,bx⟩:=p.out.outs;have b7:=Lib.hid T;clear j T bx)
    go_ret2
    exact RT.mk o.out (SG.cd b7.out) p.out.B
   |false=>
    obtain⟨g,B⟩:∃g,g=(bw a b' out).1:=⟨_,rfl⟩;have a7:out.length<=80000000:=by have:=E.out;have:=L.out;have:=q.out;omega
    have a8:Hid (∀x,DE w.heap.size w x db d b b' a out->Calls Tryz.prog 136 #[.pointer (some ⟨db,0,none⟩)] x λe w'=>e= .returned (.int .i64 g)/\DE w.heap.size w w' db d b (bw a b' out).2.1 (bw a b' out).2.2.2 (bw a b' out).2.2.1):=by
     show∀x,_;intro x hq;rw[B];exact Jf _ w x db d b b' a out hq a7
    have o:Hid (dJ b=if g=0 then decF t (bw a b' out).2.2.2 (bw a b' out).2.1 (bw a b' out).2.2.1 else([],g)):=by
     show _=_;rw[<-hF.out,B];show(if gX b'=true then _ else _)=_;rw[l];rfl
    have G:Hid (g=0->b.drop (b.length-(bw a b' out).2.1.length)=(bw a b' out).2.1/\(bw a b' out).2.1.length<b'.length/\(bw a b' out).2.2.1.length+(bw a b' out).2.1.length<=out.length+b'.length/\(bw a b' out).2.2.2<5):=by
     show _->_;rw[B];exact Kq k.out.md P.out (by have:=E.out;omega)
    have b8:Hid (rE wr d=b'.length):=k.out.rE;rw[l]at u;clear hF l B a7;by_cases C:g=0
    ·subst C;have H:Hid (decF t (bw a b' out).2.2.2 (bw a b' out).2.1 (bw a b' out).2.2.1=dJ b):=by
      show _=_;rw[o.out,if_pos rfl]
     have b9:=Lib.hid (G.out rfl);clear G o;generalize bw a b' out=sr at*
     go_wp2_with(first
      |(go_at_call 135;refine u.out.mono ?_;rintro e S ⟨rfl,j⟩;have p:=Lib.hid (k.out.below j);clear j)
      |(go_at_call 136;refine(a8.out _ p.out).mono ?_;rintro e bz ⟨rfl,y⟩;have D:=Lib.hid y;clear y))
     obtain⟨b1,b2,s3,ch⟩:=b9.out;refine⟨⟨sr.2.1,sr.2.2.2,t,sr.2.2.1,D.out,b1,H.out,by have:=Q.out;show _<_;omega,by have:=E.out;show _<=_;omega⟩,?_⟩;rw[D.out.rE,b8.out];exact b2
    ·have H:Hid (dJ b=([],g)):=by show _=_;rw[o.out,if_neg C]
     have b3:(g==0)=false:=by rw[beq_eq_false_iff_ne];exact C
     have ci:(g !=0)=true:=by rw[bne,b3];rfl
     clear G o C;generalize bw a b' out=sr at*
     go_wp2_with(first
      |(go_at_call 135;refine u.out.mono ?_;rintro e S ⟨rfl,j⟩;have p:=Lib.hid (k.out.below j);clear j)
      |(go_at_call 136;refine(a8.out _ p.out).mono ?_;rintro e bz ⟨rfl,y⟩;have D:=Lib.hid y;clear y))
     go_ret2
     exact RT.mk H.out (SG.dI _) D.out.B
 ·have b4:Hid (dJ b=([],4)):=by show _=_;unfold dJ;rw[if_pos oO]
  have be:decide ((1048576:Int)<(n:Int))=true:=by simp;omega
  clear hb hn;go_enter Tryz.func91,Tryz.ntmps91;go_wp2;go_ret2
  exact RT.mk b4.out (SG.dI _) (Below.refl _ _)
end
end Go.Proofs.YtmnlkganmgcpbaaGreatDoor
