import Derived.Test.YtmnlkganmgcpbaaGreatDoorQk18
import Derived.Test.YtmnlkganmgcpbaaGreatDoorQk8
set_option maxRecDepth 100000
set_option maxHeartbeats 4000000
set_option linter.unusedVariables false
set_option linter.unusedSectionVars false
set_option linter.unusedSimpArgs false
namespace Go.Proofs.YtmnlkganmgcpbaaGreatDoor
section
open Fl
theorem qN {s p par first:Nat} {w:List Nat} {r:Option (List Nat)} (h:jT s p par first w r):r6 s p par first w=r:=by
 unfold r6;split
 ·rename_i a
  exact(h.1 _ (Classical.choose_spec a)).symm
 ·rename_i a
  cases r with
  |none=>rfl
  |some v=>exact absurd ⟨v,h.2 v rfl⟩ a
section
variable {c s p : Nat} (h : VF c s p)
include h
theorem Hq (S:Nat->KF h) (N:Nat):∀n,n<=N->∃C B L m b,kx h S N n C B L m b
 |0,_=>⟨_,_,_,_,_,kx.start h S N⟩
 |n+1,hn=>by
  obtain⟨C,B,L,m,b,hb⟩:=Hq S N n oO;by_cases a:conv C S n=0
  ·exact⟨_,_,_,_,_,kx.skip h hb a⟩
  ·have d:(conv C S n* eG b)* b=conv C S n:=by rw[cX,Cr hb.I.b0,gm]
   by_cases e:2* L<=n
   ·exact⟨_,_,_,_,_,kx.grow h hb oO a d e⟩
   ·exact⟨_,_,_,_,_,kx.stay h hb d oO⟩
theorem Mi {par first:Nat} {w:List Nat} (e:ao s w) (hn:w.length<=s-1):jT s p par first w (r6 s p par first w):=by
 obtain⟨C,B,L,m,b,hb⟩:=Hq h (co h (cR s p par first w)) par par (Nat.le_refl _);have hl:=kx.MH h hb
 let f:Nat->Nat:=λi=>Classical.choose (Bw h (C i))
 have a:∀i,f i<s/\aS h (f i)=C i:=λi=>Classical.choose_spec (Bw h (C i))
 let q:=dX ((List.range (L+1)).map f)
 have hq:ao s q:=jz (gR h λi _=>(a i).1);have g:co h q=C:=funext λi=>by
  show co h (dX _) i=_;rw[qI,tH];split
  ·exact(a i).2
  ·exact(hl.cs i oO).symm
 have d:=yy h e hn hq (kH _) (L:=L) (by rw[g];exact hl);rw[qN d];exact d
theorem DU {par first:Nat} {w v:List Nat} (a:ao s w) (hn:w.length<=s-1) (b:Fix s p par first w v):r6 s p par first w=some v:=(Mi h a hn).1 v b
end
end
section
open Go.RowKit
noncomputable def bE (l:List UInt8):List Bool:=@dite _ (∃C,cj (bA l) C) (Classical.propDecidable _) (λh=>pX (bA l) (Classical.choose h)) (λ_=>[])
theorem oz {l:List UInt8} {C:Nat->Nat->Nat} (hl:l.length<=4096) (h:cj (bA l) C):bE l=pX (bA l) C:=by
 unfold bE;rw[dif_pos ⟨C,h⟩];exact(wQ (by rw[fA];exact hl) (Classical.choose_spec (⟨C,h⟩:∃C,cj (bA l) C)) h).1
theorem qT {l:List UInt8} {C:Nat->Nat->Nat} (hl:l.length<=2078) (h:cj (bA l) C):(bE l).length<=8* l.length+21:=by
 have hs:(bA l).size<=4096:=by rw[fA];omega
 rw[oz oO h,r7 hs h];exact Fw hl (h.ac hs)
def vL (L:Nat) (c:Bool) (k size a:Nat):Bool:=decide (k<=gK c)&&decide (aq L* k+size* a/100+11<=aq L* aD L c)
def q7 (c:Bool):List (Nat×Bool):=(List.range 4).map (λi=>(i+1,true))++(if c=true then[]else(List.range 29).map λi=>(i+4,false))
def xU (a:Nat) (b:Bool):List (Nat×Bool):=if a=0 then q7 b else[(a,b)]
def jG (a:List Bool) (b:Nat) (p:Nat×Bool):Bool:=vL p.1 p.2 (aI a (aq p.1)).length a.length b
def fO (a:List Bool) (d b:Nat) (c:Bool):Option (Nat×Bool):=(xU b c).find? (jG a d)
noncomputable def jW (L:Nat) (c:Bool) (k:Nat):List Bool:=bF (gJ 16 19 (eu c) 1 (bg (aH (L-1) (eV c)++aH (k-1) (gG c)) 4 (if c=true then 2 else 4))) 4
noncomputable def mD (L:Nat) (c:Bool) (a:List Nat):List Nat:=gJ (2^aq L) (jS (aq L)) (aD L c-a.length) 1 a
noncomputable def lR (L:Nat) (c:Bool) (a:List Nat):List Bool:=bF (mD L c a) (aq L)
noncomputable def eB (L:Nat) (c:Bool) (a:List Nat):List Bool:=qk L c (lR L c a) (jW L c a.length)
def jE (n:Nat) (a:Int) (c:Bool) (b:Int):Int:=if 4096<n then 4 else if n=0 then 5 else if a≠0/\fH a c=false then 14 else if b<5\/90<b then 3 else 0
noncomputable def l4 (l:List UInt8) (a:Int) (b:Bool) (c:Int):Option (Nat×Bool)×Int:=
 if jE l.length a b c≠0 then(none,jE l.length a b c)else match fO (bE l) c.toNat a.toNat b with
  |some p=>(some p,0)
  |none=>(none,16)
def eD (W H:Int) (N:Nat):Bool:=decide (1<=W)&&decide (W<=4096)&&decide (1<=H)&&decide (H<=4096)&&decide (W* H<=4194304)&&decide ((N:Int)=W* H)
def dL (n:Nat) (c:Bool):Bool:=(List.range 32).any λi=>fH ((i+1:Nat):Int) c&&(aj (i+1) c==n)
def jf (n C:Nat) (c:Bool) (d:List Bool):Bool:=(List.range (n* n)).all λi=>!(decide (gT C (i%n,i/n)<aN c))||(d.getD i false==(gT C (i%n,i/n)%2==0))
def qa (n C:Nat) (c:Bool) (d:List Bool):Bool:=(cA n d (bG C (aN c))==gP)&&(cA n d (ba C (aN c))==kv)
def kN (n:Nat) (d:List Bool):Option Bool:=if(dL n false&&jf n ((n-1)/2) false d)=true then some false else if(dL n true&&jf n ((n-1)/2) true d)=true then some true else none
noncomputable def l7 (c:Bool) (b:List Bool):Option (Nat×Nat):=(r6 16 19 (eu c) 1 (bg b 4 (b.length/4))).map λv=>(numF (bF v 4) 0 (eV c)+1,numF (bF v 4) (eV c) (gG c)+1)
def lF (n L:Nat) (c:Bool) (d:List Bool):List Nat:=bg ((cA n d (aZ L c)).drop ((aZ L c).length-aD L c* aq L)) (aq L) (aD L c)
noncomputable def nj (v a:List Nat) (k w:Nat):List UInt8×Int×Int:=
 if(aO (zN (v.take k)) w).2≠0 then([],0,(aO (zN (v.take k)) w).2)
 else if(dJ (aO (zN (v.take k)) w).1).2≠0 then([],0,(dJ (aO (zN (v.take k)) w).1).2)
 else((dJ (aO (zN (v.take k)) w).1).1,((dT a v).length:Int),0)
noncomputable def kK (n L:Nat) (c:Bool) (k:Nat) (d:List Bool):List UInt8×Int×Int:=
 match r6 (2^aq L) (jS (aq L)) (aD L c-k) 1 (lF n L c d)with
 |none=>([],0,17)
 |some v=>nj v (lF n L c d) k (aq L)
noncomputable def py (n:Nat) (d:List Bool) (c:Bool):List UInt8×Int×Int:=
 if qa n ((n-1)/2) c d=false then([],0,18)else match l7 c (cA n d (cC ((n-1)/2) c))with
  |none=>([],0,21)
  |some q=>if(fH (q.1:Int) c&&(aj q.1 c==n)&&decide (q.2<aD q.1 c))=true then kK n q.1 c q.2 d else([],0,21)
noncomputable def fM (W H:Int) (d:List Bool):List UInt8×Int×Int:=
 if eD W H d.length=false then([],0,1)
 else if W≠H\/(dL W.toNat true=false/\dL W.toNat false=false)then([],0,23)
 else match kN W.toNat d with
  |none=>([],0,18)
  |some c=>py W.toNat d c
theorem Ba (a b:List Nat) (s:Nat):bF (a++b) s=bF a s++bF b s:=by unfold bF;rw[List.flatMap_append]
theorem xx (x r:List Bool) (n j:Nat):numF (x++r) (x.length+n) j=numF r n j:=by
 have h:=nL (x++r) x.length n j;rw[List.drop_left]at h;exact h.symm
theorem xo (s:Nat):∀(l:List Nat),ao (2^s) l->∀i,i<l.length->numF (bF l s) (i* s) s=l.getD i 0
 |[],_,i,a=>absurd a oS
 |x::l,hl,i,a=>by
  have e:bF (x::l) s=aH x s++bF l s:=by unfold bF;rw[List.flatMap_cons]
  rw[e];cases i with
  |zero=>
   rw[Nat.zero_mul,eO s x _ (hl 0)];rfl
  |succ i=>
   have h:=xx (aH x s) (bF l s) (i* s) s;rw[aL]at h;rw[Nat.succ_mul,Nat.add_comm,h,xo s l (λj=>hl (j+1)) i (by simpa using a)];rfl
theorem xA {l:List Nat} {s:Nat} (hl:ao (2^s) l):bg (bF l s) s l.length=l:=by
 refine cW (cV _ _ _) λi a=>?_;rw[cV]at a;unfold bg;rw[bp _ _ _ a,xo s l hl i a]
theorem xk (b:List Bool) (s:Nat):∀m,m* s<=b.length->bF (bg b s m) s=b.take (m* s)
 |0,_=>by rw[Nat.zero_mul,List.take_zero];rfl
 |m+1,h=>by
  have c:m* s+s<=b.length:=by rw[Nat.succ_mul]at h;exact h
  have a:=nL b (m* s) 0 s;rw[Nat.add_zero]at a;rw[vn,wZ,xk b s m oO,<-a,Ab _ s (by rw[List.length_drop];omega),Nat.succ_mul,List.take_add]
theorem Fp:sE 4:= .inl rfl
theorem KV (c:Bool):fI 2 16 19 (eu c) 1:=FW (w:=4) Fp (by cases c<;>decide) (by cases c<;>decide)
theorem Jq {s p par:Nat} {v:List Nat} (hl:ao s v) (hc:∀j,j<par->l3 s p 1 v j=0):Fix s p par 1 v v:=
 ⟨hl,rfl,hc,by
  have:dT v v=[]:=by unfold dT;rw[List.filter_eq_nil_iff];simp
  rw[this];exact Nat.zero_le _⟩
def gA (c:Bool):Nat:=if c=true then 2 else 4
theorem Br (L:Nat) (c:Bool) (k:Nat):jW L c k=bF (gJ 16 19 (eu c) 1 (bg (aH (L-1) (eV c)++aH (k-1) (gG c)) 4 (gA c))) 4:=rfl
theorem GH {L k:Nat} {c:Bool} (l:1<=L) (y:L<=32) (hc:c=true->L<=4) (m:1<=k) (d:k<=gK c):l7 c (jW L c k)=some (L,k):=by
 obtain⟨B,hB⟩:∃B,B=aH (L-1) (eV c)++aH (k-1) (gG c):=⟨_,rfl⟩;have t:B.length=gA c* 4:=by rw[hB,List.length_append,aL,aL];cases c<;>rfl
 have n:=nH B 4 (gA c);have b:=cV B 4 (gA c);have g:=xk B 4 (gA c) oO;rw[<-t,List.take_length]at g;have a:=uf (zh Fp) (par:=eu c) (first:=1) n;have o:jW L c k=bF (gJ 16 19 (eu c) 1 (bg B 4 (gA c))) 4:=by rw[Br,hB]
 rw[o];change AE 16 19 (eu c) 1 _ (gJ 16 19 (eu c) 1 (bg B 4 (gA c)))at a;generalize z:gJ 16 19 (eu c) 1 (bg B 4 (gA c))=v at*;have j:=a.ln;rw[b]at j;have u:bg (bF v 4) 4 ((bF v 4).length/4)=v:=by
  rw[jb,Nat.mul_div_cancel _ oO];exact xA (s:=4) a.lt
 have p:r6 16 19 (eu c) 1 v=some v:=DU (zh Fp) a.lt (by rw[j];cases c<;>decide) (Jq a.lt a.cw);have w:v=bg B 4 (gA c)++v.drop (gA c):=by
  have q:v.take (gA c)=bg B 4 (gA c):=by
   refine cW (by rw[List.length_take,b];omega) λi r=>?_;rw[List.length_take]at r;rw[getD_take,if_pos oO,a.pre i (by rw[b];omega)]
  rw[<-q,List.take_append_drop]
 have x:bF v 4=aH (L-1) (eV c)++(aH (k-1) (gG c)++bF (v.drop (gA c)) 4):=by
  have e:bF v 4=bF (bg B 4 (gA c)) 4++bF (v.drop (gA c)) 4:=by
   rw[<-Ba,<-w]
  rw[e,g,hB,List.append_assoc]
 unfold l7;rw[u,p,Option.map_some,x];have e1:L-1<2^eV c:=by
  cases c with
  |true=>have:=hc rfl;show L-1<4;omega
  |false=>show L-1<32;omega
 have e2:k-1<2^gG c:=by
  cases c with
  |true=>show k-1<64;have:k<=64:=d;omega
  |false=>show k-1<2048;have:k<=2048:=d;omega
 have f:=xx (aH (L-1) (eV c)) (aH (k-1) (gG c)++bF (v.drop (gA c)) 4) 0 (gG c);rw[aL,Nat.add_zero]at f;rw[eO _ _ _ e1,f,eO _ _ _ e2,Nat.sub_add_cancel l,Nat.sub_add_cancel m]
theorem Cy {L:Nat} {c:Bool} (a:1<=L) (b:L<=32) (hc:c=true->L<=4):dL (aj L c) c=true:=by
 unfold dL;rw[List.any_eq_true];refine⟨L-1,List.mem_range.2 oO,?_⟩;rw[Nat.sub_add_cancel a,qD a b hc];simp
structure uy (L:Nat) (c:Bool) (k:Nat) (d:List Bool):Prop where
 ln:d.length=aj L c* aj L c
 NK:∀p:Pt,p.1<aj L c->p.2<aj L c->gT (aQ L c) p<aN c->d.getD (bu (aj L c) p) false=(gT (aQ L c) p%2==0)
 Ks:cA (aj L c) d (bG (aQ L c) (aN c))=gP
 KO:cA (aj L c) d (ba (aQ L c) (aN c))=kv
 msg:cA (aj L c) d (cC (aQ L c) c)=jW L c k
theorem j6 (L:Nat) (c:Bool) (b:1<=L) (a:L<=32):15<=aj L c/\aj L c<=161:=by
 have h:=gj (c:=c) a;have d:=jg (c:=c) b a;have e:=ER c;omega
theorem uy.kind {L:Nat} {c:Bool} {k:Nat} {d:List Bool} (h:uy L c k d) (a:1<=L) (b:L<=32) (hc:c=true->L<=4):kN (aj L c) d=some c:=by
 have hs:=j6 L c a b;have g:=Cy a b hc;have n:=jg (c:=c) a b;have w:=ER c;have j:jf (aj L c) ((aj L c-1)/2) c d=true:=by
  unfold jf;rw[List.all_eq_true];intro i l;rw[List.mem_range]at l;have p:i%aj L c<aj L c:=Nat.mod_lt _ oO;have q:i/aj L c<aj L c:=(Nat.div_lt_iff_lt_mul oO).2 l;by_cases o:gT ((aj L c-1)/2) (i%aj L c,i/aj L c)<aN c
  ·have e:=h.NK (i%aj L c,i/aj L c) p q o;have r:bu (aj L c) (i%aj L c,i/aj L c)=i:=by
    unfold bu;rw[Nat.mul_comm,Nat.add_comm];exact Nat.mod_add_div _ _|>.symm▸rfl
   rw[r]at e;rw[e];show(_||(_==(gT (aQ L c) _%2==0)))=true;simp
  ·rw[decide_eq_false o];rfl
 unfold kN;cases c with
 |false=>rw[g,j];rfl
 |true=>
  have s:jf (aj L true) ((aj L true-1)/2) false d=false:=by
   unfold jf;rw[List.all_eq_false];obtain⟨C,f⟩:∃C,C=aQ L true:=⟨_,rfl⟩;have u:(aj L true-1)/2=C:=f.symm;have v:aN true=5:=rfl;rw[<-f]at n;have x:aj L true=2* C+1:=n.2.2;have m:=h.Ks;rw[<-f]at m;have t:d.getD (bu (aj L true) (C-5,C-5)) false=true:=by
    have e2:(cA (aj L true) d (bG C 5)).getD 0 false=gP.getD 0 false:=by rw[<-v,m]
    exact e2
   refine⟨bu (aj L true) (C-5,C-5),List.mem_range.2 (iD (by show C-5<_;omega) (by show C-5<_;omega)),?_⟩;have e1:bu (aj L true) (C-5,C-5)%aj L true=C-5:=by
    show((C-5)* _+(C-5))%_=_;rw[Nat.mul_comm,Nat.mul_add_mod,Nat.mod_eq_of_lt oO]
   have e2:bu (aj L true) (C-5,C-5)/aj L true=C-5:=by
    show((C-5)* _+(C-5))/_=_;rw[Nat.mul_comm,Nat.mul_add_div oO,Nat.div_eq_of_lt oO,Nat.add_zero]
   rw[e1,e2,u,t];have e3:gT C (C-5,C-5)=5:=by unfold gT lM;simp only;omega
   rw[e3]
   decide
  rw[s,Bool.and_false,if_neg oD,g,j];rfl
theorem uy.dec {L:Nat} {c:Bool} {k:Nat} {d:List Bool} (h:uy L c k d) (g:1<=L) (i:L<=32) (hc:c=true->L<=4) (l:1<=k) (m:k<=gK c) (q:k<aD L c):
 fM (aj L c) (aj L c) d=kK (aj L c) L c k d:=by
 have hs:=j6 L c g i;have n:eD (aj L c) (aj L c) d.length=true:=by
  have hq:aj L c* aj L c<=161* 161:=Nat.mul_le_mul hs.2 hs.2;unfold eD;rw[h.ln];simp only[Bool.and_eq_true,decide_eq_true_eq];have e:((aj L c:Nat):Int)* (aj L c:Nat)=((aj L c* aj L c:Nat):Int):=by simp
  rw[e];omega
 unfold fM;rw[n,if_neg oD,if_neg,show((aj L c:Nat):Int).toNat=aj L c from rfl,h.kind g i hc]
 ·show py (aj L c) d c=_;unfold py;have o:qa (aj L c) ((aj L c-1)/2) c d=true:=by
   unfold qa;have a:=h.Ks;have b:=h.KO;unfold aQ at a b;rw[a,b];rfl
  have p:l7 c (cA (aj L c) d (cC ((aj L c-1)/2) c))=some (L,k):=by
   have a:=h.msg;unfold aQ at a;rw[a,GH g i hc l m]
  rw[o,if_neg oD,p];show(if _ then _ else _)=_;rw[if_pos];rw[qD g i hc,decide_eq_true q];simp
 ·have j:=Cy g i hc;rintro(f|f)
  ·exact f rfl
  ·rw[show((aj L c:Nat):Int).toNat=aj L c from rfl]at f;cases c with
   |true=>rw[j]at f;cases f.1
   |false=>rw[j]at f;cases f.2
theorem I8 {l:List UInt8} {C:Nat->Nat->Nat} (hl:l.length<=60) (f:cj (bA l) C) {n L:Nat} {c:Bool} (m:1<=L) (o:L<=32) (hc:c=true->L<=4) {a:List Nat} (r:a=aI (bE l) (aq L)) (w:a.length<aD L c) {d:List Bool}
 (p:Fix (2^aq L) (jS (aq L)) (aD L c-a.length) 1 (lF n L c d) (mD L c a)):kK n L c a.length d=(l,((dT (lF n L c d) (mD L c a)).length:Int),0):=by
 have x:=qT oO f;have y:=eQ L;obtain⟨e,e1,e2,e3,e4,e5,e6,e7⟩:=kM (bE l) (aq L) oO oO oO;rw[<-r]at e3 e4 e5 e6 e7;have s:ao (2^aq L) a:=λi=>by
  rcases Nat.lt_or_ge i a.length with b|b
  ·have:a.getD i 0∈a:=by simp only[List.getD,List.getElem?_eq_getElem b,Option.getD_some];exact List.getElem_mem b
   have:=(e6 _ this).2;omega
  ·rw[lN b];exact Nat.two_pow_pos _
 have g:=uf (zh (kS L)) (par:=aD L c-a.length) (first:=1) s;have t:=tK m o hc;have q:r6 (2^aq L) (jS (aq L)) (aD L c-a.length) 1 (lF n L c d)=some (mD L c a):=DU (zh (kS L)) (nH _ _ _) (by rw[show(lF n L c d).length=aD L c from cV _ _ _];exact t.1) p;have u:(mD L c a).take a.length=a:=by
  refine cW (by rw[List.length_take,show(mD L c a).length=_ from g.ln];omega) λi b=>?_;rw[List.length_take]at b;rw[getD_take,if_pos oO];exact g.pre i oO
 unfold kK;rw[q];show nj _ _ _ _=_;unfold nj;rw[u,e3];show(if _ then _ else if(dJ (ij (bE l) 0 e)).2≠0 then _ else _)=_;have v:ij (bE l) 0 e=bE l++List.replicate (e-(bE l).length) true:=by
  apply List.ext_getElem?;intro i;unfold ij;by_cases b:i<e
  ·rw[List.getElem?_map,List.getElem?_range b,Option.map_some,Nat.zero_add];by_cases j:i<(bE l).length
   ·rw[List.getElem?_append_left j,List.getD,List.getElem?_eq_getElem j,Option.getD_some]
   ·rw[List.getElem?_append_right oO,List.getElem?_replicate,if_pos oO,List.getD,List.getElem?_eq_none oO,Option.getD_none]
  ·rw[List.getElem?_eq_none oT,List.getElem?_eq_none oT]
 rw[if_neg oS,v];have k:=IL (l:=l) oO f (e-(bE l).length) oO;rw[<-oz oO f]at k;rw[k];simp
theorem bh.sr {w:World} {db:Nat} {l:List Bool} (h:bh w db l) {n:Nat} (hn:n=l.length) (a:n<=maxLen):SR vB false w (some ⟨db,0,none⟩) n n l:=
 ⟨hn,Nat.le_refl _,a,λ_=>⟨⟨db,0,none⟩,rfl,ar h,λj b=>by rw[add_plain,Nat.zero_add];exact h.cell b⟩⟩
theorem Fe (n:Nat):madeCells (Value.bool false).cells n=((List.replicate n false).map vB).toArray:=by
 show madeCells #[Value.bool false] n=_;apply Array.ext';simp only[madeCells,Array.toList_map,vB,List.map_replicate];apply List.ext_getElem oS;intro i a b;simp[Nat.mod_one]
theorem re (n:Nat) (hn:n<=100000000) (W:World):(Instr.makeSlice 26 (.int .i64 (n:Int)) (.int .i64 (n:Int))).run Tryz.prog W= .ok (.slice (some ⟨W.heap.size,0,none⟩) n n) (W.alloc (.cells ((List.replicate n false).map vB).toArray 4)):=by
 obtain⟨a,b,c,d,e⟩:=info_parts gZ;have h:=run_make (P:=Tryz.prog) W 26 4 a (.bool false) Tryz.underlying26 b c .i64 .i64 (n:Int) (n:Int) oO oO (by rw[e];omega) oO;rw[d,Nat.mul_one]at h;simp only[Int.toNat_natCast]at h;rw[Fe]at h;exact h
theorem bh.new (W:World) (l:List Bool):bh (W.alloc (.cells (l.map vB).toArray 4)) W.heap.size l:=aa.new _ _ _ _ oS
theorem SP.lit (W:World) (ys:List Pt) (a:TypeId) (b n:Nat) (hb:b=W.heap.size) (hn:n=ys.length) (e:n<=maxLen):SP (W.alloc (.cells (ys.flatMap eS).toArray a)) (.slice (some ⟨b,0,none⟩) n n) ys:=by
 subst hb hn;refine⟨_,_,rfl,Nat.le_refl _,e,λ_=>⟨_,0,rfl,by simp,λj f=>?_⟩⟩;have h:=Bf ys j f;have c:=gh W ys a _ _ h.1;have d:=gh W ys a _ _ h.2;rw[add_plain,Nat.zero_add]at c d;rw[Nat.zero_add,Nat.mul_comm];exact⟨c,d⟩
theorem pz (s C m:Nat) (c:Bool) (w:World) (H:m<=C) (K:C<=1000000) (J:5<=m):Calls Tryz.prog 88 #[cY s c C m] w λe w'=>∃v u,e= .returned (.tuple #[v,u])/\fN w.heap.size w' v (bG C m)/\fN w.heap.size w' u (ba C m)/\Below w.heap.size w w':=by
 obtain⟨a,o⟩:∃a,a=C-m:=⟨_,rfl⟩;obtain⟨f,p⟩:∃f,f=C-m+1:=⟨_,rfl⟩;obtain⟨b,hb⟩:∃b,b=C+m:=⟨_,rfl⟩;obtain⟨i,q⟩:∃i,i=C+m-1:=⟨_,rfl⟩;have e1:(C:Int)-(m:Int)=(a:Int):=oO;have e2:(a:Int)+1=(f:Int):=oO;have e3:(C:Int)+(m:Int)=(b:Int):=oO;have e4:(b:Int)-1=(i:Int):=oO;have y:Hid (bG C m=[(a,a),(f,a),(a,f),(b,a),(b,f),(b,i)]):=by show _=_;rw[o,p,hb,q];rfl
 have z:Hid (ba C m=[(i,a),(b,b),(i,b),(a,b),(f,b),(a,i)]):=by show _=_;rw[o,p,hb,q];rfl
 have L:a<=10000000:=oO;have M:b<=10000000:=oO;have O:f<=10000000:=oO;have P:i<=10000000:=oO;clear o p hb q;obtain⟨g,n⟩:∃g,g=w.alloc (.cells #[.int .i64 (s:Int),.bool c,.int .i64 (C:Int),.int .i64 (m:Int)] 71):=⟨_,rfl⟩;have E:Hid (Below w.heap.size w g):=by show Below _ _ _;rw[n];exact ax _ _
 have t:Hid (aa g w.heap.size #[.int .i64 (s:Int),.bool c,.int .i64 (C:Int),.int .i64 (m:Int)] 71):=by show aa _ _ _ _;rw[n];exact aa.new _ _ _ _ oS
 have B:Hid (∀W,af g W->W.cell? ⟨w.heap.size,2,none⟩=some (.int .i64 (C:Int))/\W.cell? ⟨w.heap.size,3,none⟩=some (.int .i64 (m:Int))):=λW j=>⟨(t.out.below j).cell 2 _ rfl,(t.out.below j).cell 3 _ rfl⟩;have x:Hid (Below w.heap.size w g.drew):=ai E.out;go_enter Tryz.func88,Tryz.ntmps88;go_wp2;rw[<-n];clear n;refine yO (af g) [1,2,3,4,5,6] (ai (Below.refl _ _)) ?_
 repeat refine zO B.out ?_
 refine ag ?_;have N:=Lib.hid x.out.size;have F:Hid (∀W:World,Below w.heap.size w W->Below w.heap.size w (W.alloc (.cells ((bG C m).flatMap eS).toArray 47))/\fN w.heap.size (W.alloc (.cells ((bG C m).flatMap eS).toArray 47)) (.slice (some ⟨W.heap.size,0,none⟩) 6 6) (bG C m)):=by
  show∀W:World,_;intro W j;exact⟨ah j _,SP.lit W _ _ _ 6 rfl rfl oM,λA m k D d l=>by injection d with d _ _;rw[l]at d;injection d with d;rw[<-d];exact j.size⟩
 have G:Hid (∀W:World,Below w.heap.size w W->Below w.heap.size w (W.alloc (.cells ((ba C m).flatMap eS).toArray 47))/\fN w.heap.size (W.alloc (.cells ((ba C m).flatMap eS).toArray 47)) (.slice (some ⟨W.heap.size,0,none⟩) 6 6) (ba C m)):=by
  show∀W:World,_;intro W j;exact⟨ah j _,SP.lit W _ _ _ 6 rfl rfl oM,λA m k D d l=>by injection d with d _ _;rw[l]at d;injection d with d;rw[<-d];exact j.size⟩
 go_wp2;go_ret2
 have d:=F.out g.drew x.out;have l:=G.out _ d.1;rw[y.out]at d l⊢;rw[z.out]at l⊢;have r:=l.2;rw[show(g.drew.alloc (.cells (([(a,a),(f,a),(a,f),(b,a),(b,f),(b,i)]:List Pt).flatMap eS).toArray 47)).heap.size=g.heap.size+1 from by simp]at r;exact⟨_,_,rfl,d.2.below (ax _ _),r,l.1⟩
theorem xt {d:Array Oper} {S:World->Prop} {K:Act->World->Prop} {r:List (Bool×Nat×Oper)} {k:Nat} {b:Oper} {a:Act} {W:World} {l c:Operand} (i:Region.wanted b (yielded d a.tmps)=true) (e:b.op= .makeSlice 26 l c) (n:Nat) (hn:n<=100000000) (hl:a.eval l= .int .i64 (n:Int)) (hc:a.eval c= .int .i64 (n:Int))
 (f:S (W.alloc (.cells ((List.replicate n false).map vB).toArray 4))) (g:bn Tryz.prog d S K r (a.put b.dst (.slice (some ⟨W.heap.size,0,none⟩) n n)) (W.alloc (.cells ((List.replicate n false).map vB).toArray 4))):bn Tryz.prog d S K ((true,k,b)::r) a W:=by
 refine fD i ?_ f g;have h:=re n hn W;unfold execOp;simp only[e,hl,hc,Sem.run_bind,Sem.run_pure,Result.andThen_ok,h]
theorem fi {i:Array Oper} {S:World->Prop} {K:Act->World->Prop} {r:List (Bool×Nat×Oper)} {k:Nat} {d:Oper} {a:Act} {W:World} (g:TypeId) (y:Region.wanted d (yielded i a.tmps)=true) (p x:Operand) (m:d.op= .store g p x) (j:TypeId) (b:Nat) (f:Array Value) (c:List Value) (n:aa W b f j)
 (o:a.eval p= .pointer (some ⟨b,0,none⟩)) (q:a.eval x= .agg c.toArray) (s:(Tryz.prog.info? g).map (·.size)=some c.length) (z:c.length=f.size) (t:∀v∈c,v.oneCell'=true)
 (u:S (W.setRow b c.toArray)) (w:bn Tryz.prog i S K r (a.put d.dst undef) (W.setRow b c.toArray)):bn Tryz.prog i S K ((true,k,d)::r) a W:=by
 have l:=kq (P:=Tryz.prog) W j g b 0 f c n s oO t;have e:(splice f.toList 0 c).toArray=c.toArray:=by
  unfold splice;rw[List.take_zero,List.nil_append,List.drop_eq_nil_of_le (by simp[z]),List.append_nil]
 rw[e]at l;refine .inl ⟨y,?_⟩;unfold execOp;simp only[m,o,q,Instr.storeAt,Instr.sureAddr,Sem.run_bind,Sem.run_pure,Result.andThen_ok,l];exact⟨u,w⟩
theorem yi:(Tryz.prog.info? 28).map (·.zero)=some (some (.agg #[.int .i64 0,.int .i64 0,.slice none 0 0])):=oK
theorem Fo:(Tryz.prog.info? 28).map (·.size)=some 3:=oK
theorem bh.row {w:World} {db b:Nat} {l:List Bool} (h:bh w db l) (a:Array Value) (c:db≠b):bh (w.setRow b a) db l:=aa.other h a c
abbrev bZ (n:Nat) (c:Bool) (C m:Nat):Array Value:=#[.int .i64 (n:Int),.bool c,.int .i64 (C:Int),.int .i64 (m:Int)]
abbrev p9 (n H db N:Nat):List Value:=[.int .i64 (n:Int),.int .i64 (H:Int),.slice (some ⟨db,0,none⟩) N N]
def mL (a W:World) (n N db b:Nat):Prop:=bh W db (List.replicate N false)/\aa W b (p9 n n db N).toArray 28/\Below a.heap.size a W/\a.heap.size<=db/\a.heap.size<=b/\db≠b
def Fs (d:World) (n N b:Nat) (a a':Act) (W:World):Prop:=∃db c,a'=(((((((((((a.put (some 14) (.pointer (some ⟨b,0,none⟩))).put (some 15) (.int .i64 n)).put (some 16) (.pointer (some ⟨b,0,none⟩))).put (some 17) (.int .i64 n)).put (some 18) (.pointer (some ⟨b,0,none⟩))).put (some 19) (.int .i64 n)).put (some 20) (.pointer (some ⟨b,0,none⟩))).put (some 21) (.int .i64 n)).put (some 22) (.int .i64 N)).put (some 23) (.slice (some ⟨db,0,none⟩) N N)).put (some 24) (.agg (p9 n n db N).toArray)).put (some 3) (.pointer (some ⟨c,0,none⟩))/\mL d W n N db c
theorem mL.a {b a:World} {n N:Nat} (c:Below b.heap.size b a):mL b (((a.alloc (.cells ((List.replicate N false).map vB).toArray 4)).alloc (.cells #[.int .i64 0,.int .i64 0,.slice none 0 0] 28)).setRow (a.heap.size+1) (p9 n n a.heap.size N).toArray) n N a.heap.size (a.heap.size+1):=by
 have d:bh (a.alloc (.cells ((List.replicate N false).map vB).toArray 4)) a.heap.size (List.replicate N false):=bh.new _ _;have e:aa ((a.alloc (.cells ((List.replicate N false).map vB).toArray 4)).alloc (.cells #[.int .i64 0,.int .i64 0,.slice none 0 0] 28)) (a.heap.size+1) #[.int .i64 0,.int .i64 0,.slice none 0 0] 28:=aa.new _ _ _ _ oS;have hs:=c.size;refine⟨(d.below (ax _ _)).row _ oO,aa.set e _,below_setRow (ah (ah c _) _) oO _,hs,by omega,by omega⟩
theorem mL.b {b a:World} {n N:Nat} (c:Below b.heap.size b a):mL b (((a.alloc (.cells #[.int .i64 0,.int .i64 0,.slice none 0 0] 28)).alloc (.cells ((List.replicate N false).map vB).toArray 4)).setRow a.heap.size (p9 n n (a.heap.size+1) N).toArray) n N (a.heap.size+1) a.heap.size:=by
 have d:aa (a.alloc (.cells #[.int .i64 0,.int .i64 0,.slice none 0 0] 28)) a.heap.size #[.int .i64 0,.int .i64 0,.slice none 0 0] 28:=aa.new _ _ _ _ rfl;have e:bh ((a.alloc (.cells #[.int .i64 0,.int .i64 0,.slice none 0 0] 28)).alloc (.cells ((List.replicate N false).map vB).toArray 4)) (a.heap.size+1) (List.replicate N false):=aa.new _ _ _ _ oS;have hs:=c.size;refine⟨e.row _ oO,aa.set (d.below (ax _ _)) _,below_setRow (ah (ah c _) _) oO _,by omega,hs,by omega⟩
def lD (n C:Nat) (c:Bool) (j:Nat):List Bool:=(List.range (n* n)).map λi=>decide (i<j)&&nV C c (i%n,i/n)
theorem Ko (n C:Nat) (c:Bool):lD n C c 0=List.replicate (n* n) false:=by
 unfold lD;apply List.ext_getElem oS;intro i a b;simp
theorem Lg (n C:Nat) (c:Bool):lD n C c (n* n)=cJ n C c:=by
 unfold lD cJ;apply List.map_congr_left;intro i a;rw[decide_eq_true (List.mem_range.1 a),Bool.true_and]
theorem rX (n C:Nat) (c:Bool) (j:Nat):(lD n C c j).length=n* n:=by unfold lD;simp
theorem D5 {n C:Nat} {c:Bool} {j i:Nat} (h:i<(lD n C c j).length):(lD n C c j)[i]=(decide (i<j)&&nV C c (i%n,i/n)):=by simp[lD]
theorem KC {n C:Nat} {c:Bool} {j:Nat}:(lD n C c j).set j (nV C c (j%n,j/n))=lD n C c (j+1):=by
 apply List.ext_getElem (by rw[List.length_set,rX,rX]);intro i b a;rw[List.getElem_set,D5 a];by_cases h:j=i
 ·subst h;rw[if_pos rfl,decide_eq_true oO,Bool.true_and]
 ·rw[if_neg h,D5];have:decide (i<j)=decide (i<j+1):=by rw[decide_eq_decide];omega
  rw[this]
theorem Kc {n C:Nat} {c:Bool} {j:Nat} (h:nV C c (j%n,j/n)=false):lD n C c (j+1)=lD n C c j:=by
 unfold lD;apply List.map_congr_left;intro i _;by_cases e:i=j
 ·subst e;rw[h,Bool.and_false,Bool.and_false]
 ·have:decide (i<j)=decide (i<j+1):=by rw[decide_eq_decide];omega
  rw[this]
theorem ID (n C m:Nat) (c:Bool) (w:World) (cN:m=aN c) (c2:m<=C) (hn:n=2* C+1) (d6:n<=1000):Calls Tryz.prog 83 #[cY n c C m] w λe w'=>∃db N,N=n* n/\e= .returned (FH n n db N)/\w.heap.size<=db/\bh w' db (jX n C c)/\Below w.heap.size w w':=by
 obtain⟨N,bd⟩:∃N,N=n* n:=⟨_,rfl⟩;have g9:N<=1000000:=by rw[bd];exact Nat.mul_le_mul d6 d6
 have ib:(n:Int)* (n:Int)=(N:Int):=by rw[bd];simp
 have g5:IntKind.i64.wrap (N:Int)=(N:Int):=aF _ oO oO;have fe:5<=m/\m<=7:=by rw[cN];cases c<;>decide
 have c3:=Lib.hid cN;have a4:=Lib.hid bd;have ih:Hid ((bG C m).length=6/\(ba C m).length=6):=⟨rfl,rfl⟩;have gD:Hid (∀p∈bG C m,p.1<=1000/\p.2<=1000/\bu n p<N):=by
  show∀p∈_,_;intro p c4;have h:=mP (C:=C) (s:=m) oO c2 c4;exact⟨by omega,by omega,by rw[bd];exact iD oO oO⟩
 have gN:Hid (∀p∈ba C m,p.1<=1000/\p.2<=1000/\bu n p<N):=by
  show∀p∈_,_;intro p c4;have h:=jq (C:=C) (s:=m) oO c2 c4;exact⟨by omega,by omega,by rw[bd];exact iD oO oO⟩
 have fl:Hid (∀W,Calls Tryz.prog 88 #[cY n c C m] W λe w'=>∃v u,e= .returned (.tuple #[v,u])/\fN W.heap.size w' v (bG C m)/\fN W.heap.size w' u (ba C m)/\Below W.heap.size W w'):=λW=>pz n C m c W c2 oO fe.1;have ii:1<=n:=oO;have io:C<=1000:=oO;have ip:C<n:=oO;clear cN bd hn;obtain⟨O,b1⟩:∃O,O=w.heap.size:=⟨_,rfl⟩;obtain⟨J,cq⟩:∃J,J=w.heap.size+1:=⟨_,rfl⟩;obtain⟨z,bi⟩:∃z,z=(w.alloc (.cells (bZ n c C m) 71)).alloc (.cells #[.int .i64 0,.int .i64 0,.slice none 0 0] 28):=⟨_,rfl⟩;have d7:Hid (Below w.heap.size w z):=by show Below _ _ _;rw[bi];exact ah (ax _ _) _
 have d8:Hid (aa z O (bZ n c C m) 71):=by
  show aa _ _ _ _;rw[bi];have a0:aa (w.alloc (.cells (bZ n c C m) 71)) O (bZ n c C m) 71:=aa.new _ _ _ _ b1;exact a0.below (ax _ _)
 have fn:Hid (aa z J #[.int .i64 0,.int .i64 0,.slice none 0 0] 28):=by show aa _ _ _ _;rw[bi];exact aa.new _ _ _ _ (by simp[cq])
 have d9:Hid (w.heap.size<=J/\O<J/\J<z.heap.size):=by show _/\_;rw[bi,cq,b1];simp
 go_enter Tryz.func83,Tryz.ntmps83;go_wp2;simp only[<-cq,<-bi];simp only[<-b1];clear bi;have fo:=Lib.hid b1;clear b1 cq;have a5:Hid (Below z.heap.size z z.drew):=ai (Below.refl _ _);have fr:Hid (∀W,af z W->W.cell? ⟨O,0,none⟩=some (.int .i64 (n:Int))):=λW co=>(d8.out.below co).cell 0 _ rfl;refine ja (S:=af z) (.br [(false,0),(false,1),(false,2),(false,3),(false,4),(false,5),(false,6),(false,7),(false,8)] [9,11] (λk=>if k=9 then .last [(false,10),(true,11),(true,12)]else .last [(true,9),(false,10),(true,12)])) (Fs z n N O) oK oK a5.out ?_ ?_
 ·simp only[wpTree,attachW,List.getElem?_cons_zero,List.getElem?_cons_succ]
  repeat refine zO fr.out ?_
  refine ag ?_;intro k d3;simp only[List.mem_cons,List.not_mem_nil,or_false]at d3;rcases d3 with rfl|rfl
  ·simp only[reduceIte,Nat.reduceEqDiff,wpTree,attachW,List.getElem?_cons_zero,List.getElem?_cons_succ];refine' xt rfl rfl N oO rfl rfl (ah a5.out _) ?_;simp only[yQ,yU,yX,yY];refine ag ?_
   (try simp only[reduceIte,Nat.reduceEqDiff,wpTree,attachW,List.getElem?_cons_zero,List.getElem?_cons_succ])
   refine zU ?_;refine' ep 28 rfl rfl _ yi (ah (ah a5.out _) _) ?_;simp only[yQ,yU,yX,yY];have M:=Lib.hid (mL.a (n:=n) (N:=N) a5.out);refine fi 28 rfl _ _ rfl 28 (z.drew.heap.size+1) #[.int .i64 0,.int .i64 0,.slice none 0 0] (p9 n n z.drew.heap.size N) (aa.new _ _ _ _ oS) (by show _=_;simp;rfl) rfl Fo rfl (by intro v bq;simp only[List.mem_cons,List.not_mem_nil,or_false]at bq;rcases bq with rfl|rfl|rfl<;>rfl) M.out.2.2.1 ?_;simp only[yQ,yU,yX,yY];refine ag ?_;refine⟨_,_,?_,M.out⟩;simp[Act.put,List.setIfInBounds_toArray,List.set_cons_zero,List.set_cons_succ]
  ·simp only[reduceIte,Nat.reduceEqDiff,wpTree,attachW,List.getElem?_cons_zero,List.getElem?_cons_succ];refine' ep 28 rfl rfl _ yi (ah a5.out _) ?_;simp only[yQ,yU,yX,yY];refine ag ?_
   (try simp only[reduceIte,Nat.reduceEqDiff,wpTree,attachW,List.getElem?_cons_zero,List.getElem?_cons_succ])
   refine' xt rfl rfl N oO rfl rfl (ah (ah a5.out _) _) ?_;have fv:(z.drew.alloc (.cells #[.int .i64 0,.int .i64 0,.slice none 0 0] 28)).heap.size=z.drew.heap.size+1:=by simp
   simp only[Act.put,List.setIfInBounds_toArray,List.set_cons_zero,List.set_cons_succ,fv];refine zU ?_;have M:=Lib.hid (mL.b (n:=n) (N:=N) a5.out);refine fi 28 rfl _ _ rfl 28 z.drew.heap.size #[.int .i64 0,.int .i64 0,.slice none 0 0] (p9 n n (z.drew.heap.size+1) N) ((aa.new z.drew _ _ _ rfl).below (ax _ _)) rfl rfl Fo rfl (by intro v bq;simp only[List.mem_cons,List.not_mem_nil,or_false]at bq;rcases bq with rfl|rfl|rfl<;>rfl) M.out.2.2.1 ?_;simp only[yQ,yU,yX,yY];refine ag ?_;refine⟨_,_,?_,M.out⟩;simp[Act.put,List.setIfInBounds_toArray,List.set_cons_zero,List.set_cons_succ]
 ·rintro a' b ⟨db,bs,rfl,ea⟩;have M:=Lib.hid ea;clear ea;simp only[yQ,yU,yX,yY];have fx:=d9.out;have fz:=M.out.2.2.1.size;have f0:=M.out.2.2.2;have f1:=ar M.out.1;have b2:=ar M.out.2.1;have a1:Hid (O≠db/\bs≠db/\J≠db/\O<b.heap.size/\bs<b.heap.size/\db<b.heap.size/\w.heap.size<=db/\J<b.heap.size/\w.heap.size<=b.heap.size):=by
   show _/\_;have:=d7.out.size;have:=fo.out;omega
  have f2:Hid (Below w.heap.size w b):=ae d7.out M.out.2.2.1;have f3:Hid (aa b O (bZ n c C m) 71):=d8.out.below M.out.2.2.1;have f4:Hid (aa b J #[.int .i64 0,.int .i64 0,.slice none 0 0] 28):=fn.out.below M.out.2.2.1;clear fx fz f0 f1 b2;have f:Hid (∀W,aB db b W->((W.cell? ⟨O,0,none⟩=some (.int .i64 (n:Int))/\W.cell? ⟨O,1,none⟩=some (.bool c)/\W.cell? ⟨O,2,none⟩=some (.int .i64 (C:Int))/\W.cell? ⟨O,3,none⟩=some (.int .i64 (m:Int)))/\W.cell? ⟨bs,0,none⟩=some (.int .i64 (n:Int))/\W.cell? ⟨bs,1,none⟩=some (.int .i64 (n:Int))/\W.cell? ⟨bs,2,none⟩=some (.slice (some ⟨db,0,none⟩) N N))):=by
   show∀W,_;intro W co;have a0:=co.row f3.out a1.out.1;have ab:=co.row M.out.2.1 a1.out.2.1;exact⟨⟨a0.cell 0 _ rfl,a0.cell 1 _ rfl,a0.cell 2 _ rfl,a0.cell 3 _ rfl⟩,ab.cell 0 _ rfl,ab.cell 1 _ rfl,ab.cell 2 _ rfl⟩
  obtain⟨⟨B,D,E,F⟩,k0,G,H⟩:=f.out b (aB.refl _ _);have ec:Hid (bh b db (lD n C c 0)/\aB db b b):=by show _/\_;rw[Ko,<-a4.out];exact⟨M.out.1,aB.refl _ _⟩
  go_wp2;clear B D E F k0 G H;go_loopw [28] (λU wr=>∃j:Nat,j<=N/\U= .int .i64 j/\Hid (bh wr db (lD n C c j)/\aB db b wr)) (λU _=>N-(intOf U).toNat)
  case atStart=>exact⟨0,Nat.zero_le _,rfl,ec.out⟩
  case round=>
   clear ec;obtain⟨j,ac,rfl,t⟩:=hrel;by_cases P:j<N
   ·obtain⟨x,V⟩:∃x,x=j%n:=⟨_,rfl⟩;obtain⟨y,X⟩:∃y,y=j/n:=⟨_,rfl⟩;have it:x<n:=by rw[V];exact Nat.mod_lt _ oO
    have iv:y<n:=by rw[X];exact(Nat.div_lt_iff_lt_mul oO).2 (by rw[<-a4.out];exact P)
    have ix:¬n=0:=oO;have es:(j:Int)%(n:Int)=(x:Int):=by rw[V];simp
    have et:(j:Int)/(n:Int)=(y:Int):=by rw[X];simp
    have iz:(j:Int).tmod (n:Int)=(x:Int):=by rw[Int.tmod_eq_emod_of_nonneg oO];exact es
    have i0:(j:Int).tdiv (n:Int)=(y:Int):=by rw[Int.tdiv_eq_ediv_of_nonneg oO];exact et
    have g6:IntKind.i64.wrap (y:Int)=(y:Int):=aF _ oO oO;obtain⟨d,bt⟩:∃d,d=gT C (x,y):=⟨_,rfl⟩;have i1:d<=1000:=by rw[bt];unfold gT lM;simp only;omega
    have bo:Hid (∀W,Calls Tryz.prog 86 #[cY n c C m,.int .i64 x,.int .i64 y] W λe w'=>e= .returned (.int .i64 (d:Int))/\Below W.heap.size W w'):=λW=>by rw[bt];exact tL n C m x y c W oO oO oO
    have ed:Hid (∀W,Calls Tryz.prog 87 #[.int .i64 d] W λe w'=>e= .returned (.bool (d%2==0))/\w'=W):=λW=>uW d W oO;have ad:Hid (∀W,Calls Tryz.prog 133 #[cY n c C m,.int .i64 ((x:Int)-(C:Int)),.int .i64 ((y:Int)-(C:Int))] W λe w'=>e= .returned (.bool (vP C (x,y)))/\Below W.heap.size W w'):=λW=>by rw[<-LS];exact uE n C m c _ _ W
    have c6:Hid (d<m->nV C c (j%n,j/n)=(d%2==0)):=by
     show _->_;intro h;unfold nV;rw[<-V,<-X,<-bt,if_pos (by rw[<-c3.out];exact h)]
    have c7:Hid (¬d<m->nV C c (j%n,j/n)=(!c&&vP C (x,y))):=by
     show _->_;intro h;unfold nV;rw[<-V,<-X,<-bt,if_neg (by rw[<-c3.out];exact h)]
    have ef:=Lib.hid (@KC n C c j);have eh:=Lib.hid (@Kc n C c j);have a2:Hid (j<(lD n C c j).length):=by show _<_;rw[rX,<-a4.out];exact P
    clear V X bt;have i2:Hid (∃u v:Int,u=(x:Int)-(C:Int)/\v=(y:Int)-(C:Int)):=⟨_,_,rfl,rfl⟩;generalize nV C c (j%n,j/n)=bv at*;generalize vP C (x,y)=ew at*;generalize lD n C c j=L at*;have i3:(j:Int)<(N:Int):=oO;have al:Hid (aB db b wr.drew):=t.out.2.trans (aB.below (ai (Below.refl _ _)));have c8:Hid (bh wr.drew db L):=t.out.1.below (ai (Below.refl _ _));by_cases cs:d<m
    ·have b3:=c6.out cs;subst b3;have f5:(d:Int)<(m:Int):=oO;clear c6 c7 ad;go_wp2;refine yO (λW=>aB db b W) [1,2,3,4,5,6,7,8,9,10] al.out ?_
     repeat refine zO f.out ?_
     refine ag ?_;obtain⟨⟨B,D,E,F⟩,k0,G,H⟩:=f.out wr.drew al.out;go_wp2_with(go_at_call 86;refine(bo.out _).mono ?_;rintro e K ⟨rfl,Z⟩;have a3:Hid (aB db b K):=al.out.trans (aB.below Z);have b4:Hid (bh K db L):=c8.out.below Z;clear Z B D E F k0 G H bo;obtain⟨⟨B,D,E,F⟩,k0,G,H⟩:=f.out K a3.out)
     have a6:Hid (aB db b K.drew):=a3.out.trans (aB.below (ai (Below.refl _ _)));have b5:Hid (bh K.drew db L):=b4.out.below (ai (Below.refl _ _));clear B D E F k0 G H;refine yO (λW=>aB db b W) [1,2,3,4,0,5,0,6,0,7] a6.out ?_
     repeat refine zO f.out ?_
     refine zZ ?_;refine(ed.out _).mono ?_;rintro e be ⟨rfl,ei⟩;rw[ei];clear ei;refine⟨_,rfl,a6.out,jO ?_⟩;refine zO f.out ?_;refine' aX (w':=K.drew.setCell ⟨db,j,none⟩ (.bool (d%2==0))) rfl (pY rfl ⟨db,j,none⟩ _ rfl rfl (b5.out.cell a2.out) (frozen_of_row _ _ _ _ _ b5.out)) (a6.out.trans (aB.eT _)) ?_;simp only[yQ,yU,yX,yY];refine ag ?_;have av:Hid (bh (K.drew.setCell ⟨db,j,none⟩ (.bool (d%2==0))) db (lD n C c (j+1))/\aB db b (K.drew.setCell ⟨db,j,none⟩ (.bool (d%2==0)))):=by
      show _/\_;rw[<-ef.out];exact⟨b5.out.set _ _,a6.out.trans (aB.eT _)⟩
     go_wp2;exact⟨⟨j+1,by omega,by go_num,av.out⟩,by simp[intOf];omega⟩
    ·have f5:¬(d:Int)<(m:Int):=oO;have i4:m<=d:=oO;have i5:decide (d<m)=false:=by simp;omega
     have d0:=Lib.hid (c7.out cs);clear c6 c7 ed;cases c with
     |true=>
      have b3:bv=false:=d0.out;subst b3;clear cs;have f6:=Lib.hid (eh.out rfl);go_wp2;refine yO (λW=>aB db b W) [1,2,3,4,5,6,7,8,9,10] al.out ?_
      repeat refine zO f.out ?_
      refine ag ?_;obtain⟨⟨B,D,E,F⟩,k0,G,H⟩:=f.out wr.drew al.out;go_wp2_with(go_at_call 86;refine(bo.out _).mono ?_;rintro e K ⟨rfl,Z⟩;have a3:Hid (aB db b K):=al.out.trans (aB.below Z);have b4:Hid (bh K db L):=c8.out.below Z;clear Z B D E F k0 G H bo;obtain⟨⟨B,D,E,F⟩,k0,G,H⟩:=f.out K a3.out)
      exact⟨⟨j+1,by omega,by go_num,by show _/\_;rw[f6.out];exact⟨b4.out,a3.out⟩⟩,by simp[intOf];omega⟩
     |false=>
      have b3:bv=ew:=d0.out;subst b3;clear cs eh d0;go_wp2;refine yO (λW=>aB db b W) [1,2,3,4,5,6,7,8,9,10] al.out ?_
      repeat refine zO f.out ?_
      refine ag ?_;obtain⟨⟨B,D,E,F⟩,k0,G,H⟩:=f.out wr.drew al.out;go_wp2_with(go_at_call 86;refine(bo.out _).mono ?_;rintro e K ⟨rfl,Z⟩;have a3:Hid (aB db b K):=al.out.trans (aB.below Z);have b4:Hid (bh K db L):=c8.out.below Z;clear Z B D E F k0 G H bo;obtain⟨⟨B,D,E,F⟩,k0,G,H⟩:=f.out K a3.out)
      have a6:Hid (aB db b K.drew):=a3.out.trans (aB.below (ai (Below.refl _ _)));have b5:Hid (bh K.drew db L):=b4.out.below (ai (Below.refl _ _));clear B D E F k0 G H;have i6:IntKind.i64.wrap ((x:Int)-(C:Int))=(x:Int)-(C:Int):=aF _ oO oO;have i7:IntKind.i64.wrap ((y:Int)-(C:Int))=(y:Int)-(C:Int):=aF _ oO oO;refine yO (λW=>aB db b W) [1,2,3,4,5,6,7,8,9,10,11,12,0,13,0,14,0,15] a6.out ?_;refine zO f.out ?_;refine zO f.out ?_;refine zO f.out ?_;refine zO f.out ?_;refine zO f.out ?_;refine zO f.out ?_;refine zO f.out ?_;refine zO f.out ?_;refine zO f.out ?_;refine zO f.out ?_;refine zO f.out ?_;refine zO f.out ?_;refine zZ ?_;refine(ad.out _).mono ?_;rintro e be ⟨rfl,c9⟩;have da:Hid (aB db b be):=a6.out.trans (aB.below c9);have dd:Hid (bh be db L):=b5.out.below c9;clear c9;refine⟨_,rfl,da.out,jO ?_⟩;refine zO f.out ?_;refine' aX (w':=be.setCell ⟨db,j,none⟩ (.bool bv)) rfl (pY rfl ⟨db,j,none⟩ _ rfl rfl (dd.out.cell a2.out) (frozen_of_row _ _ _ _ _ dd.out)) (da.out.trans (aB.eT _)) ?_;simp only[yQ,yU,yX,yY];refine ag ?_;have av:Hid (bh (be.setCell ⟨db,j,none⟩ (.bool bv)) db (lD n C false (j+1))/\aB db b (be.setCell ⟨db,j,none⟩ (.bool bv))):=by
       show _/\_;rw[<-ef.out];exact⟨dd.out.set _ _,da.out.trans (aB.eT _)⟩
      go_wp2;exact⟨⟨j+1,by omega,by go_num,av.out⟩,by simp[intOf];omega⟩
   ·obtain rfl:N=j:=oO;obtain⟨am,rfl⟩:∃x,x=wr:=⟨_,rfl⟩;have f7:Hid (bh am db (cJ n C c)):=by show bh _ _ _;rw[<-Lg,<-a4.out];exact t.out.1
    have de:Hid (aB db b am):=t.out.2;clear t;obtain⟨⟨B,D,E,F⟩,k0,G,H⟩:=f.out am de.out;go_wp2_with(go_at_call 88;refine(fl.out _).mono ?_;rintro e Q ⟨v4,u4,rfl,b2,dk,dl⟩;obtain⟨ex,g7,rfl,f8,f9,gb⟩:=id b2.1;obtain⟨c5,d4,rfl,gc,ge,gg⟩:=id dk.1;have ek:=Lib.hid b2;have el:=Lib.hid dk;have em:Hid (aB db b Q):=de.out.trans (aB.below dl);have gi:Hid (bh Q db (cJ n C c)):=f7.out.below dl;have dn:Hid (db<am.heap.size):=Nat.lt_of_lt_of_le a1.out.2.2.2.2.2.1 de.out.sz;clear dl b2 dk f8 f9 gb gc ge gg B D E F k0 G H)
    have en:Hid (bh Q db (wrL n (cJ n C c) ((bG C m).take 0) (gP.take 0))/\aB db Q Q):=by show _/\_;rw[List.take_zero,mz];exact⟨gi.out,aB.refl _ _⟩
    have g0:Hid (∀j,j<6->∃g o,ex=some ⟨g,o,none⟩/\g<Q.heap.size/\g≠db/\Q.cell? ⟨g,o+j* 2,none⟩=some (.int .i64 (((bG C m).getD j (0,0)).1:Int))/\Q.cell? ⟨g,o+j* 2+1,none⟩=some (.int .i64 (((bG C m).getD j (0,0)).2:Int))):=by
     show∀j,_;intro j ac;obtain⟨A,k,e,-,-,h⟩:=ek.out.1;obtain⟨g,o,e2,ab,bx⟩:=h (by show 0<6;omega);injection e with e3 _ _;have cp:am.heap.size<=g:=ek.out.2 _ _ _ _ rfl (e3.trans e2);have bz:=dn.out;have bf:=bx j ac;exact⟨g,o,e3.trans e2,ab,by omega,bf⟩
    go_wp2;go_loopw [80] (λU wr=>∃j:Nat,j<=6/\U= .int .i64 j/\Hid (bh wr db (wrL n (cJ n C c) ((bG C m).take j) (gP.take j))/\aB db Q wr)) (λU _=>6-(intOf U).toNat)
    case atStart=>exact⟨0,Nat.zero_le _,rfl,en.out⟩
    case round=>
     clear en;obtain⟨j,ac,rfl,t⟩:=hrel;by_cases P:j<6
     ·obtain⟨g,o,rfl,b6,b7,V,X⟩:=g0.out j P;have b8:(bG C m).getD j (0,0)∈bG C m:=by
       have:j<(bG C m).length:=P;simp only[List.getD,List.getElem?_eq_getElem this,Option.getD_some];exact List.getElem_mem this
      obtain⟨go,gp,ch⟩:=gD.out _ b8;have b9:gP.getD j false=true:=by
       have:∀j,j<6->gP.getD j false=true:=by decide
       exact this j P
      have ck:Hid (wrL n (cJ n C c) ((bG C m).take (j+1)) (gP.take (j+1))=(wrL n (cJ n C c) ((bG C m).take j) (gP.take j)).set (bu n ((bG C m).getD j (0,0))) true):=by
       have:=wF n (cJ n C c) (bG C m) gP (i:=j) P P;rw[b9]at this;exact this
      have a2:Hid ((wrL n (cJ n C c) ((bG C m).take j) (gP.take j)).length=N):=by show _=_;rw[dS,iw,a4.out]
      generalize(bG C m).getD j (0,0)=p at*;generalize wrL n (cJ n C c) ((bG C m).take j) (gP.take j)=L at*;have ca:aB db b wr:=em.out.trans t.out.2;have e1:wr.cell? ⟨g,o+j* 2,none⟩=some (.int .i64 (p.1:Int)):=(t.out.2.cell (a:=⟨g,o+j* 2,none⟩) b6 b7).trans V;have e2:wr.cell? ⟨g,o+j* 2+1,none⟩=some (.int .i64 (p.2:Int)):=(t.out.2.cell (a:=⟨g,o+j* 2+1,none⟩) b6 b7).trans X;obtain⟨l,ap⟩:∃l,l=wr.alloc (.cells #[.int .i64 (p.1:Int),.int .i64 (p.2:Int)] 47):=⟨_,rfl⟩;obtain⟨Y,a7⟩:∃Y,Y=wr.heap.size:=⟨_,rfl⟩;have a8:Hid (Below wr.heap.size wr l):=by show Below _ _ _;rw[ap];exact ax _ _
      have cb:Hid (aa l Y #[.int .i64 (p.1:Int),.int .i64 (p.2:Int)] 47):=by show aa _ _ _ _;rw[ap,a7];exact aa.new _ _ _ _ oS
      have a9:Hid (bh l db L):=t.out.1.below a8.out;have dp:Hid (aB db b l):=ca.trans (aB.below a8.out);have ds:Hid (aB db Q l):=t.out.2.trans (aB.below a8.out);have ce:l.cell? ⟨Y,0,none⟩=some (.int .i64 (p.1:Int)):=cb.out.cell 0 _ rfl;have ci:l.cell? ⟨Y,1,none⟩=some (.int .i64 (p.2:Int)):=cb.out.cell 1 _ rfl;obtain⟨⟨B,D,E,F⟩,k0,G,H⟩:=f.out l dp.out;obtain⟨q,hq⟩:∃q,q=p.2* n:=⟨_,rfl⟩;obtain⟨r,bb⟩:∃r,r=bu n p:=⟨_,rfl⟩;have dv:r=q+p.1:=by rw[bb,hq];rfl
      rw[<-bb]at ch ck;have gq:q<=1000000:=oO;have gs:(p.2:Int)* (n:Int)=(q:Int):=by rw[hq];simp
      have ey:IntKind.i64.wrap (q:Int)=(q:Int):=aF _ oO oO;have ez:IntKind.i64.wrap ((q:Int)+(p.1:Int))=(r:Int):=by rw[aF _ oO oO];omega
      have gt:(q:Int)+(p.1:Int)=(r:Int):=oO;have g1:(r:Int)<(N:Int):=oO;have d1:Hid (r<L.length):=by show _<_;rw[a2.out];exact ch
      have gv:(j:Int)<6:=oO;have dx:l.cell? ⟨db,r,none⟩=some (.bool (L.getD r false)):=a9.out.cell d1.out;have dy:l.frozen? ⟨db,r,none⟩=false:=frozen_of_row _ _ _ _ _ a9.out;have av:Hid (bh (l.setCell ⟨db,r,none⟩ (.bool true)) db (wrL n (cJ n C c) ((bG C m).take (j+1)) (gP.take (j+1)))/\aB db Q (l.setCell ⟨db,r,none⟩ (.bool true))):=by
       show _/\_;rw[ck.out];exact⟨a9.out.set _ _,ds.out.trans (aB.eT _)⟩
      rw[ap]at B D E F k0 G H dx dy av ce ci;rw[a7]at ce ci;clear hq bb dv b8 a2 b9 V X ca ap a7;go_wp2;exact⟨⟨j+1,by omega,by go_num,av.out⟩,by simp[intOf];omega⟩
     ·obtain rfl:j=6:=oO;have gw:Hid (bh wr db (wrL n (cJ n C c) (bG C m) gP)):=t.out.1;have cv:Hid (aB db Q wr):=t.out.2;clear t;have cx:Hid (fN am.heap.size Q (.slice c5 (ba C m).length d4) (ba C m)):=el;obtain⟨T,rfl⟩:∃x,x=wr:=⟨_,rfl⟩;have eq:Hid (aB db b T):=em.out.trans cv.out;have g2:Hid (fN am.heap.size T (.slice c5 (ba C m).length d4) (ba C m)):=by
       obtain⟨⟨A,k,e,a0,ab,bx⟩,cp⟩:=el.out;refine⟨⟨A,k,e,a0,ab,λeA=>?_⟩,cp⟩;obtain⟨g,o,e2,bz,bf⟩:=bx eA;have e0:=cp A _ _ _ e e2;have g8:=dn.out;have d5:g≠db:=by show g≠db;have:am.heap.size<=g:=e0;omega
       exact⟨g,o,e2,Nat.lt_of_lt_of_le bz cv.out.sz,λj ac=>⟨(cv.out.cell (a:=⟨g,o+j* 2,none⟩) bz d5).trans (bf j ac).1,(cv.out.cell (a:=⟨g,o+j* 2+1,none⟩) bz d5).trans (bf j ac).2⟩⟩
      have gx:=gw;have gy:=dn;clear cx;have cx:=g2;have er:Hid (bh T db (wrL n (wrL n (cJ n C c) (bG C m) gP) ((ba C m).take 0) (kv.take 0))/\aB db T T):=by show _/\_;rw[List.take_zero,mz];exact⟨gx.out,aB.refl _ _⟩
      have g3:Hid (∀j,j<6->∃g o,c5=some ⟨g,o,none⟩/\g<T.heap.size/\g≠db/\T.cell? ⟨g,o+j* 2,none⟩=some (.int .i64 (((ba C m).getD j (0,0)).1:Int))/\T.cell? ⟨g,o+j* 2+1,none⟩=some (.int .i64 (((ba C m).getD j (0,0)).2:Int))):=by
       show∀j,_;intro j ac;obtain⟨A,k,e,-,-,h⟩:=cx.out.1;obtain⟨g,o,e2,ab,bx⟩:=h (by show 0<6;omega);injection e with e3 _ _;have cp:am.heap.size<=g:=cx.out.2 _ _ _ _ rfl (e3.trans e2);have bz:=gy.out;have bf:=bx j ac;exact⟨g,o,e3.trans e2,ab,by omega,bf⟩
      go_wp2;go_loopw [98] (λU wr=>∃j:Nat,j<=6/\U= .int .i64 j/\Hid (bh wr db (wrL n (wrL n (cJ n C c) (bG C m) gP) ((ba C m).take j) (kv.take j))/\aB db T wr)) (λU _=>6-(intOf U).toNat)
      case atStart=>exact⟨0,Nat.zero_le _,rfl,er.out⟩
      case round=>
       clear er;obtain⟨j,ac,rfl,t⟩:=hrel;by_cases P:j<6
       ·obtain⟨g,o,rfl,b6,b7,V,X⟩:=g3.out j P;have b8:(ba C m).getD j (0,0)∈ba C m:=by
         have:j<(ba C m).length:=P;simp only[List.getD,List.getElem?_eq_getElem this,Option.getD_some];exact List.getElem_mem this
        obtain⟨go,gp,ch⟩:=gN.out _ b8;have b9:kv.getD j false=false:=by
         have:∀j,j<6->kv.getD j false=false:=by decide
         exact this j P
        have ck:Hid (wrL n (wrL n (cJ n C c) (bG C m) gP) ((ba C m).take (j+1)) (kv.take (j+1))=(wrL n (wrL n (cJ n C c) (bG C m) gP) ((ba C m).take j) (kv.take j)).set (bu n ((ba C m).getD j (0,0))) false):=by
         have:=wF n (wrL n (cJ n C c) (bG C m) gP) (ba C m) kv (i:=j) P P;rw[b9]at this;exact this
        have a2:Hid ((wrL n (wrL n (cJ n C c) (bG C m) gP) ((ba C m).take j) (kv.take j)).length=N):=by show _=_;rw[dS,dS,iw,a4.out]
        generalize(ba C m).getD j (0,0)=p at*;generalize wrL n (wrL n (cJ n C c) (bG C m) gP) ((ba C m).take j) (kv.take j)=L at*;have ca:aB db b wr:=eq.out.trans t.out.2;have e1:wr.cell? ⟨g,o+j* 2,none⟩=some (.int .i64 (p.1:Int)):=(t.out.2.cell (a:=⟨g,o+j* 2,none⟩) b6 b7).trans V;have e2:wr.cell? ⟨g,o+j* 2+1,none⟩=some (.int .i64 (p.2:Int)):=(t.out.2.cell (a:=⟨g,o+j* 2+1,none⟩) b6 b7).trans X;obtain⟨l,ap⟩:∃l,l=wr.alloc (.cells #[.int .i64 (p.1:Int),.int .i64 (p.2:Int)] 47):=⟨_,rfl⟩;obtain⟨Y,a7⟩:∃Y,Y=wr.heap.size:=⟨_,rfl⟩;have a8:Hid (Below wr.heap.size wr l):=by show Below _ _ _;rw[ap];exact ax _ _
        have cb:Hid (aa l Y #[.int .i64 (p.1:Int),.int .i64 (p.2:Int)] 47):=by show aa _ _ _ _;rw[ap,a7];exact aa.new _ _ _ _ oS
        have a9:Hid (bh l db L):=t.out.1.below a8.out;have dp:Hid (aB db b l):=ca.trans (aB.below a8.out);have ds:Hid (aB db T l):=t.out.2.trans (aB.below a8.out);have ce:l.cell? ⟨Y,0,none⟩=some (.int .i64 (p.1:Int)):=cb.out.cell 0 _ rfl;have ci:l.cell? ⟨Y,1,none⟩=some (.int .i64 (p.2:Int)):=cb.out.cell 1 _ rfl;obtain⟨⟨B,D,E,F⟩,k0,G,H⟩:=f.out l dp.out;obtain⟨q,hq⟩:∃q,q=p.2* n:=⟨_,rfl⟩;obtain⟨r,bb⟩:∃r,r=bu n p:=⟨_,rfl⟩;have dv:r=q+p.1:=by rw[bb,hq];rfl
        rw[<-bb]at ch ck;have gq:q<=1000000:=oO;have gs:(p.2:Int)* (n:Int)=(q:Int):=by rw[hq];simp
        have ey:IntKind.i64.wrap (q:Int)=(q:Int):=aF _ oO oO;have ez:IntKind.i64.wrap ((q:Int)+(p.1:Int))=(r:Int):=by rw[aF _ oO oO];omega
        have gt:(q:Int)+(p.1:Int)=(r:Int):=oO;have g1:(r:Int)<(N:Int):=oO;have d1:Hid (r<L.length):=by show _<_;rw[a2.out];exact ch
        have gv:(j:Int)<6:=oO;have dx:l.cell? ⟨db,r,none⟩=some (.bool (L.getD r false)):=a9.out.cell d1.out;have dy:l.frozen? ⟨db,r,none⟩=false:=frozen_of_row _ _ _ _ _ a9.out;have av:Hid (bh (l.setCell ⟨db,r,none⟩ (.bool false)) db (wrL n (wrL n (cJ n C c) (bG C m) gP) ((ba C m).take (j+1)) (kv.take (j+1)))/\aB db T (l.setCell ⟨db,r,none⟩ (.bool false))):=by
         show _/\_;rw[ck.out];exact⟨a9.out.set _ _,ds.out.trans (aB.eT _)⟩
        rw[ap]at B D E F k0 G H dx dy av ce ci;rw[a7]at ce ci;clear hq bb dv b8 a2 b9 V X ca ap a7;go_wp2;exact⟨⟨j+1,by omega,by go_num,av.out⟩,by simp[intOf];omega⟩
       ·obtain rfl:j=6:=oO;have HEq:Hid (bh wr db (wrL n (wrL n (cJ n C c) (bG C m) gP) (ba C m) kv)):=t.out.1;have g4:Hid (aB db T wr):=t.out.2;clear t;have dz:Hid (aB db b wr):=eq.out.trans g4.out;obtain⟨⟨B,D,E,F⟩,k0,G,H⟩:=f.out wr dz.out;have ad:Hid (aa wr J #[.int .i64 0,.int .i64 0,.slice none 0 0] 28):=dz.out.row f4.out a1.out.2.2.1;have c0:wr.cell? ⟨J,0,none⟩=some (.int .i64 0):=ad.out.cell 0 _ rfl;have c1:wr.cell? ⟨J,1,none⟩=some (.int .i64 0):=ad.out.cell 1 _ rfl;have e9:wr.cell? ⟨J,2,none⟩=some (.slice none 0 0):=ad.out.cell 2 _ rfl;have fb:wr.frozen? ⟨J,0,none⟩=false:=frozen_of_row _ _ _ _ _ ad.out;have fc:wr.frozen? ⟨J,1,none⟩=false:=frozen_of_row _ _ _ _ _ ad.out;have fd:wr.frozen? ⟨J,2,none⟩=false:=frozen_of_row _ _ _ _ _ ad.out;have gz:Hid (Below w.heap.size w wr):=f2.out.trans (dz.out.to a1.out.2.2.2.2.2.2.1 a1.out.2.2.2.2.2.2.2.2);have gC:Hid (wrL n (wrL n (cJ n C c) (bG C m) gP) (ba C m) kv=jX n C c):=by show _=_;unfold jX;rw[<-c3.out]
        have d2:w.heap.size<=J:=d9.out.1;go_wp2;refine bodyPost_ret (v:=FH n n db N) (by simp[results,Tryz.results83,go_sem,c0,c1,e9,fb,fc,fd]) rfl ⟨db,N,a4.out,rfl,a1.out.2.2.2.2.2.2.1,?_,?_⟩
        ·rw[<-gC.out];have dE:db≠J:=(a1.out.2.2.1).symm;exact((aa.bP (aa.bP (aa.bP HEq.out _ _ dE) _ _ dE) _ _ dE))
        ·exact((gz.out.setCell d2 _).setCell d2 _).setCell d2 _
abbrev Sy:=Nat×Bool
def ka (p:Sy):List Value:=[.int .i64 (p.1:Int),.bool p.2]
theorem L0 (p:Sy):∀v∈ka p,v.oneCell'=true:=by
 intro v a;simp only[ka,List.mem_cons,List.not_mem_nil,or_false]at a;rcases a with rfl|rfl<;>rfl
theorem Kg (l:List Sy):∀v∈l.flatMap ka,v.oneCell'=true:=by
 intro v a;obtain⟨p,-,b⟩:=List.mem_flatMap.1 a;exact L0 p v b
theorem uV (l:List Sy):(l.flatMap ka).length=l.length* 2:=by
 induction l with
 |nil=>rfl
 |cons p l a=>simp only[List.flatMap_cons,List.length_append,a,List.length_cons];show 2+_=_;omega
theorem Bd (l:List Sy) (i:Nat) (a:i<l.length):(l.flatMap ka)[2* i]?=some (.int .i64 ((l.getD i (0,false)).1:Int))/\(l.flatMap ka)[2* i+1]?=some (.bool (l.getD i (0,false)).2):=by
 induction l generalizing i with
 |nil=>simp at a
 |cons p l b=>
  cases i with
  |zero=>exact⟨rfl,rfl⟩
  |succ i=>
   have h:=b i (by simpa using a);simp only[List.flatMap_cons,ka];rw[show 2* (i+1)=2* i+2 from by omega];simp only[List.cons_append,List.nil_append,List.getElem?_cons_succ,List.getD_cons_succ];exact h
theorem Gu:(Tryz.prog.info? 60).map (λi=>(i.zero,i.size,i.bytes))=some (some (.agg #[.int .i64 0,.bool false]),2,16):=oK
def My (w:World) (A:Option Addr) (xs:List Sy):Prop:=0<xs.length->∃g a,A=some ⟨g,a,none⟩/\g<w.heap.size/\∀j,j<xs.length->w.cell? ⟨g,a+j* 2,none⟩=some (.int .i64 ((xs.getD j (0,false)).1:Int))/\w.cell? ⟨g,a+j* 2+1,none⟩=some (.bool (xs.getD j (0,false)).2)
def SY (w:World) (v:Value) (xs:List Sy):Prop:=∃A c,v= .slice A xs.length c/\xs.length<=c/\c<=maxLen/\My w A xs
theorem SY.dI (w:World):SY w (.slice none 0 0) []:=⟨none,0,rfl,by simp,by simp,λh=>absurd h oS⟩
theorem SY.cd {W:World} {base:Nat} {e:TypeId} {n:Nat} {v:Value} {xs:List Sy} (h:W.ownsRow base e 2 v n (xs.flatMap ka)):SY W v xs:=by
 have hl:xs.length=n:=by have:=h.1;rw[uV]at this;omega
 rcases h.2 with⟨rfl,rfl⟩|⟨g,cap,d,rfl,hb,hg,f,lH,_⟩
 ·have:xs=[]:=List.eq_nil_of_length_eq_zero hl;subst this;exact SY.dI _
 ·refine⟨_,cap,by rw[hl],by omega,lH,λhn=>⟨g,0,rfl,ar hg,λj c=>?_⟩⟩;have a:=Bd xs j c;have e:0+j* 2=2* j:=oO;have c1:=h.cells (g:=g) rfl (2* j) _ a.1;have b:=h.cells (g:=g) rfl (2* j+1) _ a.2;rw[add_plain,Nat.zero_add]at c1 b;rw[e];exact⟨c1,b⟩
structure nC (w wr:World) (v:Value) (l:List Sy):Prop where
 B:af w wr
 O:wr.ownsRow w.heap.size 60 2 v l.length (l.flatMap ka)
theorem nC.start (w:World):nC w w (.slice none 0 0) []:=⟨Below.refl _ _,World.ownsRow_nil _ _ _ _⟩
theorem nC.sp {w wr:World} {v:Value} {l:List Sy} (h:nC w wr v l):SY wr v l:=SY.cd h.O
theorem FC {W:World} {base:Nat} {v:Value} {n:Nat} {l:List Sy} (d:TypeId) (f:W.ownsRow base 60 2 v n (l.flatMap ka)) (w:base<=W.heap.size) (b:Addr) (m c:Nat) (ys:List Sy) (g:m=ys.length)
 (hc:∀j u,(ys.flatMap ka)[j]?=some u->W.cell? (b.add j)=some u) (hl:n+m<=1000000):
 ∃a w',(Builtin.append_ #[62,62] d #[v,.slice (some b) m c]).run Tryz.prog W= .ok a w'/\w'.ownsRow base 60 2 a (n+m) ((l++ys).flatMap ka)/\W.grownBy w' v.ownBlock/\(a.ownBlock=v.ownBlock\/a.ownBlock=some W.heap.size):=by
 obtain⟨i,k,q,r,s⟩:=info_parts Gu;obtain⟨a,w',t,e,o,_,p⟩:=run_append_own_at (P:=Tryz.prog) W base 62 d 60 i _ 2 16 Tryz.underlying62 k q r s rfl oO v n _ f b m c (ys.flatMap ka) (by rw[uV,g]) hc (Kg ys) oM oO w;rw[<-List.flatMap_append]at e;exact⟨a,w',t,e,o,p⟩
theorem nU {f:Array Oper} {g:List Oper} {d:Oper} {a:Act} {Q:Exit->Act->World->Prop} {W:World} {base:Nat} {v:Value} {n:Nat} {l:List Sy} (i:W.ownsRow base 60 2 v n (l.flatMap ka)) (B:base<=W.heap.size) (z:d.guard=none) (s y:Operand)
 (k:d.op= .call {callee:= .builtin .append,args:=#[s,y],argTypes:=#[62,62]}) (hs:a.eval s=v) (e:Addr) (m c:Nat) (ys:List Sy) (o:a.eval y= .slice (some e) m c) (p:m=ys.length)
 (hc:∀j u,(ys.flatMap ka)[j]?=some u->W.cell? (e.add j)=some u) (hl:n+m<=1000000)
 (q:∀b w',w'.ownsRow base 60 2 b (n+m) ((l++ys).flatMap ka)->W.grownBy w' v.ownBlock->(b.ownBlock=v.ownBlock\/b.ownBlock=some W.heap.size)->wpList Tryz.prog f Q g (a.put d.dst b) w'):wpList Tryz.prog f Q (d::g) a W:=by
 refine wpList_plain z λK r=>?_;obtain⟨b,w',A,t,w,x⟩:=FC d.type i B e m c ys p hc hl;unfold Oper.wp execOp;simp only[k,resolve,invoke,builtin,Sem.run_bind,Sem.run_pure,Result.andThen_ok,List.map_toArray,List.map_cons,List.map_nil,hs,o,A];exact r _ _ (q b w' t w x)
theorem nC.grow {w wr W a:World} {v v1:Value} {l ys:List Sy} (h:nC w wr v l) (b:Below wr.heap.size wr W) (d:a.ownsRow w.heap.size 60 2 v1 (l.length+ys.length) ((l++ys).flatMap ka)) (hg:W.grownBy a v.ownBlock):nC w a v1 (l++ys):=by
 refine⟨(ae h.B b).grown hg (by have:=(ae h.B b).size;exact this) (λk c=>(h.O.lt k c).1),?_⟩;rw[List.length_append];exact d
theorem ur (W:World) (ys:List Sy) (b:TypeId):∀j u,(ys.flatMap ka)[j]?=some u->(W.alloc (.cells (ys.flatMap ka).toArray b)).cell? ((⟨W.heap.size,0,none⟩:Addr).add j)=some u:=by
 intro j u a;have c:j<(ys.flatMap ka).length:=by
  rcases Nat.lt_or_ge j (ys.flatMap ka).length with h|h
  ·exact h
  ·rw[List.getElem?_eq_none h]at a;cases a
 rw[add_plain,Nat.zero_add];have:=(ak.new W (ys.flatMap ka).toArray b W.heap.size rfl).2 j (by simpa using c);rw[this];simp only[List.toList_toArray,List.getD,a,Option.getD_some]
theorem SY.lit (W:World) (ys:List Sy) (a:TypeId) (b n:Nat) (hb:b=W.heap.size) (hn:n=ys.length) (e:n<=maxLen):SY (W.alloc (.cells (ys.flatMap ka).toArray a)) (.slice (some ⟨b,0,none⟩) n n) ys:=by
 subst hb hn;refine⟨_,_,rfl,Nat.le_refl _,e,λ_=>⟨_,0,rfl,by simp,λj f=>?_⟩⟩;have h:=Bd ys j f;have c:=ur W ys a _ _ h.1;have d:=ur W ys a _ _ h.2;rw[add_plain,Nat.zero_add]at c d;rw[Nat.zero_add,Nat.mul_comm];exact⟨c,d⟩
def nT (j:Nat):List Sy:=(List.range j).map λi=>(i+1,true)
def s7 (j:Nat):List Sy:=(List.range j).map λi=>(i+4,false)
theorem JF (j:Nat):nT (j+1)=nT j++[(j+1,true)]:=by unfold nT;rw[List.range_succ,List.map_append];rfl
theorem JA (j:Nat):s7 (j+1)=s7 j++[(j+4,false)]:=by unfold s7;rw[List.range_succ,List.map_append];rfl
theorem AY (c:Bool):q7 c=nT 4++(if c=true then[]else s7 29):=rfl
theorem Dc (c:Bool) (w:World):Calls Tryz.prog 31 #[.bool c] w λe w'=>∃v,e= .returned v/\SY w' v (q7 c)/\Below w.heap.size w w':=by
 obtain⟨z,A,B,C,D⟩:=info_parts Gu;go_enter Tryz.func31,Tryz.ntmps31;go_wp2;go_loopw [3,6] (λk b wr=>∃j:Nat,j<=4/\b= .int .i64 j/\Hid (nC w wr k (nT j))) (λ_ b _=>4-(intOf b).toNat)
 case atStart=>exact⟨0,by omega,rfl,nC.start _⟩
 case round=>
  obtain⟨j,m,rfl,a⟩:=hrel;by_cases p:j<4
  ·have q:Hid ((nT j).length<=100):=by show _<=_;unfold nT;simp;omega
   have r:=Lib.hid (JF j);generalize nT j=l at*;have E:(j:Int)<4:=oO;go_wp2_with((with_reducible show wpList _ _ _ (⟨_,Op.call ⟨Callee.builtin Builtin.append,_,_⟩,_,_,_,_⟩::_) _ _);(refine nU (base:=w.heap.size) (l:=l) (au a.out.O (ax _ _)) (by have:=a.out.B.size;simp;omega) rfl _ _ rfl rfl ⟨wr.heap.size,0,none⟩ 1 1 [(j+1,true)] rfl rfl (ur wr [(j+1,true)] _) (by have:=q.out;omega) ?_;intro v1 n f hg _;have o:Hid (nC w n v1 (l++[(j+1,true)])):=a.out.grow (ax _ _) f hg;clear f hg))
   exact⟨⟨j+1,by omega,by go_num,by show nC _ _ _ _;rw[r.out];exact o.out⟩,by simp[intOf];omega⟩
  ·have u:Hid (j=4):=by show _=_;omega
   have F:decide (j<4)=false:=by simp;omega
   have G:4<=j:=oO;have g:Hid (nC w wr u3 (nT 4)):=by show nC _ _ _ _;rw[<-u.out];exact a.out
   clear a p m;cases c with
   |true=>
    go_wp2;go_ret;exact⟨_,rfl,by rw[AY,if_pos rfl,List.append_nil];exact g.out.sp,g.out.B⟩
   |false=>
    have s:Hid (nC w wr u3 (nT 4++s7 0)):=g.out;clear g;go_wp2;go_loopw [3,5] (λk b wr=>∃j:Nat,j<=29/\b= .int .i64 ((j+4:Nat):Int)/\Hid (nC w wr k (nT 4++s7 j))) (λ_ b _=>33-(intOf b).toNat)
    case atStart=>exact⟨0,by omega,rfl,s.out⟩
    case round=>
     clear s;obtain⟨j,m,rfl,a⟩:=hrel;obtain⟨i,d⟩:∃i,i=j+4:=⟨_,rfl⟩;rw[<-d];by_cases p:j<29
     ·have q:Hid ((nT 4++s7 j).length<=100):=by show _<=_;unfold nT s7;simp;omega
      have r:Hid (nT 4++s7 (j+1)=(nT 4++s7 j)++[(i,false)]):=by show _=_;rw[JA,d,List.append_assoc]
      generalize nT 4++s7 j=l at*;have H:(i:Int)<=32:=oO;have t:=Lib.hid d;clear d;go_wp2_with((with_reducible show wpList _ _ _ (⟨_,Op.call ⟨Callee.builtin Builtin.append,_,_⟩,_,_,_,_⟩::_) _ _);(refine nU (base:=w.heap.size) (l:=l) (au a.out.O (ax _ _)) (by have:=a.out.B.size;simp;omega) rfl _ _ rfl rfl ⟨wr.heap.size,0,none⟩ 1 1 [(i,false)] rfl rfl (ur wr [(i,false)] _) (by have:=q.out;omega) ?_;intro v1 n f hg _;have o:Hid (nC w n v1 (l++[(i,false)])):=a.out.grow (ax _ _) f hg;clear f hg))
      exact⟨⟨j+1,by omega,by show Value.int _ _=_;congr 1;have:=t.out;omega,by show nC _ _ _ _;rw[r.out];exact o.out⟩,by have:=t.out;simp[intOf];omega⟩
     ·have x:i=33:=oO;have y:j=29:=oO;subst x y;clear p m d;go_wp2;go_ret;exact⟨_,rfl,by rw[AY,if_neg oD];exact a.out.sp,a.out.B⟩
theorem Ci (L:Nat) (c:Bool) (k size g:Nat) (w:World) (t:L<=32) (O:k<=100000) (hs:size<=100000) (P:g<=100):Calls Tryz.prog 34 #[bD L c,.int .i64 k,.int .i64 size,.int .i64 g] w λe w'=>e= .returned (.bool (vL L c k size g))/\Below w.heap.size w w':=by
 have a:=eK w L c;have B:Hid (∀W,Calls Tryz.prog 57 #[.bool c] W λe w'=>e= .returned (.int .i64 ((gK c:Nat):Int))/\w'=W):=λW=>tS c W;have C:Hid (∀W,Calls Tryz.prog 33 #[bD L c] W λe w'=>e= .returned (.int .i64 ((aq L:Nat):Int))/\Below W.heap.size W w'):=λW=>kR L c W t;have V:Hid (∀W,Calls Tryz.prog 44 #[bD L c] W λe w'=>e= .returned (.int .i64 ((aD L c:Nat):Int))/\Below W.heap.size W w'):=λW=>nB L c W t;have v:Hid (vL L c k size g=(decide (k<=gK c)&&decide (aq L* k+size* g/100+11<=aq L* aD L c))):=rfl;have X:gK c<=2048:=by cases c<;>decide
 have x:aq L<=12:=by rcases eQ L with h|h|h|h<;>omega
 have D:=pc (c:=c) t;have j:Hid (af (w.alloc (bC L c)) (w.alloc (bC L c)).drew):=ai (Below.refl _ _);have J:Hid (∀W,af (w.alloc (bC L c)) W->Below w.heap.size w W):=λW u=>cH u;generalize gK c=l at*;generalize aq L=z at*;generalize aD L c=A at*;obtain⟨p1,p⟩:∃p1,p1=z* k:=⟨_,rfl⟩;obtain⟨p2,q⟩:∃p2,p2=size* g:=⟨_,rfl⟩;obtain⟨f,y⟩:∃f,f=p2/100:=⟨_,rfl⟩;obtain⟨d,r⟩:∃d,d=z* A:=⟨_,rfl⟩;have ab:p1<=1200000:=by rw[p];exact Nat.mul_le_mul x O
 have ac:p2<=10000000:=by rw[q];exact Nat.mul_le_mul hs P
 have ad:d<=48000:=by rw[r];exact Nat.mul_le_mul x D
 have al:f<=100000:=oO;have am:(z:Int)* (k:Int)=(p1:Int):=by rw[p];simp
 have ap:(size:Int)* (g:Int)=(p2:Int):=by rw[q];simp
 have av:(p2:Int)/100=(f:Int):=by rw[y];simp
 have a0:(z:Int)* (A:Int)=(d:Int):=by rw[r];simp
 have a1:IntKind.i64.wrap (p1:Int)=(p1:Int):=aF _ oO oO;have a2:IntKind.i64.wrap (p2:Int)=(p2:Int):=aF _ oO oO;have a3:IntKind.i64.wrap (f:Int)=(f:Int):=aF _ oO oO;have a4:IntKind.i64.wrap (d:Int)=(d:Int):=aF _ oO oO;obtain⟨o,Y⟩:∃o,o=p1+f:=⟨_,rfl⟩;obtain⟨i,E⟩:∃i,i=p1+f+11:=⟨_,rfl⟩;have a5:IntKind.i64.wrap ((p1:Int)+(f:Int))=(o:Int):=by rw[aF _ oO oO];omega
 have a6:IntKind.i64.wrap ((o:Int)+11)=(i:Int):=by rw[aF _ oO oO];omega
 rw[<-p,<-q,<-y,<-r,<-E]at v;clear p q y r Y E X x D;by_cases m:k<=l
 ·have Z:(k:Int)<=(l:Int):=oO;have s:Hid (vL L c k size g=decide (i<=d)):=by show _=_;rw[v.out,decide_eq_true m,Bool.true_and]
  obtain⟨b,hb⟩:∃b,b=decide (i<=d):=⟨_,rfl⟩;have a7:decide ((i:Int)<=(d:Int))=b:=by rw[hb,decide_eq_decide];omega
  rw[<-hb]at s;have a8:decide (i<=d)=b:=hb.symm;clear hb m;go_enter Tryz.func34,Tryz.ntmps34;go_wp2;refine yO (af (w.alloc (bC L c))) [1,2,3,0,4,0,5,6,7,9,11,12,13,14,17,19,0,8,0,10,15,16,0,18,20,0,21,22,23,24] j.out ?_
  repeat first|refine zO a.out ?_|refine zX a.out ?_
  refine zZ ?_;refine(B.out _).mono ?_;rintro e Q ⟨rfl,n⟩;rw[n];clear n;refine⟨_,rfl,j.out,jO ?_⟩
  repeat first|refine zO a.out ?_|refine zX a.out ?_
  refine zZ ?_;refine(C.out _).mono ?_;rintro e S ⟨rfl,K⟩;have F:Hid (af (w.alloc (bC L c)) S):=ae j.out K;clear K;refine⟨_,rfl,F.out,jO ?_⟩
  repeat first|refine zO a.out ?_|refine zX a.out ?_
  refine zZ ?_;refine(C.out _).mono ?_;rintro e T ⟨rfl,M⟩;have G:Hid (af (w.alloc (bC L c)) T):=ae F.out M;clear M;refine⟨_,rfl,G.out,jO ?_⟩
  repeat first|refine zO a.out ?_|refine zX a.out ?_
  refine zZ ?_;refine(V.out _).mono ?_;rintro e U ⟨rfl,N⟩;have H:Hid (af (w.alloc (bC L c)) U):=ae G.out N;clear N;refine⟨_,rfl,H.out,jO ?_⟩
  repeat first|refine zO a.out ?_|refine zX a.out ?_
  refine ag ?_;go_wp2;go_ret;exact⟨by rw[s.out];rfl,J.out _ H.out⟩
 ·have Z:¬(k:Int)<=(l:Int):=oO;have a9:decide (k<=l)=false:=decide_eq_false m;have s:Hid (vL L c k size g=false):=by show _=_;rw[v.out,decide_eq_false m,Bool.false_and]
  have bb:l<k:=oO;clear m;go_enter Tryz.func34,Tryz.ntmps34;go_wp2;refine yO (af (w.alloc (bC L c))) [1,2,3,0,4,0,5,6,7,9,11,12,13,14,17,19,0,8,0,10,15,16,0,18,20,0,21,22,23,24] j.out ?_
  repeat first|refine zO a.out ?_|refine zX a.out ?_
  refine zZ ?_;refine(B.out _).mono ?_;rintro e Q ⟨rfl,n⟩;rw[n];clear n;refine⟨_,rfl,j.out,jO ?_⟩
  repeat
   first
   |(refine' mF rfl ?_;simp only[yQ,yU,yX,yY])
   |(refine' lp rfl j.out ?_;simp only[yQ,yU,yX,yY])
   |(refine' pj rfl (λW u=>?_) ?_;rotate_left;(· have bd:=a.out W u;go_simp;rfl);simp only[yQ,yU,yX,yY])
  refine ag ?_;go_wp2;go_ret;exact⟨by rw[s.out];rfl,J.out _ j.out⟩
end
end Go.Proofs.YtmnlkganmgcpbaaGreatDoor
