import Derived.Test.YtmnlkganmgcpbaaGreatDoorQd18
import Derived.Test.YtmnlkganmgcpbaaGreatDoorQd8
set_option maxRecDepth 100000
set_option maxHeartbeats 4000000
set_option linter.unusedVariables false
set_option linter.unusedSectionVars false
set_option linter.unusedSimpArgs false
namespace Go.Proofs.YtmnlkganmgcpbaaGreatDoor
section
open Fl
theorem qB {s p par first:Nat} {w:List Nat} {r:Option (List Nat)} (h:jV s p par first w r):re s p par first w=r:=by
 unfold re;split
 ·rename_i a
  exact(h.1 _ (Classical.choose_spec a)).symm
 ·rename_i a
  cases r with
  |none=>rfl
  |some v=>exact absurd ⟨v,h.2 v rfl⟩ a
section
variable {c s p : Nat} (h : VF c s p)
include h
theorem FC (S:Nat->KF h) (N:Nat):∀n,n<=N->∃C B L m b,kB h S N n C B L m b
 |0,_=>⟨_,_,_,_,_,kB.start h S N⟩
 |n+1,hn=>by
  obtain⟨C,B,L,m,b,hb⟩:=FC S N n oO;by_cases a:conv C S n=0
  ·exact⟨_,_,_,_,_,kB.skip h hb a⟩
  ·have d:(conv C S n* eJ b)* b=conv C S n:=by rw[di,Cl hb.I.b0,gl]
   by_cases e:2* L<=n
   ·exact⟨_,_,_,_,_,kB.grow h hb oO a d e⟩
   ·exact⟨_,_,_,_,_,kB.stay h hb d oO⟩
theorem K0 {par first:Nat} {w:List Nat} (e:ao s w) (hn:w.length<=s-1):jV s p par first w (re s p par first w):=by
 obtain⟨C,B,L,m,b,hb⟩:=FC h (co h (cV s p par first w)) par par (Nat.le_refl _);have hl:=kB.Mf h hb
 let f:Nat->Nat:=λi=>Classical.choose (AD h (C i))
 have a:∀i,f i<s/\aU h (f i)=C i:=λi=>Classical.choose_spec (AD h (C i))
 let q:=ej ((List.range (L+1)).map f)
 have hq:ao s q:=jB (gT h λi _=>(a i).1);have g:co h q=C:=funext λi=>by
  show co h (ej _) i=_;rw[qz,sZ];split
  ·exact(a i).2
  ·exact(hl.cs i oO).symm
 have d:=yc h e hn hq (kK _) (L:=L) (by rw[g];exact hl);rw[qB d];exact d
theorem DQ {par first:Nat} {w v:List Nat} (a:ao s w) (hn:w.length<=s-1) (b:Fix s p par first w v):re s p par first w=some v:=(K0 h a hn).1 v b
end
end
section
open Go.RowKit
noncomputable def bF (l:List UInt8):List Bool:=@dite _ (∃C,cj (bA l) C) (Classical.propDecidable _) (λh=>pZ (bA l) (Classical.choose h)) (λ_=>[])
theorem nZ {l:List UInt8} {C:Nat->Nat->Nat} (hl:l.length<=4096) (h:cj (bA l) C):bF l=pZ (bA l) C:=by
 unfold bF;rw[dif_pos ⟨C,h⟩];exact(xg (by rw[fC];exact hl) (Classical.choose_spec (⟨C,h⟩:∃C,cj (bA l) C)) h).1
theorem qX {l:List UInt8} {C:Nat->Nat->Nat} (hl:l.length<=2078) (h:cj (bA l) C):(bF l).length<=8* l.length+21:=by
 have hs:(bA l).size<=4096:=by rw[fC];omega
 rw[nZ oO h,rQ hs h];exact EV hl (h.ac hs)
def vb (L:Nat) (c:Bool) (k size a:Nat):Bool:=decide (k<=gj c)&&decide (aq L* k+size* a/100+11<=aq L* ay L c)
def qC (c:Bool):List (Nat×Bool):=(List.range 4).map (λi=>(i+1,true))++(if c=true then[]else(List.range 29).map λi=>(i+4,false))
def xo (a:Nat) (b:Bool):List (Nat×Bool):=if a=0 then qC b else[(a,b)]
def jI (t:List Bool) (a:Nat) (p:Nat×Bool):Bool:=vb p.1 p.2 (aJ t (aq p.1)).length t.length a
def fO (t:List Bool) (c a:Nat) (b:Bool):Option (Nat×Bool):=(xo a b).find? (jI t c)
noncomputable def ka (L:Nat) (c:Bool) (k:Nat):List Bool:=bH (gL 16 19 (eF c) 1 (bj (aH (L-1) (e8 c)++aH (k-1) (gB c)) 4 (if c=true then 2 else 4))) 4
noncomputable def mL (L:Nat) (c:Bool) (a:List Nat):List Nat:=gL (2^aq L) (jU (aq L)) (ay L c-a.length) 1 a
noncomputable def lV (L:Nat) (c:Bool) (a:List Nat):List Bool:=bH (mL L c a) (aq L)
noncomputable def eo (L:Nat) (c:Bool) (a:List Nat):List Bool:=pQ L c (lV L c a) (ka L c a.length)
def jG (n:Nat) (a:Int) (c:Bool) (b:Int):Int:=if 4096<n then 4 else if n=0 then 5 else if a≠0/\dN a c=false then 14 else if b<5\/90<b then 3 else 0
noncomputable def kT (l:List UInt8) (a:Int) (b:Bool) (c:Int):Option (Nat×Bool)×Int:=
 if jG l.length a b c≠0 then(none,jG l.length a b c)else match fO (bF l) c.toNat a.toNat b with
  |some p=>(some p,0)
  |none=>(none,16)
def dW (W H:Int) (N:Nat):Bool:=decide (1<=W)&&decide (W<=4096)&&decide (1<=H)&&decide (H<=4096)&&decide (W* H<=4194304)&&decide ((N:Int)=W* H)
def cK (n:Nat) (c:Bool):Bool:=(List.range 32).any λi=>dN ((i+1:Nat):Int) c&&(ai (i+1) c==n)
def gQ (n C:Nat) (c:Bool) (d:List Bool):Bool:=(List.range (n* n)).all λi=>!(decide (ia C (i%n,i/n)<aM c))||(d.getD i false==(ia C (i%n,i/n)%2==0))
def nG (n C:Nat) (c:Bool) (d:List Bool):Bool:=(cE n d (bI C (aM c))==cQ)&&(cE n d (bg C (aM c))==gS)
def jE (n:Nat) (d:List Bool):Option Bool:=if(cK n false&&gQ n ((n-1)/2) false d)=true then some false else if(cK n true&&gQ n ((n-1)/2) true d)=true then some true else none
noncomputable def kn (c:Bool) (b:List Bool):Option (Nat×Nat):=(re 16 19 (eF c) 1 (bj b 4 (b.length/4))).map λv=>(numF (bH v 4) 0 (e8 c)+1,numF (bH v 4) (e8 c) (gB c)+1)
def lO (n L:Nat) (c:Bool) (d:List Bool):List Nat:=bj ((cE n d (bp L c)).drop ((bp L c).length-ay L c* aq L)) (aq L) (ay L c)
noncomputable def mS (v a:List Nat) (k w:Nat):List UInt8×Int×Int:=
 if(aQ (zN (v.take k)) w).2≠0 then([],0,(aQ (zN (v.take k)) w).2)
 else if(dQ (aQ (zN (v.take k)) w).1).2≠0 then([],0,(dQ (aQ (zN (v.take k)) w).1).2)
 else((dQ (aQ (zN (v.take k)) w).1).1,((dX a v).length:Int),0)
noncomputable def gM (n L:Nat) (c:Bool) (k:Nat) (d:List Bool):List UInt8×Int×Int:=
 match re (2^aq L) (jU (aq L)) (ay L c-k) 1 (lO n L c d)with
 |none=>([],0,17)
 |some v=>mS v (lO n L c d) k (aq L)
noncomputable def jx (n:Nat) (d:List Bool) (c:Bool):List UInt8×Int×Int:=
 if nG n ((n-1)/2) c d=false then([],0,18)else match kn c (cE n d (cn ((n-1)/2) c))with
  |none=>([],0,21)
  |some q=>if(dN (q.1:Int) c&&(ai q.1 c==n)&&decide (q.2<ay q.1 c))=true then gM n q.1 c q.2 d else([],0,21)
noncomputable def cu (W H:Int) (d:List Bool):List UInt8×Int×Int:=
 if dW W H d.length=false then([],0,1)
 else if W≠H\/(cK W.toNat true=false/\cK W.toNat false=false)then([],0,23)
 else match jE W.toNat d with
  |none=>([],0,18)
  |some c=>jx W.toNat d c
theorem AE (a b:List Nat) (s:Nat):bH (a++b) s=bH a s++bH b s:=by unfold bH;rw[List.flatMap_append]
theorem vY (x r:List Bool) (n j:Nat):numF (x++r) (x.length+n) j=numF r n j:=by
 have h:=nt (x++r) x.length n j;rw[List.drop_left]at h;exact h.symm
theorem xc (s:Nat):∀(l:List Nat),ao (2^s) l->∀i,i<l.length->numF (bH l s) (i* s) s=l.getD i 0
 |[],_,i,a=>absurd a oS
 |x::l,hl,i,a=>by
  have e:bH (x::l) s=aH x s++bH l s:=by unfold bH;rw[List.flatMap_cons]
  rw[e];cases i with
  |zero=>
   rw[Nat.zero_mul,eW s x _ (hl 0)];rfl
  |succ i=>
   have h:=vY (aH x s) (bH l s) (i* s) s;rw[aN]at h;rw[Nat.succ_mul,Nat.add_comm,h,xc s l (λj=>hl (j+1)) i (by simpa using a)];rfl
theorem wO {l:List Nat} {s:Nat} (hl:ao (2^s) l):bj (bH l s) s l.length=l:=by
 refine cZ (dc _ _ _) λi a=>?_;rw[dc]at a;unfold bj;rw[bw _ _ _ a,xc s l hl i a]
theorem xn (b:List Bool) (s:Nat):∀m,m* s<=b.length->bH (bj b s m) s=b.take (m* s)
 |0,_=>by rw[Nat.zero_mul,List.take_zero];rfl
 |m+1,h=>by
  have c:m* s+s<=b.length:=by rw[Nat.succ_mul]at h;exact h
  have a:=nt b (m* s) 0 s;rw[Nat.add_zero]at a;rw[uw,wK,xn b s m oO,<-a,yN _ s (by rw[List.length_drop];omega),Nat.succ_mul,List.take_add]
theorem Fi:si 4:= .inl rfl
theorem Kg (c:Bool):fJ 2 16 19 (eF c) 1:=Fo (w:=4) Fi (by cases c<;>decide) (by cases c<;>decide)
theorem I7 {s p par:Nat} {v:List Nat} (hl:ao s v) (hc:∀j,j<par->lT s p 1 v j=0):Fix s p par 1 v v:=
 ⟨hl,rfl,hc,by
  have:dX v v=[]:=by unfold dX;rw[List.filter_eq_nil_iff];simp
  rw[this];exact Nat.zero_le _⟩
def gF (c:Bool):Nat:=if c=true then 2 else 4
theorem Cp (L:Nat) (c:Bool) (k:Nat):ka L c k=bH (gL 16 19 (eF c) 1 (bj (aH (L-1) (e8 c)++aH (k-1) (gB c)) 4 (gF c))) 4:=rfl
theorem Gr {L k:Nat} {c:Bool} (l:1<=L) (y:L<=32) (hc:c=true->L<=4) (m:1<=k) (d:k<=gj c):kn c (ka L c k)=some (L,k):=by
 obtain⟨B,hB⟩:∃B,B=aH (L-1) (e8 c)++aH (k-1) (gB c):=⟨_,rfl⟩;have t:B.length=gF c* 4:=by rw[hB,List.length_append,aN,aN];cases c<;>rfl
 have n:=ni B 4 (gF c);have b:=dc B 4 (gF c);have g:=xn B 4 (gF c) oO;rw[<-t,List.take_length]at g;have a:=ug (yR Fi) (par:=eF c) (first:=1) n;have o:ka L c k=bH (gL 16 19 (eF c) 1 (bj B 4 (gF c))) 4:=by rw[Cp,hB]
 rw[o];change zS 16 19 (eF c) 1 _ (gL 16 19 (eF c) 1 (bj B 4 (gF c)))at a;generalize z:gL 16 19 (eF c) 1 (bj B 4 (gF c))=v at*;have j:=a.ln;rw[b]at j;have u:bj (bH v 4) 4 ((bH v 4).length/4)=v:=by
  rw[jf,Nat.mul_div_cancel _ oO];exact wO (s:=4) a.lt
 have p:re 16 19 (eF c) 1 v=some v:=DQ (yR Fi) a.lt (by rw[j];cases c<;>decide) (I7 a.lt a.cw);have w:v=bj B 4 (gF c)++v.drop (gF c):=by
  have q:v.take (gF c)=bj B 4 (gF c):=by
   refine cZ (by rw[List.length_take,b];omega) λi r=>?_;rw[List.length_take]at r;rw[getD_take,if_pos oO,a.pre i (by rw[b];omega)]
  rw[<-q,List.take_append_drop]
 have x:bH v 4=aH (L-1) (e8 c)++(aH (k-1) (gB c)++bH (v.drop (gF c)) 4):=by
  have e:bH v 4=bH (bj B 4 (gF c)) 4++bH (v.drop (gF c)) 4:=by
   rw[<-AE,<-w]
  rw[e,g,hB,List.append_assoc]
 unfold kn;rw[u,p,Option.map_some,x];have e1:L-1<2^e8 c:=by
  cases c with
  |true=>have:=hc rfl;show L-1<4;omega
  |false=>show L-1<32;omega
 have e2:k-1<2^gB c:=by
  cases c with
  |true=>show k-1<64;have:k<=64:=d;omega
  |false=>show k-1<2048;have:k<=2048:=d;omega
 have f:=vY (aH (L-1) (e8 c)) (aH (k-1) (gB c)++bH (v.drop (gF c)) 4) 0 (gB c);rw[aN,Nat.add_zero]at f;rw[eW _ _ _ e1,f,eW _ _ _ e2,Nat.sub_add_cancel l,Nat.sub_add_cancel m]
theorem Bx {L:Nat} {c:Bool} (a:1<=L) (b:L<=32) (hc:c=true->L<=4):cK (ai L c) c=true:=by
 unfold cK;rw[List.any_eq_true];refine⟨L-1,List.mem_range.2 oO,?_⟩;rw[Nat.sub_add_cancel a,exB_of a b hc];simp
structure ud (L:Nat) (c:Bool) (k:Nat) (d:List Bool):Prop where
 ln:d.length=ai L c* ai L c
 M9:∀p:Pt,p.1<ai L c->p.2<ai L c->ia (aT L c) p<aM c->d.getD (bW (ai L c) p) false=(ia (aT L c) p%2==0)
 Il:cE (ai L c) d (bI (aT L c) (aM c))=cQ
 Kr:cE (ai L c) d (bg (aT L c) (aM c))=gS
 msg:cE (ai L c) d (cn (aT L c) c)=ka L c k
theorem ld (L:Nat) (c:Bool) (b:1<=L) (a:L<=32):15<=ai L c/\ai L c<=161:=by
 have h:=gf (c:=c) a;have d:=jg (c:=c) b a;have e:=Ep c;omega
theorem ud.kind {L:Nat} {c:Bool} {k:Nat} {d:List Bool} (h:ud L c k d) (a:1<=L) (b:L<=32) (hc:c=true->L<=4):jE (ai L c) d=some c:=by
 have hs:=ld L c a b;have g:=Bx a b hc;have n:=jg (c:=c) a b;have w:=Ep c;have j:gQ (ai L c) ((ai L c-1)/2) c d=true:=by
  unfold gQ;rw[List.all_eq_true];intro i l;rw[List.mem_range]at l;have p:i%ai L c<ai L c:=Nat.mod_lt _ oO;have q:i/ai L c<ai L c:=(Nat.div_lt_iff_lt_mul oO).2 l;by_cases o:ia ((ai L c-1)/2) (i%ai L c,i/ai L c)<aM c
  ·have e:=h.M9 (i%ai L c,i/ai L c) p q o;have r:bW (ai L c) (i%ai L c,i/ai L c)=i:=by
    unfold bW;rw[Nat.mul_comm,Nat.add_comm];exact Nat.mod_add_div _ _|>.symm▸rfl
   rw[r]at e;rw[e];show(_||(_==(ia (aT L c) _%2==0)))=true;simp
  ·rw[decide_eq_false o];rfl
 unfold jE;cases c with
 |false=>rw[g,j];rfl
 |true=>
  have s:gQ (ai L true) ((ai L true-1)/2) false d=false:=by
   unfold gQ;rw[List.all_eq_false];obtain⟨C,f⟩:∃C,C=aT L true:=⟨_,rfl⟩;have u:(ai L true-1)/2=C:=f.symm;have v:aM true=5:=rfl;rw[<-f]at n;have x:ai L true=2* C+1:=n.2.2;have m:=h.Il;rw[<-f]at m;have t:d.getD (bW (ai L true) (C-5,C-5)) false=true:=by
    have e2:(cE (ai L true) d (bI C 5)).getD 0 false=cQ.getD 0 false:=by rw[<-v,m]
    exact e2
   refine⟨bW (ai L true) (C-5,C-5),List.mem_range.2 (iF (by show C-5<_;omega) (by show C-5<_;omega)),?_⟩;have e1:bW (ai L true) (C-5,C-5)%ai L true=C-5:=by
    show((C-5)* _+(C-5))%_=_;rw[Nat.mul_comm,Nat.mul_add_mod,Nat.mod_eq_of_lt oO]
   have e2:bW (ai L true) (C-5,C-5)/ai L true=C-5:=by
    show((C-5)* _+(C-5))/_=_;rw[Nat.mul_comm,Nat.mul_add_div oO,Nat.div_eq_of_lt oO,Nat.add_zero]
   rw[e1,e2,u,t];have e3:ia C (C-5,C-5)=5:=by unfold ia lq;simp only;omega
   rw[e3]
   decide
  rw[s,Bool.and_false,if_neg oD,g,j];rfl
theorem ud.dec {L:Nat} {c:Bool} {k:Nat} {d:List Bool} (h:ud L c k d) (g:1<=L) (i:L<=32) (hc:c=true->L<=4) (l:1<=k) (m:k<=gj c) (q:k<ay L c):
 cu (ai L c) (ai L c) d=gM (ai L c) L c k d:=by
 have hs:=ld L c g i;have n:dW (ai L c) (ai L c) d.length=true:=by
  have hq:ai L c* ai L c<=161* 161:=Nat.mul_le_mul hs.2 hs.2;unfold dW;rw[h.ln];simp only[Bool.and_eq_true,decide_eq_true_eq];have e:((ai L c:Nat):Int)* (ai L c:Nat)=((ai L c* ai L c:Nat):Int):=by simp
  rw[e];omega
 unfold cu;rw[n,if_neg oD,if_neg,show((ai L c:Nat):Int).toNat=ai L c from rfl,h.kind g i hc]
 ·show jx (ai L c) d c=_;unfold jx;have o:nG (ai L c) ((ai L c-1)/2) c d=true:=by
   unfold nG;have a:=h.Il;have b:=h.Kr;unfold aT at a b;rw[a,b];rfl
  have p:kn c (cE (ai L c) d (cn ((ai L c-1)/2) c))=some (L,k):=by
   have a:=h.msg;unfold aT at a;rw[a,Gr g i hc l m]
  rw[o,if_neg oD,p];show(if _ then _ else _)=_;rw[if_pos];rw[exB_of g i hc,decide_eq_true q];simp
 ·have j:=Bx g i hc;rintro(f|f)
  ·exact f rfl
  ·rw[show((ai L c:Nat):Int).toNat=ai L c from rfl]at f;cases c with
   |true=>rw[j]at f;cases f.1
   |false=>rw[j]at f;cases f.2
theorem Ip {l:List UInt8} {C:Nat->Nat->Nat} (hl:l.length<=60) (f:cj (bA l) C) {n L:Nat} {c:Bool} (m:1<=L) (o:L<=32) (hc:c=true->L<=4) {a:List Nat} (r:a=aJ (bF l) (aq L)) (w:a.length<ay L c) {d:List Bool}
 (p:Fix (2^aq L) (jU (aq L)) (ay L c-a.length) 1 (lO n L c d) (mL L c a)):gM n L c a.length d=(l,((dX (lO n L c d) (mL L c a)).length:Int),0):=by
 have x:=qX oO f;have y:=fu L;obtain⟨e,e1,e2,e3,e4,e5,e6,e7⟩:=kN (bF l) (aq L) oO oO oO;rw[<-r]at e3 e4 e5 e6 e7;have s:ao (2^aq L) a:=λi=>by
  rcases Nat.lt_or_ge i a.length with b|b
  ·have:a.getD i 0∈a:=by simp only[List.getD,List.getElem?_eq_getElem b,Option.getD_some];exact List.getElem_mem b
   have:=(e6 _ this).2;omega
  ·rw[lk b];exact Nat.two_pow_pos _
 have g:=ug (yR (kW L)) (par:=ay L c-a.length) (first:=1) s;have t:=tj m o hc;have q:re (2^aq L) (jU (aq L)) (ay L c-a.length) 1 (lO n L c d)=some (mL L c a):=DQ (yR (kW L)) (ni _ _ _) (by rw[show(lO n L c d).length=ay L c from dc _ _ _];exact t.1) p;have u:(mL L c a).take a.length=a:=by
  refine cZ (by rw[List.length_take,show(mL L c a).length=_ from g.ln];omega) λi b=>?_;rw[List.length_take]at b;rw[getD_take,if_pos oO];exact g.pre i oO
 unfold gM;rw[q];show mS _ _ _ _=_;unfold mS;rw[u,e3];show(if _ then _ else if(dQ (ik (bF l) 0 e)).2≠0 then _ else _)=_;have v:ik (bF l) 0 e=bF l++List.replicate (e-(bF l).length) true:=by
  apply List.ext_getElem?;intro i;unfold ik;by_cases b:i<e
  ·rw[List.getElem?_map,List.getElem?_range b,Option.map_some,Nat.zero_add];by_cases j:i<(bF l).length
   ·rw[List.getElem?_append_left j,List.getD,List.getElem?_eq_getElem j,Option.getD_some]
   ·rw[List.getElem?_append_right oO,List.getElem?_replicate,if_pos oO,List.getD,List.getElem?_eq_none oO,Option.getD_none]
  ·rw[List.getElem?_eq_none oT,List.getElem?_eq_none oT]
 rw[if_neg oS,v];have k:=J4 (l:=l) oO f (e-(bF l).length) oO;rw[<-nZ oO f]at k;rw[k];simp
theorem bu.sr {w:World} {db:Nat} {l:List Bool} (h:bu w db l) {n:Nat} (hn:n=l.length) (a:n<=maxLen):SR vB false w (some ⟨db,0,none⟩) n n l:=
 ⟨hn,Nat.le_refl _,a,λ_=>⟨⟨db,0,none⟩,rfl,au h,λj b=>by rw[add_plain,Nat.zero_add];exact h.cell b⟩⟩
theorem E5 (n:Nat):madeCells (Value.bool false).cells n=((List.replicate n false).map vB).toArray:=by
 show madeCells #[Value.bool false] n=_;apply Array.ext';simp only[madeCells,Array.toList_map,vB,List.map_replicate];apply List.ext_getElem oS;intro i a b;simp[Nat.mod_one]
theorem xv (n:Nat) (hn:n<=100000000) (W:World):(Instr.makeSlice 26 (.int .i64 (n:Int)) (.int .i64 (n:Int))).run Tryz.prog W= .ok (.slice (some ⟨W.heap.size,0,none⟩) n n) (W.alloc (.cells ((List.replicate n false).map vB).toArray 4)):=by
 obtain⟨a,b,c,d,e⟩:=info_parts iO;have h:=run_make (P:=Tryz.prog) W 26 4 a (.bool false) Tryz.underlying26 b c .i64 .i64 (n:Int) (n:Int) oO oO (by rw[e];omega) oO;rw[d,Nat.mul_one]at h;simp only[Int.toNat_natCast]at h;rw[E5]at h;exact h
theorem bu.new (W:World) (l:List Bool):bu (W.alloc (.cells (l.map vB).toArray 4)) W.heap.size l:=aa.new _ _ _ _ oS
theorem SP.lit (W:World) (ys:List Pt) (t:TypeId) (b n:Nat) (hb:b=W.heap.size) (hn:n=ys.length) (d:n<=maxLen):SP (W.alloc (.cells (ys.flatMap eY).toArray t)) (.slice (some ⟨b,0,none⟩) n n) ys:=by
 subst hb hn;refine⟨_,_,rfl,Nat.le_refl _,d,λ_=>⟨_,0,rfl,by simp,λj e=>?_⟩⟩;have h:=BF ys j e;have a:=ga W ys t _ _ h.1;have c:=ga W ys t _ _ h.2;rw[add_plain,Nat.zero_add]at a c;rw[Nat.zero_add,Nat.mul_comm];exact⟨a,c⟩
theorem pk (s C m:Nat) (c:Bool) (w:World) (H:m<=C) (K:C<=1000000) (J:5<=m):Calls Tryz.prog 88 #[bO s c C m] w λe w'=>∃v u,e= .returned (.tuple #[v,u])/\fM w.heap.size w' v (bI C m)/\fM w.heap.size w' u (bg C m)/\Below w.heap.size w w':=by
 obtain⟨a,o⟩:∃a,a=C-m:=⟨_,rfl⟩;obtain⟨f,p⟩:∃f,f=C-m+1:=⟨_,rfl⟩;obtain⟨b,hb⟩:∃b,b=C+m:=⟨_,rfl⟩;obtain⟨i,q⟩:∃i,i=C+m-1:=⟨_,rfl⟩;have e1:(C:Int)-(m:Int)=(a:Int):=oO;have e2:(a:Int)+1=(f:Int):=oO;have e3:(C:Int)+(m:Int)=(b:Int):=oO;have e4:(b:Int)-1=(i:Int):=oO;have y:Hid (bI C m=[(a,a),(f,a),(a,f),(b,a),(b,f),(b,i)]):=by show _=_;rw[o,p,hb,q];rfl
 have z:Hid (bg C m=[(i,a),(b,b),(i,b),(a,b),(f,b),(a,i)]):=by show _=_;rw[o,p,hb,q];rfl
 have L:a<=10000000:=oO;have M:b<=10000000:=oO;have O:f<=10000000:=oO;have P:i<=10000000:=oO;clear o p hb q;obtain⟨g,n⟩:∃g,g=w.alloc (.cells #[.int .i64 (s:Int),.bool c,.int .i64 (C:Int),.int .i64 (m:Int)] 71):=⟨_,rfl⟩;have E:Hid (Below w.heap.size w g):=by show Below _ _ _;rw[n];exact ax _ _
 have t:Hid (aa g w.heap.size #[.int .i64 (s:Int),.bool c,.int .i64 (C:Int),.int .i64 (m:Int)] 71):=by show aa _ _ _ _;rw[n];exact aa.new _ _ _ _ oS
 have B:Hid (∀W,af g W->W.cell? ⟨w.heap.size,2,none⟩=some (.int .i64 (C:Int))/\W.cell? ⟨w.heap.size,3,none⟩=some (.int .i64 (m:Int))):=λW j=>⟨(t.out.below j).cell 2 _ rfl,(t.out.below j).cell 3 _ rfl⟩;have x:Hid (Below w.heap.size w g.drew):=aj E.out;go_enter Tryz.func88,Tryz.ntmps88;go_wp2;rw[<-n];clear n;refine yO (af g) [1,2,3,4,5,6] (aj (Below.refl _ _)) ?_
 repeat refine zO B.out ?_
 refine ag ?_;have N:=Lib.hid x.out.size;have F:Hid (∀W:World,Below w.heap.size w W->Below w.heap.size w (W.alloc (.cells ((bI C m).flatMap eY).toArray 47))/\fM w.heap.size (W.alloc (.cells ((bI C m).flatMap eY).toArray 47)) (.slice (some ⟨W.heap.size,0,none⟩) 6 6) (bI C m)):=by
  show∀W:World,_;intro W j;exact⟨ah j _,SP.lit W _ _ _ 6 rfl rfl oM,λA m k D d l=>by injection d with d _ _;rw[l]at d;injection d with d;rw[<-d];exact j.size⟩
 have G:Hid (∀W:World,Below w.heap.size w W->Below w.heap.size w (W.alloc (.cells ((bg C m).flatMap eY).toArray 47))/\fM w.heap.size (W.alloc (.cells ((bg C m).flatMap eY).toArray 47)) (.slice (some ⟨W.heap.size,0,none⟩) 6 6) (bg C m)):=by
  show∀W:World,_;intro W j;exact⟨ah j _,SP.lit W _ _ _ 6 rfl rfl oM,λA m k D d l=>by injection d with d _ _;rw[l]at d;injection d with d;rw[<-d];exact j.size⟩
 go_wp2;go_ret2
 have d:=F.out g.drew x.out;have l:=G.out _ d.1;rw[y.out]at d l⊢;rw[z.out]at l⊢;have r:=l.2;rw[show(g.drew.alloc (.cells (([(a,a),(f,a),(a,f),(b,a),(b,f),(b,i)]:List Pt).flatMap eY).toArray 47)).heap.size=g.heap.size+1 from by simp]at r;exact⟨_,_,rfl,d.2.below (ax _ _),r,l.1⟩
theorem vV {d:Array Oper} {S:World->Prop} {K:Act->World->Prop} {r:List (Bool×Nat×Oper)} {k:Nat} {b:Oper} {a:Act} {W:World} {l c:Operand} (i:Region.wanted b (yielded d a.tmps)=true) (e:b.op= .makeSlice 26 l c) (n:Nat) (hn:n<=100000000) (hl:a.eval l= .int .i64 (n:Int)) (hc:a.eval c= .int .i64 (n:Int))
 (f:S (W.alloc (.cells ((List.replicate n false).map vB).toArray 4))) (g:bB Tryz.prog d S K r (a.put b.dst (.slice (some ⟨W.heap.size,0,none⟩) n n)) (W.alloc (.cells ((List.replicate n false).map vB).toArray 4))):bB Tryz.prog d S K ((true,k,b)::r) a W:=by
 refine gR i ?_ f g;have h:=xv n hn W;unfold execOp;simp only[e,hl,hc,Sem.run_bind,Sem.run_pure,Result.andThen_ok,h]
theorem fN {i:Array Oper} {S:World->Prop} {K:Act->World->Prop} {r:List (Bool×Nat×Oper)} {k:Nat} {d:Oper} {a:Act} {W:World} (g:TypeId) (y:Region.wanted d (yielded i a.tmps)=true) (p x:Operand) (l:d.op= .store g p x) (t:TypeId) (b:Nat) (f:Array Value) (c:List Value) (m:aa W b f t)
 (n:a.eval p= .pointer (some ⟨b,0,none⟩)) (o:a.eval x= .agg c.toArray) (q:(Tryz.prog.info? g).map (·.size)=some c.length) (z:c.length=f.size) (s:∀v∈c,v.oneCell'=true)
 (u:S (W.setRow b c.toArray)) (w:bB Tryz.prog i S K r (a.put d.dst undef) (W.setRow b c.toArray)):bB Tryz.prog i S K ((true,k,d)::r) a W:=by
 have j:=ku (P:=Tryz.prog) W t g b 0 f c m q oO s;have e:(splice f.toList 0 c).toArray=c.toArray:=by
  unfold splice;rw[List.take_zero,List.nil_append,List.drop_eq_nil_of_le (by simp[z]),List.append_nil]
 rw[e]at j;refine .inl ⟨y,?_⟩;unfold execOp;simp only[l,n,o,Instr.storeAt,Instr.sureAddr,Sem.run_bind,Sem.run_pure,Result.andThen_ok,j];exact⟨u,w⟩
theorem DV:(Tryz.prog.info? 28).map (·.zero)=some (some (.agg #[.int .i64 0,.int .i64 0,.slice none 0 0])):=oK
theorem Ks:(Tryz.prog.info? 28).map (·.size)=some 3:=oK
theorem bu.row {w:World} {db b:Nat} {l:List Bool} (h:bu w db l) (a:Array Value) (c:db≠b):bu (w.setRow b a) db l:=aa.other h a c
abbrev aS (n:Nat) (c:Bool) (C m:Nat):Array Value:=#[.int .i64 (n:Int),.bool c,.int .i64 (C:Int),.int .i64 (m:Int)]
abbrev pK (n H db N:Nat):List Value:=[.int .i64 (n:Int),.int .i64 (H:Int),.slice (some ⟨db,0,none⟩) N N]
def mB (a W:World) (n N db b:Nat):Prop:=bu W db (List.replicate N false)/\aa W b (pK n n db N).toArray 28/\Below a.heap.size a W/\a.heap.size<=db/\a.heap.size<=b/\db≠b
def M1 (d:World) (n N b:Nat) (a a':Act) (W:World):Prop:=∃db c,a'=(((((((((((a.put (some 14) (.pointer (some ⟨b,0,none⟩))).put (some 15) (.int .i64 n)).put (some 16) (.pointer (some ⟨b,0,none⟩))).put (some 17) (.int .i64 n)).put (some 18) (.pointer (some ⟨b,0,none⟩))).put (some 19) (.int .i64 n)).put (some 20) (.pointer (some ⟨b,0,none⟩))).put (some 21) (.int .i64 n)).put (some 22) (.int .i64 N)).put (some 23) (.slice (some ⟨db,0,none⟩) N N)).put (some 24) (.agg (pK n n db N).toArray)).put (some 3) (.pointer (some ⟨c,0,none⟩))/\mB d W n N db c
theorem mB.a {b a:World} {n N:Nat} (c:Below b.heap.size b a):mB b (((a.alloc (.cells ((List.replicate N false).map vB).toArray 4)).alloc (.cells #[.int .i64 0,.int .i64 0,.slice none 0 0] 28)).setRow (a.heap.size+1) (pK n n a.heap.size N).toArray) n N a.heap.size (a.heap.size+1):=by
 have d:bu (a.alloc (.cells ((List.replicate N false).map vB).toArray 4)) a.heap.size (List.replicate N false):=bu.new _ _;have e:aa ((a.alloc (.cells ((List.replicate N false).map vB).toArray 4)).alloc (.cells #[.int .i64 0,.int .i64 0,.slice none 0 0] 28)) (a.heap.size+1) #[.int .i64 0,.int .i64 0,.slice none 0 0] 28:=aa.new _ _ _ _ oS;have hs:=c.size;refine⟨(d.below (ax _ _)).row _ oO,aa.set e _,below_setRow (ah (ah c _) _) oO _,hs,by omega,by omega⟩
theorem mB.b {b a:World} {n N:Nat} (c:Below b.heap.size b a):mB b (((a.alloc (.cells #[.int .i64 0,.int .i64 0,.slice none 0 0] 28)).alloc (.cells ((List.replicate N false).map vB).toArray 4)).setRow a.heap.size (pK n n (a.heap.size+1) N).toArray) n N (a.heap.size+1) a.heap.size:=by
 have d:aa (a.alloc (.cells #[.int .i64 0,.int .i64 0,.slice none 0 0] 28)) a.heap.size #[.int .i64 0,.int .i64 0,.slice none 0 0] 28:=aa.new _ _ _ _ rfl;have e:bu ((a.alloc (.cells #[.int .i64 0,.int .i64 0,.slice none 0 0] 28)).alloc (.cells ((List.replicate N false).map vB).toArray 4)) (a.heap.size+1) (List.replicate N false):=aa.new _ _ _ _ oS;have hs:=c.size;refine⟨e.row _ oO,aa.set (d.below (ax _ _)) _,below_setRow (ah (ah c _) _) oO _,by omega,hs,by omega⟩
def lM (n C:Nat) (c:Bool) (j:Nat):List Bool:=(List.range (n* n)).map λi=>decide (i<j)&&nN C c (i%n,i/n)
theorem JC (n C:Nat) (c:Bool):lM n C c 0=List.replicate (n* n) false:=by
 unfold lM;apply List.ext_getElem oS;intro i a b;simp
theorem KN (n C:Nat) (c:Bool):lM n C c (n* n)=cB n C c:=by
 unfold lM cB;apply List.map_congr_left;intro i a;rw[decide_eq_true (List.mem_range.1 a),Bool.true_and]
theorem qJ (n C:Nat) (c:Bool) (j:Nat):(lM n C c j).length=n* n:=by unfold lM;simp
theorem DH {n C:Nat} {c:Bool} {j i:Nat} (h:i<(lM n C c j).length):(lM n C c j)[i]=(decide (i<j)&&nN C c (i%n,i/n)):=by simp[lM]
theorem II {n C:Nat} {c:Bool} {j:Nat}:(lM n C c j).set j (nN C c (j%n,j/n))=lM n C c (j+1):=by
 apply List.ext_getElem (by rw[List.length_set,qJ,qJ]);intro i b a;rw[List.getElem_set,DH a];by_cases h:j=i
 ·subst h;rw[if_pos rfl,decide_eq_true oO,Bool.true_and]
 ·rw[if_neg h,DH];have:decide (i<j)=decide (i<j+1):=by rw[decide_eq_decide];omega
  rw[this]
theorem I3 {n C:Nat} {c:Bool} {j:Nat} (h:nN C c (j%n,j/n)=false):lM n C c (j+1)=lM n C c j:=by
 unfold lM;apply List.map_congr_left;intro i _;by_cases e:i=j
 ·subst e;rw[h,Bool.and_false,Bool.and_false]
 ·have:decide (i<j)=decide (i<j+1):=by rw[decide_eq_decide];omega
  rw[this]
theorem Gd (n C m:Nat) (c:Bool) (w:World) (c3:m=aM c) (c4:m<=C) (hn:n=2* C+1) (ea:n<=1000):Calls Tryz.prog 83 #[bO n c C m] w λe w'=>∃db N,N=n* n/\e= .returned (ER n n db N)/\w.heap.size<=db/\bu w' db (jY n C c)/\Below w.heap.size w w':=by
 obtain⟨N,be⟩:∃N,N=n* n:=⟨_,rfl⟩;have it:N<=1000000:=by rw[be];exact Nat.mul_le_mul ea ea
 have iv:(n:Int)* (n:Int)=(N:Int):=by rw[be];simp
 have ih:IntKind.i64.wrap (N:Int)=(N:Int):=aG _ oO oO;have fx:5<=m/\m<=7:=by rw[c3];cases c<;>decide
 have c5:=Lib.hid c3;have a5:=Lib.hid be;have ix:Hid ((bI C m).length=6/\(bg C m).length=6):=⟨rfl,rfl⟩;have g4:Hid (∀p∈bI C m,p.1<=1000/\p.2<=1000/\bW n p<N):=by
  show∀p∈_,_;intro p c6;have h:=mA (C:=C) (s:=m) oO c4 c6;exact⟨by omega,by omega,by rw[be];exact iF oO oO⟩
 have g5:Hid (∀p∈bg C m,p.1<=1000/\p.2<=1000/\bW n p<N):=by
  show∀p∈_,_;intro p c6;have h:=jn (C:=C) (s:=m) oO c4 c6;exact⟨by omega,by omega,by rw[be];exact iF oO oO⟩
 have fz:Hid (∀W,Calls Tryz.prog 88 #[bO n c C m] W λe w'=>∃v u,e= .returned (.tuple #[v,u])/\fM W.heap.size w' v (bI C m)/\fM W.heap.size w' u (bg C m)/\Below W.heap.size W w'):=λW=>pk n C m c W c4 oO fx.1;have i0:1<=n:=oO;have i1:C<=1000:=oO;have i2:C<n:=oO;clear c3 be hn;obtain⟨P,b2⟩:∃P,P=w.heap.size:=⟨_,rfl⟩;obtain⟨K,cs⟩:∃K,K=w.heap.size+1:=⟨_,rfl⟩;obtain⟨z,bo⟩:∃z,z=(w.alloc (.cells (aS n c C m) 71)).alloc (.cells #[.int .i64 0,.int .i64 0,.slice none 0 0] 28):=⟨_,rfl⟩;have ec:Hid (Below w.heap.size w z):=by show Below _ _ _;rw[bo];exact ah (ax _ _) _
 have ed:Hid (aa z P (aS n c C m) 71):=by
  show aa _ _ _ _;rw[bo];have a1:aa (w.alloc (.cells (aS n c C m) 71)) P (aS n c C m) 71:=aa.new _ _ _ _ b2;exact a1.below (ax _ _)
 have f0:Hid (aa z K #[.int .i64 0,.int .i64 0,.slice none 0 0] 28):=by show aa _ _ _ _;rw[bo];exact aa.new _ _ _ _ (by simp[cs])
 have ef:Hid (w.heap.size<=K/\P<K/\K<z.heap.size):=by show _/\_;rw[bo,cs,b2];simp
 go_enter Tryz.func83,Tryz.ntmps83;go_wp2;simp only[<-cs,<-bo];simp only[<-b2];clear bo;have f1:=Lib.hid b2;clear b2 cs;have a6:Hid (Below z.heap.size z z.drew):=aj (Below.refl _ _);have f2:Hid (∀W,af z W->W.cell? ⟨P,0,none⟩=some (.int .i64 (n:Int))):=λW cp=>(ed.out.below cp).cell 0 _ rfl;refine j6 (S:=af z) (.br [(false,0),(false,1),(false,2),(false,3),(false,4),(false,5),(false,6),(false,7),(false,8)] [9,11] (λk=>if k=9 then .last [(false,10),(true,11),(true,12)]else .last [(true,9),(false,10),(true,12)])) (M1 z n N P) oK oK a6.out ?_ ?_
 ·simp only[wpTree,attachW,List.getElem?_cons_zero,List.getElem?_cons_succ]
  repeat refine zO f2.out ?_
  refine ag ?_;intro k d7;simp only[List.mem_cons,List.not_mem_nil,or_false]at d7;rcases d7 with rfl|rfl
  ·simp only[reduceIte,Nat.reduceEqDiff,wpTree,attachW,List.getElem?_cons_zero,List.getElem?_cons_succ];refine' vV rfl rfl N oO rfl rfl (ah a6.out _) ?_;simp only[yQ,yU,yX,yY];refine ag ?_
   (try simp only[reduceIte,Nat.reduceEqDiff,wpTree,attachW,List.getElem?_cons_zero,List.getElem?_cons_succ])
   refine zU ?_;refine' eT 28 rfl rfl _ DV (ah (ah a6.out _) _) ?_;simp only[yQ,yU,yX,yY];have O:=Lib.hid (mB.a (n:=n) (N:=N) a6.out);refine fN 28 rfl _ _ rfl 28 (z.drew.heap.size+1) #[.int .i64 0,.int .i64 0,.slice none 0 0] (pK n n z.drew.heap.size N) (aa.new _ _ _ _ oS) (by show _=_;simp;rfl) rfl Ks rfl (by intro v bs;simp only[List.mem_cons,List.not_mem_nil,or_false]at bs;rcases bs with rfl|rfl|rfl<;>rfl) O.out.2.2.1 ?_;simp only[yQ,yU,yX,yY];refine ag ?_;refine⟨_,_,?_,O.out⟩;simp[Act.put,List.setIfInBounds_toArray,List.set_cons_zero,List.set_cons_succ]
  ·simp only[reduceIte,Nat.reduceEqDiff,wpTree,attachW,List.getElem?_cons_zero,List.getElem?_cons_succ];refine' eT 28 rfl rfl _ DV (ah a6.out _) ?_;simp only[yQ,yU,yX,yY];refine ag ?_
   (try simp only[reduceIte,Nat.reduceEqDiff,wpTree,attachW,List.getElem?_cons_zero,List.getElem?_cons_succ])
   refine' vV rfl rfl N oO rfl rfl (ah (ah a6.out _) _) ?_;have f3:(z.drew.alloc (.cells #[.int .i64 0,.int .i64 0,.slice none 0 0] 28)).heap.size=z.drew.heap.size+1:=by simp
   simp only[Act.put,List.setIfInBounds_toArray,List.set_cons_zero,List.set_cons_succ,f3];refine zU ?_;have O:=Lib.hid (mB.b (n:=n) (N:=N) a6.out);refine fN 28 rfl _ _ rfl 28 z.drew.heap.size #[.int .i64 0,.int .i64 0,.slice none 0 0] (pK n n (z.drew.heap.size+1) N) ((aa.new z.drew _ _ _ rfl).below (ax _ _)) rfl rfl Ks rfl (by intro v bs;simp only[List.mem_cons,List.not_mem_nil,or_false]at bs;rcases bs with rfl|rfl|rfl<;>rfl) O.out.2.2.1 ?_;simp only[yQ,yU,yX,yY];refine ag ?_;refine⟨_,_,?_,O.out⟩;simp[Act.put,List.setIfInBounds_toArray,List.set_cons_zero,List.set_cons_succ]
 ·rintro a' b ⟨db,bt,rfl,eh⟩;have O:=Lib.hid eh;clear eh;simp only[yQ,yU,yX,yY];have f4:=ef.out;have f5:=O.out.2.2.1.size;have f6:=O.out.2.2.2;have f7:=au O.out.1;have b3:=au O.out.2.1;have a2:Hid (P≠db/\bt≠db/\K≠db/\P<b.heap.size/\bt<b.heap.size/\db<b.heap.size/\w.heap.size<=db/\K<b.heap.size/\w.heap.size<=b.heap.size):=by
   show _/\_;have:=ec.out.size;have:=f1.out;omega
  have f8:Hid (Below w.heap.size w b):=ae ec.out O.out.2.2.1;have f9:Hid (aa b P (aS n c C m) 71):=ed.out.below O.out.2.2.1;have gb:Hid (aa b K #[.int .i64 0,.int .i64 0,.slice none 0 0] 28):=f0.out.below O.out.2.2.1;clear f4 f5 f6 f7 b3;have f:Hid (∀W,aD db b W->((W.cell? ⟨P,0,none⟩=some (.int .i64 (n:Int))/\W.cell? ⟨P,1,none⟩=some (.bool c)/\W.cell? ⟨P,2,none⟩=some (.int .i64 (C:Int))/\W.cell? ⟨P,3,none⟩=some (.int .i64 (m:Int)))/\W.cell? ⟨bt,0,none⟩=some (.int .i64 (n:Int))/\W.cell? ⟨bt,1,none⟩=some (.int .i64 (n:Int))/\W.cell? ⟨bt,2,none⟩=some (.slice (some ⟨db,0,none⟩) N N))):=by
   show∀W,_;intro W cp;have a1:=cp.row f9.out a2.out.1;have ac:=cp.row O.out.2.1 a2.out.2.1;exact⟨⟨a1.cell 0 _ rfl,a1.cell 1 _ rfl,a1.cell 2 _ rfl,a1.cell 3 _ rfl⟩,ac.cell 0 _ rfl,ac.cell 1 _ rfl,ac.cell 2 _ rfl⟩
  obtain⟨⟨B,D,E,F⟩,G,H,J⟩:=f.out b (aD.refl _ _);have ei:Hid (bu b db (lM n C c 0)/\aD db b b):=by show _/\_;rw[JC,<-a5.out];exact⟨O.out.1,aD.refl _ _⟩
  go_wp2;clear B D E F G H J;go_loopw [28] (λV wr=>∃j:Nat,j<=N/\V= .int .i64 j/\Hid (bu wr db (lM n C c j)/\aD db b wr)) (λV _=>N-(intOf V).toNat)
  case atStart=>exact⟨0,Nat.zero_le _,rfl,ei.out⟩
  case round=>
   clear ei;obtain⟨j,ad,rfl,t⟩:=hrel;by_cases Q:j<N
   ·obtain⟨x,X⟩:∃x,x=j%n:=⟨_,rfl⟩;obtain⟨y,Y⟩:∃y,y=j/n:=⟨_,rfl⟩;have i3:x<n:=by rw[X];exact Nat.mod_lt _ oO
    have i4:y<n:=by rw[Y];exact(Nat.div_lt_iff_lt_mul oO).2 (by rw[<-a5.out];exact Q)
    have i5:¬n=0:=oO;have ey:(j:Int)%(n:Int)=(x:Int):=by rw[X];simp
    have ez:(j:Int)/(n:Int)=(y:Int):=by rw[Y];simp
    have i6:(j:Int).tmod (n:Int)=(x:Int):=by rw[Int.tmod_eq_emod_of_nonneg oO];exact ey
    have i7:(j:Int).tdiv (n:Int)=(y:Int):=by rw[Int.tdiv_eq_ediv_of_nonneg oO];exact ez
    have ii:IntKind.i64.wrap (y:Int)=(y:Int):=aG _ oO oO;obtain⟨d,bv⟩:∃d,d=ia C (x,y):=⟨_,rfl⟩;have i8:d<=1000:=by rw[bv];unfold ia lq;simp only;omega
    have bq:Hid (∀W,Calls Tryz.prog 86 #[bO n c C m,.int .i64 x,.int .i64 y] W λe w'=>e= .returned (.int .i64 (d:Int))/\Below W.heap.size W w'):=λW=>by rw[bv];exact sS n C m x y c W oO oO oO
    have ek:Hid (∀W,Calls Tryz.prog 87 #[.int .i64 d] W λe w'=>e= .returned (.bool (d%2==0))/\w'=W):=λW=>uA d W oO;have al:Hid (∀W,Calls Tryz.prog 133 #[bO n c C m,.int .i64 ((x:Int)-(C:Int)),.int .i64 ((y:Int)-(C:Int))] W λe w'=>e= .returned (.bool (Nx C (x,y)))/\Below W.heap.size W w'):=λW=>by rw[<-LB];exact uq n C m c _ _ W
    have c8:Hid (d<m->nN C c (j%n,j/n)=(d%2==0)):=by
     show _->_;intro h;unfold nN;rw[<-X,<-Y,<-bv,if_pos (by rw[<-c5.out];exact h)]
    have c9:Hid (¬d<m->nN C c (j%n,j/n)=(!c&&Nx C (x,y))):=by
     show _->_;intro h;unfold nN;rw[<-X,<-Y,<-bv,if_neg (by rw[<-c5.out];exact h)]
    have el:=Lib.hid (@II n C c j);have em:=Lib.hid (@I3 n C c j);have a3:Hid (j<(lM n C c j).length):=by show _<_;rw[qJ,<-a5.out];exact Q
    clear X Y bv;have i9:Hid (∃u v:Int,u=(x:Int)-(C:Int)/\v=(y:Int)-(C:Int)):=⟨_,_,rfl,rfl⟩;generalize nN C c (j%n,j/n)=bx at*;generalize Nx C (x,y)=eA at*;generalize lM n C c j=M at*;have jp:(j:Int)<(N:Int):=oO;have am:Hid (aD db b wr.drew):=t.out.2.trans (aD.below (aj (Below.refl _ _)));have da:Hid (bu wr.drew db M):=t.out.1.below (aj (Below.refl _ _));by_cases cv:d<m
    ·have b4:=c8.out cv;subst b4;have gc:(d:Int)<(m:Int):=oO;clear c8 c9 al;go_wp2;refine yO (λW=>aD db b W) [1,2,3,4,5,6,7,8,9,10] am.out ?_
     repeat refine zO f.out ?_
     refine ag ?_;obtain⟨⟨B,D,E,F⟩,G,H,J⟩:=f.out wr.drew am.out;go_wp2_with(go_at_call 86;refine(bq.out _).mono ?_;rintro e L ⟨rfl,ab⟩;have a4:Hid (aD db b L):=am.out.trans (aD.below ab);have b5:Hid (bu L db M):=da.out.below ab;clear ab B D E F G H J bq;obtain⟨⟨B,D,E,F⟩,G,H,J⟩:=f.out L a4.out)
     have a7:Hid (aD db b L.drew):=a4.out.trans (aD.below (aj (Below.refl _ _)));have b6:Hid (bu L.drew db M):=b5.out.below (aj (Below.refl _ _));clear B D E F G H J;refine yO (λW=>aD db b W) [1,2,3,4,0,5,0,6,0,7] a7.out ?_
     repeat refine zO f.out ?_
     refine zZ ?_;refine(ek.out _).mono ?_;rintro e bf ⟨rfl,en⟩;rw[en];clear en;refine⟨_,rfl,a7.out,jO ?_⟩;refine zO f.out ?_;refine' ba (w':=L.drew.setCell ⟨db,j,none⟩ (.bool (d%2==0))) rfl (qe rfl ⟨db,j,none⟩ _ rfl rfl (b6.out.cell a3.out) (frozen_of_row _ _ _ _ _ b6.out)) (a7.out.trans (aD.fm _)) ?_;simp only[yQ,yU,yX,yY];refine ag ?_;have a0:Hid (bu (L.drew.setCell ⟨db,j,none⟩ (.bool (d%2==0))) db (lM n C c (j+1))/\aD db b (L.drew.setCell ⟨db,j,none⟩ (.bool (d%2==0)))):=by
      show _/\_;rw[<-el.out];exact⟨b6.out.set _ _,a7.out.trans (aD.fm _)⟩
     go_wp2;exact⟨⟨j+1,by omega,by go_num,a0.out⟩,by simp[intOf];omega⟩
    ·have gc:¬(d:Int)<(m:Int):=oO;have jr:m<=d:=oO;have j0:decide (d<m)=false:=by simp;omega
     have d4:=Lib.hid (c9.out cv);clear c8 c9 ek;cases c with
     |true=>
      have b4:bx=false:=d4.out;subst b4;clear cv;have ge:=Lib.hid (em.out rfl);go_wp2;refine yO (λW=>aD db b W) [1,2,3,4,5,6,7,8,9,10] am.out ?_
      repeat refine zO f.out ?_
      refine ag ?_;obtain⟨⟨B,D,E,F⟩,G,H,J⟩:=f.out wr.drew am.out;go_wp2_with(go_at_call 86;refine(bq.out _).mono ?_;rintro e L ⟨rfl,ab⟩;have a4:Hid (aD db b L):=am.out.trans (aD.below ab);have b5:Hid (bu L db M):=da.out.below ab;clear ab B D E F G H J bq;obtain⟨⟨B,D,E,F⟩,G,H,J⟩:=f.out L a4.out)
      exact⟨⟨j+1,by omega,by go_num,by show _/\_;rw[ge.out];exact⟨b5.out,a4.out⟩⟩,by simp[intOf];omega⟩
     |false=>
      have b4:bx=eA:=d4.out;subst b4;clear cv em d4;go_wp2;refine yO (λW=>aD db b W) [1,2,3,4,5,6,7,8,9,10] am.out ?_
      repeat refine zO f.out ?_
      refine ag ?_;obtain⟨⟨B,D,E,F⟩,G,H,J⟩:=f.out wr.drew am.out;go_wp2_with(go_at_call 86;refine(bq.out _).mono ?_;rintro e L ⟨rfl,ab⟩;have a4:Hid (aD db b L):=am.out.trans (aD.below ab);have b5:Hid (bu L db M):=da.out.below ab;clear ab B D E F G H J bq;obtain⟨⟨B,D,E,F⟩,G,H,J⟩:=f.out L a4.out)
      have a7:Hid (aD db b L.drew):=a4.out.trans (aD.below (aj (Below.refl _ _)));have b6:Hid (bu L.drew db M):=b5.out.below (aj (Below.refl _ _));clear B D E F G H J;have kc:IntKind.i64.wrap ((x:Int)-(C:Int))=(x:Int)-(C:Int):=aG _ oO oO;have kd:IntKind.i64.wrap ((y:Int)-(C:Int))=(y:Int)-(C:Int):=aG _ oO oO;refine yO (λW=>aD db b W) [1,2,3,4,5,6,7,8,9,10,11,12,0,13,0,14,0,15] a7.out ?_;refine zO f.out ?_;refine zO f.out ?_;refine zO f.out ?_;refine zO f.out ?_;refine zO f.out ?_;refine zO f.out ?_;refine zO f.out ?_;refine zO f.out ?_;refine zO f.out ?_;refine zO f.out ?_;refine zO f.out ?_;refine zO f.out ?_;refine zZ ?_;refine(al.out _).mono ?_;rintro e bf ⟨rfl,dd⟩;have de:Hid (aD db b bf):=a7.out.trans (aD.below dd);have dl:Hid (bu bf db M):=b6.out.below dd;clear dd;refine⟨_,rfl,de.out,jO ?_⟩;refine zO f.out ?_;refine' ba (w':=bf.setCell ⟨db,j,none⟩ (.bool bx)) rfl (qe rfl ⟨db,j,none⟩ _ rfl rfl (dl.out.cell a3.out) (frozen_of_row _ _ _ _ _ dl.out)) (de.out.trans (aD.fm _)) ?_;simp only[yQ,yU,yX,yY];refine ag ?_;have a0:Hid (bu (bf.setCell ⟨db,j,none⟩ (.bool bx)) db (lM n C false (j+1))/\aD db b (bf.setCell ⟨db,j,none⟩ (.bool bx))):=by
       show _/\_;rw[<-el.out];exact⟨dl.out.set _ _,de.out.trans (aD.fm _)⟩
      go_wp2;exact⟨⟨j+1,by omega,by go_num,a0.out⟩,by simp[intOf];omega⟩
   ·obtain rfl:N=j:=oO;obtain⟨ap,rfl⟩:∃x,x=wr:=⟨_,rfl⟩;have gg:Hid (bu ap db (cB n C c)):=by show bu _ _ _;rw[<-KN,<-a5.out];exact t.out.1
    have dn:Hid (aD db b ap):=t.out.2;clear t;obtain⟨⟨B,D,E,F⟩,G,H,J⟩:=f.out ap dn.out;go_wp2_with(go_at_call 88;refine(fz.out _).mono ?_;rintro e T ⟨v4,u4,rfl,b3,ds,dv⟩;obtain⟨e0,io,rfl,gi,go,gp⟩:=id b3.1;obtain⟨c7,d8,rfl,gq,gs,gt⟩:=id ds.1;have eq:=Lib.hid b3;have er:=Lib.hid ds;have es:Hid (aD db b T):=dn.out.trans (aD.below dv);have gv:Hid (bu T db (cB n C c)):=gg.out.below dv;have dx:Hid (db<ap.heap.size):=Nat.lt_of_lt_of_le a2.out.2.2.2.2.2.1 dn.out.sz;clear dv b3 ds gi go gp gq gs gt B D E F G H J)
    have et:Hid (bu T db (wrL n (cB n C c) ((bI C m).take 0) (cQ.take 0))/\aD db T T):=by show _/\_;rw[List.take_zero,mD];exact⟨gv.out,aD.refl _ _⟩
    have g6:Hid (∀j,j<6->∃g o,e0=some ⟨g,o,none⟩/\g<T.heap.size/\g≠db/\T.cell? ⟨g,o+j* 2,none⟩=some (.int .i64 (((bI C m).getD j (0,0)).1:Int))/\T.cell? ⟨g,o+j* 2+1,none⟩=some (.int .i64 (((bI C m).getD j (0,0)).2:Int))):=by
     show∀j,_;intro j ad;obtain⟨A,k,e,-,-,h⟩:=eq.out.1;obtain⟨g,o,e2,ac,bz⟩:=h (by show 0<6;omega);injection e with e3 _ _;have cq:ap.heap.size<=g:=eq.out.2 _ _ _ _ rfl (e3.trans e2);have b1:=dx.out;have bi:=bz j ad;exact⟨g,o,e3.trans e2,ac,by omega,bi⟩
    go_wp2;go_loopw [80] (λV wr=>∃j:Nat,j<=6/\V= .int .i64 j/\Hid (bu wr db (wrL n (cB n C c) ((bI C m).take j) (cQ.take j))/\aD db T wr)) (λV _=>6-(intOf V).toNat)
    case atStart=>exact⟨0,Nat.zero_le _,rfl,et.out⟩
    case round=>
     clear et;obtain⟨j,ad,rfl,t⟩:=hrel;by_cases Q:j<6
     ·obtain⟨g,o,rfl,b7,b8,X,Y⟩:=g6.out j Q;have b9:(bI C m).getD j (0,0)∈bI C m:=by
       have:j<(bI C m).length:=Q;simp only[List.getD,List.getElem?_eq_getElem this,Option.getD_some];exact List.getElem_mem this
      obtain⟨gw,gx,ci⟩:=g4.out _ b9;have ca:cQ.getD j false=true:=by
       have:∀j,j<6->cQ.getD j false=true:=by decide
       exact this j Q
      have co:Hid (wrL n (cB n C c) ((bI C m).take (j+1)) (cQ.take (j+1))=(wrL n (cB n C c) ((bI C m).take j) (cQ.take j)).set (bW n ((bI C m).getD j (0,0))) true):=by
       have:=vp n (cB n C c) (bI C m) cQ (i:=j) Q Q;rw[ca]at this;exact this
      have a3:Hid ((wrL n (cB n C c) ((bI C m).take j) (cQ.take j)).length=N):=by show _=_;rw[dV,iB,a5.out]
      generalize(bI C m).getD j (0,0)=p at*;generalize wrL n (cB n C c) ((bI C m).take j) (cQ.take j)=M at*;have cb:aD db b wr:=es.out.trans t.out.2;have e1:wr.cell? ⟨g,o+j* 2,none⟩=some (.int .i64 (p.1:Int)):=(t.out.2.cell (a:=⟨g,o+j* 2,none⟩) b7 b8).trans X;have e2:wr.cell? ⟨g,o+j* 2+1,none⟩=some (.int .i64 (p.2:Int)):=(t.out.2.cell (a:=⟨g,o+j* 2+1,none⟩) b7 b8).trans Y;obtain⟨l,av⟩:∃l,l=wr.alloc (.cells #[.int .i64 (p.1:Int),.int .i64 (p.2:Int)] 47):=⟨_,rfl⟩;obtain⟨Z,a8⟩:∃Z,Z=wr.heap.size:=⟨_,rfl⟩;have a9:Hid (Below wr.heap.size wr l):=by show Below _ _ _;rw[av];exact ax _ _
      have ce:Hid (aa l Z #[.int .i64 (p.1:Int),.int .i64 (p.2:Int)] 47):=by show aa _ _ _ _;rw[av,a8];exact aa.new _ _ _ _ oS
      have bb:Hid (bu l db M):=t.out.1.below a9.out;have dy:Hid (aD db b l):=cb.trans (aD.below a9.out);have dz:Hid (aD db T l):=t.out.2.trans (aD.below a9.out);have ch:l.cell? ⟨Z,0,none⟩=some (.int .i64 (p.1:Int)):=ce.out.cell 0 _ rfl;have ck:l.cell? ⟨Z,1,none⟩=some (.int .i64 (p.2:Int)):=ce.out.cell 1 _ rfl;obtain⟨⟨B,D,E,F⟩,G,H,J⟩:=f.out l dy.out;obtain⟨q,hq⟩:∃q,q=p.2* n:=⟨_,rfl⟩;obtain⟨r,bd⟩:∃r,r=bW n p:=⟨_,rfl⟩;have dE:r=q+p.1:=by rw[bd,hq];rfl
      rw[<-bd]at ci co;have gy:q<=1000000:=oO;have gz:(p.2:Int)* (n:Int)=(q:Int):=by rw[hq];simp
      have e9:IntKind.i64.wrap (q:Int)=(q:Int):=aG _ oO oO;have fb:IntKind.i64.wrap ((q:Int)+(p.1:Int))=(r:Int):=by rw[aG _ oO oO];omega
      have gC:(q:Int)+(p.1:Int)=(r:Int):=oO;have g7:(r:Int)<(N:Int):=oO;have d5:Hid (r<M.length):=by show _<_;rw[a3.out];exact ci
      have gD:(j:Int)<6:=oO;have d0:l.cell? ⟨db,r,none⟩=some (.bool (M.getD r false)):=bb.out.cell d5.out;have d1:l.frozen? ⟨db,r,none⟩=false:=frozen_of_row _ _ _ _ _ bb.out;have a0:Hid (bu (l.setCell ⟨db,r,none⟩ (.bool true)) db (wrL n (cB n C c) ((bI C m).take (j+1)) (cQ.take (j+1)))/\aD db T (l.setCell ⟨db,r,none⟩ (.bool true))):=by
       show _/\_;rw[co.out];exact⟨bb.out.set _ _,dz.out.trans (aD.fm _)⟩
      rw[av]at B D E F G H J d0 d1 a0 ch ck;rw[a8]at ch ck;clear hq bd dE b9 a3 ca X Y cb av a8;go_wp2;exact⟨⟨j+1,by omega,by go_num,a0.out⟩,by simp[intOf];omega⟩
     ·obtain rfl:j=6:=oO;have gN:Hid (bu wr db (wrL n (cB n C c) (bI C m) cQ)):=t.out.1;have cx:Hid (aD db T wr):=t.out.2;clear t;have c2:Hid (fM ap.heap.size T (.slice c7 (bg C m).length d8) (bg C m)):=er;obtain⟨U,rfl⟩:∃x,x=wr:=⟨_,rfl⟩;have ew:Hid (aD db b U):=es.out.trans cx.out;have g8:Hid (fM ap.heap.size U (.slice c7 (bg C m).length d8) (bg C m)):=by
       obtain⟨⟨A,k,e,a1,ac,bz⟩,cq⟩:=er.out;refine⟨⟨A,k,e,a1,ac,λfc=>?_⟩,cq⟩;obtain⟨g,o,e2,b1,bi⟩:=bz fc;have fd:=cq A _ _ _ e e2;have ip:=dx.out;have d9:g≠db:=by show g≠db;have:ap.heap.size<=g:=fd;omega
       exact⟨g,o,e2,Nat.lt_of_lt_of_le b1 cx.out.sz,λj ad=>⟨(cx.out.cell (a:=⟨g,o+j* 2,none⟩) b1 d9).trans (bi j ad).1,(cx.out.cell (a:=⟨g,o+j* 2+1,none⟩) b1 d9).trans (bi j ad).2⟩⟩
      have g0:=gN;have g1:=dx;clear c2;have c2:=g8;have ex:Hid (bu U db (wrL n (wrL n (cB n C c) (bI C m) cQ) ((bg C m).take 0) (gS.take 0))/\aD db U U):=by show _/\_;rw[List.take_zero,mD];exact⟨g0.out,aD.refl _ _⟩
      have g9:Hid (∀j,j<6->∃g o,c7=some ⟨g,o,none⟩/\g<U.heap.size/\g≠db/\U.cell? ⟨g,o+j* 2,none⟩=some (.int .i64 (((bg C m).getD j (0,0)).1:Int))/\U.cell? ⟨g,o+j* 2+1,none⟩=some (.int .i64 (((bg C m).getD j (0,0)).2:Int))):=by
       show∀j,_;intro j ad;obtain⟨A,k,e,-,-,h⟩:=c2.out.1;obtain⟨g,o,e2,ac,bz⟩:=h (by show 0<6;omega);injection e with e3 _ _;have cq:ap.heap.size<=g:=c2.out.2 _ _ _ _ rfl (e3.trans e2);have b1:=g1.out;have bi:=bz j ad;exact⟨g,o,e3.trans e2,ac,by omega,bi⟩
      go_wp2;go_loopw [98] (λV wr=>∃j:Nat,j<=6/\V= .int .i64 j/\Hid (bu wr db (wrL n (wrL n (cB n C c) (bI C m) cQ) ((bg C m).take j) (gS.take j))/\aD db U wr)) (λV _=>6-(intOf V).toNat)
      case atStart=>exact⟨0,Nat.zero_le _,rfl,ex.out⟩
      case round=>
       clear ex;obtain⟨j,ad,rfl,t⟩:=hrel;by_cases Q:j<6
       ·obtain⟨g,o,rfl,b7,b8,X,Y⟩:=g9.out j Q;have b9:(bg C m).getD j (0,0)∈bg C m:=by
         have:j<(bg C m).length:=Q;simp only[List.getD,List.getElem?_eq_getElem this,Option.getD_some];exact List.getElem_mem this
        obtain⟨gw,gx,ci⟩:=g5.out _ b9;have ca:gS.getD j false=false:=by
         have:∀j,j<6->gS.getD j false=false:=by decide
         exact this j Q
        have co:Hid (wrL n (wrL n (cB n C c) (bI C m) cQ) ((bg C m).take (j+1)) (gS.take (j+1))=(wrL n (wrL n (cB n C c) (bI C m) cQ) ((bg C m).take j) (gS.take j)).set (bW n ((bg C m).getD j (0,0))) false):=by
         have:=vp n (wrL n (cB n C c) (bI C m) cQ) (bg C m) gS (i:=j) Q Q;rw[ca]at this;exact this
        have a3:Hid ((wrL n (wrL n (cB n C c) (bI C m) cQ) ((bg C m).take j) (gS.take j)).length=N):=by show _=_;rw[dV,dV,iB,a5.out]
        generalize(bg C m).getD j (0,0)=p at*;generalize wrL n (wrL n (cB n C c) (bI C m) cQ) ((bg C m).take j) (gS.take j)=M at*;have cb:aD db b wr:=ew.out.trans t.out.2;have e1:wr.cell? ⟨g,o+j* 2,none⟩=some (.int .i64 (p.1:Int)):=(t.out.2.cell (a:=⟨g,o+j* 2,none⟩) b7 b8).trans X;have e2:wr.cell? ⟨g,o+j* 2+1,none⟩=some (.int .i64 (p.2:Int)):=(t.out.2.cell (a:=⟨g,o+j* 2+1,none⟩) b7 b8).trans Y;obtain⟨l,av⟩:∃l,l=wr.alloc (.cells #[.int .i64 (p.1:Int),.int .i64 (p.2:Int)] 47):=⟨_,rfl⟩;obtain⟨Z,a8⟩:∃Z,Z=wr.heap.size:=⟨_,rfl⟩;have a9:Hid (Below wr.heap.size wr l):=by show Below _ _ _;rw[av];exact ax _ _
        have ce:Hid (aa l Z #[.int .i64 (p.1:Int),.int .i64 (p.2:Int)] 47):=by show aa _ _ _ _;rw[av,a8];exact aa.new _ _ _ _ oS
        have bb:Hid (bu l db M):=t.out.1.below a9.out;have dy:Hid (aD db b l):=cb.trans (aD.below a9.out);have dz:Hid (aD db U l):=t.out.2.trans (aD.below a9.out);have ch:l.cell? ⟨Z,0,none⟩=some (.int .i64 (p.1:Int)):=ce.out.cell 0 _ rfl;have ck:l.cell? ⟨Z,1,none⟩=some (.int .i64 (p.2:Int)):=ce.out.cell 1 _ rfl;obtain⟨⟨B,D,E,F⟩,G,H,J⟩:=f.out l dy.out;obtain⟨q,hq⟩:∃q,q=p.2* n:=⟨_,rfl⟩;obtain⟨r,bd⟩:∃r,r=bW n p:=⟨_,rfl⟩;have dE:r=q+p.1:=by rw[bd,hq];rfl
        rw[<-bd]at ci co;have gy:q<=1000000:=oO;have gz:(p.2:Int)* (n:Int)=(q:Int):=by rw[hq];simp
        have e9:IntKind.i64.wrap (q:Int)=(q:Int):=aG _ oO oO;have fb:IntKind.i64.wrap ((q:Int)+(p.1:Int))=(r:Int):=by rw[aG _ oO oO];omega
        have gC:(q:Int)+(p.1:Int)=(r:Int):=oO;have g7:(r:Int)<(N:Int):=oO;have d5:Hid (r<M.length):=by show _<_;rw[a3.out];exact ci
        have gD:(j:Int)<6:=oO;have d0:l.cell? ⟨db,r,none⟩=some (.bool (M.getD r false)):=bb.out.cell d5.out;have d1:l.frozen? ⟨db,r,none⟩=false:=frozen_of_row _ _ _ _ _ bb.out;have a0:Hid (bu (l.setCell ⟨db,r,none⟩ (.bool false)) db (wrL n (wrL n (cB n C c) (bI C m) cQ) ((bg C m).take (j+1)) (gS.take (j+1)))/\aD db U (l.setCell ⟨db,r,none⟩ (.bool false))):=by
         show _/\_;rw[co.out];exact⟨bb.out.set _ _,dz.out.trans (aD.fm _)⟩
        rw[av]at B D E F G H J d0 d1 a0 ch ck;rw[a8]at ch ck;clear hq bd dE b9 a3 ca X Y cb av a8;go_wp2;exact⟨⟨j+1,by omega,by go_num,a0.out⟩,by simp[intOf];omega⟩
       ·obtain rfl:j=6:=oO;have HEq:Hid (bu wr db (wrL n (wrL n (cB n C c) (bI C m) cQ) (bg C m) gS)):=t.out.1;have ib:Hid (aD db U wr):=t.out.2;clear t;have d2:Hid (aD db b wr):=ew.out.trans ib.out;obtain⟨⟨B,D,E,F⟩,G,H,J⟩:=f.out wr d2.out;have al:Hid (aa wr K #[.int .i64 0,.int .i64 0,.slice none 0 0] 28):=d2.out.row gb.out a2.out.2.2.1;have c0:wr.cell? ⟨K,0,none⟩=some (.int .i64 0):=al.out.cell 0 _ rfl;have c1:wr.cell? ⟨K,1,none⟩=some (.int .i64 0):=al.out.cell 1 _ rfl;have fn:wr.cell? ⟨K,2,none⟩=some (.slice none 0 0):=al.out.cell 2 _ rfl;have fo:wr.frozen? ⟨K,0,none⟩=false:=frozen_of_row _ _ _ _ _ al.out;have fr:wr.frozen? ⟨K,1,none⟩=false:=frozen_of_row _ _ _ _ _ al.out;have fv:wr.frozen? ⟨K,2,none⟩=false:=frozen_of_row _ _ _ _ _ al.out;have g2:Hid (Below w.heap.size w wr):=f8.out.trans (d2.out.to a2.out.2.2.2.2.2.2.1 a2.out.2.2.2.2.2.2.2.2);have g3:Hid (wrL n (wrL n (cB n C c) (bI C m) cQ) (bg C m) gS=jY n C c):=by show _=_;unfold jY;rw[<-c5.out]
        have d6:w.heap.size<=K:=ef.out.1;go_wp2;refine bodyPost_ret (v:=ER n n db N) (by simp[results,Tryz.results83,go_sem,c0,c1,fn,fo,fr,fv]) rfl ⟨db,N,a5.out,rfl,a2.out.2.2.2.2.2.2.1,?_,?_⟩
        ·rw[<-g3.out];have d3:db≠K:=(a2.out.2.2.1).symm;exact((aa.cg (aa.cg (aa.cg HEq.out _ _ d3) _ _ d3) _ _ d3))
        ·exact((g2.out.setCell d6 _).setCell d6 _).setCell d6 _
abbrev Sy:=Nat×Bool
def j1 (p:Sy):List Value:=[.int .i64 (p.1:Int),.bool p.2]
theorem Lh (p:Sy):∀v∈j1 p,v.oneCell'=true:=by
 intro v a;simp only[j1,List.mem_cons,List.not_mem_nil,or_false]at a;rcases a with rfl|rfl<;>rfl
theorem Jn (l:List Sy):∀v∈l.flatMap j1,v.oneCell'=true:=by
 intro v a;obtain⟨p,-,b⟩:=List.mem_flatMap.1 a;exact Lh p v b
theorem ur (l:List Sy):(l.flatMap j1).length=l.length* 2:=by
 induction l with
 |nil=>rfl
 |cons p l a=>simp only[List.flatMap_cons,List.length_append,a,List.length_cons];show 2+_=_;omega
theorem AB (l:List Sy) (i:Nat) (a:i<l.length):(l.flatMap j1)[2* i]?=some (.int .i64 ((l.getD i (0,false)).1:Int))/\(l.flatMap j1)[2* i+1]?=some (.bool (l.getD i (0,false)).2):=by
 induction l generalizing i with
 |nil=>simp at a
 |cons p l b=>
  cases i with
  |zero=>exact⟨rfl,rfl⟩
  |succ i=>
   have h:=b i (by simpa using a);simp only[List.flatMap_cons,j1];rw[show 2* (i+1)=2* i+2 from by omega];simp only[List.cons_append,List.nil_append,List.getElem?_cons_succ,List.getD_cons_succ];exact h
theorem F5:(Tryz.prog.info? 60).map (λi=>(i.zero,i.size,i.bytes))=some (some (.agg #[.int .i64 0,.bool false]),2,16):=oK
def MC (w:World) (A:Option Addr) (xs:List Sy):Prop:=0<xs.length->∃g a,A=some ⟨g,a,none⟩/\g<w.heap.size/\∀j,j<xs.length->w.cell? ⟨g,a+j* 2,none⟩=some (.int .i64 ((xs.getD j (0,false)).1:Int))/\w.cell? ⟨g,a+j* 2+1,none⟩=some (.bool (xs.getD j (0,false)).2)
def SY (w:World) (v:Value) (xs:List Sy):Prop:=∃A c,v= .slice A xs.length c/\xs.length<=c/\c<=maxLen/\MC w A xs
theorem SY.dO (w:World):SY w (.slice none 0 0) []:=⟨none,0,rfl,by simp,by simp,λh=>absurd h oS⟩
theorem SY.aI {W:World} {base:Nat} {e:TypeId} {n:Nat} {v:Value} {xs:List Sy} (h:W.ownsRow base e 2 v n (xs.flatMap j1)):SY W v xs:=by
 have hl:xs.length=n:=by have:=h.1;rw[ur]at this;omega
 rcases h.2 with⟨rfl,rfl⟩|⟨g,cap,d,rfl,hb,hg,f,pc,_⟩
 ·have:xs=[]:=List.eq_nil_of_length_eq_zero hl;subst this;exact SY.dO _
 ·refine⟨_,cap,by rw[hl],by omega,pc,λhn=>⟨g,0,rfl,au hg,λj c=>?_⟩⟩;have a:=AB xs j c;have e:0+j* 2=2* j:=oO;have c1:=h.cells (g:=g) rfl (2* j) _ a.1;have b:=h.cells (g:=g) rfl (2* j+1) _ a.2;rw[add_plain,Nat.zero_add]at c1 b;rw[e];exact⟨c1,b⟩
structure nD (w wr:World) (v:Value) (l:List Sy):Prop where
 B:af w wr
 O:wr.ownsRow w.heap.size 60 2 v l.length (l.flatMap j1)
theorem nD.start (w:World):nD w w (.slice none 0 0) []:=⟨Below.refl _ _,World.ownsRow_nil _ _ _ _⟩
theorem nD.sp {w wr:World} {v:Value} {l:List Sy} (h:nD w wr v l):SY wr v l:=SY.aI h.O
theorem Fv {W:World} {base:Nat} {v:Value} {n:Nat} {l:List Sy} (d:TypeId) (f:W.ownsRow base 60 2 v n (l.flatMap j1)) (w:base<=W.heap.size) (b:Addr) (m c:Nat) (ys:List Sy) (g:m=ys.length)
 (hc:∀j u,(ys.flatMap j1)[j]?=some u->W.cell? (b.add j)=some u) (hl:n+m<=1000000):
 ∃a w',(Builtin.append_ #[62,62] d #[v,.slice (some b) m c]).run Tryz.prog W= .ok a w'/\w'.ownsRow base 60 2 a (n+m) ((l++ys).flatMap j1)/\W.grownBy w' v.ownBlock/\(a.ownBlock=v.ownBlock\/a.ownBlock=some W.heap.size):=by
 obtain⟨i,k,q,r,s⟩:=info_parts F5;obtain⟨a,w',t,e,o,_,p⟩:=run_append_own_at (P:=Tryz.prog) W base 62 d 60 i _ 2 16 Tryz.underlying62 k q r s rfl oO v n _ f b m c (ys.flatMap j1) (by rw[ur,g]) hc (Jn ys) oM oO w;rw[<-List.flatMap_append]at e;exact⟨a,w',t,e,o,p⟩
theorem nO {f:Array Oper} {g:List Oper} {d:Oper} {a:Act} {Q:Exit->Act->World->Prop} {W:World} {base:Nat} {v:Value} {n:Nat} {l:List Sy} (i:W.ownsRow base 60 2 v n (l.flatMap j1)) (B:base<=W.heap.size) (z:d.guard=none) (s y:Operand)
 (k:d.op= .call {callee:= .builtin .append,args:=#[s,y],argTypes:=#[62,62]}) (hs:a.eval s=v) (e:Addr) (m c:Nat) (ys:List Sy) (o:a.eval y= .slice (some e) m c) (p:m=ys.length)
 (hc:∀j u,(ys.flatMap j1)[j]?=some u->W.cell? (e.add j)=some u) (hl:n+m<=1000000)
 (q:∀b w',w'.ownsRow base 60 2 b (n+m) ((l++ys).flatMap j1)->W.grownBy w' v.ownBlock->(b.ownBlock=v.ownBlock\/b.ownBlock=some W.heap.size)->wpList Tryz.prog f Q g (a.put d.dst b) w'):wpList Tryz.prog f Q (d::g) a W:=by
 refine wpList_plain z λK r=>?_;obtain⟨b,w',A,t,w,x⟩:=Fv d.type i B e m c ys p hc hl;unfold Oper.wp execOp;simp only[k,resolve,invoke,builtin,Sem.run_bind,Sem.run_pure,Result.andThen_ok,List.map_toArray,List.map_cons,List.map_nil,hs,o,A];exact r _ _ (q b w' t w x)
theorem nD.grow {w wr W a:World} {v v1:Value} {l ys:List Sy} (h:nD w wr v l) (b:Below wr.heap.size wr W) (d:a.ownsRow w.heap.size 60 2 v1 (l.length+ys.length) ((l++ys).flatMap j1)) (hg:W.grownBy a v.ownBlock):nD w a v1 (l++ys):=by
 refine⟨(ae h.B b).grown hg (by have:=(ae h.B b).size;exact this) (λk c=>(h.O.lt k c).1),?_⟩;rw[List.length_append];exact d
theorem tO (W:World) (ys:List Sy) (t:TypeId):∀j u,(ys.flatMap j1)[j]?=some u->(W.alloc (.cells (ys.flatMap j1).toArray t)).cell? ((⟨W.heap.size,0,none⟩:Addr).add j)=some u:=by
 intro j u a;have b:j<(ys.flatMap j1).length:=by
  rcases Nat.lt_or_ge j (ys.flatMap j1).length with h|h
  ·exact h
  ·rw[List.getElem?_eq_none h]at a;cases a
 rw[add_plain,Nat.zero_add];have:=(ak.new W (ys.flatMap j1).toArray t W.heap.size rfl).2 j (by simpa using b);rw[this];simp only[List.toList_toArray,List.getD,a,Option.getD_some]
theorem SY.lit (W:World) (ys:List Sy) (t:TypeId) (b n:Nat) (hb:b=W.heap.size) (hn:n=ys.length) (d:n<=maxLen):SY (W.alloc (.cells (ys.flatMap j1).toArray t)) (.slice (some ⟨b,0,none⟩) n n) ys:=by
 subst hb hn;refine⟨_,_,rfl,Nat.le_refl _,d,λ_=>⟨_,0,rfl,by simp,λj e=>?_⟩⟩;have h:=AB ys j e;have a:=tO W ys t _ _ h.1;have c:=tO W ys t _ _ h.2;rw[add_plain,Nat.zero_add]at a c;rw[Nat.zero_add,Nat.mul_comm];exact⟨a,c⟩
def nM (j:Nat):List Sy:=(List.range j).map λi=>(i+1,true)
def tI (j:Nat):List Sy:=(List.range j).map λi=>(i+4,false)
theorem Io (j:Nat):nM (j+1)=nM j++[(j+1,true)]:=by unfold nM;rw[List.range_succ,List.map_append];rfl
theorem JF (j:Nat):tI (j+1)=tI j++[(j+4,false)]:=by unfold tI;rw[List.range_succ,List.map_append];rfl
theorem Cd (c:Bool):qC c=nM 4++(if c=true then[]else tI 29):=rfl
theorem CY (c:Bool) (w:World):Calls Tryz.prog 31 #[.bool c] w λe w'=>∃v,e= .returned v/\SY w' v (qC c)/\Below w.heap.size w w':=by
 obtain⟨z,A,B,C,D⟩:=info_parts F5;go_enter Tryz.func31,Tryz.ntmps31;go_wp2;go_loopw [3,6] (λk b wr=>∃j:Nat,j<=4/\b= .int .i64 j/\Hid (nD w wr k (nM j))) (λ_ b _=>4-(intOf b).toNat)
 case atStart=>exact⟨0,by omega,rfl,nD.start _⟩
 case round=>
  obtain⟨j,m,rfl,a⟩:=hrel;by_cases p:j<4
  ·have q:Hid ((nM j).length<=100):=by show _<=_;unfold nM;simp;omega
   have r:=Lib.hid (Io j);generalize nM j=l at*;have E:(j:Int)<4:=oO;go_wp2_with((with_reducible show wpList _ _ _ (⟨_,Op.call ⟨Callee.builtin Builtin.append,_,_⟩,_,_,_,_⟩::_) _ _);(refine nO (base:=w.heap.size) (l:=l) (ar a.out.O (ax _ _)) (by have:=a.out.B.size;simp;omega) rfl _ _ rfl rfl ⟨wr.heap.size,0,none⟩ 1 1 [(j+1,true)] rfl rfl (tO wr [(j+1,true)] _) (by have:=q.out;omega) ?_;intro v1 n f hg _;have o:Hid (nD w n v1 (l++[(j+1,true)])):=a.out.grow (ax _ _) f hg;clear f hg))
   exact⟨⟨j+1,by omega,by go_num,by show nD _ _ _ _;rw[r.out];exact o.out⟩,by simp[intOf];omega⟩
  ·have u:Hid (j=4):=by show _=_;omega
   have F:decide (j<4)=false:=by simp;omega
   have G:4<=j:=oO;have g:Hid (nD w wr u3 (nM 4)):=by show nD _ _ _ _;rw[<-u.out];exact a.out
   clear a p m;cases c with
   |true=>
    go_wp2;go_ret;exact⟨_,rfl,by rw[Cd,if_pos rfl,List.append_nil];exact g.out.sp,g.out.B⟩
   |false=>
    have s:Hid (nD w wr u3 (nM 4++tI 0)):=g.out;clear g;go_wp2;go_loopw [3,5] (λk b wr=>∃j:Nat,j<=29/\b= .int .i64 ((j+4:Nat):Int)/\Hid (nD w wr k (nM 4++tI j))) (λ_ b _=>33-(intOf b).toNat)
    case atStart=>exact⟨0,by omega,rfl,s.out⟩
    case round=>
     clear s;obtain⟨j,m,rfl,a⟩:=hrel;obtain⟨i,d⟩:∃i,i=j+4:=⟨_,rfl⟩;rw[<-d];by_cases p:j<29
     ·have q:Hid ((nM 4++tI j).length<=100):=by show _<=_;unfold nM tI;simp;omega
      have r:Hid (nM 4++tI (j+1)=(nM 4++tI j)++[(i,false)]):=by show _=_;rw[JF,d,List.append_assoc]
      generalize nM 4++tI j=l at*;have H:(i:Int)<=32:=oO;have t:=Lib.hid d;clear d;go_wp2_with((with_reducible show wpList _ _ _ (⟨_,Op.call ⟨Callee.builtin Builtin.append,_,_⟩,_,_,_,_⟩::_) _ _);(refine nO (base:=w.heap.size) (l:=l) (ar a.out.O (ax _ _)) (by have:=a.out.B.size;simp;omega) rfl _ _ rfl rfl ⟨wr.heap.size,0,none⟩ 1 1 [(i,false)] rfl rfl (tO wr [(i,false)] _) (by have:=q.out;omega) ?_;intro v1 n f hg _;have o:Hid (nD w n v1 (l++[(i,false)])):=a.out.grow (ax _ _) f hg;clear f hg))
      exact⟨⟨j+1,by omega,by show Value.int _ _=_;congr 1;have:=t.out;omega,by show nD _ _ _ _;rw[r.out];exact o.out⟩,by have:=t.out;simp[intOf];omega⟩
     ·have x:i=33:=oO;have y:j=29:=oO;subst x y;clear p m d;go_wp2;go_ret;exact⟨_,rfl,by rw[Cd,if_neg oD];exact a.out.sp,a.out.B⟩
theorem AN (L:Nat) (c:Bool) (k size g:Nat) (w:World) (t:L<=32) (O:k<=100000) (hs:size<=100000) (P:g<=100):Calls Tryz.prog 34 #[aP L c,.int .i64 k,.int .i64 size,.int .i64 g] w λe w'=>e= .returned (.bool (vb L c k size g))/\Below w.heap.size w w':=by
 have a:=eP w L c;have B:Hid (∀W,Calls Tryz.prog 57 #[.bool c] W λe w'=>e= .returned (.int .i64 ((gj c:Nat):Int))/\w'=W):=λW=>tE c W;have C:Hid (∀W,Calls Tryz.prog 33 #[aP L c] W λe w'=>e= .returned (.int .i64 ((aq L:Nat):Int))/\Below W.heap.size W w'):=λW=>lf L c W t;have V:Hid (∀W,Calls Tryz.prog 44 #[aP L c] W λe w'=>e= .returned (.int .i64 ((ay L c:Nat):Int))/\Below W.heap.size W w'):=λW=>j7 L c W t;have v:Hid (vb L c k size g=(decide (k<=gj c)&&decide (aq L* k+size* g/100+11<=aq L* ay L c))):=rfl;have X:gj c<=2048:=by cases c<;>decide
 have x:aq L<=12:=by rcases fu L with h|h|h|h<;>omega
 have D:=qF (c:=c) t;have j:Hid (af (w.alloc (bE L c)) (w.alloc (bE L c)).drew):=aj (Below.refl _ _);have J:Hid (∀W,af (w.alloc (bE L c)) W->Below w.heap.size w W):=λW u=>cP u;generalize gj c=l at*;generalize aq L=z at*;generalize ay L c=A at*;obtain⟨p1,p⟩:∃p1,p1=z* k:=⟨_,rfl⟩;obtain⟨p2,q⟩:∃p2,p2=size* g:=⟨_,rfl⟩;obtain⟨f,y⟩:∃f,f=p2/100:=⟨_,rfl⟩;obtain⟨d,r⟩:∃d,d=z* A:=⟨_,rfl⟩;have ab:p1<=1200000:=by rw[p];exact Nat.mul_le_mul x O
 have ac:p2<=10000000:=by rw[q];exact Nat.mul_le_mul hs P
 have ad:d<=48000:=by rw[r];exact Nat.mul_le_mul x D
 have al:f<=100000:=oO;have am:(z:Int)* (k:Int)=(p1:Int):=by rw[p];simp
 have ap:(size:Int)* (g:Int)=(p2:Int):=by rw[q];simp
 have av:(p2:Int)/100=(f:Int):=by rw[y];simp
 have a0:(z:Int)* (A:Int)=(d:Int):=by rw[r];simp
 have a1:IntKind.i64.wrap (p1:Int)=(p1:Int):=aG _ oO oO;have a2:IntKind.i64.wrap (p2:Int)=(p2:Int):=aG _ oO oO;have a3:IntKind.i64.wrap (f:Int)=(f:Int):=aG _ oO oO;have a4:IntKind.i64.wrap (d:Int)=(d:Int):=aG _ oO oO;obtain⟨o,Y⟩:∃o,o=p1+f:=⟨_,rfl⟩;obtain⟨i,E⟩:∃i,i=p1+f+11:=⟨_,rfl⟩;have a5:IntKind.i64.wrap ((p1:Int)+(f:Int))=(o:Int):=by rw[aG _ oO oO];omega
 have a6:IntKind.i64.wrap ((o:Int)+11)=(i:Int):=by rw[aG _ oO oO];omega
 rw[<-p,<-q,<-y,<-r,<-E]at v;clear p q y r Y E X x D;by_cases m:k<=l
 ·have Z:(k:Int)<=(l:Int):=oO;have s:Hid (vb L c k size g=decide (i<=d)):=by show _=_;rw[v.out,decide_eq_true m,Bool.true_and]
  obtain⟨b,hb⟩:∃b,b=decide (i<=d):=⟨_,rfl⟩;have a7:decide ((i:Int)<=(d:Int))=b:=by rw[hb,decide_eq_decide];omega
  rw[<-hb]at s;have a8:decide (i<=d)=b:=hb.symm;clear hb m;go_enter Tryz.func34,Tryz.ntmps34;go_wp2;refine yO (af (w.alloc (bE L c))) [1,2,3,0,4,0,5,6,7,9,11,12,13,14,17,19,0,8,0,10,15,16,0,18,20,0,21,22,23,24] j.out ?_
  repeat first|refine zO a.out ?_|refine zX a.out ?_
  refine zZ ?_;refine(B.out _).mono ?_;rintro e Q ⟨rfl,n⟩;rw[n];clear n;refine⟨_,rfl,j.out,jO ?_⟩
  repeat first|refine zO a.out ?_|refine zX a.out ?_
  refine zZ ?_;refine(C.out _).mono ?_;rintro e S ⟨rfl,K⟩;have F:Hid (af (w.alloc (bE L c)) S):=ae j.out K;clear K;refine⟨_,rfl,F.out,jO ?_⟩
  repeat first|refine zO a.out ?_|refine zX a.out ?_
  refine zZ ?_;refine(C.out _).mono ?_;rintro e T ⟨rfl,M⟩;have G:Hid (af (w.alloc (bE L c)) T):=ae F.out M;clear M;refine⟨_,rfl,G.out,jO ?_⟩
  repeat first|refine zO a.out ?_|refine zX a.out ?_
  refine zZ ?_;refine(V.out _).mono ?_;rintro e U ⟨rfl,N⟩;have H:Hid (af (w.alloc (bE L c)) U):=ae G.out N;clear N;refine⟨_,rfl,H.out,jO ?_⟩
  repeat first|refine zO a.out ?_|refine zX a.out ?_
  refine ag ?_;go_wp2;go_ret;exact⟨by rw[s.out];rfl,J.out _ H.out⟩
 ·have Z:¬(k:Int)<=(l:Int):=oO;have a9:decide (k<=l)=false:=decide_eq_false m;have s:Hid (vb L c k size g=false):=by show _=_;rw[v.out,decide_eq_false m,Bool.false_and]
  have bb:l<k:=oO;clear m;go_enter Tryz.func34,Tryz.ntmps34;go_wp2;refine yO (af (w.alloc (bE L c))) [1,2,3,0,4,0,5,6,7,9,11,12,13,14,17,19,0,8,0,10,15,16,0,18,20,0,21,22,23,24] j.out ?_
  repeat first|refine zO a.out ?_|refine zX a.out ?_
  refine zZ ?_;refine(B.out _).mono ?_;rintro e Q ⟨rfl,n⟩;rw[n];clear n;refine⟨_,rfl,j.out,jO ?_⟩
  repeat
   first
   |(refine' gu rfl ?_;simp only[yQ,yU,yX,yY])
   |(refine' fD rfl j.out ?_;simp only[yQ,yU,yX,yY])
   |(refine' rX rfl (λW u=>?_) ?_;rotate_left;(· have bd:=a.out W u;go_simp;rfl);simp only[yQ,yU,yX,yY])
  refine ag ?_;go_wp2;go_ret;exact⟨by rw[s.out];rfl,J.out _ j.out⟩
end
end Go.Proofs.YtmnlkganmgcpbaaGreatDoor
