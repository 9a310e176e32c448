import Derived.Test.YtmnlkganmgcpbaaGreatDoorQd2
import Derived.Laws.CopyOwn
import Derived.Laws.CopyRow
import Derived.Deep.WholeRow
set_option maxRecDepth 100000
set_option maxHeartbeats 4000000
set_option linter.unusedVariables false
set_option linter.unusedSectionVars false
set_option linter.unusedSimpArgs false
namespace Go.Proofs.YtmnlkganmgcpbaaGreatDoor
section
open Go.RowKit
def RT {α:Type} (f:α->Value) (d:α) (w:World) (L:List α×Int) (e:Ending) (w':World):Prop:=∃v,e= .returned (.tuple #[v,.int .i64 L.2])/\SG f d w' v L.1/\Below w.heap.size w w'
theorem RT.mk {α:Type} {f:α->Value} {d:α} {w w':World} {R:List α×Int} {v:Value} {L:List α} {err:Int} (h:R=(L,err)) (a:SG f d w' v L) (hb:Below w.heap.size w w'):RT f d w R (.returned (.tuple #[v,.int .i64 err])) w':=by
 subst h;exact⟨v,rfl,a,hb⟩
def gY (b:List Bool) (size:Int):List Nat×Int:=
 if size<2\/12<size then([],3)else if 1048576<b.length then([],4)else(aJ b size.toNat,0)
theorem yW (A:Option Addr) (n c:Nat) (size:Int) (b:List Bool) (w:World) (hb:SR vB false w A n c b):
 Calls Tryz.prog 32 #[.slice A n c,.int .i64 size] w (RT vN 0 w (gY b size)):=by
 have hn:n=b.length:=hb.hn;have i:n<=9223372036854775807:=by have:=hb.hm;have:=hb.hc;unfold maxLen at*;omega
 by_cases d:size<2
 ·have a:Hid (gY b size=([],3)):=by show _=_;unfold gY;rw[if_pos (.inl d)]
  clear hb hn;go_enter Tryz.func32,Tryz.ntmps32;go_wp2;go_ret2
  exact RT.mk a.out (SG.dO _) (Below.refl _ _)
 by_cases e:12<size
 ·have a:Hid (gY b size=([],3)):=by show _=_;unfold gY;rw[if_pos (.inr e)]
  clear hb hn;go_enter Tryz.func32,Tryz.ntmps32;go_wp2;go_ret2
  exact RT.mk a.out (SG.dO _) (Below.refl _ _)
 by_cases f:n<=1048576
 ·obtain⟨s,rfl⟩:=Int.eq_ofNat_of_zero_le (show 0<=size by omega);have a:gY b s=(aJ b s,0):=by unfold gY;rw[if_neg oO,if_neg oO];rfl
  rw[a];exact G3 A n c s b w hb oO oO f
 ·have a:Hid (gY b size=([],4)):=by show _=_;unfold gY;rw[if_neg oO,if_pos oO]
  have g:decide ((1048576:Int)<(n:Int))=true:=by simp;omega
  clear hb hn;go_enter Tryz.func32,Tryz.ntmps32;go_wp2;go_ret2
  exact RT.mk a.out (SG.dO _) (Below.refl _ _)
end
theorem vy (a b:Nat):(a^^^b)%2=(a%2+b%2)%2:=by
 have h:=Nat.testBit_xor a b 0;simp only[Nat.testBit_zero]at h;have c:=Nat.mod_two_eq_zero_or_one a;have hb:=Nat.mod_two_eq_zero_or_one b;have hc:=Nat.mod_two_eq_zero_or_one (a^^^b);rcases c with c|c<;>rcases hb with hb|hb<;>rcases hc with hc|hc<;>simp[c,hb,hc]at h⊢
theorem vQ (a b:Nat):(a^^^b)/2=a/2^^^b/2:=by
 apply Nat.eq_of_testBit_eq;intro i;simp[Nat.testBit_xor,Nat.testBit_div_two]
theorem pV (a b:Nat):2* (a^^^b)=2* a^^^2* b:=by
 apply Nat.eq_of_testBit_eq;intro i;cases i with
 |zero=>simp[Nat.testBit_zero,vy]
 |succ i=>simp[Nat.testBit_succ,vQ]
def cmulF:Nat->Nat->Nat->Nat
 |0,_,_=>0
 |n+1,a,b=>(if b%2=1 then a else 0)^^^2* cmulF n a (b/2)
theorem jC (n a:Nat):cmulF n a 0=0:=by
 induction n with
 |zero=>rfl
 |succ n b=>simp[cmulF,b]
theorem EH (n m a b:Nat) (hn:b<=n) (d:b<=m):cmulF n a b=cmulF m a b:=by
 induction n generalizing m b with
 |zero=>
  obtain rfl:b=0:=oO;rw[jC,jC]
 |succ n c=>
  cases m with
  |zero=>
   obtain rfl:b=0:=oO;rw[jC,jC]
  |succ m=>simp only[cmulF];rw[c m (b/2) oO oO]
def bX (a b:Nat):Nat:=cmulF b a b
theorem fX (a:Nat):bX a 0=0:=rfl
theorem fg (a b:Nat):bX a b=(if b%2=1 then a else 0)^^^2* bX a (b/2):=by
 by_cases hb:b=0
 ·subst hb;simp[bX,cmulF]
 ·obtain⟨c,rfl⟩:∃c,b=c+1:=⟨b-1,by omega⟩;unfold bX;rw[cmulF];rw[EH c ((c+1)/2) a ((c+1)/2) oO oO]
theorem tc (a b:Nat):bX a (2* b)=2* bX a b:=by
 rw[fg];simp
theorem qS (a:Nat):bX a 1=a:=by
 rw[fg];simp[fX]
theorem yP (b:Nat):bX 0 b=0:=by
 induction b using Nat.strongRecOn with
 |_ b a=>
  by_cases hb:b=0
  ·subst hb;rfl
  ·rw[fg,a (b/2) oO];simp
theorem qH (a b c:Nat):bX (a^^^b) c=bX a c^^^bX b c:=by
 induction c using Nat.strongRecOn with
 |_ c d=>
  by_cases hc:c=0
  ·subst hc;simp[fX]
  ·rw[fg (a^^^b),fg a c,fg b c,d (c/2) oO,pV];split
   ·ac_rfl
   ·simp
theorem tJ (a b:Nat):bX (2* a) b=2* bX a b:=by
 induction b using Nat.strongRecOn with
 |_ b c=>
  by_cases hb:b=0
  ·subst hb;simp[fX]
  ·rw[fg (2* a),fg a b,c (b/2) oO,pV];split<;>simp
theorem BJ (a:Nat):(a%2)^^^2* (a/2)=a:=by
 apply Nat.eq_of_testBit_eq;intro i;cases i with
 |zero=>simp[Nat.testBit_zero,vy]
 |succ i=>
  rw[Nat.testBit_succ,Nat.testBit_succ,vQ];simp
theorem Cm (a b c:Nat):bX a (b^^^c)=bX a b^^^bX a c:=by
 induction b using Nat.strongRecOn generalizing c with
 |_ b f=>
  by_cases hb:b=0
  ·subst hb;simp[fX]
  ·rw[fg a (b^^^c),fg a b,fg a c,vQ,f (b/2) oO,pV,vy];rcases Nat.mod_two_eq_zero_or_one b with d|d<;>rcases Nat.mod_two_eq_zero_or_one c with e|e
   ·simp[d,e]
   ·simp[d,e];ac_rfl
   ·simp[d,e];ac_rfl
   ·simp only[d,e];simp;rw[show a^^^2* bX a (b/2)^^^(a^^^2* bX a (c/2))=(a^^^a)^^^(2* bX a (b/2)^^^2* bX a (c/2))from by ac_rfl];simp
theorem vz (b:Nat):bX 1 b=b:=by
 induction b using Nat.strongRecOn with
 |_ b c=>
  by_cases hb:b=0
  ·subst hb;rfl
  ·rw[fg,c (b/2) oO];have:=BJ b;rcases Nat.mod_two_eq_zero_or_one b with a|a<;>simp[a]at this⊢<;>exact this
theorem nj (a b:Nat):bX a b=bX b a:=by
 induction a using Nat.strongRecOn generalizing b with
 |_ a d=>
  by_cases e:a=0
  ·subst e;rw[yP,fX]
  ·conv=>lhs;rw[<-BJ a,qH,tJ,d (a/2) oO]
   rw[fg b a];rcases Nat.mod_two_eq_zero_or_one a with c|c<;>simp[c,yP,vz]
theorem rr (a b c:Nat):bX (bX a b) c=bX a (bX b c):=by
 induction c using Nat.strongRecOn with
 |_ c d=>
  by_cases hc:c=0
  ·subst hc;simp[fX]
  ·rw[fg (bX a b) c,fg b c,Cm,tc,d (c/2) oO];split<;>simp[fX]
instance:Std.Associative bX:=⟨rr⟩
instance:Std.Commutative bX:=⟨nj⟩
def bl:Nat->Nat:=λn=>if n=0 then 0 else n.log2+1
theorem bD (a n:Nat):bl a<=n↔a<2^n:=by
 unfold bl;split
 ·subst a;simp;exact Nat.two_pow_pos n
 ·rename_i h;rw[<-Nat.log2_lt h];omega
theorem iJ (a n:Nat):n<bl a↔2^n<=a:=by
 have:=bD a n;omega
theorem yt (a:Nat):a<2^bl a:=(bD a _).1 (Nat.le_refl _)
theorem FX (a:Nat) (h:a≠0):2^(bl a-1)<=a:=by
 apply(iJ a _).1;have:0<bl a:=(iJ a 0).2 oT;omega
theorem fy:bl 0=0:=rfl
theorem ie (a:Nat) (h:a≠0):0<bl a:=(iJ a 0).2 oT
theorem wR (a n:Nat) (b:2^n<=a) (c:a<2^(n+1)):bl a=n+1:=by
 have:=(iJ a n).2 b;have:=(bD a (n+1)).2 c;omega
theorem tM (a b:Nat) (h:a<=b):bl a<=bl b:=(bD _ _).2 (Nat.lt_of_le_of_lt h (yt b))
theorem uV (a b:Nat) (h:bl a<bl b):a<b:=by
 have:=tM b a;omega
theorem qW (a:Nat) (h:a≠0):bl (2* a)=bl a+1:=by
 obtain⟨n,hn⟩:∃n,bl a=n+1:=⟨bl a-1,by have:=ie a h;omega⟩;rw[hn];have b:=(iJ a n).1 oO;have c:=(bD a (n+1)).1 oO;exact wR _ _ (by rw[Nat.pow_succ];omega) (by rw[Nat.pow_succ];omega)
theorem nT (a n:Nat) (h:bl a=n+1):a.testBit n=true:=by
 have c:=(iJ a n).1 oO;have b:=(bD a (n+1)).1 oO;rw[Nat.testBit_eq_decide_div_mod_eq];have:a/2^n=1:=by
  apply Nat.div_eq_of_lt_le
  ·omega
  ·rw[Nat.pow_succ]at b;omega
 simp[this]
theorem zE (a n:Nat) (h:a.testBit n=true) (b:a<2^(n+1)):bl a=n+1:=by
 refine wR _ _ (Nat.ge_two_pow_of_testBit h) b
theorem nw (a b n:Nat) (c:bl a<=n) (hb:bl b<=n):bl (a^^^b)<=n:=by
 rw[bD]at*;exact Nat.xor_lt_two_pow c hb
theorem ze (a b n:Nat) (c:bl a=n+1) (hb:bl b=n+1):bl (a^^^b)<=n:=by
 have h:bl (a^^^b)<=n+1:=nw _ _ _ oO oO;by_cases e:bl (a^^^b)=n+1
 ·have:=nT _ _ e;rw[Nat.testBit_xor,nT _ _ c,nT _ _ hb]at this;simp at this
 ·omega
theorem GF (a b:Nat) (h:bl a<bl b):bl (a^^^b)=bl b:=by
 obtain⟨n,hn⟩:∃n,bl b=n+1:=⟨bl b-1,by omega⟩;have c:a<2^n:=(bD a n).1 oO;rw[hn];refine zE _ _ ?_ ?_
 ·rw[Nat.testBit_xor,nT _ _ hn,Nat.testBit_lt_two_pow c];rfl
 ·exact(bD _ _).1 (nw _ _ _ oO oO)
theorem DR (a b:Nat) (d:a≠0) (hb:b≠0):bl (bX a b)+1=bl a+bl b:=by
 induction b using Nat.strongRecOn with
 |_ b e=>
  have m:=ie a d;by_cases f:b=1
  ·subst f;rw[qS];have:bl 1=1:=by decide
   omega
  ·have c:b/2≠0:=oO;have g:=e (b/2) oO c;have o:bl b=bl (b/2)+1:=by
    obtain⟨n,hn⟩:∃n,bl (b/2)=n+1:=⟨bl (b/2)-1,by have:=ie _ c;omega⟩;have k:=(iJ (b/2) n).1 oO;have l:=(bD (b/2) (n+1)).1 oO;rw[hn];exact wR _ _ (by rw[Nat.pow_succ];omega) (by rw[Nat.pow_succ];omega)
   have p:=ie _ c;have j:bX a (b/2)≠0:=by
    intro i;rw[i,fy]at g;omega
   rw[fg];have e2:=qW _ j;split
   ·rw[GF _ _ oO];omega
   ·simp;omega
theorem Ce (a n:Nat):bX a (2^n)=a* 2^n:=by
 induction n with
 |zero=>simp[qS]
 |succ n b=>rw[show 2^(n+1)=2* 2^n from by rw[Nat.pow_succ];omega,tc,b,Nat.mul_left_comm]
theorem Bs (a n:Nat) (b:a≠0):bl (a* 2^n)=bl a+n:=by
 induction n with
 |zero=>simp
 |succ n c=>
  rw[Nat.pow_succ,show a* (2^n* 2)=2* (a* 2^n)from by ac_rfl,qW _ (by have:=Nat.two_pow_pos n;exact Nat.mul_ne_zero b oO),c];omega
def gm (p a:Nat):Prop:=∃k,a=bX p k
theorem px (p:Nat):gm p 0:=⟨0,(fX p).symm⟩
theorem Gf (p:Nat):gm p p:=⟨1,(qS p).symm⟩
theorem mN {p a b:Nat} (c:gm p a) (d:gm p b):gm p (a^^^b):=by
 obtain⟨k,rfl⟩:=c;obtain⟨l,rfl⟩:=d;exact⟨k^^^l,(Cm _ _ _).symm⟩
theorem Aj {p a:Nat} (b:Nat) (c:gm p a):gm p (bX a b):=by
 obtain⟨k,rfl⟩:=c;exact⟨bX k b,rr _ _ _⟩
theorem qM {p a:Nat} (h:gm p a) (d:bl a<bl p):a=0:=by
 obtain⟨k,rfl⟩:=h;by_cases b:k=0
 ·subst b;exact fX _
 ·by_cases c:p=0
  ·subst c;rw[fy]at d;omega
  ·have:=DR p k c b;have:=ie k b;omega
def km (p q:Nat):Nat:=p^^^q* 2^(bl p-bl q)
theorem Cs (p q:Nat) (hq:q≠0) (h:bl q<=bl p):bl (km p q)<bl p:=by
 have a:=ie q hq;obtain⟨n,hn⟩:∃n,bl p=n+1:=⟨bl p-1,by omega⟩;have:=Bs q (bl p-bl q) hq;have:=ze p (q* 2^(bl p-bl q)) n hn oO;unfold km;omega
def mV:Nat->Nat->Nat->Nat
 |0,p,_=>p
 |n+1,p,q=>if bl q<=bl p then mV n (km p q) q else p
def cmod (p q:Nat):Nat:=mV (bl p) p q
theorem IP (n p q:Nat) (hq:q≠0) (h:bl p<bl q+n):bl (mV n p q)<bl q:=by
 induction n generalizing p with
 |zero=>simp[mV];omega
 |succ n a=>
  simp only[mV];split
  ·rename_i b;have:=Cs p q hq b
   exact a _ oO
  ·omega
theorem Gq (n p q:Nat):gm q (p^^^mV n p q):=by
 induction n generalizing p with
 |zero=>simp[mV];exact px _
 |succ n a=>
  simp only[mV];split
  ·have:=mN (a (km p q)) (⟨2^(bl p-bl q),(Ce q _).symm⟩:gm q (q* 2^(bl p-bl q)));rw[show km p q^^^mV n (km p q) q^^^q* 2^(bl p-bl q)=(km p q^^^q* 2^(bl p-bl q))^^^mV n (km p q) q from by ac_rfl]at this;rw[show km p q^^^q* 2^(bl p-bl q)=p from by unfold km;rw[Nat.xor_assoc];simp]at this;exact this
  ·simp;exact px _
theorem lL (p q:Nat) (hq:q≠0):bl (cmod p q)<bl q:=
 IP _ _ _ hq (by have:=ie q hq;omega)
theorem ke (p q:Nat):gm q (p^^^cmod p q):=Gq _ _ _
theorem jQ (p q r:Nat) (b:gm q (p^^^r)) (c:bl r<bl q):r=cmod p q:=by
 have hq:q≠0:=by intro h;subst h;rw[fy]at c;omega
 have a:=mN b (ke p q);rw[show p^^^r^^^(p^^^cmod p q)=(p^^^p)^^^(r^^^cmod p q)from by ac_rfl]at a;simp at a;have d:=qM a (Nat.lt_of_le_of_lt (nw r (cmod p q) (bl q-1) oO (by have:=lL p q hq;omega)) oO);have e:=congrArg (λx=>x^^^cmod p q) d;simpa[Nat.xor_assoc]using e
theorem ox (p q:Nat) (hq:q≠0):cmod p q=0↔gm q p:=by
 constructor
 ·intro h;have:=ke p q;rw[h]at this;simpa using this
 ·intro h;exact(jQ p q 0 (by simpa using h) (by rw[fy];exact ie q hq)).symm
theorem kh (p q:Nat) (h:bl p<bl q):cmod p q=p:=
 (jQ p q p (by simp;exact px _) h).symm
def M5 (p:Nat):Prop:=2<=bl p/\∀q,2<=q->2* (bl q-1)<=bl p-1->¬gm q p
theorem yG (q:Nat) (a:q≠0) (b:q≠1):2<=q:=oO
theorem Mx (p a b:Nat) (g:M5 p) (h:gm p (bX a b)):gm p a\/gm p b:=by
 by_cases l:gm p a
 ·exact .inl l
 right;have u:p≠0:=by intro h;subst h;have:=g.1;rw[fy]at this;omega
 have v:a≠0:=by intro h;subst h;exact l (px _)
 have key:∀n,∀c,c<n->c≠0->gm p (bX c b)->gm p b:=by
  intro n
  induction n with
  |zero=>intro c hc;omega
  |succ n s=>
   intro c hc f m;have red:∀x,gm p (bX x b)->gm p b\/gm c x:=by
    intro x t;by_cases o:cmod x c=0
    ·exact .inr ((ox _ _ f).1 o)
    ·left;refine s (cmod x c) ?_ o ?_
     ·have:=uV _ _ (lL x c f);omega
     ·obtain⟨k,d⟩:=ke x c;have e:cmod x c=x^^^bX c k:=by rw[<-d,<-Nat.xor_assoc];simp
      rw[e,qH];refine mN t ?_;rw[show bX (bX c k) b=bX (bX c b) k from by ac_rfl];exact Aj _ m
   rcases red p ⟨b,rfl⟩with i|i
   ·exact i
   rcases red a h with j|j
   ·exact j
   obtain⟨k,d⟩:=i;have r:k≠0:=by intro h;subst h;rw[fX]at d;exact u d
   have w:=DR c k f r;rw[<-d]at w;by_cases c1:c=1
   ·subst c1;rw[vz]at m;exact m
   by_cases q:k=1
   ·subst q;rw[qS]at d;subst d;exact absurd j l
   exfalso;by_cases y:bl c<=bl k
   ·exact g.2 c (yG c f c1) oO ⟨k,d⟩
   ·exact g.2 k (yG k r q) oO ⟨c,by rw[nj];exact d⟩
 exact key (a+1) a oO v h
theorem lD (a:Nat) (b:a<2^62):(BitVec.ofInt 64 (a:Int)).toNat=a:=by
 rw[BitVec.ofInt_natCast,BitVec.toNat_ofNat];exact Nat.mod_eq_of_lt oO
theorem iT (a b:Nat) (c:a<2^62) (hb:b<2^62):bits .xor .i64 (a:Int) (b:Int)=((a^^^b:Nat):Int):=by
 have d:a^^^b<2^62:=Nat.xor_lt_two_pow c hb;show IntKind.i64.wrap ((BitVec.ofInt 64 (a:Int)^^^BitVec.ofInt 64 (b:Int)).toNat:Int)=_;rw[BitVec.toNat_xor,lD a c,lD b hb,IntKind.wrap_i64];omega
theorem Df (a b:Nat) (c:a<2^62) (hb:b<2^62):bits .and .i64 (a:Int) (b:Int)=((a&&&b:Nat):Int):=by
 have d:a&&&b<2^62:=Nat.and_lt_two_pow _ hb;show IntKind.i64.wrap ((BitVec.ofInt 64 (a:Int)&&&BitVec.ofInt 64 (b:Int)).toNat:Int)=_;rw[BitVec.toNat_and,lD a c,lD b hb,IntKind.wrap_i64];omega
theorem pN (a:Nat) (b:a<2^62):bits .and .i64 (a:Int) 1=((a%2:Nat):Int):=by
 have:=Df a 1 b oD;rw[Nat.and_one_is_mod]at this;exact this
section
open Go.RowKit
def jF (v i:Nat):Bool:=v/2^i%2==1
def lowF (v n:Nat):Nat->List Bool
 |0=>[]
 |k+1=>lowF v n k++[jF v (n-1-k)]
def aH (v n:Nat):List Bool:=lowF v n n
theorem kx (v n k:Nat):(lowF v n k).length=k:=by
 induction k with
 |zero=>rfl
 |succ k a=>unfold lowF;rw[List.length_append,a];rfl
theorem qD (v i:Nat) (b:v<=1000000000000):(bits BinOp.and IntKind.i64 ((v:Int)/2^i) 1==1)=jF v i:=by
 have e:((v:Int)/2^i)=((v/2^i:Nat):Int):=by simp
 have a:v/2^i<2^62:=Nat.lt_of_le_of_lt (Nat.div_le_self _ _) oO;rw[e,pN _ a];unfold jF;generalize v/2^i%2=x;by_cases h:x=1
 ·subst h;rfl
 ·rw[beq_eq_false_iff_ne.2 h,beq_eq_false_iff_ne];omega
theorem nH (base:Nat) (a:List Bool) (u:Value) (v n:Nat) (w:World) (z:v<=1000000000000) (hn:n<=62) (hl:a.length<=100000000) (hb:base<=w.heap.size) (m:w.ownsRow base 4 1 u a.length (a.map vB)):
 Calls Tryz.prog 108 #[u,.int .i64 v,.int .i64 n] w λe w'=>∃o,e= .returned o/\w'.ownsRow base 4 1 o (a++aH v n).length ((a++aH v n).map vB)/\Below base w w':=by
 obtain⟨A,B,F,G,H⟩:=info_parts iO;have C:=Lib.hid m;clear m;go_enter Tryz.func108,Tryz.ntmps108;go_wp2;go_loopw [0,7] (λD b wr=>∃(k:Nat) (j:Int),k<=n/\b= .int .i64 j/\Hid (j=(n:Int)-1-k)/\Hid (Below base w wr)/\Hid (wr.ownsRow base 4 1 D (a++lowF v n k).length ((a++lowF v n k).map vB))) (λ_ b _=>(intOf b+1).toNat)
 case atStart=>exact⟨0,_,Nat.zero_le _,rfl,by show _=_;omega,Below.refl _ _,by show World.ownsRow _ _ _ _ _ _ _;rw[show lowF v n 0=[]from rfl,List.append_nil];exact C.out⟩
 case round=>
  obtain⟨k,j,M,rfl,p,c,g⟩:=hrel;by_cases O:k<n
  ·obtain⟨i,s⟩:∃i,i=n-1-k:=⟨_,rfl⟩;obtain rfl:j=(i:Int):=by have:=p.out;omega
   have r:=Lib.hid s;have P:i<=61:=oO;clear s;have S:=qD v i z;have J:Hid (lowF v n (k+1)=lowF v n k++[jF v i]):=by show _=_;rw[r.out];rfl
   have t:Hid ((a++lowF v n k).length<=100000062):=by show _<=_;rw[List.length_append,kx];omega
   generalize jF v i=y at*;have l:Hid (base<=wr.heap.size):=Nat.le_trans hb c.out.size;go_wp2_with(at_builtin;refine aY (f:=vB) (d:=false) xN rfl _ _ _ rfl base 4 A _ 1 Tryz.underlying26 B F G H rfl _ _ (a++lowF v n k) rfl (fa g.out _) (some ⟨wr.heap.size,0,none⟩) 1 1 [y] rfl rfl (RG.one _ _ _ _ rfl) (by unfold maxLen;have:=t.out;omega) (by have:=t.out;omega) (by have:=l.out;simp;omega) ?_;intro N E x hg;have K:Hid (Below base w E):=((c.out.alloc l.out _).grown hg (by have:=l.out;simp;omega) (λq hq=>(g.out.lt q hq).1));have L:=Lib.hid x;clear x hg)
   exact⟨⟨k+1,_,by omega,rfl,by have:=r.out;show _=_;omega,K.out,by
    show World.ownsRow _ _ _ _ _ _ _;rw[J.out,<-List.append_assoc];have e1:(a++lowF v n k++[y]).length=(a++lowF v n k).length+1:=List.length_append
    rw[e1];exact L.out⟩,by simp[intOf]⟩
  ·obtain rfl:k=n:=oO;have Q:decide ((0:Int)<=j)=false:=by have:=p.out;simp;omega
   go_wp2;go_ret;exact⟨_,rfl,g.out,c.out⟩
theorem H2:(Tryz.prog.info? 4).map (·.size)=some 1:=oK
theorem aN (v n:Nat):(aH v n).length=n:=kx v n n
theorem Dj (v n:Nat) (w:World) (g:v<=1000000000000) (hn:n<=62):
 Calls Tryz.prog 59 #[.slice none 0 0,.int .i64 v,.int .i64 n] w (RT vB false w (aH v n,0)):=by
 obtain⟨i,j,k,l,m⟩:=info_parts iO;have t:∀a:World,(Builtin.copy_ #[26,26] 3 #[.slice (some ⟨w.heap.size,0,none⟩) 0 n,.slice none 0 0]).run Tryz.prog a= .ok (goInt 0) a:=λa=>run_copy_none a _ _ _ 4 _ _ _ _ _ _ Tryz.underlying26 H2 oS;go_enter Tryz.func59,Tryz.ntmps59
 go_wp2_with(first
  |(at_make;refine wpList_make_own _ rfl _ _ _ rfl w.heap.size 4 i _ 1 Tryz.underlying26 j k l .i64 .i64 _ n rfl rfl (by first|rfl|omega) (by rw[m];omega) oM (Nat.le_refl _) ?_;intro a f hg;have o:=Lib.hid f;have b:Hid (Below w.heap.size w a):=(Below.refl _ _).grown hg (Nat.le_refl _) (λq hq=>by cases hq);clear f hg)
  |(go_at_call 108;refine(nH w.heap.size [] _ v n _ g hn oS b.out.size o.out).mono ?_;rintro e s ⟨u2,rfl,c,d⟩;have p:=Lib.hid c;have r:=Lib.hid d;clear c d))
 go_ret2
 exact RT.mk rfl (by have h:=p.out;rw[List.nil_append]at h;exact SG.aI h) (b.out.trans r.out)
def numF (b:List Bool) (at_:Nat):Nat->Nat
 |0=>0
 |k+1=>2* numF b at_ k+(if b.getD (at_+k) false then 1 else 0)
theorem jh (b:List Bool) (k j:Nat):numF b k j<2^j:=by
 induction j with
 |zero=>simp[numF]
 |succ j a=>
  have:(if b.getD (k+j) false then 1 else 0)<=1:=by split<;>omega
  show 2* numF b k j+(if b.getD (k+j) false then 1 else 0)<2^(j+1);rw[Nat.pow_succ];omega
theorem LZ (x:Nat) (a:x<=2199023255552):bits BinOp.or IntKind.i64 ((x:Int)* 2) 1=((2* x+1:Nat):Int):=by
 have e:((x:Int)* 2)=((2* x:Nat):Int):=oO;have e2:2* x|||1=2* x+1:=by
  have:=Nat.two_pow_add_eq_or_of_lt (i:=1) (b:=1) oD x;simpa using this.symm
 rw[e];show IntKind.i64.wrap ((BitVec.ofInt 64 ((2* x:Nat):Int)|||BitVec.ofInt 64 ((1:Nat):Int)).toNat:Int)=_;rw[BitVec.toNat_or,lD _ oO,lD 1 oD,e2,IntKind.wrap_i64];omega
theorem qU (A:Option Addr) (n c:Nat) (b:List Bool) (w:World) (hn:n<=40) (hb:SR vB false w A n c b):
 Calls Tryz.prog 109 #[.slice A n c] w λe w'=>e= .returned (.int .i64 ((numF b 0 n:Nat):Int))/\w'=w:=by
 have o:=Lib.hid hb;have i:Hid (n=b.length):=hb.hn;clear hb;go_enter Tryz.func109,Tryz.ntmps109;go_wp2;go_loop [3,8] (λp f=>∃k x:Nat,k<=n/\f= .int .i64 k/\p= .int .i64 x/\x<=2199023255552/\Hid (x=numF b 0 k)) (λ_ f=>n-(intOf f).toNat)
 case atStart=>exact⟨0,0,Nat.zero_le _,rfl,rfl,by omega,rfl⟩
 case round=>
  obtain⟨k,x,u,rfl,rfl,q,j⟩:=hrel;by_cases t:k<n
  ·obtain⟨v,rfl,C,m⟩:=o.out.rd (by rw[<-i.out];omega);have B:=m k (by rw[<-i.out];exact t);clear m;have l:Hid (∀y,b.getD k false=y->numF b 0 (k+1)=2* x+(if y then 1 else 0)):=by
    show∀y,_;rintro y rfl;rw[j.out];show 2* _+(if b.getD (0+k) false then 1 else 0)=_;rw[Nat.zero_add]
   generalize b.getD k false=y at*;cases y with
   |true=>
    have z:=LZ x q;have a:=Lib.hid (l.out true rfl);have g:2* x+1<=2199023255552:=by
     have d:=jh b 0 (k+1);rw[a.out]at d;have r:2^(k+1)<=2^40:=Nat.pow_le_pow_right oO oO;have s:(2:Nat)^40=1099511627776:=by decide
     simp only[if_true]at d;omega
    go_wp2;exact⟨⟨k+1,2* x+1,by omega,by go_num,rfl,g,a.out.symm⟩,by simp[intOf];omega⟩
   |false=>
    have a:=Lib.hid (l.out false rfl);have g:2* x<=2199023255552:=by
     have d:=jh b 0 (k+1);rw[a.out]at d;have r:2^(k+1)<=2^40:=Nat.pow_le_pow_right oO oO;have s:(2:Nat)^40=1099511627776:=by decide
     omega
    go_wp2;exact⟨⟨k+1,2* x,by omega,by go_num,by go_num,g,a.out.symm⟩,by simp[intOf];omega⟩
  ·obtain rfl:k=n:=oO;go_wp2;go_ret;exact⟨by rw[<-j.out];rfl,rfl⟩
theorem RG.drop {α:Type} {f:α->Value} {d:α} {w:World} {a:Addr} {l:List α} (h:RG f d w (some a) l) (k:Nat):RG f d w (some (a.add k)) (l.drop k):=λhn=>by
 rw[List.length_drop]at hn;obtain⟨i,e,b,c⟩:=h oO;injection e with e;subst e;refine⟨_,rfl,by rw[aL];exact b,λj g=>?_⟩;rw[List.length_drop]at g;rw[Ft,c (k+j) oO];simp[List.getD]
theorem RG.take {α:Type} {f:α->Value} {d:α} {w:World} {A:Option Addr} {l:List α} (h:RG f d w A l) (k:Nat):RG f d w A (l.take k):=λhn=>by
 rw[List.length_take]at hn;obtain⟨a,e,b,c⟩:=h oO;refine⟨a,e,b,λj g=>?_⟩;rw[List.length_take]at g;rw[c j oO];simp only[List.getD];rw[List.getElem?_take_of_lt oO]
theorem nt (b:List Bool) (k n:Nat):∀j,numF (b.drop k) n j=numF b (k+n) j:=by
 intro j
 induction j with
 |zero=>rfl
 |succ j a=>
  show 2* numF (b.drop k) n j+(if(b.drop k).getD (n+j) false then 1 else 0)=2* numF b (k+n) j+(if b.getD (k+n+j) false then 1 else 0);rw[a];congr 2;simp[List.getD,Nat.add_assoc]
theorem yT (b:List Bool) (k m:Nat):∀j,k+j<=m->numF (b.take m) k j=numF b k j:=by
 intro j
 induction j with
 |zero=>intro _;rfl
 |succ j a=>
  intro h;show 2* numF (b.take m) k j+(if(b.take m).getD (k+j) false then 1 else 0)=2* numF b k j+(if b.getD (k+j) false then 1 else 0);rw[a oO];congr 2;simp only[List.getD];rw[List.getElem?_take_of_lt oO]
def bn (b:List Bool) (at_ n:Nat):Int×Int:=if b.length<at_+n then(0,10)else(((numF b at_ n:Nat):Int),0)
theorem yp (A:Option Addr) (n c m:Nat) (b:List Bool) (w:World) (i:m<=40) (hn:n<=1048576) (hb:SR vB false w A n c b):
 Calls Tryz.prog 67 #[.slice A n c,.int .i64 0,.int .i64 m] w (λe w'=>e= .returned (.tuple #[.int .i64 (bn b 0 m).1,.int .i64 (bn b 0 m).2])/\w'=w):=by
 have f:=Lib.hid hb;have a:Hid (n=b.length):=hb.hn;by_cases k:n<m
 ·have d:Hid (bn b 0 m=(0,10)):=by show _=_;unfold bn;rw[if_pos (by rw[<-a.out];omega)]
  clear hb;go_enter Tryz.func67,Tryz.ntmps67;go_wp2;go_ret2
  rw[d.out];exact⟨rfl,rfl⟩
 ·have d:Hid (bn b 0 m=(((numF b 0 m:Nat):Int),0)):=by show _=_;unfold bn;rw[if_neg (by rw[<-a.out];omega)]
  have l:=hb.hc;clear hb;go_enter Tryz.func67,Tryz.ntmps67;have j:Hid (Calls Tryz.prog 109 #[.slice A m c] w λe w'=>e= .returned (.int .i64 ((numF b 0 m:Nat):Int))/\w'=w):=by
   show Calls _ _ _ _ _;rw[<-yT b 0 m m oO];exact qU A m c (b.take m) w i ⟨by rw[List.length_take,<-a.out];omega,by omega,f.out.hm,f.out.rd.take m⟩
  go_wp2_with(go_at_call 109;refine j.out.mono ?_;rintro e w' ⟨rfl,g⟩;rw[g];clear g)
  go_ret2
  rw[d.out];exact⟨rfl,rfl⟩
theorem SR.drop {α:Type} {f:α->Value} {d:α} {w:World} {A b:Option Addr} {n c m g:Nat} {l:List α} (h:SR f d w A n c l) (k:m<=n) (i:n=m\/∃a,A=some a/\b=some (a.add m)) (hc:g=c-m):SR f d w b (n-m) g (l.drop m):=by
 have hn:=h.hn;have o:=h.hc;have p:=h.hm;refine⟨by rw[List.length_drop,<-hn],by omega,by omega,?_⟩;rcases i with e|⟨a,rfl,rfl⟩
 ·intro j;rw[List.length_drop]at j;omega
 ·exact h.rd.drop m
def Eb (A:Option Addr) (n c:Nat):List Value:=[.slice A n c,.bool true]
theorem tC {W:World} {b n c:Nat} {A:Option Addr} (h:ak W b (Eb A n c)):W.cell? ⟨b,0,none⟩=some (.slice A n c)/\W.cell? ⟨b,1,none⟩=some (.bool true):=⟨h.2 0 (by simp[Eb]),h.2 1 (by simp[Eb])⟩
theorem Iy (a:Nat) (A:Option Addr) (n c:Nat) (w:World) (h:ak w a (Eb A n c)):
 Calls Tryz.prog 181 #[.pointer (some ⟨a,0,none⟩)] w λe w'=>e= .returned (.int .i64 n)/\w'=w:=by
 obtain⟨b,d⟩:=tC h;clear h;go_enter Tryz.func181,Tryz.ntmps181;go_wp2;go_ret;exact⟨rfl,rfl⟩
def lK (s w:Nat):List Bool:=if w/2=0\/w/2=(2^s-1)/2 then aH (w/2) (s-1)else aH w s
def gU (s:Nat) (a:List Int):Nat->List Bool
 |0=>[]
 |k+1=>gU s a k++lK s (a.getD k 0).toNat
theorem Ll (s w:Nat):(lK s w).length<=s:=by
 unfold lK;split
 ·rw[aN];omega
 ·rw[aN];exact Nat.le_refl _
theorem yf (s:Nat) (a:List Int) (k:Nat):(gU s a k).length<=s* k:=by
 induction k with
 |zero=>exact Nat.le_refl _
 |succ k b=>
  show(gU s a k++lK s _).length<=_;rw[List.length_append,Nat.mul_succ];have:=Ll s (a.getD k 0).toNat;omega
def zf (s:Nat) (a:List Int):Bool:=a.all λw=>decide (0<=w)&&decide (w<=((2^s-1:Nat):Int))
def okW (s:Nat) (a:List Int):Bool:=a.all λw=>!(w==0)&&!(w==((2^s-1:Nat):Int))
def aQ (a:List Int) (size:Int):List Bool×Int:=
 if size<2\/12<size then([],3)
 else if zf size.toNat a=false then([],3)
 else if 1048576/size<a.length then([],4)
 else if okW size.toNat a=false then([],22)
 else(gU size.toNat a a.length,0)
theorem all_false {α:Type} {p:α->Bool} {d:α} {l:List α} {k:Nat} (a:k<l.length) (h:p (l.getD k d)=false):l.all p=false:=by
 rw[List.all_eq_false];refine⟨l[k],List.getElem_mem a,?_⟩;have e:l.getD k d=l[k]:=by simp[List.getD,a]
 rw[e]at h;rw[h];simp
theorem all_true {α:Type} {p:α->Bool} {d:α} {l:List α} (h:∀j,j<l.length->p (l.getD j d)=true):l.all p=true:=by
 rw[List.all_eq_true];intro x b;obtain⟨j,a,rfl⟩:=List.getElem_of_mem b;have:=h j a;simpa[List.getD,a]using this
theorem C7 (A:Option Addr) (n c s:Nat) (a:List Int) (w:World) (hb:SR vI 0 w A n c a) (p:2<=s) (bb:s<=12):
 Calls Tryz.prog 90 #[.slice A n c,.int .i64 s] w (RT vB false w (aQ a s)):=by
 obtain⟨ab,ac,av,a0,a1⟩:=info_parts iO;have ad:=Lib.hid hb;have m:Hid (n=a.length):=hb.hn;have da:n<=9223372036854775807:=by have:=hb.hm;have:=hb.hc;unfold maxLen at*;omega
 have co:=Ay (j:=s) bb;have cp:=qK bb;have cq:4<=2^s:=by
  have:=Nat.pow_le_pow_right (n:=2) oO p;simpa using this
 have a6:Hid (∀k,k<n->(decide (0<=a.getD k 0)&&decide (a.getD k 0<=((2^s-1:Nat):Int)))=false->aQ a s=([],3)):=by
  show∀k,_;intro k u h;unfold aQ;have e:zf ((s:Nat):Int).toNat a=false:=all_false (d:=0) (by rw[<-m.out];exact u) h;rw[if_neg oO,if_pos e]
 have a7:Hid ((∀j,j<n->0<=a.getD j 0/\a.getD j 0<=((2^s-1:Nat):Int))->zf s a=true):=by
  show _->_;intro h;refine all_true (d:=0) λj l=>?_;have:=h j (by rw[m.out];exact l);rw[decide_eq_true this.1,decide_eq_true this.2];rfl
 have b4:Hid (zf s a=true->1048576/(s:Int)<(n:Int)->aQ a s=([],4)):=by
  show _->_;intro h z;unfold aQ;rw[if_neg oO,if_neg (by rw[show((s:Nat):Int).toNat=s from rfl,h];simp),if_pos (by rw[<-m.out];exact z)]
 have a8:Hid (zf s a=true->¬1048576/(s:Int)<(n:Int)->∀k,k<n->(!(a.getD k 0==0)&&!(a.getD k 0==((2^s-1:Nat):Int)))=false->aQ a s=([],22)):=by
  show _->_;intro h z k u Q;unfold aQ;have e:okW ((s:Nat):Int).toNat a=false:=all_false (d:=0) (by rw[<-m.out];exact u) Q;rw[if_neg oO,if_neg (by rw[show((s:Nat):Int).toNat=s from rfl,h];simp),if_neg (by rw[<-m.out];exact z),if_pos e]
 have a9:Hid (zf s a=true->¬1048576/(s:Int)<(n:Int)->(∀j,j<n->a.getD j 0≠0/\a.getD j 0≠((2^s-1:Nat):Int))->aQ a s=(gU s a n,0)):=by
  show _->_;intro h z Q;unfold aQ;have e:okW s a=true:=all_true (d:=0) λj l=>by
   have:=Q j (by rw[m.out];exact l);rw[beq_eq_false_iff_ne.2 this.1,beq_eq_false_iff_ne.2 this.2];rfl
  rw[if_neg oO,if_neg (by rw[show((s:Nat):Int).toNat=s from rfl,h];simp),if_neg (by rw[<-m.out];exact z),if_neg (by rw[show((s:Nat):Int).toNat=s from rfl,e];simp),<-m.out];rfl
 obtain⟨M,al⟩:∃M,M=2^s-1:=⟨_,rfl⟩;have ca:=Lib.hid al;rw[<-al]at co a6 a7 a8 a9;have cx:3<=M:=oO;have c2:M<=4095:=oO;have c3:decide ((s:Int)<2)=false:=by simp;omega
 have dd:decide ((12:Int)<(s:Int))=false:=by simp;omega
 clear hb al cp cq;go_enter Tryz.func90,Tryz.ntmps90;go_wp2;go_loop [28] (λb=>∃k:Nat,k<=n/\b= .int .i64 k/\Hid (∀j,j<k->0<=a.getD j 0/\a.getD j 0<=(M:Int))) (λb=>n-(intOf b).toNat)
 case atStart=>exact⟨0,Nat.zero_le _,rfl,λj l=>by omega⟩
 case round=>
  obtain⟨k,u,rfl,am⟩:=hrel;by_cases E:k<n
  ·obtain⟨bd,rfl,b5,H⟩:=ad.out.rd (by rw[<-m.out];omega);have a2:=H k (by rw[<-m.out];exact E);clear H;have B:=a6.out k E;have a3:Hid (0<=a.getD k 0/\a.getD k 0<=(M:Int)->∀j,j<k+1->0<=a.getD j 0/\a.getD j 0<=(M:Int)):=by
    show _->_;intro h j l;rcases Nat.lt_or_ge j k with p|p
    ·exact am.out j p
    ·obtain rfl:j=k:=oO;exact h
   generalize a.getD k 0=x at*;by_cases g:0<=x/\x<=(M:Int)
   ·have a4:=Lib.hid (a3.out g);have de:=g.1;have dl:=g.2;clear g B;go_wp2;exact⟨⟨k+1,by omega,by go_num,a4.out⟩,by simp[intOf];omega⟩
   ·have O:=Lib.hid (B (by
     by_cases v:0<=x
     ·rw[decide_eq_true v,decide_eq_false (λh=>g ⟨v,h⟩)];rfl
     ·rw[decide_eq_false v];rfl))
    have cs:x<0\/(0<=x/\(M:Int)<x):=oO;clear g B;rcases cs with g|⟨g,c4⟩
    ·go_wp2;go_ret2
     exact RT.mk O.out (SG.dO _) (Below.refl _ _)
    ·go_wp2;go_ret2
     exact RT.mk O.out (SG.dO _) (Below.refl _ _)
  ·obtain rfl:k=n:=oO;have Y:=Lib.hid (a7.out am.out);clear a6 a7;by_cases hq:1048576/(s:Int)<(k:Int)
   ·have O:=Lib.hid (b4.out Y.out hq);go_wp2;go_ret2
    exact RT.mk O.out (SG.dO _) (Below.refl _ _)
   have b6:Hid (∀j,j<k->(!(a.getD j 0==0)&&!(a.getD j 0==(M:Int)))=false->aQ a s=([],22)):=a8.out Y.out (by simpa using hq);have b7:Hid ((∀j,j<k->a.getD j 0≠0/\a.getD j 0≠(M:Int))->aQ a s=(gU s a k,0)):=a9.out Y.out (by simpa using hq);have c5:k<=1048576:=by
    have T:1048576/(s:Int)<=1048576:=Int.ediv_le_self _ oO;omega
   have a5:Hid (s* k<=1048576):=by
    have T:(k:Int)<=1048576/(s:Int):=oO;have X:(k:Int)* (s:Int)<=1048576:=(Int.le_ediv_iff_mul_le oO).1 T;show _<=_;rw[Nat.mul_comm];have cb:((k* s:Nat):Int)<=((1048576:Nat):Int):=by rw[Int.natCast_mul];exact X
    exact Int.ofNat_le.1 cb
   clear b4 a8 a9;go_wp2;clear u;generalize k=r at*;go_loop [47] (λb=>∃k:Nat,k<=r/\b= .int .i64 k/\Hid (∀j,j<k->a.getD j 0≠0/\a.getD j 0≠(M:Int))) (λb=>r-(intOf b).toNat)
   case atStart=>exact⟨0,Nat.zero_le _,rfl,λj l=>by omega⟩
   case round=>
    obtain⟨k,u,rfl,be⟩:=hrel;by_cases E:k<r
    ·obtain⟨bd,rfl,b5,H⟩:=ad.out.rd (by rw[<-m.out];omega);have a2:=H k (by rw[<-m.out];exact E);clear H;have B:=b6.out k E;have a3:Hid (a.getD k 0≠0/\a.getD k 0≠(M:Int)->∀j,j<k+1->a.getD j 0≠0/\a.getD j 0≠(M:Int)):=by
      show _->_;intro h j l;rcases Nat.lt_or_ge j k with p|p
      ·exact be.out j p
      ·obtain rfl:j=k:=oO;exact h
     generalize a.getD k 0=x at*;by_cases g:x≠0/\x≠(M:Int)
     ·have a4:=Lib.hid (a3.out g);have ce:(x==0)=false:=beq_eq_false_iff_ne.2 g.1;have ch:(x==(M:Int))=false:=beq_eq_false_iff_ne.2 g.2;clear g B;go_wp2;exact⟨⟨k+1,by omega,by go_num,a4.out⟩,by simp[intOf];omega⟩
     ·have O:=Lib.hid (B (by
       by_cases v:x=0
       ·rw[beq_iff_eq.2 v];rfl
       ·have:x=(M:Int):=by
         by_cases p:x=(M:Int)
         ·exact p
         ·exact absurd ⟨v,p⟩ g
        rw[beq_iff_eq.2 this,Bool.not_true,Bool.and_false]))
      by_cases v:x=0
      ·subst v;clear g B;go_wp2;go_ret2
       exact RT.mk O.out (SG.dO _) (Below.refl _ _)
      ·have ce:(x==0)=false:=beq_eq_false_iff_ne.2 v;have ch:(x==(M:Int))=true:=by
        rw[beq_iff_eq];by_cases p:x=(M:Int)
        ·exact p
        ·exact absurd ⟨v,p⟩ g
       clear g B v;go_wp2;go_ret2
       exact RT.mk O.out (SG.dO _) (Below.refl _ _)
    ·obtain rfl:k=r:=oO;have ci:=Lib.hid (b7.out be.out);clear b6 b7;have cv:Hid (∀j,j<k->0<=a.getD j 0/\a.getD j 0<=(M:Int)):=am.out;clear Y;go_wp2;clear u;generalize k=r at*;go_loopw [11,61] (λP b wr=>∃k:Nat,k<=r/\b= .int .i64 k/\Hid (OG vB 4 w wr P (gU s a k))) (λ_ b _=>r-(intOf b).toNat)
     case atStart=>exact⟨0,Nat.zero_le _,rfl,OG.start _ _⟩
     case round=>
      obtain⟨k,u,rfl,S⟩:=hrel;by_cases E:k<r
      ·obtain⟨bd,rfl,b5,H⟩:=(ad.out.below S.out.B).rd (by rw[<-m.out];omega);have a2:=H k (by rw[<-m.out];exact E);clear H;obtain⟨z,Q⟩:=cv.out k E;obtain⟨N,ap⟩:=Int.eq_ofNat_of_zero_le z;have bt:Hid (gU s a (k+1)=gU s a k++lK s N):=by
        show gU s a k++lK s (a.getD k 0).toNat=_;rw[ap];rfl
       rw[ap]at a2 Q;clear z ap;have c6:N<=M:=oO;clear Q;obtain⟨F,hF⟩:∃F,F=N/2:=⟨_,rfl⟩;obtain⟨G,bv⟩:∃G,G=M/2:=⟨_,rfl⟩;obtain⟨t,bf⟩:∃t,t=s-1:=⟨_,rfl⟩;have e1:(N:Int)/2=(F:Int):=oO;have e2:(M:Int)/2=(G:Int):=oO;have e3:((s:Int)-1)=(t:Int):=oO;have c7:F<=4095:=oO;have c8:1<=t:=oO;have c9:t<=11:=oO;have bx:Hid (lK s N=if F=0\/F=G then aH F t else aH N s):=by
        show _=_;unfold lK;rw[<-ca.out,<-hF,<-bv,<-bf]
       clear hF bv bf;by_cases U:F=0\/F=G
       ·have Z:Hid (gU s a (k+1)=gU s a k++lowF F t t):=by show _=_;rw[bt.out,bx.out,if_pos U];rfl
        by_cases bz:F=0
        ·have bi:((F:Int)==0)=true:=by rw[beq_iff_eq];omega
         clear U bz;go_wp2;obtain⟨C,rfl⟩:∃C:World,C=wr:=⟨_,rfl⟩;go_loopw [11,16] (λP b wr=>∃(q:Nat) (j:Int),q<=t/\b= .int .i64 j/\Hid (j=(t:Int)-1-q)/\Hid (OG vB 4 w wr P (gU s a k++lowF F t q))) (λ_ b _=>(intOf b+1).toNat)
         case atStart=>exact⟨0,_,Nat.zero_le _,rfl,by show _=_;omega,by show OG _ _ _ _ _ _;rw[show lowF F t 0=[]from rfl,List.append_nil];exact S.out⟩
         case round=>
          obtain⟨q,j,b1,rfl,l,o⟩:=hrel;by_cases b8:q<t
          ·obtain⟨i,J⟩:∃i,i=t-1-q:=⟨_,rfl⟩;obtain rfl:j=(i:Int):=by have:=l.out;omega
           have D:=Lib.hid J;have b2:i<=61:=oO;clear J;have b9:=qD F i oO;have W:Hid (gU s a k++lowF F t (q+1)=(gU s a k++lowF F t q)++[jF F i]):=by show _=_;rw[D.out,List.append_assoc];rfl
           have K:Hid ((gU s a k++lowF F t q).length<=100000000):=by
            show _<=_;rw[List.length_append,kx];have T:=yf s a k;have X:s* k<=s* r:=Nat.mul_le_mul_left s u;have bo:=a5.out;omega
           generalize jF F i=y at*;go_wp2_with(at_builtin;refine aY (f:=vB) (d:=false) xN rfl _ _ _ rfl w.heap.size 4 ab _ 1 Tryz.underlying26 ac av a0 a1 rfl _ _ (gU s a k++lowF F t q) rfl (fa o.out.O _) (some ⟨wr.heap.size,0,none⟩) 1 1 [y] rfl rfl (RG.one _ _ _ _ rfl) (by unfold maxLen;have:=K.out;omega) (by have:=K.out;omega) (by have:=o.out.B.size;simp;omega) ?_;intro bq bs L hg;have V:=Lib.hid (o.out.grow (ax _ _) L hg);clear L hg)
           exact⟨⟨q+1,_,by omega,rfl,by have:=D.out;show _=_;omega,by rw[W.out];exact V.out⟩,by simp[intOf]⟩
          ·obtain rfl:q=t:=oO;have b3:decide ((0:Int)<=j)=false:=by have:=l.out;simp;omega
           go_wp2;exact⟨⟨k+1,by omega,by go_num,by rw[Z.out];exact o.out⟩,by simp[intOf];omega⟩
        ·have bi:((F:Int)==0)=false:=by rw[beq_eq_false_iff_ne];omega
         have ck:((F:Int)==(G:Int))=true:=by rw[beq_iff_eq];omega
         clear U bz;go_wp2;obtain⟨C,rfl⟩:∃C:World,C=wr:=⟨_,rfl⟩;go_loopw [11,16] (λP b wr=>∃(q:Nat) (j:Int),q<=t/\b= .int .i64 j/\Hid (j=(t:Int)-1-q)/\Hid (OG vB 4 w wr P (gU s a k++lowF F t q))) (λ_ b _=>(intOf b+1).toNat)
         case atStart=>exact⟨0,_,Nat.zero_le _,rfl,by show _=_;omega,by show OG _ _ _ _ _ _;rw[show lowF F t 0=[]from rfl,List.append_nil];exact S.out⟩
         case round=>
          obtain⟨q,j,b1,rfl,l,o⟩:=hrel;by_cases b8:q<t
          ·obtain⟨i,J⟩:∃i,i=t-1-q:=⟨_,rfl⟩;obtain rfl:j=(i:Int):=by have:=l.out;omega
           have D:=Lib.hid J;have b2:i<=61:=oO;clear J;have b9:=qD F i oO;have W:Hid (gU s a k++lowF F t (q+1)=(gU s a k++lowF F t q)++[jF F i]):=by show _=_;rw[D.out,List.append_assoc];rfl
           have K:Hid ((gU s a k++lowF F t q).length<=100000000):=by
            show _<=_;rw[List.length_append,kx];have T:=yf s a k;have X:s* k<=s* r:=Nat.mul_le_mul_left s u;have bo:=a5.out;omega
           generalize jF F i=y at*;go_wp2_with(at_builtin;refine aY (f:=vB) (d:=false) xN rfl _ _ _ rfl w.heap.size 4 ab _ 1 Tryz.underlying26 ac av a0 a1 rfl _ _ (gU s a k++lowF F t q) rfl (fa o.out.O _) (some ⟨wr.heap.size,0,none⟩) 1 1 [y] rfl rfl (RG.one _ _ _ _ rfl) (by unfold maxLen;have:=K.out;omega) (by have:=K.out;omega) (by have:=o.out.B.size;simp;omega) ?_;intro bq bs L hg;have V:=Lib.hid (o.out.grow (ax _ _) L hg);clear L hg)
           exact⟨⟨q+1,_,by omega,rfl,by have:=D.out;show _=_;omega,by rw[W.out];exact V.out⟩,by simp[intOf]⟩
          ·obtain rfl:q=t:=oO;have b3:decide ((0:Int)<=j)=false:=by have:=l.out;simp;omega
           go_wp2;exact⟨⟨k+1,by omega,by go_num,by rw[Z.out];exact o.out⟩,by simp[intOf];omega⟩
       ·have Z:Hid (gU s a (k+1)=gU s a k++lowF N s s):=by show _=_;rw[bt.out,bx.out,if_neg U];rfl
        have bi:((F:Int)==0)=false:=by rw[beq_eq_false_iff_ne];omega
        have ck:((F:Int)==(G:Int))=false:=by rw[beq_eq_false_iff_ne];omega
        clear U;go_wp2;obtain⟨C,rfl⟩:∃C:World,C=wr:=⟨_,rfl⟩;go_loopw [11,16] (λP b wr=>∃(q:Nat) (j:Int),q<=s/\b= .int .i64 j/\Hid (j=(s:Int)-1-q)/\Hid (OG vB 4 w wr P (gU s a k++lowF N s q))) (λ_ b _=>(intOf b+1).toNat)
        case atStart=>exact⟨0,_,Nat.zero_le _,rfl,by show _=_;omega,by show OG _ _ _ _ _ _;rw[show lowF N s 0=[]from rfl,List.append_nil];exact S.out⟩
        case round=>
         obtain⟨q,j,b1,rfl,l,o⟩:=hrel;by_cases b8:q<s
         ·obtain⟨i,J⟩:∃i,i=s-1-q:=⟨_,rfl⟩;obtain rfl:j=(i:Int):=by have:=l.out;omega
          have D:=Lib.hid J;have b2:i<=61:=oO;clear J;have b9:=qD N i oO;have W:Hid (gU s a k++lowF N s (q+1)=(gU s a k++lowF N s q)++[jF N i]):=by show _=_;rw[D.out,List.append_assoc];rfl
          have K:Hid ((gU s a k++lowF N s q).length<=100000000):=by
           show _<=_;rw[List.length_append,kx];have T:=yf s a k;have X:s* k<=s* r:=Nat.mul_le_mul_left s u;have bo:=a5.out;omega
          generalize jF N i=y at*;go_wp2_with(at_builtin;refine aY (f:=vB) (d:=false) xN rfl _ _ _ rfl w.heap.size 4 ab _ 1 Tryz.underlying26 ac av a0 a1 rfl _ _ (gU s a k++lowF N s q) rfl (fa o.out.O _) (some ⟨wr.heap.size,0,none⟩) 1 1 [y] rfl rfl (RG.one _ _ _ _ rfl) (by unfold maxLen;have:=K.out;omega) (by have:=K.out;omega) (by have:=o.out.B.size;simp;omega) ?_;intro bq bs L hg;have V:=Lib.hid (o.out.grow (ax _ _) L hg);clear L hg)
          exact⟨⟨q+1,_,by omega,rfl,by have:=D.out;show _=_;omega,by rw[W.out];exact V.out⟩,by simp[intOf]⟩
         ·obtain rfl:q=s:=oO;have b3:decide ((0:Int)<=j)=false:=by have:=l.out;simp;omega
          go_wp2;exact⟨⟨k+1,by omega,by go_num,by rw[Z.out];exact o.out⟩,by simp[intOf];omega⟩
      ·obtain rfl:k=r:=oO;go_wp2;go_ret2
       exact RT.mk ci.out S.out.sg S.out.B
section
variable {P : Program}
def aggD (d:TypeDesc):Bool:=match d with|.struct _|.array _ _=>true|_=>false
theorem xe (w:World) (t:TypeId) (d:TypeDesc) (a:P.underlying t=some d) (b:aggD d=true):(isAgg t).run P w= .ok true w:=by
 unfold isAgg;rw[Sem.run_bind,run_underlying a];cases d<;>simp_all[aggD,Result.andThen]
theorem gI (w:World) (t:TypeId) (d:TypeDesc) (a:Addr) (b:List Value) (e:P.underlying t=some d) (f:aggD d=true) (c:(P.info? t).map (·.size)=some b.length)
 (h:∀j v,b[j]?=some v->w.cell? (a.add j)=some v):(loadVar t a).run P w= .ok (.agg b.toArray) w:=by
 have hl:=run_loadCells_list (P:=P) w a b h;cases hq:P.info? t with
 |none=>simp[hq]at c
 |some i=>
  have hs:i.size=b.length:=by simp[hq]at c;exact c
  unfold loadVar;rw[Sem.run_bind,xe w t d e f];simp[Result.andThen,sizeOf,typeInfo,hq,hs,hl]
theorem ku (w:World) (t d:TypeId) (g b:Nat) (c:Array Value) (a:List Value) (hg:w.heap[g]?=some (.cells c t (0,0))) (e:(P.info? d).map (·.size)=some a.length)
 (k:b+a.length<=c.size) (j:∀v∈a,v.oneCell'=true):
 (storeVar d ⟨g,b,none⟩ (.agg a.toArray)).run P w= .ok () (w.setRow g (splice c.toList b a).toArray):=by
 have f:=run_storeCells_at (P:=P) g b t a 0 c w hg (by simpa using k) j;cases hq:P.info? d with
 |none=>simp[hq]at e
 |some i=>
  have hs:i.size=a.length:=by simp[hq]at e;exact e
  unfold splice;simp only[Nat.add_zero,List.append_assoc]at f;simp[storeVar,sizeOf,typeInfo,hq,Value.cells,hs,f]
theorem bk {w:World} {f:Array Oper} {g:List Oper} {b:Oper} {a:Act} {Q:Exit->Act->World->Prop} (r:b.guard=none) (t:TypeId) (p:Operand) (i:b.op= .load t p)
 (d:TypeDesc) (k:P.underlying t=some d) (l:aggD d=true) (e:Addr) (c:List Value) (m:(P.info? t).map (·.size)=some c.length) (n:a.eval p= .pointer (some e))
 (h:∀j v,c[j]?=some v->w.cell? (e.add j)=some v) (o:wpList P f Q g (a.put b.dst (.agg c.toArray)) w):wpList P f Q (b::g) a w:=by
 refine wpList_plain r λK q=>?_;have s:=gI (P:=P) w t d e c k l m h;unfold Oper.wp execOp;simp only[i,n,Instr.loadAt,Instr.sureAddr,Sem.run_bind,Sem.run_pure,Result.andThen_ok,s];exact q _ _ o
theorem bG {w:World} {i:Array Oper} {j:List Oper} {c:Oper} {a:Act} {Q:Exit->Act->World->Prop} (s:c.guard=none) (e:TypeId) (p x:Operand) (k:c.op= .store e p x)
 (t:TypeId) (g f:Nat) (d:Array Value) (b:List Value) (l:a.eval p= .pointer (some ⟨g,f,none⟩)) (m:a.eval x= .agg b.toArray) (hg:w.heap[g]?=some (.cells d t (0,0))) (n:(P.info? e).map (·.size)=some b.length)
 (u:f+b.length<=d.size) (o:∀v∈b,v.oneCell'=true)
 (q:wpList P i Q j (a.put c.dst undef) (w.setRow g (splice d.toList f b).toArray)):wpList P i Q (c::j) a w:=by
 refine wpList_plain s λK r=>?_;have y:=ku (P:=P) w t e g f d b hg n u o;unfold Oper.wp execOp;simp only[k,l,m,Instr.storeAt,Instr.sureAddr,Sem.run_bind,Sem.run_pure,Result.andThen_ok,y];exact r _ _ q
theorem Bj (w:World) (t:TypeId) (d:TypeDesc) (c:Array Value) (a n:Nat) (e:P.underlying t=some d) (f:aggD d=true) (b:(P.info? t).map (·.size)=some n):
 (part t c a).run P w= .ok (.agg (c.extract a (a+n))) w:=by
 cases hq:P.info? t with
 |none=>simp[hq]at b
 |some i=>
  have hs:i.size=n:=by simp[hq]at b;exact b
  unfold part;rw[Sem.run_bind,xe w t d e f];simp[Result.andThen,sizeOf,typeInfo,hq,hs]
theorem dT {w:World} {l:Array Oper} {m:List Oper} {b:Oper} {a:Act} {Q:Exit->Act->World->Prop} (A:b.guard=none) (t:TypeId) (x i:Operand) (o:b.op= .index t x i)
 (len:Nat) (e:TypeId) (p:P.underlying t=some (.array len e)) (d:TypeDesc) (B:P.underlying e=some d) (r:aggD d=true) (n:Nat) (c:(P.info? e).map (·.size)=some n)
 (f:Array Value) (k:IntKind) (I:Int) (j:Nat) (s:a.eval x= .agg f) (u:a.eval i= .int k I) (v:I=(j:Int)) (F:j<len) (g:Array Value) (C:f.extract (j* n) (j* n+n)=g)
 (y:wpList P l Q m (a.put b.dst (.agg g)) w):wpList P l Q (b::m) a w:=by
 refine wpList_plain A λK z=>?_;subst v C;have E:=Bj (P:=P) w e d f (j* n) n B r c;have D:(sizeOf e).run P w= .ok n w:=by
  cases hq:P.info? e with
  |none=>simp[hq]at c
  |some q=>simp[hq]at c;simp[sizeOf,typeInfo,hq,c]
 have hc:(0:Int)<=(j:Int)/\(j:Int)<(len:Int):=oO;unfold Oper.wp execOp;simp only[o,s,u,Instr.index,asIntOf,Sem.run_bind,Sem.run_pure,Result.andThen_ok,run_underlying p,if_pos hc,D,Int.toNat_natCast,E];exact z _ _ y
theorem aO {w:World} {e:Array Oper} {f:List Oper} {b:Oper} {a:Act} {Q:Exit->Act->World->Prop} (l:b.guard=none) (t:TypeId) (g:b.op= .alloc t)
 (c:Array Value) (d:(P.info? t).map (·.zero)=some (some (.agg c)))
 (j:wpList P e Q f (a.put b.dst (.pointer (some ⟨w.heap.size,0,none⟩))) (w.alloc (.cells c t))):wpList P e Q (b::f) a w:=by
 refine wpList_plain l λK k=>?_;cases hq:P.info? t with
 |none=>simp[hq]at d
 |some i=>
  have m:i.zero=some (.agg c):=by simpa[hq]using d
  unfold Oper.wp execOp;simp only[g];have n:(Instr.alloc t true (.tuple #[])).run P w= .ok (.pointer (some ⟨w.heap.size,0,none⟩)) (w.alloc (.cells c t)):=by
   simp[Instr.alloc,zeroValue,typeInfo,hq,m,newVar,newRow,Value.cells]
  simp only[Sem.run_bind,Sem.run_pure,Result.andThen_ok,n];exact k _ _ j
theorem iH {w:World} {g:Array Oper} {l:List Oper} {b:Oper} {a:Act} {Q:Exit->Act->World->Prop} (z:b.guard=none) (t:TypeId) (x i:Operand) (m:b.op= .index t x i)
 (len:Nat) (e:TypeId) (n:P.underlying t=some (.array len e)) (d:TypeDesc) (A:P.underlying e=some d) (E:aggD d=false) (c:(P.info? e).map (·.size)=some 1)
 (f:Array Value) (k:IntKind) (I:Int) (j:Nat) (o:a.eval x= .agg f) (p:a.eval i= .int k I) (r:I=(j:Int)) (F:j<len) (v:Value) (s:f[j]?=some v)
 (u:wpList P g Q l (a.put b.dst v) w):wpList P g Q (b::l) a w:=by
 refine wpList_plain z λK y=>?_;subst r;have B:(isAgg e).run P w= .ok false w:=by
  unfold isAgg;rw[Sem.run_bind,run_underlying A];cases d<;>simp_all[aggD,Result.andThen]
 have C:(sizeOf e).run P w= .ok 1 w:=by
  cases hq:P.info? e with
  |none=>simp[hq]at c
  |some q=>simp[hq]at c;simp[sizeOf,typeInfo,hq,c]
 have D:(part e f (j* 1)).run P w= .ok v w:=by
  unfold part;rw[Sem.run_bind,B];simp[Result.andThen,s]
 have hc:(0:Int)<=(j:Int)/\(j:Int)<(len:Int):=oO;unfold Oper.wp execOp;simp only[m,o,p,Instr.index,asIntOf,Sem.run_bind,Sem.run_pure,Result.andThen_ok,run_underlying n,if_pos hc,C,Int.toNat_natCast,D];exact y _ _ u
end
def aa (w:World) (g:Nat) (a:Array Value) (t:TypeId):Prop:=w.heap[g]?=some (.cells a t (0,0))
theorem aa.below {W a:World} {g:Nat} {b:Array Value} {t:TypeId} (h:aa W g b t) (hb:Below W.heap.size W a):aa a g b t:=(hb.block _ (au h)).trans h
theorem aa.cell {w:World} {g:Nat} {a:Array Value} {t:TypeId} (h:aa w g a t) (j:Nat) (v:Value) (b:a[j]?=some v):w.cell? ⟨g,j,none⟩=some v:=by
 rw[cell_of_row _ _ j a t (0,0) h];exact b
theorem aa.set {w:World} {g:Nat} {b:Array Value} {t:TypeId} (h:aa w g b t) (a:Array Value):aa (w.setRow g a) g a t:=setRow_heap w g b a t (0,0) h
theorem aa.other {w:World} {g a:Nat} {c:Array Value} {t:TypeId} (h:aa w g c t) (b:Array Value) (d:g≠a):aa (w.setRow a b) g c t:=(setRow_other w a g b d).trans h
theorem qk {α:Type} {f:α->Value} (a:World) (xs:List α) (e:TypeId) (n:Nat) (hn:n=xs.length) (b:n<=maxLen):(a.alloc (.cells (xs.map f).toArray e)).ownsRow a.heap.size e 1 (.slice (some ⟨a.heap.size,0,none⟩) n n) n (xs.map f):=by
 refine⟨by simp[hn],.inr ⟨a.heap.size,n,(xs.map f).toArray,rfl,Nat.le_refl _,heap_alloc_new a _,Nat.le_refl _,b,by simp[hn],by show List.take (n* 1) (xs.map f)=_;exact List.take_of_length_le (by simp[hn])⟩⟩
theorem nk (s:ByteArray) (w:World) (hs:s.size<=1000) (a:s.data.toList.all (λb=>decide (b.toNat<128))=true):
 Calls Tryz.prog 178 #[.string s,.string ByteArray.empty] w λe w'=>∃A c,e= .returned (.slice A s.size c)/\SR Value.string ByteArray.empty w' A s.size c (Lib.charsB s)/\Below w.heap.size w w':=by
 have hl:s.size=(Lib.charsB s).length:=(Lib.charsUpTo_length s s.size).symm;refine(Tryz.strings_Split_chars s ByteArray.empty w rfl oO (λj b hb=>?_)).mono ?_
 ·rw[List.all_eq_true]at a;exact of_decide_eq_true (a b (List.mem_of_getElem? hb))
 ·rintro e w' ⟨rfl,rfl⟩;exact⟨_,_,rfl,SR.lit (w.iter s s.size) (Lib.charsB s) 9 _ _ rfl hl oM,(ax w _).trans ((ax _ _).mono (by show _<=(w.heap.push _).size;simp))⟩
abbrev F8:ByteArray:=⟨#[65,66,67,68,69,70,71,72,73,74,75,76,77,78,79,80,81,82,83,84,85,86,87,88,89,90]⟩
abbrev Gk:ByteArray:=⟨#[97,98,99,100,101,102,103,104,105,106,107,108,109,110,111,112,113,114,115,116,117,118,119,120,121,122]⟩
abbrev F7:ByteArray:=⟨#[1,2,3,4,5,6,7,8,9,10,11,12,13,27,28,29,30,31,64,92,94,95,96,124,126,127]⟩
abbrev Gn:ByteArray:=⟨#[33,34,35,36,37,38,39,40,41,42,43,44,45,46,47,58,59,60,61,62,63,91,93,123,125]⟩
abbrev DZ:ByteArray:=⟨#[48,49,50,51,52,53,54,55,56,57,44,46]⟩
abbrev nB:ByteArray:=⟨#[32]⟩
abbrev Kh:List ByteArray:=[⟨#[13]⟩,⟨#[13,10]⟩,⟨#[46,32]⟩,⟨#[44,32]⟩,⟨#[58,32]⟩]
def texts:Nat->List ByteArray
 |0=>[nB]++Lib.charsB F8
 |1=>[nB]++Lib.charsB Gk
 |2=>[nB]++Lib.charsB F7
 |3=>Kh++Lib.charsB Gn
 |_=>[nB]++Lib.charsB DZ
abbrev mc (kind a:Int) (text:ByteArray):List Value:=[.int .i64 kind,.int .i64 a,.string text]
def cy:Array Value:=(List.replicate 160 (mc 0 0 ByteArray.empty)).flatten.toArray
theorem BB:(Tryz.prog.info? 170).map (·.zero)=some (some (.agg cy)):=oK
def gP (a:Array Value) (i:Nat) (c:List Value):Array Value:=(splice a.toList (3* i) c).toArray
theorem FV (a:Array Value) (i:Nat) (c:List Value) (h:3* i+c.length<=a.size):(gP a i c).size=a.size:=by
 unfold gP;rw[List.size_toArray,length_splice _ _ _ (by simpa using h)];simp
def vm (a:Array Value) (l:List ByteArray) (base:Nat):Nat->Array Value
 |0=>a
 |j+1=>gP (vm a l base j) (base+j+1) (mc 1 0 (l.getD j ByteArray.empty))
def qT:Nat->Array Value
 |0=>cy
 |k+1=>vm (qT k) (texts k) (32* k) (texts k).length
theorem oG:cy.size=480:=oK
theorem GC:∀k,(texts k).length<=31
 |0=>by decide
 |1=>by decide
 |2=>by decide
 |3=>by decide
 |_+4=>by show([nB]++Lib.charsB DZ).length<=31;decide
theorem CP (w:World) (g:Nat) (c:Array Value) (a:Addr) (h:a.block≠g):(w.setRow g c).cell? a=w.cell? a:=by
 unfold World.cell?;rw[setRow_other w g a.block c h]
theorem eZ (k m:Int) (t:ByteArray):∀v∈mc k m t,v.oneCell'=true:=by
 intro v a;simp only[List.mem_cons,List.not_mem_nil,or_false]at a;rcases a with rfl|rfl|rfl<;>rfl
theorem E2 {α:Type} (l:List α) (i:Nat) (c:List α) (v:α) (h:v∈splice l i c):v∈l\/v∈c:=by
 unfold splice at h;simp only[List.mem_append]at h;rcases h with h|h|h
 ·exact .inl (List.mem_of_mem_take h)
 ·exact .inr h
 ·exact .inl (List.mem_of_mem_drop h)
structure TS (w wr:World) (cs a:Array Value):Prop where
 B:Below w.heap.size w wr
 R0:aa wr w.heap.size cy 170
 R1:aa wr (w.heap.size+1) a 170
 X:∀k,k<5->∃A n c,cs[k]?=some (.slice A n c)/\SR Value.string ByteArray.empty wr A n c (texts k)/\∀b,A=some b->w.heap.size+2<=b.block
 Z:a.size=480
 O:∀v∈a.toList,v.oneCell'=true
theorem TS.fit {w wr:World} {b a:Array Value} (h:TS w wr b a) {f:Nat} {ce:List Value} (c:ce.length=3) (d:f+3<=480):f+ce.length<=a.size:=by rw[c,h.Z];exact d
theorem TS.put {w wr:World} {d b:Array Value} (h:TS w wr d b) (f i:Nat) (ce:List Value) (p:f=3* i) (x:i<160) (g:ce.length=3) (a:∀v∈ce,v.oneCell'=true):
 TS w (wr.setRow (w.heap.size+1) (splice b.toList f ce).toArray) d (gP b i ce):=by
 subst p;show TS w (wr.setRow (w.heap.size+1) (gP b i ce)) d (gP b i ce);refine⟨below_setRow h.B oO _,h.R0.other _ oO,h.R1.set _,λk q=>?_,?_,λv r=>?_⟩
 ·obtain⟨A,n,c,g,a,m⟩:=h.X k q;refine⟨A,n,c,g,⟨a.hn,a.hc,a.hm,λhn=>?_⟩,m⟩;obtain⟨o,e,s,t⟩:=a.rd hn;have y:=m o e;refine⟨o,e,by rw[size_setRow];exact s,λj u=>?_⟩;rw[CP _ _ _ _ (by rw[aL];omega)];exact t j u
 ·rw[FV _ _ _ (by rw[g,h.Z];omega),h.Z]
 ·rcases E2 _ _ _ _ (by simpa[gP]using r)with l|l
  ·exact h.O v l
  ·exact a v l
theorem TS.Nb {w wr:World} {b a:Array Value} (h:TS w wr b a) (f:Nat) (ce:List Value) (e:f%3=0) (g:f<480) (c:ce.length=3) (d:∀v∈ce,v.oneCell'=true):
 TS w (wr.setRow (w.heap.size+1) (splice a.toList f ce).toArray) b (gP a (f/3) ce):=h.put f _ ce oO oO c d
theorem CZ:∀v∈cy.toList,v.oneCell'=true:=by
 intro v a;simp only[cy,List.mem_flatten]at a;obtain⟨l,hl,a⟩:=a;rw[List.eq_of_mem_replicate hl]at a;exact eZ _ _ _ v a
def shN:Nat->Nat
 |0=>0
 |1=>1
 |2=>2
 |_=>4
theorem FL (k:Nat):shN k<5:=by unfold shN;split<;>omega
def vD:Nat->Array Value
 |0=>qT 5
 |k+1=>gP (vD k) (32* shN k) (mc 3 3 ByteArray.empty)
def tn:Nat->Array Value
 |0=>vD 4
 |k+1=>gP (tn k) (32* k+31) (mc 4 0 ByteArray.empty)
def eu:Array Value:=gP (gP (gP (gP (gP (gP (gP (gP (gP (gP (gP (gP (tn 3) (84/3) (mc 2 1 ByteArray.empty)) (87/3) (mc 2 2 ByteArray.empty)) (90/3) (mc 2 4 ByteArray.empty)) (180/3) (mc 3 0 ByteArray.empty)) (183/3) (mc 2 2 ByteArray.empty)) (186/3) (mc 2 4 ByteArray.empty)) (276/3) (mc 2 1 ByteArray.empty)) (279/3) (mc 2 0 ByteArray.empty)) (282/3) (mc 2 3 ByteArray.empty)) (381/3) (mc 2 0 ByteArray.empty)) (426/3) (mc 2 0 ByteArray.empty)) (429/3) (mc 3 0 ByteArray.empty)
theorem Kq:(Tryz.prog.info? 3).map (·.size)=some 1:=oK
theorem Aa:(Tryz.prog.info? 170).map (·.size)=some 480:=oK
theorem Mg:(Tryz.prog.info? 170).map (·.size)=some eu.size:=oK
theorem TS.fin {w wr:World} {b a:Array Value} (h:TS w wr b a):0+a.toList.length<=cy.size:=by rw[oG,Array.length_toList,h.Z];omega
theorem TS.Aa {w wr:World} {b a:Array Value} (h:TS w wr b a):(Tryz.prog.info? 170).map (·.size)=some a.toList.length:=by rw[Array.length_toList,h.Z];exact _root_.Go.Proofs.YtmnlkganmgcpbaaGreatDoor.Aa
theorem TS.last {w wr:World} {b a:Array Value} (h:TS w wr b a):aa (wr.setRow w.heap.size (splice cy.toList 0 a.toList).toArray) w.heap.size a 170/\Below w.heap.size w (wr.setRow w.heap.size (splice cy.toList 0 a.toList).toArray):=by
 have e:(splice cy.toList 0 a.toList).toArray=a:=by
  unfold splice;rw[List.take_zero,List.nil_append,List.drop_eq_nil_of_le (by simp[h.Z,oG]),List.append_nil]
 rw[e];exact⟨h.R0.set _,below_setRow h.B (Nat.le_refl _) _⟩
theorem du:(Tryz.prog.info? 168).map (·.size)=some 3:=oK
theorem KZ:(Tryz.prog.info? 214).map (·.size)=some 1:=oK
theorem Em {j:Array Oper} {k:List Oper} {b:Oper} {a:Act} {Q:Exit->Act->World->Prop} {w wr:World} {e d:Array Value} (h:TS w wr e d) (s:b.guard=none) (p x:Operand) (l:b.op= .store 168 p x)
 (f:Nat) (ce:List Value) (m:a.eval p= .pointer (some ⟨w.heap.size+1,f,none⟩)) (n:a.eval x= .agg ce.toArray) (c:ce.length=3) (g:∀v∈ce,v.oneCell'=true) (o:f%3=0) (q:f<480)
 (r:∀i,Hid (TS w i e (gP d (f/3) ce))->wpList Tryz.prog j Q k (a.put b.dst undef) i):wpList Tryz.prog j Q (b::k) a wr:=
 bG s 168 p x l 170 (w.heap.size+1) f d ce m n h.R1 (by rw[c];exact du) (h.fit c oO) g (r _ (h.Nb f ce o q c g))
theorem BD {e:Array Oper} {f:List Oper} {b:Oper} {a:Act} {Q:Exit->Act->World->Prop} {w wr:World} {g c:Array Value} (h:TS w wr g c) (l:b.guard=none) (p:Operand) (i:b.op= .load 170 p)
 (j:a.eval p= .pointer (some ⟨w.heap.size+1,0,none⟩))
 (k:∀d,Hid (d=c)->wpList Tryz.prog e Q f (a.put b.dst (.agg d)) wr):wpList Tryz.prog e Q (b::f) a wr:=
 wpList_load_row l 170 p i (w.heap.size+1) j 170 c (0,0) _ h.R1 Tryz.underlying170 rfl (by rw[h.Z];exact Aa) (k _ rfl)
theorem zv {e:Array Oper} {g:List Oper} {b:Oper} {a:Act} {Q:Exit->Act->World->Prop} {w wr:World} {i f c:Array Value} (h:TS w wr i f) (hc:c=f) (n:b.guard=none) (p x:Operand) (j:b.op= .store 170 p x)
 (k:a.eval p= .pointer (some ⟨w.heap.size,0,none⟩)) (l:a.eval x= .agg c)
 (m:∀d,Hid (aa d w.heap.size c 170/\Below w.heap.size w d)->wpList Tryz.prog e Q g (a.put b.dst undef) d):wpList Tryz.prog e Q (b::g) a wr:=by
 subst hc;exact bG n 170 p x j 170 w.heap.size 0 cy c.toList k l h.R0 h.Aa h.fin h.O (m _ h.last)
theorem lz (w:World):
 Calls Tryz.prog 129 #[] w λe w'=>e= .returned (.agg eu)/\Below w.heap.size w w':=by
 obtain⟨V,X,Z,ab,ac⟩:=info_parts KE;go_enter Tryz.func129,Tryz.ntmps129;go_wp2_with(refine aO rfl 170 rfl cy BB ?_)
 have ca:Hid (aa ((w.alloc (.cells cy 170)).alloc (.cells cy 170)) w.heap.size cy 170):=aa.below (W:=w.alloc (.cells cy 170)) (heap_alloc_new _ _) (ax _ _);have cb:Hid (aa ((w.alloc (.cells cy 170)).alloc (.cells cy 170)) (w.heap.size+1) cy 170):=by
  have h:=heap_alloc_new (w.alloc (.cells cy 170)) (.cells cy 170);rw[show(w.alloc (.cells cy 170)).heap.size=w.heap.size+1 from by simp]at h;exact h
 have ch:Hid (Below w.heap.size w ((w.alloc (.cells cy 170)).alloc (.cells cy 170))):=ah (ax _ _) _;have a2:((w.alloc (.cells cy 170)).alloc (.cells cy 170)).heap.size=w.heap.size+1+1:=by simp
 generalize(w.alloc (.cells cy 170)).alloc (.cells cy 170)=o at*;rw[<-a2];have ci:=Lib.hid a2;clear a2;refine(nk F8 _ oD oD).mono ?_;rintro e b2 ⟨dy,c0,rfl,hs,hb⟩;have a5:=Lib.hid hs;have a6:Hid (b2.ownsRow o.heap.size 9 1 (.slice (some ⟨o.heap.size,0,none⟩) 1 1) 1 ([nB].map Value.string)):=ar (qk o [nB] 9 1 rfl oM) hb;have al:Hid (af o b2):=ae (ax _ _) hb;clear hs hb;go_wp2_with(at_builtin;refine aY (f:=Value.string) (d:=ByteArray.empty) BM rfl _ _ _ rfl o.heap.size 9 V _ 16 Tryz.underlying214 X Z ab ac rfl _ 1 [nB] rfl a6.out dy _ c0 (Lib.charsB F8) rfl a5.out.hn a5.out.rd (by have:F8.size=26:=rfl;unfold maxLen;omega) (by have:F8.size=26:=rfl;omega) al.out.size ?_;intro v0 i g hg;have b:Hid (Below o.heap.size o i):=al.out.grown hg al.out.size (λq hq=>(a6.out.lt q hq).1);obtain⟨F,L,M,rfl,B⟩:=(SG.aI (f:=Value.string) (d:=ByteArray.empty) g).parts;have ck:Hid (SR Value.string ByteArray.empty i F L M (texts 0)):=B;have co:Hid (∀a,F=some a->o.heap.size<=a.block):=(λa e=>(g.lt a.block (by rw[e];rfl)).1);clear B;have a7:Hid (af o i):=b.out;clear b al a6 a5;clear g hg)
 refine(nk Gk _ oD oD).mono ?_;rintro e b3 ⟨dz,c1,rfl,hs,hb⟩;have a8:=Lib.hid hs;have a9:Hid (b3.ownsRow i.heap.size 9 1 (.slice (some ⟨i.heap.size,0,none⟩) 1 1) 1 ([nB].map Value.string)):=ar (qk i [nB] 9 1 rfl oM) hb;have am:Hid (af i b3):=ae (ax _ _) hb;clear hs hb;go_wp2_with(at_builtin;refine aY (f:=Value.string) (d:=ByteArray.empty) BM rfl _ _ _ rfl i.heap.size 9 V _ 16 Tryz.underlying214 X Z ab ac rfl _ 1 [nB] rfl a9.out dz _ c1 (Lib.charsB Gk) rfl a8.out.hn a8.out.rd (by have:Gk.size=26:=rfl;unfold maxLen;omega) (by have:Gk.size=26:=rfl;omega) am.out.size ?_;intro v1 p g hg;have b:Hid (Below i.heap.size i p):=am.out.grown hg am.out.size (λq hq=>(a9.out.lt q hq).1);obtain⟨G,n1,N,rfl,B⟩:=(SG.aI (f:=Value.string) (d:=ByteArray.empty) g).parts;have cp:Hid (SR Value.string ByteArray.empty p G n1 N (texts 1)):=B;have cq:Hid (∀a,G=some a->i.heap.size<=a.block):=(λa e=>(g.lt a.block (by rw[e];rfl)).1);clear B;have bb:Hid (af o p):=ae a7.out b.out;have c8:=b;clear b am a9 a8;clear g hg)
 refine(nk F7 _ oD oD).mono ?_;rintro e b4 ⟨dE,d0,rfl,hs,hb⟩;have bd:=Lib.hid hs;have be:Hid (b4.ownsRow p.heap.size 9 1 (.slice (some ⟨p.heap.size,0,none⟩) 1 1) 1 ([nB].map Value.string)):=ar (qk p [nB] 9 1 rfl oM) hb;have ap:Hid (af p b4):=ae (ax _ _) hb;clear hs hb;go_wp2_with(at_builtin;refine aY (f:=Value.string) (d:=ByteArray.empty) BM rfl _ _ _ rfl p.heap.size 9 V _ 16 Tryz.underlying214 X Z ab ac rfl _ 1 [nB] rfl be.out dE _ d0 (Lib.charsB F7) rfl bd.out.hn bd.out.rd (by have:F7.size=26:=rfl;unfold maxLen;omega) (by have:F7.size=26:=rfl;omega) ap.out.size ?_;intro el r g hg;have b:Hid (Below p.heap.size p r):=ap.out.grown hg ap.out.size (λq hq=>(be.out.lt q hq).1);obtain⟨H,n2,O,rfl,B⟩:=(SG.aI (f:=Value.string) (d:=ByteArray.empty) g).parts;have cs:Hid (SR Value.string ByteArray.empty r H n2 O (texts 2)):=B;have cv:Hid (∀a,H=some a->p.heap.size<=a.block):=(λa e=>(g.lt a.block (by rw[e];rfl)).1);clear B;have bf:Hid (af o r):=ae bb.out b.out;have c9:Hid (af i r):=ae c8.out b.out;have da:=b;clear c8;clear b ap be bd;clear g hg)
 refine(nk Gn _ oD oD).mono ?_;rintro e b5 ⟨d1,d2,rfl,hs,hb⟩;have bi:=Lib.hid hs;have bo:Hid (b5.ownsRow r.heap.size 9 1 (.slice (some ⟨r.heap.size,0,none⟩) 5 5) 5 (Kh.map Value.string)):=ar (qk r Kh 9 5 rfl oM) hb;have av:Hid (af r b5):=ae (ax _ _) hb;clear hs hb;go_wp2_with(at_builtin;refine aY (f:=Value.string) (d:=ByteArray.empty) BM rfl _ _ _ rfl r.heap.size 9 V _ 16 Tryz.underlying214 X Z ab ac rfl _ 5 Kh rfl bo.out d1 _ d2 (Lib.charsB Gn) rfl bi.out.hn bi.out.rd (by have:Gn.size=25:=rfl;unfold maxLen;omega) (by have:Gn.size=25:=rfl;omega) av.out.size ?_;intro em s g hg;have b:Hid (Below r.heap.size r s):=av.out.grown hg av.out.size (λq hq=>(bo.out.lt q hq).1);obtain⟨J,n3,P,rfl,B⟩:=(SG.aI (f:=Value.string) (d:=ByteArray.empty) g).parts;have cx:Hid (SR Value.string ByteArray.empty s J n3 P (texts 3)):=B;have c2:Hid (∀a,J=some a->r.heap.size<=a.block):=(λa e=>(g.lt a.block (by rw[e];rfl)).1);clear B;have bq:Hid (af o s):=ae bf.out b.out;have dd:Hid (af i s):=ae c9.out b.out;have de:Hid (af p s):=ae da.out b.out;have dl:=b;clear c9 da;clear b av bo bi;clear g hg)
 refine(nk DZ _ oD oD).mono ?_;rintro e b6 ⟨d3,d4,rfl,hs,hb⟩;have bs:=Lib.hid hs;have bt:Hid (b6.ownsRow s.heap.size 9 1 (.slice (some ⟨s.heap.size,0,none⟩) 1 1) 1 ([nB].map Value.string)):=ar (qk s [nB] 9 1 rfl oM) hb;have a0:Hid (af s b6):=ae (ax _ _) hb;clear hs hb;go_wp2_with(at_builtin;refine aY (f:=Value.string) (d:=ByteArray.empty) BM rfl _ _ _ rfl s.heap.size 9 V _ 16 Tryz.underlying214 X Z ab ac rfl _ 1 [nB] rfl bt.out d3 _ d4 (Lib.charsB DZ) rfl bs.out.hn bs.out.rd (by have:DZ.size=12:=rfl;unfold maxLen;omega) (by have:DZ.size=12:=rfl;omega) a0.out.size ?_;intro v4 D g hg;have b:Hid (Below s.heap.size s D):=a0.out.grown hg a0.out.size (λq hq=>(bt.out.lt q hq).1);obtain⟨K,n4,Q,rfl,B⟩:=(SG.aI (f:=Value.string) (d:=ByteArray.empty) g).parts;have c3:Hid (SR Value.string ByteArray.empty D K n4 Q (texts 4)):=B;have c4:Hid (∀a,K=some a->s.heap.size<=a.block):=(λa e=>(g.lt a.block (by rw[e];rfl)).1);clear B;have bv:Hid (af o D):=ae bq.out b.out;have dn:Hid (af i D):=ae dd.out b.out;have ds:Hid (af p D):=ae de.out b.out;have dv:Hid (af r D):=ae dl.out b.out;have dx:=b;clear dd de dl;clear b a0 bt bs;clear g hg)
 have c5:Hid (TS w (D.alloc (.cells #[.slice F L M,.slice G n1 N,.slice H n2 O,.slice J n3 P,.slice K n4 Q] 216)) #[.slice F L M,.slice G n1 N,.slice H n2 O,.slice J n3 P,.slice K n4 Q] (qT 0)):=by
  have z:=ci.out;have en:=a7.out.size;have eq:=bb.out.size;have er:=bf.out.size;have es:=bq.out.size;have et:=bv.out.size;have b0:Below o.heap.size o (D.alloc (.cells #[.slice F L M,.slice G n1 N,.slice H n2 O,.slice J n3 P,.slice K n4 Q] 216)):=ah bv.out _;have d5:Below i.heap.size i D:=dn.out;have d6:Below p.heap.size p D:=ds.out;have d7:Below r.heap.size r D:=dv.out;have d8:Below s.heap.size s D:=dx.out;refine⟨ae ch.out b0,ca.out.below b0,cb.out.below b0,λk a3=>?_,oG,CZ⟩;have u:k=0\/k=1\/k=2\/k=3\/k=4:=oO;rcases u with rfl|rfl|rfl|rfl|rfl
  ·exact⟨F,L,M,rfl,ck.out.below (ah d5 _),λa e=>by have:=co.out a e;omega⟩
  ·exact⟨G,n1,N,rfl,cp.out.below (ah d6 _),λa e=>by have:=cq.out a e;omega⟩
  ·exact⟨H,n2,O,rfl,cs.out.below (ah d7 _),λa e=>by have:=cv.out a e;omega⟩
  ·exact⟨J,n3,P,rfl,cx.out.below (ah d8 _),λa e=>by have:=c2.out a e;omega⟩
  ·exact⟨K,n4,Q,rfl,c3.out.below (ax _ _),λa e=>by have:=c4.out a e;omega⟩
 clear ci ca cb ch a7 bb bf bq bv dn ds dv dx ck cp cs cx c3 co cq cv c2 c4;have fd:(#[Value.slice F L M,.slice G n1 N,.slice H n2 O,.slice J n3 P,.slice K n4 Q]:Array Value).size=5:=rfl;generalize(#[Value.slice F L M,.slice G n1 N,.slice H n2 O,.slice J n3 P,.slice K n4 Q]:Array Value)=C at*;go_loopw [28] (λt wr=>∃k:Nat,k<=5/\t= .int .i64 k/\Hid (TS w wr C (qT k))) (λt _=>5-(intOf t).toNat)
 case atStart=>exact⟨0,by omega,rfl,c5.out⟩
 case round=>
  obtain⟨k,a3,rfl,x⟩:=hrel;by_cases S:k<5
  ·obtain⟨A,n,c,b7,hs,_⟩:=x.out.X k S;have U:=Lib.hid b7;have ew:=Lib.hid hs;clear b7 hs;have e9:=GC k;go_wp2_with(refine iH rfl 216 _ _ rfl 5 214 Tryz.underlying216 _ Tryz.underlying214 rfl KZ C .i64 k k rfl rfl rfl S _ U.out ?_)
   obtain⟨b8,rfl⟩:∃b8:World,b8=wr:=⟨_,rfl⟩;go_loopw [34] (λt wr=>∃j:Nat,j<=n/\t= .int .i64 j/\Hid (TS w wr C (vm (qT k) (texts k) (32* k) j))) (λt _=>n-(intOf t).toNat)
   case atStart=>exact⟨0,by omega,rfl,x.out⟩
   case round=>
    obtain⟨j,ex,rfl,Y⟩:=hrel;obtain⟨ey,ez,eA,a1,T,_⟩:=Y.out.X k S;rw[U.out]at a1;injection a1 with a1;injection a1 with bx ed ef;subst bx ed ef;by_cases ei:j<n
    ·obtain⟨a,rfl,fn,c6⟩:=T.rd (by rw[<-T.hn];omega);have bx:=c6 j (by rw[<-T.hn];exact ei);have fb:j<31:=by have:=T.hn;omega
     obtain⟨E,bz⟩:∃E,E=(texts k).getD j ByteArray.empty:=⟨_,rfl⟩;have eh:=Lib.hid bz;rw[<-bz]at bx;clear c6 T bz;have d9:Hid (TS w (wr.setRow (w.heap.size+1) (splice (vm (qT k) (texts k) (32* k) j).toList (k* 96+(j+1)* 3) (mc 1 0 E)).toArray) C (gP (vm (qT k) (texts k) (32* k) j) (32* k+j+1) (mc 1 0 E))):=Y.out.put _ _ _ oO oO rfl (eZ 1 0 E);have ek:Hid (k* 96+(j+1)* 3+(mc 1 0 E).length<=(vm (qT k) (texts k) (32* k) j).size):=Y.out.fit rfl oO;have ea:Hid (∀v∈mc 1 0 E,v.oneCell'=true):=eZ 1 0 E;have b1:Hid (mc 1 0 E=[.int .i64 1,.int .i64 0,.string E]):=rfl;generalize mc 1 0 E=ce at*;go_wp2_with(refine bG rfl 168 _ _ rfl 170 (w.heap.size+1) (k* 96+(j+1)* 3) (vm (qT k) (texts k) (32* k) j) ce rfl (by rw[b1.out];rfl) Y.out.R1 (by rw[b1.out];exact du) ek.out ea.out ?_;generalize World.setRow _ _ _=a4 at*)
     refine⟨⟨j+1,by omega,by go_num,?_⟩,by simp[intOf];omega⟩;have y:=d9.out;rw[b1.out,eh.out]at y;exact y
    ·obtain rfl:j=n:=oO;have hq:j=(texts k).length:=T.hn;clear T;have ec:=Lib.hid hq;clear hq;go_wp2;refine⟨⟨k+1,by omega,by go_num,?_⟩,by simp[intOf];omega⟩;have y:=Y.out;rw[ec.out]at y;exact y
  ·have u:k=5:=oO;clear c5;have l:Hid (TS w wr C (vD 0)):=by
    have y:=x.out;rw[u]at y;exact y
   clear u;clear x;go_wp2;go_loopw [49] (λt wr=>∃k:Nat,k<=4/\t= .int .i64 k/\Hid (TS w wr C (vD k))) (λt _=>4-(intOf t).toNat)
   case atStart=>exact⟨0,by omega,rfl,l.out⟩
   case round=>
    clear l;obtain⟨k,a3,rfl,x⟩:=hrel;by_cases S:k<4
    ·have ad:Hid (TS w wr C (vD k)):=x;have l:Hid (TS w (wr.setRow (w.heap.size+1) (splice (vD k).toList (shN k* 96) (mc 3 3 ByteArray.empty)).toArray) C (vD (k+1))):=x.out.put _ _ _ oO (by have:=FL k;omega) rfl (eZ _ _ _);have U:Hid (#[Value.int .i64 0,.int .i64 1,.int .i64 2,.int .i64 4][k]?=some (.int .i64 (shN k))):=by
      have u:k=0\/k=1\/k=2\/k=3:=oO;rcases u with rfl|rfl|rfl|rfl<;>rfl
     have fc:=FL k;generalize shN k=m at*;go_wp2_with(first|(refine iH rfl 128 _ _ rfl 4 3 Tryz.underlying128 _ Tryz.underlying3 rfl Kq _ .i64 k k rfl rfl rfl S _ U.out ?_)|(refine bG rfl 168 _ _ rfl 170 (w.heap.size+1) (m* 96) _ (mc 3 3 ByteArray.empty) rfl rfl ad.out.R1 du (ad.out.fit rfl oO) (eZ 3 3 ByteArray.empty) ?_;generalize World.setRow _ _ _=a4 at*))
     exact⟨⟨k+1,by omega,by go_num,l.out⟩,by simp[intOf];omega⟩
    ·have u:k=4:=oO;have l:Hid (TS w wr C (tn 0)):=by
      have y:=x.out;rw[u]at y;exact y
     clear u;clear x;go_wp2;go_loopw [58] (λt wr=>∃k:Nat,k<=3/\t= .int .i64 k/\Hid (TS w wr C (tn k))) (λt _=>3-(intOf t).toNat)
     case atStart=>exact⟨0,by omega,rfl,l.out⟩
     case round=>
      clear l;obtain⟨k,a3,rfl,x⟩:=hrel;by_cases S:k<3
      ·have ad:Hid (TS w wr C (tn k)):=x;have l:Hid (TS w (wr.setRow (w.heap.size+1) (splice (tn k).toList (k* 96+93) (mc 4 0 ByteArray.empty)).toArray) C (tn (k+1))):=x.out.put _ _ _ oO oO rfl (eZ _ _ _);have U:Hid (#[Value.int .i64 0,.int .i64 1,.int .i64 2][k]?=some (.int .i64 k)):=by
        have u:k=0\/k=1\/k=2:=oO;rcases u with rfl|rfl|rfl<;>rfl
       go_wp2_with(first|(refine iH rfl 217 _ _ rfl 3 3 Tryz.underlying217 _ Tryz.underlying3 rfl Kq _ .i64 k k rfl rfl rfl S _ U.out ?_)|(refine bG rfl 168 _ _ rfl 170 (w.heap.size+1) (k* 96+93) _ (mc 4 0 ByteArray.empty) rfl rfl ad.out.R1 du (ad.out.fit rfl oO) (eZ 4 0 ByteArray.empty) ?_;generalize World.setRow _ _ _=a4 at*))
       exact⟨⟨k+1,by omega,by go_num,l.out⟩,by simp[intOf];omega⟩
      ·have u:k=3:=oO;have l:Hid (TS w wr C (tn 3)):=by
        have y:=x.out;rw[u]at y;exact y
       clear u;clear x;go_wp2_with(first|(refine Em l.out rfl _ _ rfl _ [_,_,_] rfl rfl rfl (eZ _ _ _) oD oD ?_;clear l;intro a4 l)|(refine BD l.out rfl _ rfl rfl ?_;intro c7 HC)|(refine zv l.out HC.out rfl _ _ rfl rfl rfl ?_;intro e0 b9;have hc:Hid (c7=eu):=HC.out;clear l HC;have HC:=hc;clear hc))
       (try simp only[Exit.inBlock,Exit.then])
       refine bodyPost_ret (results_cell_row rfl _ _ w.heap.size 170 c7 (0,0) _ rfl b9.out.1 Tryz.underlying170 rfl (by rw[HC.out];exact Mg)) rfl ?_;exact⟨by rw[HC.out],b9.out.2⟩
end
end Go.Proofs.YtmnlkganmgcpbaaGreatDoor
