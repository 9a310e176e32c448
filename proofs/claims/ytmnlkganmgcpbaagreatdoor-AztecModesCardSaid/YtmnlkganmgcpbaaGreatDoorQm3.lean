import Derived.Test.YtmnlkganmgcpbaaGreatDoorQm2
import Derived.Laws.CopyOwn
import Derived.Laws.CopyRow
import Derived.Deep.WholeRow
import Derived.Maps.Views
import Derived.Maps.OwnSet
import Derived.DeepKeys4
set_option maxRecDepth 100000
set_option maxHeartbeats 4000000
set_option linter.unusedVariables false
set_option linter.unusedSectionVars false
set_option linter.unusedSimpArgs false
namespace Go.Proofs.YtmnlkganmgcpbaaGreatDoor
section
open Go.RowKit
def RT {α:Type} (f:α->Value) (d:α) (w:World) (L:List α×Int) (e:Ending) (w':World):Prop:=∃v,e= .returned (.tuple #[v,.int .i64 L.2])/\SG f d w' v L.1/\Below w.heap.size w w'
theorem RT.mk {α:Type} {f:α->Value} {d:α} {w w':World} {R:List α×Int} {v:Value} {L:List α} {err:Int} (h:R=(L,err)) (a:SG f d w' v L) (hb:Below w.heap.size w w'):RT f d w R (.returned (.tuple #[v,.int .i64 err])) w':=by
 subst h;exact⟨v,rfl,a,hb⟩
def gP (b:List Bool) (size:Int):List Nat×Int:=
 if size<2\/12<size then([],3)else if 1048576<b.length then([],4)else(aU b size.toNat,0)
theorem x9 (A:Option Addr) (n c:Nat) (size:Int) (b:List Bool) (w:World) (hb:SR vB false w A n c b):
 Calls Tryz.prog 32 #[.slice A n c,.int .i64 size] w (RT vN 0 w (gP b size)):=by
 have hn:n=b.length:=hb.hn;have i:n<=9223372036854775807:=by have:=hb.hm;have:=hb.hc;unfold maxLen at*;omega
 by_cases d:size<2
 ·have a:Hid (gP b size=([],3)):=by show _=_;unfold gP;rw[if_pos (.inl d)]
  clear hb hn;go_enter Tryz.func32,Tryz.ntmps32;go_wp2;go_ret2
  exact RT.mk a.out (SG.dR _) (Below.refl _ _)
 by_cases e:12<size
 ·have a:Hid (gP b size=([],3)):=by show _=_;unfold gP;rw[if_pos (.inr e)]
  clear hb hn;go_enter Tryz.func32,Tryz.ntmps32;go_wp2;go_ret2
  exact RT.mk a.out (SG.dR _) (Below.refl _ _)
 by_cases f:n<=1048576
 ·obtain⟨s,rfl⟩:=Int.eq_ofNat_of_zero_le (show 0<=size by omega);have a:gP b s=(aU b s,0):=by unfold gP;rw[if_neg oO,if_neg oO];rfl
  rw[a];exact GK A n c s b w hb oO oO f
 ·have a:Hid (gP b size=([],4)):=by show _=_;unfold gP;rw[if_neg oO,if_pos oO]
  have g:decide ((1048576:Int)<(n:Int))=true:=by simp;omega
  clear hb hn;go_enter Tryz.func32,Tryz.ntmps32;go_wp2;go_ret2
  exact RT.mk a.out (SG.dR _) (Below.refl _ _)
end
theorem tV (a b:Nat):(a^^^b)%2=(a%2+b%2)%2:=by
 have h:=Nat.testBit_xor a b 0;simp only[Nat.testBit_zero]at h;have c:=Nat.mod_two_eq_zero_or_one a;have hb:=Nat.mod_two_eq_zero_or_one b;have hc:=Nat.mod_two_eq_zero_or_one (a^^^b);rcases c with c|c<;>rcases hb with hb|hb<;>rcases hc with hc|hc<;>simp[c,hb,hc]at h⊢
theorem uB (a b:Nat):(a^^^b)/2=a/2^^^b/2:=by
 apply Nat.eq_of_testBit_eq;intro i;simp[Nat.testBit_xor,Nat.testBit_div_two]
theorem pe (a b:Nat):2* (a^^^b)=2* a^^^2* b:=by
 apply Nat.eq_of_testBit_eq;intro i;cases i with
 |zero=>simp[Nat.testBit_zero,tV]
 |succ i=>simp[Nat.testBit_succ,uB]
def cmulF:Nat->Nat->Nat->Nat
 |0,_,_=>0
 |n+1,a,b=>(if b%2=1 then a else 0)^^^2* cmulF n a (b/2)
theorem js (n a:Nat):cmulF n a 0=0:=by
 induction n with
 |zero=>rfl
 |succ n b=>simp[cmulF,b]
theorem Eb (n m a b:Nat) (hn:b<=n) (d:b<=m):cmulF n a b=cmulF m a b:=by
 induction n generalizing m b with
 |zero=>
  obtain rfl:b=0:=oO;rw[js,js]
 |succ n c=>
  cases m with
  |zero=>
   obtain rfl:b=0:=oO;rw[js,js]
  |succ m=>simp only[cmulF];rw[c m (b/2) oO oO]
def bJ (a b:Nat):Nat:=cmulF b a b
theorem fB (a:Nat):bJ a 0=0:=rfl
theorem eM (a b:Nat):bJ a b=(if b%2=1 then a else 0)^^^2* bJ a (b/2):=by
 by_cases hb:b=0
 ·subst hb;simp[bJ,cmulF]
 ·obtain⟨c,rfl⟩:∃c,b=c+1:=⟨b-1,by omega⟩;unfold bJ;rw[cmulF];rw[Eb c ((c+1)/2) a ((c+1)/2) oO oO]
theorem rH (a b:Nat):bJ a (2* b)=2* bJ a b:=by
 rw[eM];simp
theorem q7 (a:Nat):bJ a 1=a:=by
 rw[eM];simp[fB]
theorem yz (b:Nat):bJ 0 b=0:=by
 induction b using Nat.strongRecOn with
 |_ b a=>
  by_cases hb:b=0
  ·subst hb;rfl
  ·rw[eM,a (b/2) oO];simp
theorem qY (a b c:Nat):bJ (a^^^b) c=bJ a c^^^bJ b c:=by
 induction c using Nat.strongRecOn with
 |_ c d=>
  by_cases hc:c=0
  ·subst hc;simp[fB]
  ·rw[eM (a^^^b),eM a c,eM b c,d (c/2) oO,pe];split
   ·ac_rfl
   ·simp
theorem oJ (a b:Nat):bJ (2* a) b=2* bJ a b:=by
 induction b using Nat.strongRecOn with
 |_ b c=>
  by_cases hb:b=0
  ·subst hb;simp[fB]
  ·rw[eM (2* a),eM a b,c (b/2) oO,pe];split<;>simp
theorem zG (a:Nat):(a%2)^^^2* (a/2)=a:=by
 apply Nat.eq_of_testBit_eq;intro i;cases i with
 |zero=>simp[Nat.testBit_zero,tV]
 |succ i=>
  rw[Nat.testBit_succ,Nat.testBit_succ,uB];simp
theorem AW (a b c:Nat):bJ a (b^^^c)=bJ a b^^^bJ a c:=by
 induction b using Nat.strongRecOn generalizing c with
 |_ b f=>
  by_cases hb:b=0
  ·subst hb;simp[fB]
  ·rw[eM a (b^^^c),eM a b,eM a c,uB,f (b/2) oO,pe,tV];rcases Nat.mod_two_eq_zero_or_one b with d|d<;>rcases Nat.mod_two_eq_zero_or_one c with e|e
   ·simp[d,e]
   ·simp[d,e];ac_rfl
   ·simp[d,e];ac_rfl
   ·simp only[d,e];simp;rw[show a^^^2* bJ a (b/2)^^^(a^^^2* bJ a (c/2))=(a^^^a)^^^(2* bJ a (b/2)^^^2* bJ a (c/2))from by ac_rfl];simp
theorem uJ (b:Nat):bJ 1 b=b:=by
 induction b using Nat.strongRecOn with
 |_ b c=>
  by_cases hb:b=0
  ·subst hb;rfl
  ·rw[eM,c (b/2) oO];have:=zG b;rcases Nat.mod_two_eq_zero_or_one b with a|a<;>simp[a]at this⊢<;>exact this
theorem mO (a b:Nat):bJ a b=bJ b a:=by
 induction a using Nat.strongRecOn generalizing b with
 |_ a d=>
  by_cases e:a=0
  ·subst e;rw[yz,fB]
  ·conv=>lhs;rw[<-zG a,qY,oJ,d (a/2) oO]
   rw[eM b a];rcases Nat.mod_two_eq_zero_or_one a with c|c<;>simp[c,yz,uJ]
theorem qO (a b c:Nat):bJ (bJ a b) c=bJ a (bJ b c):=by
 induction c using Nat.strongRecOn with
 |_ c d=>
  by_cases hc:c=0
  ·subst hc;simp[fB]
  ·rw[eM (bJ a b) c,eM b c,AW,rH,d (c/2) oO];split<;>simp[fB]
instance:Std.Associative bJ:=⟨qO⟩
instance:Std.Commutative bJ:=⟨mO⟩
def bl:Nat->Nat:=λn=>if n=0 then 0 else n.log2+1
theorem aS (a n:Nat):bl a<=n↔a<2^n:=by
 unfold bl;split
 ·subst a;simp;exact Nat.two_pow_pos n
 ·rename_i h;rw[<-Nat.log2_lt h];omega
theorem gL (a n:Nat):n<bl a↔2^n<=a:=by
 have:=aS a n;omega
theorem xY (a:Nat):a<2^bl a:=(aS a _).1 (Nat.le_refl _)
theorem Gq (a:Nat) (h:a≠0):2^(bl a-1)<=a:=by
 apply(gL a _).1;have:0<bl a:=(gL a 0).2 oT;omega
theorem dI:bl 0=0:=rfl
theorem fG (a:Nat) (h:a≠0):0<bl a:=(gL a 0).2 oT
theorem s9 (a n:Nat) (b:2^n<=a) (c:a<2^(n+1)):bl a=n+1:=by
 have:=(gL a n).2 b;have:=(aS a (n+1)).2 c;omega
theorem pL (a b:Nat) (h:a<=b):bl a<=bl b:=(aS _ _).2 (Nat.lt_of_le_of_lt h (xY b))
theorem pt (a b:Nat) (h:bl a<bl b):a<b:=by
 have:=pL b a;omega
theorem qR (a:Nat) (h:a≠0):bl (2* a)=bl a+1:=by
 obtain⟨n,hn⟩:∃n,bl a=n+1:=⟨bl a-1,by have:=fG a h;omega⟩;rw[hn];have b:=(gL a n).1 oO;have c:=(aS a (n+1)).1 oO;exact s9 _ _ (by rw[Nat.pow_succ];omega) (by rw[Nat.pow_succ];omega)
theorem lH (a n:Nat) (h:bl a=n+1):a.testBit n=true:=by
 have c:=(gL a n).1 oO;have b:=(aS a (n+1)).1 oO;rw[Nat.testBit_eq_decide_div_mod_eq];have:a/2^n=1:=by
  apply Nat.div_eq_of_lt_le
  ·omega
  ·rw[Nat.pow_succ]at b;omega
 simp[this]
theorem yM (a n:Nat) (h:a.testBit n=true) (b:a<2^(n+1)):bl a=n+1:=by
 refine s9 _ _ (Nat.ge_two_pow_of_testBit h) b
theorem k8 (a b n:Nat) (c:bl a<=n) (hb:bl b<=n):bl (a^^^b)<=n:=by
 rw[aS]at*;exact Nat.xor_lt_two_pow c hb
theorem x5 (a b n:Nat) (c:bl a=n+1) (hb:bl b=n+1):bl (a^^^b)<=n:=by
 have h:bl (a^^^b)<=n+1:=k8 _ _ _ oO oO;by_cases e:bl (a^^^b)=n+1
 ·have:=lH _ _ e;rw[Nat.testBit_xor,lH _ _ c,lH _ _ hb]at this;simp at this
 ·omega
theorem Hn (a b:Nat) (h:bl a<bl b):bl (a^^^b)=bl b:=by
 obtain⟨n,hn⟩:∃n,bl b=n+1:=⟨bl b-1,by omega⟩;have c:a<2^n:=(aS a n).1 oO;rw[hn];refine yM _ _ ?_ ?_
 ·rw[Nat.testBit_xor,lH _ _ hn,Nat.testBit_lt_two_pow c];rfl
 ·exact(aS _ _).1 (k8 _ _ _ oO oO)
theorem CY (a b:Nat) (d:a≠0) (hb:b≠0):bl (bJ a b)+1=bl a+bl b:=by
 induction b using Nat.strongRecOn with
 |_ b e=>
  have m:=fG a d;by_cases f:b=1
  ·subst f;rw[q7];have:bl 1=1:=by decide
   omega
  ·have c:b/2≠0:=oO;have g:=e (b/2) oO c;have o:bl b=bl (b/2)+1:=by
    obtain⟨n,hn⟩:∃n,bl (b/2)=n+1:=⟨bl (b/2)-1,by have:=fG _ c;omega⟩;have k:=(gL (b/2) n).1 oO;have l:=(aS (b/2) (n+1)).1 oO;rw[hn];exact s9 _ _ (by rw[Nat.pow_succ];omega) (by rw[Nat.pow_succ];omega)
   have p:=fG _ c;have j:bJ a (b/2)≠0:=by
    intro i;rw[i,dI]at g;omega
   rw[eM];have e2:=qR _ j;split
   ·rw[Hn _ _ oO];omega
   ·simp;omega
theorem AV (a n:Nat):bJ a (2^n)=a* 2^n:=by
 induction n with
 |zero=>simp[q7]
 |succ n b=>rw[show 2^(n+1)=2* 2^n from by rw[Nat.pow_succ];omega,rH,b,Nat.mul_left_comm]
theorem qX (a n:Nat) (b:a≠0):bl (a* 2^n)=bl a+n:=by
 induction n with
 |zero=>simp
 |succ n c=>
  rw[Nat.pow_succ,show a* (2^n* 2)=2* (a* 2^n)from by ac_rfl,qR _ (by have:=Nat.two_pow_pos n;exact Nat.mul_ne_zero b oO),c];omega
def gw (p a:Nat):Prop:=∃k,a=bJ p k
theorem oL (p:Nat):gw p 0:=⟨0,(fB p).symm⟩
theorem GR (p:Nat):gw p p:=⟨1,(q7 p).symm⟩
theorem mr {p a b:Nat} (c:gw p a) (d:gw p b):gw p (a^^^b):=by
 obtain⟨k,rfl⟩:=c;obtain⟨l,rfl⟩:=d;exact⟨k^^^l,(AW _ _ _).symm⟩
theorem Bb {p a:Nat} (b:Nat) (c:gw p a):gw p (bJ a b):=by
 obtain⟨k,rfl⟩:=c;exact⟨bJ k b,qO _ _ _⟩
theorem qK {p a:Nat} (h:gw p a) (d:bl a<bl p):a=0:=by
 obtain⟨k,rfl⟩:=h;by_cases b:k=0
 ·subst b;exact fB _
 ·by_cases c:p=0
  ·subst c;rw[dI]at d;omega
  ·have:=CY p k c b;have:=fG k b;omega
def jQ (p q:Nat):Nat:=p^^^q* 2^(bl p-bl q)
theorem ua (p q:Nat) (hq:q≠0) (h:bl q<=bl p):bl (jQ p q)<bl p:=by
 have a:=fG q hq;obtain⟨n,hn⟩:∃n,bl p=n+1:=⟨bl p-1,by omega⟩;have:=qX q (bl p-bl q) hq;have:=x5 p (q* 2^(bl p-bl q)) n hn oO;unfold jQ;omega
def mD:Nat->Nat->Nat->Nat
 |0,p,_=>p
 |n+1,p,q=>if bl q<=bl p then mD n (jQ p q) q else p
def cmod (p q:Nat):Nat:=mD (bl p) p q
theorem Jl (n p q:Nat) (hq:q≠0) (h:bl p<bl q+n):bl (mD n p q)<bl q:=by
 induction n generalizing p with
 |zero=>simp[mD];omega
 |succ n a=>
  simp only[mD];split
  ·rename_i b;have:=ua p q hq b
   exact a _ oO
  ·omega
theorem G2 (n p q:Nat):gw q (p^^^mD n p q):=by
 induction n generalizing p with
 |zero=>simp[mD];exact oL _
 |succ n a=>
  simp only[mD];split
  ·have:=mr (a (jQ p q)) (⟨2^(bl p-bl q),(AV q _).symm⟩:gw q (q* 2^(bl p-bl q)));rw[show jQ p q^^^mD n (jQ p q) q^^^q* 2^(bl p-bl q)=(jQ p q^^^q* 2^(bl p-bl q))^^^mD n (jQ p q) q from by ac_rfl]at this;rw[show jQ p q^^^q* 2^(bl p-bl q)=p from by unfold jQ;rw[Nat.xor_assoc];simp]at this;exact this
  ·simp;exact oL _
theorem kK (p q:Nat) (hq:q≠0):bl (cmod p q)<bl q:=
 Jl _ _ _ hq (by have:=fG q hq;omega)
theorem jV (p q:Nat):gw q (p^^^cmod p q):=G2 _ _ _
theorem jD (p q r:Nat) (b:gw q (p^^^r)) (c:bl r<bl q):r=cmod p q:=by
 have hq:q≠0:=by intro h;subst h;rw[dI]at c;omega
 have a:=mr b (jV p q);rw[show p^^^r^^^(p^^^cmod p q)=(p^^^p)^^^(r^^^cmod p q)from by ac_rfl]at a;simp at a;have d:=qK a (Nat.lt_of_le_of_lt (k8 r (cmod p q) (bl q-1) oO (by have:=kK p q hq;omega)) oO);have e:=congrArg (λx=>x^^^cmod p q) d;simpa[Nat.xor_assoc]using e
theorem oh (p q:Nat) (hq:q≠0):cmod p q=0↔gw q p:=by
 constructor
 ·intro h;have:=jV p q;rw[h]at this;simpa using this
 ·intro h;exact(jD p q 0 (by simpa using h) (by rw[dI];exact fG q hq)).symm
theorem jw (p q:Nat) (h:bl p<bl q):cmod p q=p:=
 (jD p q p (by simp;exact oL _) h).symm
def Mu (p:Nat):Prop:=2<=bl p/\∀q,2<=q->2* (bl q-1)<=bl p-1->¬gw q p
theorem yn (q:Nat) (a:q≠0) (b:q≠1):2<=q:=oO
theorem Lu (p a b:Nat) (g:Mu p) (h:gw p (bJ a b)):gw p a\/gw p b:=by
 by_cases l:gw p a
 ·exact .inl l
 right;have u:p≠0:=by intro h;subst h;have:=g.1;rw[dI]at this;omega
 have v:a≠0:=by intro h;subst h;exact l (oL _)
 have key:∀n,∀c,c<n->c≠0->gw p (bJ c b)->gw p b:=by
  intro n
  induction n with
  |zero=>intro c hc;omega
  |succ n s=>
   intro c hc f m;have red:∀x,gw p (bJ x b)->gw p b\/gw c x:=by
    intro x t;by_cases o:cmod x c=0
    ·exact .inr ((oh _ _ f).1 o)
    ·left;refine s (cmod x c) ?_ o ?_
     ·have:=pt _ _ (kK x c f);omega
     ·obtain⟨k,d⟩:=jV x c;have e:cmod x c=x^^^bJ c k:=by rw[<-d,<-Nat.xor_assoc];simp
      rw[e,qY];refine mr t ?_;rw[show bJ (bJ c k) b=bJ (bJ c b) k from by ac_rfl];exact Bb _ m
   rcases red p ⟨b,rfl⟩with i|i
   ·exact i
   rcases red a h with j|j
   ·exact j
   obtain⟨k,d⟩:=i;have r:k≠0:=by intro h;subst h;rw[fB]at d;exact u d
   have w:=CY c k f r;rw[<-d]at w;by_cases c1:c=1
   ·subst c1;rw[uJ]at m;exact m
   by_cases q:k=1
   ·subst q;rw[q7]at d;subst d;exact absurd j l
   exfalso;by_cases y:bl c<=bl k
   ·exact g.2 c (yn c f c1) oO ⟨k,d⟩
   ·exact g.2 k (yn k r q) oO ⟨c,by rw[mO];exact d⟩
 exact key (a+1) a oO v h
theorem lf (a:Nat) (b:a<2^62):(BitVec.ofInt 64 (a:Int)).toNat=a:=by
 rw[BitVec.ofInt_natCast,BitVec.toNat_ofNat];exact Nat.mod_eq_of_lt oO
theorem fU (a b:Nat) (c:a<2^62) (hb:b<2^62):bits .xor .i64 (a:Int) (b:Int)=((a^^^b:Nat):Int):=by
 have d:a^^^b<2^62:=Nat.xor_lt_two_pow c hb;show IntKind.i64.wrap ((BitVec.ofInt 64 (a:Int)^^^BitVec.ofInt 64 (b:Int)).toNat:Int)=_;rw[BitVec.toNat_xor,lf a c,lf b hb,IntKind.wrap_i64];omega
theorem Cj (a b:Nat) (c:a<2^62) (hb:b<2^62):bits .and .i64 (a:Int) (b:Int)=((a&&&b:Nat):Int):=by
 have d:a&&&b<2^62:=Nat.and_lt_two_pow _ hb;show IntKind.i64.wrap ((BitVec.ofInt 64 (a:Int)&&&BitVec.ofInt 64 (b:Int)).toNat:Int)=_;rw[BitVec.toNat_and,lf a c,lf b hb,IntKind.wrap_i64];omega
theorem CZ (a b:Int) (c:0<=a) (e:a<4611686018427387904) (d:0<=b) (f:b<4611686018427387904):bits .xor .i64 a b=((a.toNat^^^b.toNat:Nat):Int):=by
 obtain⟨A,rfl⟩:=Int.eq_ofNat_of_zero_le c;obtain⟨B,rfl⟩:=Int.eq_ofNat_of_zero_le d;simpa using fU A B oO oO
theorem mC (a:Nat) (b:a<2^62):bits .and .i64 (a:Int) 1=((a%2:Nat):Int):=by
 have:=Cj a 1 b oD;rw[Nat.and_one_is_mod]at this;exact this
section
open Go.RowKit
def ie (v i:Nat):Bool:=v/2^i%2==1
def lowF (v n:Nat):Nat->List Bool
 |0=>[]
 |k+1=>lowF v n k++[ie v (n-1-k)]
def bh (v n:Nat):List Bool:=lowF v n n
theorem tL (v n k:Nat):(lowF v n k).length=k:=by
 induction k with
 |zero=>rfl
 |succ k a=>unfold lowF;rw[List.length_append,a];rfl
theorem I1 (v i:Nat) (b:v<=1000000000000):(bits BinOp.and IntKind.i64 ((v:Int)/2^i) 1==1)=ie v i:=by
 have e:((v:Int)/2^i)=((v/2^i:Nat):Int):=by simp
 have a:v/2^i<2^62:=Nat.lt_of_le_of_lt (Nat.div_le_self _ _) oO;rw[e,mC _ a];unfold ie;generalize v/2^i%2=x;by_cases h:x=1
 ·subst h;rfl
 ·rw[beq_eq_false_iff_ne.2 h,beq_eq_false_iff_ne];omega
theorem ni (base:Nat) (a:List Bool) (u:Value) (v n:Nat) (w:World) (z:v<=1000000000000) (hn:n<=62) (hl:a.length<=100000000) (hb:base<=w.heap.size) (m:w.ownsRow base 4 1 u a.length (a.map vB)):
 Calls Tryz.prog 108 #[u,.int .i64 v,.int .i64 n] w λe w'=>∃o,e= .returned o/\w'.ownsRow base 4 1 o (a++bh v n).length ((a++bh v n).map vB)/\Below base w w':=by
 obtain⟨A,B,F,G,H⟩:=info_parts gU;have C:=Lib.hid m;clear m;go_enter Tryz.func108,Tryz.ntmps108;go_wp2;go_loopw [0,7] (λD b wr=>∃(k:Nat) (j:Int),k<=n/\b= .int .i64 j/\Hid (j=(n:Int)-1-k)/\Hid (Below base w wr)/\Hid (wr.ownsRow base 4 1 D (a++lowF v n k).length ((a++lowF v n k).map vB))) (λ_ b _=>(intOf b+1).toNat)
 case atStart=>exact⟨0,_,Nat.zero_le _,rfl,by show _=_;omega,Below.refl _ _,by show World.ownsRow _ _ _ _ _ _ _;rw[show lowF v n 0=[]from rfl,List.append_nil];exact C.out⟩
 case round=>
  obtain⟨k,j,M,rfl,p,c,g⟩:=hrel;by_cases O:k<n
  ·obtain⟨i,s⟩:∃i,i=n-1-k:=⟨_,rfl⟩;obtain rfl:j=(i:Int):=by have:=p.out;omega
   have r:=Lib.hid s;have P:i<=61:=oO;clear s;have S:=I1 v i z;have J:Hid (lowF v n (k+1)=lowF v n k++[ie v i]):=by show _=_;rw[r.out];rfl
   have t:Hid ((a++lowF v n k).length<=100000062):=by show _<=_;rw[List.length_append,tL];omega
   generalize ie v i=y at*;have l:Hid (base<=wr.heap.size):=Nat.le_trans hb c.out.size;go_wp2_with(at_builtin;refine bg (f:=vB) (d:=false) AF rfl _ _ _ rfl base 4 A _ 1 Tryz.underlying26 B F G H rfl _ _ (a++lowF v n k) rfl (xB g.out _) (some ⟨wr.heap.size,0,none⟩) 1 1 [y] rfl rfl (RG.one _ _ _ _ rfl) (by unfold maxLen;have:=t.out;omega) (by have:=t.out;omega) (by have:=l.out;simp;omega) ?_;intro N E x hg;have K:Hid (Below base w E):=((c.out.alloc l.out _).grown hg (by have:=l.out;simp;omega) (λq hq=>(g.out.lt q hq).1));have L:=Lib.hid x;clear x hg)
   exact⟨⟨k+1,_,by omega,rfl,by have:=r.out;show _=_;omega,K.out,by
    show World.ownsRow _ _ _ _ _ _ _;rw[J.out,<-List.append_assoc];have e1:(a++lowF v n k++[y]).length=(a++lowF v n k).length+1:=List.length_append
    rw[e1];exact L.out⟩,by simp[intOf]⟩
  ·obtain rfl:k=n:=oO;have Q:decide ((0:Int)<=j)=false:=by have:=p.out;simp;omega
   go_wp2;go_ret;exact⟨_,rfl,g.out,c.out⟩
theorem G7:(Tryz.prog.info? 4).map (·.size)=some 1:=oK
theorem bM (v n:Nat):(bh v n).length=n:=tL v n n
theorem CK (v n:Nat) (w:World) (g:v<=1000000000000) (hn:n<=62):
 Calls Tryz.prog 59 #[.slice none 0 0,.int .i64 v,.int .i64 n] w (RT vB false w (bh v n,0)):=by
 obtain⟨i,j,k,l,m⟩:=info_parts gU;have t:∀a:World,(Builtin.copy_ #[26,26] 3 #[.slice (some ⟨w.heap.size,0,none⟩) 0 n,.slice none 0 0]).run Tryz.prog a= .ok (goInt 0) a:=λa=>run_copy_none a _ _ _ 4 _ _ _ _ _ _ Tryz.underlying26 G7 oS;go_enter Tryz.func59,Tryz.ntmps59
 go_wp2_with(first
  |(at_make;refine wpList_make_own _ rfl _ _ _ rfl w.heap.size 4 i _ 1 Tryz.underlying26 j k l .i64 .i64 _ n rfl rfl (by first|rfl|omega) (by rw[m];omega) oM (Nat.le_refl _) ?_;intro a f hg;have o:=Lib.hid f;have b:Hid (Below w.heap.size w a):=(Below.refl _ _).grown hg (Nat.le_refl _) (λq hq=>by cases hq);clear f hg)
  |(go_at_call 108;refine(ni w.heap.size [] _ v n _ g hn oS b.out.size o.out).mono ?_;rintro e s ⟨u2,rfl,c,d⟩;have p:=Lib.hid c;have r:=Lib.hid d;clear c d))
 go_ret2
 exact RT.mk rfl (by have h:=p.out;rw[List.nil_append]at h;exact SG.bK h) (b.out.trans r.out)
def numF (b:List Bool) (at_:Nat):Nat->Nat
 |0=>0
 |k+1=>2* numF b at_ k+(if b.getD (at_+k) false then 1 else 0)
theorem mo (b:List Bool) (k j:Nat):numF b k j<2^j:=by
 induction j with
 |zero=>simp[numF]
 |succ j a=>
  have:(if b.getD (k+j) false then 1 else 0)<=1:=by split<;>omega
  show 2* numF b k j+(if b.getD (k+j) false then 1 else 0)<2^(j+1);rw[Nat.pow_succ];omega
theorem Mb (x:Nat) (a:x<=2199023255552):bits BinOp.or IntKind.i64 ((x:Int)* 2) 1=((2* x+1:Nat):Int):=by
 have e:((x:Int)* 2)=((2* x:Nat):Int):=oO;have e2:2* x|||1=2* x+1:=by
  have:=Nat.two_pow_add_eq_or_of_lt (i:=1) (b:=1) oD x;simpa using this.symm
 rw[e];show IntKind.i64.wrap ((BitVec.ofInt 64 ((2* x:Nat):Int)|||BitVec.ofInt 64 ((1:Nat):Int)).toNat:Int)=_;rw[BitVec.toNat_or,lf _ oO,lf 1 oD,e2,IntKind.wrap_i64];omega
theorem wk (A:Option Addr) (n c:Nat) (b:List Bool) (w:World) (hn:n<=40) (hb:SR vB false w A n c b):
 Calls Tryz.prog 109 #[.slice A n c] w λe w'=>e= .returned (.int .i64 ((numF b 0 n:Nat):Int))/\w'=w:=by
 have o:=Lib.hid hb;have i:Hid (n=b.length):=hb.hn;clear hb;go_enter Tryz.func109,Tryz.ntmps109;go_wp2;go_loop [3,8] (λp f=>∃k x:Nat,k<=n/\f= .int .i64 k/\p= .int .i64 x/\x<=2199023255552/\Hid (x=numF b 0 k)) (λ_ f=>n-(intOf f).toNat)
 case atStart=>exact⟨0,0,Nat.zero_le _,rfl,rfl,by omega,rfl⟩
 case round=>
  obtain⟨k,x,u,rfl,rfl,q,j⟩:=hrel;by_cases t:k<n
  ·obtain⟨v,rfl,C,m⟩:=o.out.rd (by rw[<-i.out];omega);have B:=m k (by rw[<-i.out];exact t);clear m;have l:Hid (∀y,b.getD k false=y->numF b 0 (k+1)=2* x+(if y then 1 else 0)):=by
    show∀y,_;rintro y rfl;rw[j.out];show 2* _+(if b.getD (0+k) false then 1 else 0)=_;rw[Nat.zero_add]
   generalize b.getD k false=y at*;cases y with
   |true=>
    have z:=Mb x q;have a:=Lib.hid (l.out true rfl);have g:2* x+1<=2199023255552:=by
     have d:=mo b 0 (k+1);rw[a.out]at d;have r:2^(k+1)<=2^40:=Nat.pow_le_pow_right oO oO;have s:(2:Nat)^40=1099511627776:=by decide
     simp only[if_true]at d;omega
    go_wp2;exact⟨⟨k+1,2* x+1,by omega,by go_num,rfl,g,a.out.symm⟩,by simp[intOf];omega⟩
   |false=>
    have a:=Lib.hid (l.out false rfl);have g:2* x<=2199023255552:=by
     have d:=mo b 0 (k+1);rw[a.out]at d;have r:2^(k+1)<=2^40:=Nat.pow_le_pow_right oO oO;have s:(2:Nat)^40=1099511627776:=by decide
     omega
    go_wp2;exact⟨⟨k+1,2* x,by omega,by go_num,by go_num,g,a.out.symm⟩,by simp[intOf];omega⟩
  ·obtain rfl:k=n:=oO;go_wp2;go_ret;exact⟨by rw[<-j.out];rfl,rfl⟩
theorem RG.drop {α:Type} {f:α->Value} {d:α} {w:World} {a:Addr} {l:List α} (h:RG f d w (some a) l) (k:Nat):RG f d w (some (a.add k)) (l.drop k):=λhn=>by
 rw[List.length_drop]at hn;obtain⟨i,e,b,c⟩:=h oO;injection e with e;subst e;refine⟨_,rfl,by rw[aI];exact b,λj g=>?_⟩;rw[List.length_drop]at g;rw[Ek,c (k+j) oO];simp[List.getD]
theorem RG.take {α:Type} {f:α->Value} {d:α} {w:World} {A:Option Addr} {l:List α} (h:RG f d w A l) (k:Nat):RG f d w A (l.take k):=λhn=>by
 rw[List.length_take]at hn;obtain⟨a,e,b,c⟩:=h oO;refine⟨a,e,b,λj g=>?_⟩;rw[List.length_take]at g;rw[c j oO];simp only[List.getD];rw[List.getElem?_take_of_lt oO]
theorem FL (b:List Bool) (k n:Nat):∀j,numF (b.drop k) n j=numF b (k+n) j:=by
 intro j
 induction j with
 |zero=>rfl
 |succ j a=>
  show 2* numF (b.drop k) n j+(if(b.drop k).getD (n+j) false then 1 else 0)=2* numF b (k+n) j+(if b.getD (k+n+j) false then 1 else 0);rw[a];congr 2;simp[List.getD,Nat.add_assoc]
theorem F1 (b:List Bool) (k m:Nat):∀j,k+j<=m->numF (b.take m) k j=numF b k j:=by
 intro j
 induction j with
 |zero=>intro _;rfl
 |succ j a=>
  intro h;show 2* numF (b.take m) k j+(if(b.take m).getD (k+j) false then 1 else 0)=2* numF b k j+(if b.getD (k+j) false then 1 else 0);rw[a oO];congr 2;simp only[List.getD];rw[List.getElem?_take_of_lt oO]
def pI (s w:Nat):List Bool:=if w/2=0\/w/2=(2^s-1)/2 then bh (w/2) (s-1)else bh w s
def Gp (s:Nat) (a:List Int):Nat->List Bool
 |0=>[]
 |k+1=>Gp s a k++pI s (a.getD k 0).toNat
def L4 (s:Nat) (a:List Int):Bool:=a.all λw=>decide (0<=w)&&decide (w<=((2^s-1:Nat):Int))
def okW (s:Nat) (a:List Int):Bool:=a.all λw=>!(w==0)&&!(w==((2^s-1:Nat):Int))
def vE (a:List Int) (size:Int):List Bool×Int:=
 if size<2\/12<size then([],3)
 else if L4 size.toNat a=false then([],3)
 else if 1048576/size<a.length then([],4)
 else if okW size.toNat a=false then([],22)
 else(Gp size.toNat a a.length,0)
theorem all_false {α:Type} {p:α->Bool} {d:α} {l:List α} {k:Nat} (a:k<l.length) (h:p (l.getD k d)=false):l.all p=false:=by
 rw[List.all_eq_false];refine⟨l[k],List.getElem_mem a,?_⟩;have e:l.getD k d=l[k]:=by simp[List.getD,a]
 rw[e]at h;rw[h];simp
theorem all_true {α:Type} {p:α->Bool} {d:α} {l:List α} (h:∀j,j<l.length->p (l.getD j d)=true):l.all p=true:=by
 rw[List.all_eq_true];intro x b;obtain⟨j,a,rfl⟩:=List.getElem_of_mem b;have:=h j a;simpa[List.getD,a]using this
section
variable {P : Program}
def aggD (d:TypeDesc):Bool:=match d with|.struct _|.array _ _=>true|_=>false
theorem uX (w:World) (t:TypeId) (d:TypeDesc) (a:P.underlying t=some d) (b:aggD d=true):(isAgg t).run P w= .ok true w:=by
 unfold isAgg;rw[Sem.run_bind,run_underlying a];cases d<;>simp_all[aggD,Result.andThen]
theorem iR (w:World) (t:TypeId) (d:TypeDesc) (a:Addr) (b:List Value) (e:P.underlying t=some d) (f:aggD d=true) (c:(P.info? t).map (·.size)=some b.length)
 (h:∀j v,b[j]?=some v->w.cell? (a.add j)=some v):(loadVar t a).run P w= .ok (.agg b.toArray) w:=by
 have hl:=run_loadCells_list (P:=P) w a b h;cases hq:P.info? t with
 |none=>simp[hq]at c
 |some i=>
  have hs:i.size=b.length:=by simp[hq]at c;exact c
  unfold loadVar;rw[Sem.run_bind,uX w t d e f];simp[Result.andThen,sizeOf,typeInfo,hq,hs,hl]
theorem kn (w:World) (t d:TypeId) (g b:Nat) (c:Array Value) (a:List Value) (hg:w.heap[g]?=some (.cells c t (0,0))) (e:(P.info? d).map (·.size)=some a.length)
 (k:b+a.length<=c.size) (j:∀v∈a,v.oneCell'=true):
 (storeVar d ⟨g,b,none⟩ (.agg a.toArray)).run P w= .ok () (w.setRow g (splice c.toList b a).toArray):=by
 have f:=run_storeCells_at (P:=P) g b t a 0 c w hg (by simpa using k) j;cases hq:P.info? d with
 |none=>simp[hq]at e
 |some i=>
  have hs:i.size=a.length:=by simp[hq]at e;exact e
  unfold splice;simp only[Nat.add_zero,List.append_assoc]at f;simp[storeVar,sizeOf,typeInfo,hq,Value.cells,hs,f]
theorem bD {w:World} {f:Array Oper} {g:List Oper} {b:Oper} {a:Act} {Q:Exit->Act->World->Prop} (r:b.guard=none) (t:TypeId) (p:Operand) (i:b.op= .load t p)
 (d:TypeDesc) (k:P.underlying t=some d) (l:aggD d=true) (e:Addr) (c:List Value) (m:(P.info? t).map (·.size)=some c.length) (n:a.eval p= .pointer (some e))
 (h:∀j v,c[j]?=some v->w.cell? (e.add j)=some v) (o:wpList P f Q g (a.put b.dst (.agg c.toArray)) w):wpList P f Q (b::g) a w:=by
 refine wpList_plain r λK q=>?_;have s:=iR (P:=P) w t d e c k l m h;unfold Oper.wp execOp;simp only[i,n,Instr.loadAt,Instr.sureAddr,Sem.run_bind,Sem.run_pure,Result.andThen_ok,s];exact q _ _ o
theorem cB {w:World} {i:Array Oper} {j:List Oper} {c:Oper} {a:Act} {Q:Exit->Act->World->Prop} (s:c.guard=none) (e:TypeId) (p x:Operand) (k:c.op= .store e p x)
 (t:TypeId) (g f:Nat) (d:Array Value) (b:List Value) (l:a.eval p= .pointer (some ⟨g,f,none⟩)) (m:a.eval x= .agg b.toArray) (hg:w.heap[g]?=some (.cells d t (0,0))) (n:(P.info? e).map (·.size)=some b.length)
 (u:f+b.length<=d.size) (o:∀v∈b,v.oneCell'=true)
 (q:wpList P i Q j (a.put c.dst undef) (w.setRow g (splice d.toList f b).toArray)):wpList P i Q (c::j) a w:=by
 refine wpList_plain s λK r=>?_;have y:=kn (P:=P) w t e g f d b hg n u o;unfold Oper.wp execOp;simp only[k,l,m,Instr.storeAt,Instr.sureAddr,Sem.run_bind,Sem.run_pure,Result.andThen_ok,y];exact r _ _ q
theorem Ah (w:World) (t:TypeId) (d:TypeDesc) (c:Array Value) (a n:Nat) (e:P.underlying t=some d) (f:aggD d=true) (b:(P.info? t).map (·.size)=some n):
 (part t c a).run P w= .ok (.agg (c.extract a (a+n))) w:=by
 cases hq:P.info? t with
 |none=>simp[hq]at b
 |some i=>
  have hs:i.size=n:=by simp[hq]at b;exact b
  unfold part;rw[Sem.run_bind,uX w t d e f];simp[Result.andThen,sizeOf,typeInfo,hq,hs]
theorem dV {w:World} {l:Array Oper} {m:List Oper} {b:Oper} {a:Act} {Q:Exit->Act->World->Prop} (A:b.guard=none) (t:TypeId) (x i:Operand) (o:b.op= .index t x i)
 (len:Nat) (e:TypeId) (p:P.underlying t=some (.array len e)) (d:TypeDesc) (B:P.underlying e=some d) (r:aggD d=true) (n:Nat) (c:(P.info? e).map (·.size)=some n)
 (f:Array Value) (k:IntKind) (I:Int) (j:Nat) (s:a.eval x= .agg f) (u:a.eval i= .int k I) (v:I=(j:Int)) (F:j<len) (g:Array Value) (C:f.extract (j* n) (j* n+n)=g)
 (y:wpList P l Q m (a.put b.dst (.agg g)) w):wpList P l Q (b::m) a w:=by
 refine wpList_plain A λK z=>?_;subst v C;have E:=Ah (P:=P) w e d f (j* n) n B r c;have D:(sizeOf e).run P w= .ok n w:=by
  cases hq:P.info? e with
  |none=>simp[hq]at c
  |some q=>simp[hq]at c;simp[sizeOf,typeInfo,hq,c]
 have hc:(0:Int)<=(j:Int)/\(j:Int)<(len:Int):=oO;unfold Oper.wp execOp;simp only[o,s,u,Instr.index,asIntOf,Sem.run_bind,Sem.run_pure,Result.andThen_ok,run_underlying p,if_pos hc,D,Int.toNat_natCast,E];exact z _ _ y
theorem aX {w:World} {e:Array Oper} {f:List Oper} {b:Oper} {a:Act} {Q:Exit->Act->World->Prop} (l:b.guard=none) (t:TypeId) (g:b.op= .alloc t)
 (c:Array Value) (d:(P.info? t).map (·.zero)=some (some (.agg c)))
 (j:wpList P e Q f (a.put b.dst (.pointer (some ⟨w.heap.size,0,none⟩))) (w.alloc (.cells c t))):wpList P e Q (b::f) a w:=by
 refine wpList_plain l λK k=>?_;cases hq:P.info? t with
 |none=>simp[hq]at d
 |some i=>
  have m:i.zero=some (.agg c):=by simpa[hq]using d
  unfold Oper.wp execOp;simp only[g];have n:(Instr.alloc t true (.tuple #[])).run P w= .ok (.pointer (some ⟨w.heap.size,0,none⟩)) (w.alloc (.cells c t)):=by
   simp[Instr.alloc,zeroValue,typeInfo,hq,m,newVar,newRow,Value.cells]
  simp only[Sem.run_bind,Sem.run_pure,Result.andThen_ok,n];exact k _ _ j
theorem iH {w:World} {g:Array Oper} {l:List Oper} {b:Oper} {a:Act} {Q:Exit->Act->World->Prop} (z:b.guard=none) (t:TypeId) (x i:Operand) (m:b.op= .index t x i)
 (len:Nat) (e:TypeId) (n:P.underlying t=some (.array len e)) (d:TypeDesc) (A:P.underlying e=some d) (E:aggD d=false) (c:(P.info? e).map (·.size)=some 1)
 (f:Array Value) (k:IntKind) (I:Int) (j:Nat) (o:a.eval x= .agg f) (p:a.eval i= .int k I) (r:I=(j:Int)) (F:j<len) (v:Value) (s:f[j]?=some v)
 (u:wpList P g Q l (a.put b.dst v) w):wpList P g Q (b::l) a w:=by
 refine wpList_plain z λK y=>?_;subst r;have B:(isAgg e).run P w= .ok false w:=by
  unfold isAgg;rw[Sem.run_bind,run_underlying A];cases d<;>simp_all[aggD,Result.andThen]
 have C:(sizeOf e).run P w= .ok 1 w:=by
  cases hq:P.info? e with
  |none=>simp[hq]at c
  |some q=>simp[hq]at c;simp[sizeOf,typeInfo,hq,c]
 have D:(part e f (j* 1)).run P w= .ok v w:=by
  unfold part;rw[Sem.run_bind,B];simp[Result.andThen,s]
 have hc:(0:Int)<=(j:Int)/\(j:Int)<(len:Int):=oO;unfold Oper.wp execOp;simp only[m,o,p,Instr.index,asIntOf,Sem.run_bind,Sem.run_pure,Result.andThen_ok,run_underlying n,if_pos hc,C,Int.toNat_natCast,D];exact y _ _ u
end
def ae (w:World) (g:Nat) (a:Array Value) (t:TypeId):Prop:=w.heap[g]?=some (.cells a t (0,0))
theorem ae.below {W a:World} {g:Nat} {b:Array Value} {t:TypeId} (h:ae W g b t) (hb:Below W.heap.size W a):ae a g b t:=(hb.block _ (ar h)).trans h
theorem ae.cell {w:World} {g:Nat} {a:Array Value} {t:TypeId} (h:ae w g a t) (j:Nat) (v:Value) (b:a[j]?=some v):w.cell? ⟨g,j,none⟩=some v:=by
 rw[cell_of_row _ _ j a t (0,0) h];exact b
theorem ae.set {w:World} {g:Nat} {b:Array Value} {t:TypeId} (h:ae w g b t) (a:Array Value):ae (w.setRow g a) g a t:=setRow_heap w g b a t (0,0) h
theorem ae.other {w:World} {g a:Nat} {c:Array Value} {t:TypeId} (h:ae w g c t) (b:Array Value) (d:g≠a):ae (w.setRow a b) g c t:=(setRow_other w a g b d).trans h
theorem pR {α:Type} {f:α->Value} (a:World) (xs:List α) (e:TypeId) (n:Nat) (hn:n=xs.length) (b:n<=maxLen):(a.alloc (.cells (xs.map f).toArray e)).ownsRow a.heap.size e 1 (.slice (some ⟨a.heap.size,0,none⟩) n n) n (xs.map f):=by
 refine⟨by simp[hn],.inr ⟨a.heap.size,n,(xs.map f).toArray,rfl,Nat.le_refl _,heap_alloc_new a _,Nat.le_refl _,b,by simp[hn],by show List.take (n* 1) (xs.map f)=_;exact List.take_of_length_le (by simp[hn])⟩⟩
theorem mE (s:ByteArray) (w:World) (hs:s.size<=1000) (a:s.data.toList.all (λb=>decide (b.toNat<128))=true):
 Calls Tryz.prog 178 #[.string s,.string ByteArray.empty] w λe w'=>∃A c,e= .returned (.slice A s.size c)/\SR Value.string ByteArray.empty w' A s.size c (Lib.charsB s)/\Below w.heap.size w w':=by
 have hl:s.size=(Lib.charsB s).length:=(Lib.charsUpTo_length s s.size).symm;refine(Tryz.strings_Split_chars s ByteArray.empty w rfl oO (λj b hb=>?_)).mono ?_
 ·rw[List.all_eq_true]at a;exact of_decide_eq_true (a b (List.mem_of_getElem? hb))
 ·rintro e w' ⟨rfl,rfl⟩;exact⟨_,_,rfl,SR.lit (w.iter s s.size) (Lib.charsB s) 9 _ _ rfl hl oM,(ax w _).trans ((ax _ _).mono (by show _<=(w.heap.push _).size;simp))⟩
abbrev FA:ByteArray:=⟨#[65,66,67,68,69,70,71,72,73,74,75,76,77,78,79,80,81,82,83,84,85,86,87,88,89,90]⟩
abbrev F3:ByteArray:=⟨#[97,98,99,100,101,102,103,104,105,106,107,108,109,110,111,112,113,114,115,116,117,118,119,120,121,122]⟩
abbrev Ho:ByteArray:=⟨#[1,2,3,4,5,6,7,8,9,10,11,12,13,27,28,29,30,31,64,92,94,95,96,124,126,127]⟩
abbrev E9:ByteArray:=⟨#[33,34,35,36,37,38,39,40,41,42,43,44,45,46,47,58,59,60,61,62,63,91,93,123,125]⟩
abbrev CT:ByteArray:=⟨#[48,49,50,51,52,53,54,55,56,57,44,46]⟩
abbrev mK:ByteArray:=⟨#[32]⟩
abbrev J1:List ByteArray:=[⟨#[13]⟩,⟨#[13,10]⟩,⟨#[46,32]⟩,⟨#[44,32]⟩,⟨#[58,32]⟩]
def texts:Nat->List ByteArray
 |0=>[mK]++Lib.charsB FA
 |1=>[mK]++Lib.charsB F3
 |2=>[mK]++Lib.charsB Ho
 |3=>J1++Lib.charsB E9
 |_=>[mK]++Lib.charsB CT
abbrev mc (kind a:Int) (text:ByteArray):List Value:=[.int .i64 kind,.int .i64 a,.string text]
def cC:Array Value:=(List.replicate 160 (mc 0 0 ByteArray.empty)).flatten.toArray
theorem AP:(Tryz.prog.info? 170).map (·.zero)=some (some (.agg cC)):=oK
def gI (a:Array Value) (i:Nat) (c:List Value):Array Value:=(splice a.toList (3* i) c).toArray
theorem Hp (a:Array Value) (i:Nat) (c:List Value) (h:3* i+c.length<=a.size):(gI a i c).size=a.size:=by
 unfold gI;rw[List.size_toArray,length_splice _ _ _ (by simpa using h)];simp
def tY (a:Array Value) (l:List ByteArray) (base:Nat):Nat->Array Value
 |0=>a
 |j+1=>gI (tY a l base j) (base+j+1) (mc 1 0 (l.getD j ByteArray.empty))
def qT:Nat->Array Value
 |0=>cC
 |k+1=>tY (qT k) (texts k) (32* k) (texts k).length
theorem nR:cC.size=480:=oK
theorem E7:∀k,(texts k).length<=31
 |0=>by decide
 |1=>by decide
 |2=>by decide
 |3=>by decide
 |_+4=>by show([mK]++Lib.charsB CT).length<=31;decide
theorem Cv (w:World) (g:Nat) (c:Array Value) (a:Addr) (h:a.block≠g):(w.setRow g c).cell? a=w.cell? a:=by
 unfold World.cell?;rw[setRow_other w g a.block c h]
theorem fZ (k m:Int) (t:ByteArray):∀v∈mc k m t,v.oneCell'=true:=by
 intro v a;simp only[List.mem_cons,List.not_mem_nil,or_false]at a;rcases a with rfl|rfl|rfl<;>rfl
theorem EF {α:Type} (l:List α) (i:Nat) (c:List α) (v:α) (h:v∈splice l i c):v∈l\/v∈c:=by
 unfold splice at h;simp only[List.mem_append]at h;rcases h with h|h|h
 ·exact .inl (List.mem_of_mem_take h)
 ·exact .inr h
 ·exact .inl (List.mem_of_mem_drop h)
structure TS (w wr:World) (cs a:Array Value):Prop where
 B:Below w.heap.size w wr
 R0:ae wr w.heap.size cC 170
 R1:ae wr (w.heap.size+1) a 170
 X:∀k,k<5->∃A n c,cs[k]?=some (.slice A n c)/\SR Value.string ByteArray.empty wr A n c (texts k)/\∀b,A=some b->w.heap.size+2<=b.block
 Z:a.size=480
 O:∀v∈a.toList,v.oneCell'=true
theorem TS.fit {w wr:World} {b a:Array Value} (h:TS w wr b a) {f:Nat} {ce:List Value} (c:ce.length=3) (d:f+3<=480):f+ce.length<=a.size:=by rw[c,h.Z];exact d
theorem TS.put {w wr:World} {d b:Array Value} (h:TS w wr d b) (f i:Nat) (ce:List Value) (p:f=3* i) (x:i<160) (g:ce.length=3) (a:∀v∈ce,v.oneCell'=true):
 TS w (wr.setRow (w.heap.size+1) (splice b.toList f ce).toArray) d (gI b i ce):=by
 subst p;show TS w (wr.setRow (w.heap.size+1) (gI b i ce)) d (gI b i ce);refine⟨below_setRow h.B oO _,h.R0.other _ oO,h.R1.set _,λk q=>?_,?_,λv r=>?_⟩
 ·obtain⟨A,n,c,g,a,m⟩:=h.X k q;refine⟨A,n,c,g,⟨a.hn,a.hc,a.hm,λhn=>?_⟩,m⟩;obtain⟨o,e,s,t⟩:=a.rd hn;have y:=m o e;refine⟨o,e,by rw[size_setRow];exact s,λj u=>?_⟩;rw[Cv _ _ _ _ (by rw[aI];omega)];exact t j u
 ·rw[Hp _ _ _ (by rw[g,h.Z];omega),h.Z]
 ·rcases EF _ _ _ _ (by simpa[gI]using r)with l|l
  ·exact h.O v l
  ·exact a v l
theorem TS.MJ {w wr:World} {b a:Array Value} (h:TS w wr b a) (f:Nat) (ce:List Value) (e:f%3=0) (g:f<480) (c:ce.length=3) (d:∀v∈ce,v.oneCell'=true):
 TS w (wr.setRow (w.heap.size+1) (splice a.toList f ce).toArray) b (gI a (f/3) ce):=h.put f _ ce oO oO c d
theorem CD:∀v∈cC.toList,v.oneCell'=true:=by
 intro v a;simp only[cC,List.mem_flatten]at a;obtain⟨l,hl,a⟩:=a;rw[List.eq_of_mem_replicate hl]at a;exact fZ _ _ _ v a
def shN:Nat->Nat
 |0=>0
 |1=>1
 |2=>2
 |_=>4
theorem FF (k:Nat):shN k<5:=by unfold shN;split<;>omega
def ui:Nat->Array Value
 |0=>qT 5
 |k+1=>gI (ui k) (32* shN k) (mc 3 3 ByteArray.empty)
def rV:Nat->Array Value
 |0=>ui 4
 |k+1=>gI (rV k) (32* k+31) (mc 4 0 ByteArray.empty)
def gX:Array Value:=gI (gI (gI (gI (gI (gI (gI (gI (gI (gI (gI (gI (rV 3) (84/3) (mc 2 1 ByteArray.empty)) (87/3) (mc 2 2 ByteArray.empty)) (90/3) (mc 2 4 ByteArray.empty)) (180/3) (mc 3 0 ByteArray.empty)) (183/3) (mc 2 2 ByteArray.empty)) (186/3) (mc 2 4 ByteArray.empty)) (276/3) (mc 2 1 ByteArray.empty)) (279/3) (mc 2 0 ByteArray.empty)) (282/3) (mc 2 3 ByteArray.empty)) (381/3) (mc 2 0 ByteArray.empty)) (426/3) (mc 2 0 ByteArray.empty)) (429/3) (mc 3 0 ByteArray.empty)
theorem JR:(Tryz.prog.info? 3).map (·.size)=some 1:=oK
theorem y9:(Tryz.prog.info? 170).map (·.size)=some 480:=oK
theorem LZ:(Tryz.prog.info? 170).map (·.size)=some gX.size:=oK
theorem TS.fin {w wr:World} {b a:Array Value} (h:TS w wr b a):0+a.toList.length<=cC.size:=by rw[nR,Array.length_toList,h.Z];omega
theorem TS.y9 {w wr:World} {b a:Array Value} (h:TS w wr b a):(Tryz.prog.info? 170).map (·.size)=some a.toList.length:=by rw[Array.length_toList,h.Z];exact _root_.Go.Proofs.YtmnlkganmgcpbaaGreatDoor.y9
theorem TS.last {w wr:World} {b a:Array Value} (h:TS w wr b a):ae (wr.setRow w.heap.size (splice cC.toList 0 a.toList).toArray) w.heap.size a 170/\Below w.heap.size w (wr.setRow w.heap.size (splice cC.toList 0 a.toList).toArray):=by
 have e:(splice cC.toList 0 a.toList).toArray=a:=by
  unfold splice;rw[List.take_zero,List.nil_append,List.drop_eq_nil_of_le (by simp[h.Z,nR]),List.append_nil]
 rw[e];exact⟨h.R0.set _,below_setRow h.B (Nat.le_refl _) _⟩
theorem eB:(Tryz.prog.info? 168).map (·.size)=some 3:=oK
theorem Kp:(Tryz.prog.info? 214).map (·.size)=some 1:=oK
theorem D5 {j:Array Oper} {k:List Oper} {b:Oper} {a:Act} {Q:Exit->Act->World->Prop} {w wr:World} {e d:Array Value} (h:TS w wr e d) (s:b.guard=none) (p x:Operand) (l:b.op= .store 168 p x)
 (f:Nat) (ce:List Value) (m:a.eval p= .pointer (some ⟨w.heap.size+1,f,none⟩)) (n:a.eval x= .agg ce.toArray) (c:ce.length=3) (g:∀v∈ce,v.oneCell'=true) (o:f%3=0) (q:f<480)
 (r:∀i,Hid (TS w i e (gI d (f/3) ce))->wpList Tryz.prog j Q k (a.put b.dst undef) i):wpList Tryz.prog j Q (b::k) a wr:=
 cB s 168 p x l 170 (w.heap.size+1) f d ce m n h.R1 (by rw[c];exact eB) (h.fit c oO) g (r _ (h.MJ f ce o q c g))
theorem AQ {e:Array Oper} {f:List Oper} {b:Oper} {a:Act} {Q:Exit->Act->World->Prop} {w wr:World} {g c:Array Value} (h:TS w wr g c) (l:b.guard=none) (p:Operand) (i:b.op= .load 170 p)
 (j:a.eval p= .pointer (some ⟨w.heap.size+1,0,none⟩))
 (k:∀d,Hid (d=c)->wpList Tryz.prog e Q f (a.put b.dst (.agg d)) wr):wpList Tryz.prog e Q (b::f) a wr:=
 wpList_load_row l 170 p i (w.heap.size+1) j 170 c (0,0) _ h.R1 Tryz.underlying170 rfl (by rw[h.Z];exact y9) (k _ rfl)
theorem yK {e:Array Oper} {g:List Oper} {b:Oper} {a:Act} {Q:Exit->Act->World->Prop} {w wr:World} {i f c:Array Value} (h:TS w wr i f) (hc:c=f) (n:b.guard=none) (p x:Operand) (j:b.op= .store 170 p x)
 (k:a.eval p= .pointer (some ⟨w.heap.size,0,none⟩)) (l:a.eval x= .agg c)
 (m:∀d,Hid (ae d w.heap.size c 170/\Below w.heap.size w d)->wpList Tryz.prog e Q g (a.put b.dst undef) d):wpList Tryz.prog e Q (b::g) a wr:=by
 subst hc;exact cB n 170 p x j 170 w.heap.size 0 cC c.toList k l h.R0 h.y9 h.fin h.O (m _ h.last)
theorem mG (w:World):
 Calls Tryz.prog 129 #[] w λe w'=>e= .returned (.agg gX)/\Below w.heap.size w w':=by
 obtain⟨V,X,Z,ab,ac⟩:=info_parts Kt;go_enter Tryz.func129,Tryz.ntmps129;go_wp2_with(refine aX rfl 170 rfl cC AP ?_)
 have ca:Hid (ae ((w.alloc (.cells cC 170)).alloc (.cells cC 170)) w.heap.size cC 170):=ae.below (W:=w.alloc (.cells cC 170)) (heap_alloc_new _ _) (ax _ _);have cb:Hid (ae ((w.alloc (.cells cC 170)).alloc (.cells cC 170)) (w.heap.size+1) cC 170):=by
  have h:=heap_alloc_new (w.alloc (.cells cC 170)) (.cells cC 170);rw[show(w.alloc (.cells cC 170)).heap.size=w.heap.size+1 from by simp]at h;exact h
 have cg:Hid (Below w.heap.size w ((w.alloc (.cells cC 170)).alloc (.cells cC 170))):=ah (ax _ _) _;have a2:((w.alloc (.cells cC 170)).alloc (.cells cC 170)).heap.size=w.heap.size+1+1:=by simp
 generalize(w.alloc (.cells cC 170)).alloc (.cells cC 170)=o at*;rw[<-a2];have ch:=Lib.hid a2;clear a2;refine(mE FA _ oD oD).mono ?_;rintro e b2 ⟨dy,c0,rfl,hs,hb⟩;have a5:=Lib.hid hs;have a6:Hid (b2.ownsRow o.heap.size 9 1 (.slice (some ⟨o.heap.size,0,none⟩) 1 1) 1 ([mK].map Value.string)):=ao (pR o [mK] 9 1 rfl oM) hb;have al:Hid (af o b2):=aa (ax _ _) hb;clear hs hb;go_wp2_with(at_builtin;refine bg (f:=Value.string) (d:=ByteArray.empty) AE rfl _ _ _ rfl o.heap.size 9 V _ 16 Tryz.underlying214 X Z ab ac rfl _ 1 [mK] rfl a6.out dy _ c0 (Lib.charsB FA) rfl a5.out.hn a5.out.rd (by have:FA.size=26:=rfl;unfold maxLen;omega) (by have:FA.size=26:=rfl;omega) al.out.size ?_;intro v0 i g hg;have b:Hid (Below o.heap.size o i):=al.out.grown hg al.out.size (λq hq=>(a6.out.lt q hq).1);obtain⟨F,L,M,rfl,B⟩:=(SG.bK (f:=Value.string) (d:=ByteArray.empty) g).parts;have ci:Hid (SR Value.string ByteArray.empty i F L M (texts 0)):=B;have ck:Hid (∀a,F=some a->o.heap.size<=a.block):=(λa e=>(g.lt a.block (by rw[e];rfl)).1);clear B;have a7:Hid (af o i):=b.out;clear b al a6 a5;clear g hg)
 refine(mE F3 _ oD oD).mono ?_;rintro e b3 ⟨d0,c1,rfl,hs,hb⟩;have a8:=Lib.hid hs;have a9:Hid (b3.ownsRow i.heap.size 9 1 (.slice (some ⟨i.heap.size,0,none⟩) 1 1) 1 ([mK].map Value.string)):=ao (pR i [mK] 9 1 rfl oM) hb;have am:Hid (af i b3):=aa (ax _ _) hb;clear hs hb;go_wp2_with(at_builtin;refine bg (f:=Value.string) (d:=ByteArray.empty) AE rfl _ _ _ rfl i.heap.size 9 V _ 16 Tryz.underlying214 X Z ab ac rfl _ 1 [mK] rfl a9.out d0 _ c1 (Lib.charsB F3) rfl a8.out.hn a8.out.rd (by have:F3.size=26:=rfl;unfold maxLen;omega) (by have:F3.size=26:=rfl;omega) am.out.size ?_;intro v1 p g hg;have b:Hid (Below i.heap.size i p):=am.out.grown hg am.out.size (λq hq=>(a9.out.lt q hq).1);obtain⟨G,n1,N,rfl,B⟩:=(SG.bK (f:=Value.string) (d:=ByteArray.empty) g).parts;have co:Hid (SR Value.string ByteArray.empty p G n1 N (texts 1)):=B;have cp:Hid (∀a,G=some a->i.heap.size<=a.block):=(λa e=>(g.lt a.block (by rw[e];rfl)).1);clear B;have bb:Hid (af o p):=aa a7.out b.out;have c5:=b;clear b am a9 a8;clear g hg)
 refine(mE Ho _ oD oD).mono ?_;rintro e b4 ⟨d1,d2,rfl,hs,hb⟩;have bd:=Lib.hid hs;have be:Hid (b4.ownsRow p.heap.size 9 1 (.slice (some ⟨p.heap.size,0,none⟩) 1 1) 1 ([mK].map Value.string)):=ao (pR p [mK] 9 1 rfl oM) hb;have ap:Hid (af p b4):=aa (ax _ _) hb;clear hs hb;go_wp2_with(at_builtin;refine bg (f:=Value.string) (d:=ByteArray.empty) AE rfl _ _ _ rfl p.heap.size 9 V _ 16 Tryz.underlying214 X Z ab ac rfl _ 1 [mK] rfl be.out d1 _ d2 (Lib.charsB Ho) rfl bd.out.hn bd.out.rd (by have:Ho.size=26:=rfl;unfold maxLen;omega) (by have:Ho.size=26:=rfl;omega) ap.out.size ?_;intro er r g hg;have b:Hid (Below p.heap.size p r):=ap.out.grown hg ap.out.size (λq hq=>(be.out.lt q hq).1);obtain⟨H,n2,O,rfl,B⟩:=(SG.bK (f:=Value.string) (d:=ByteArray.empty) g).parts;have cq:Hid (SR Value.string ByteArray.empty r H n2 O (texts 2)):=B;have cr:Hid (∀a,H=some a->p.heap.size<=a.block):=(λa e=>(g.lt a.block (by rw[e];rfl)).1);clear B;have bf:Hid (af o r):=aa bb.out b.out;have c6:Hid (af i r):=aa c5.out b.out;have c7:=b;clear c5;clear b ap be bd;clear g hg)
 refine(mE E9 _ oD oD).mono ?_;rintro e b5 ⟨d3,d4,rfl,hs,hb⟩;have bi:=Lib.hid hs;have bo:Hid (b5.ownsRow r.heap.size 9 1 (.slice (some ⟨r.heap.size,0,none⟩) 5 5) 5 (J1.map Value.string)):=ao (pR r J1 9 5 rfl oM) hb;have av:Hid (af r b5):=aa (ax _ _) hb;clear hs hb;go_wp2_with(at_builtin;refine bg (f:=Value.string) (d:=ByteArray.empty) AE rfl _ _ _ rfl r.heap.size 9 V _ 16 Tryz.underlying214 X Z ab ac rfl _ 5 J1 rfl bo.out d3 _ d4 (Lib.charsB E9) rfl bi.out.hn bi.out.rd (by have:E9.size=25:=rfl;unfold maxLen;omega) (by have:E9.size=25:=rfl;omega) av.out.size ?_;intro es s g hg;have b:Hid (Below r.heap.size r s):=av.out.grown hg av.out.size (λq hq=>(bo.out.lt q hq).1);obtain⟨J,n3,P,rfl,B⟩:=(SG.bK (f:=Value.string) (d:=ByteArray.empty) g).parts;have cs:Hid (SR Value.string ByteArray.empty s J n3 P (texts 3)):=B;have cv:Hid (∀a,J=some a->r.heap.size<=a.block):=(λa e=>(g.lt a.block (by rw[e];rfl)).1);clear B;have bq:Hid (af o s):=aa bf.out b.out;have c8:Hid (af i s):=aa c6.out b.out;have c9:Hid (af p s):=aa c7.out b.out;have di:=b;clear c6 c7;clear b av bo bi;clear g hg)
 refine(mE CT _ oD oD).mono ?_;rintro e b6 ⟨d5,d6,rfl,hs,hb⟩;have bs:=Lib.hid hs;have bt:Hid (b6.ownsRow s.heap.size 9 1 (.slice (some ⟨s.heap.size,0,none⟩) 1 1) 1 ([mK].map Value.string)):=ao (pR s [mK] 9 1 rfl oM) hb;have a0:Hid (af s b6):=aa (ax _ _) hb;clear hs hb;go_wp2_with(at_builtin;refine bg (f:=Value.string) (d:=ByteArray.empty) AE rfl _ _ _ rfl s.heap.size 9 V _ 16 Tryz.underlying214 X Z ab ac rfl _ 1 [mK] rfl bt.out d5 _ d6 (Lib.charsB CT) rfl bs.out.hn bs.out.rd (by have:CT.size=12:=rfl;unfold maxLen;omega) (by have:CT.size=12:=rfl;omega) a0.out.size ?_;intro v4 D g hg;have b:Hid (Below s.heap.size s D):=a0.out.grown hg a0.out.size (λq hq=>(bt.out.lt q hq).1);obtain⟨K,n4,Q,rfl,B⟩:=(SG.bK (f:=Value.string) (d:=ByteArray.empty) g).parts;have cx:Hid (SR Value.string ByteArray.empty D K n4 Q (texts 4)):=B;have cy:Hid (∀a,K=some a->s.heap.size<=a.block):=(λa e=>(g.lt a.block (by rw[e];rfl)).1);clear B;have bv:Hid (af o D):=aa bq.out b.out;have dl:Hid (af i D):=aa c8.out b.out;have ds:Hid (af p D):=aa c9.out b.out;have dv:Hid (af r D):=aa di.out b.out;have dx:=b;clear c8 c9 di;clear b a0 bt bs;clear g hg)
 have c2:Hid (TS w (D.alloc (.cells #[.slice F L M,.slice G n1 N,.slice H n2 O,.slice J n3 P,.slice K n4 Q] 216)) #[.slice F L M,.slice G n1 N,.slice H n2 O,.slice J n3 P,.slice K n4 Q] (qT 0)):=by
  have z:=ch.out;have et:=a7.out.size;have ew:=bb.out.size;have ex:=bf.out.size;have ey:=bq.out.size;have ez:=bv.out.size;have b0:Below o.heap.size o (D.alloc (.cells #[.slice F L M,.slice G n1 N,.slice H n2 O,.slice J n3 P,.slice K n4 Q] 216)):=ah bv.out _;have d7:Below i.heap.size i D:=dl.out;have d8:Below p.heap.size p D:=ds.out;have d9:Below r.heap.size r D:=dv.out;have ea:Below s.heap.size s D:=dx.out;refine⟨aa cg.out b0,ca.out.below b0,cb.out.below b0,λk a3=>?_,nR,CD⟩;have u:k=0\/k=1\/k=2\/k=3\/k=4:=oO;rcases u with rfl|rfl|rfl|rfl|rfl
  ·exact⟨F,L,M,rfl,ci.out.below (ah d7 _),λa e=>by have:=ck.out a e;omega⟩
  ·exact⟨G,n1,N,rfl,co.out.below (ah d8 _),λa e=>by have:=cp.out a e;omega⟩
  ·exact⟨H,n2,O,rfl,cq.out.below (ah d9 _),λa e=>by have:=cr.out a e;omega⟩
  ·exact⟨J,n3,P,rfl,cs.out.below (ah ea _),λa e=>by have:=cv.out a e;omega⟩
  ·exact⟨K,n4,Q,rfl,cx.out.below (ax _ _),λa e=>by have:=cy.out a e;omega⟩
 clear ch ca cb cg a7 bb bf bq bv dl ds dv dx ci co cq cs cx ck cp cr cv cy;have fw:(#[Value.slice F L M,.slice G n1 N,.slice H n2 O,.slice J n3 P,.slice K n4 Q]:Array Value).size=5:=rfl;generalize(#[Value.slice F L M,.slice G n1 N,.slice H n2 O,.slice J n3 P,.slice K n4 Q]:Array Value)=C at*;go_loopw [28] (λt wr=>∃k:Nat,k<=5/\t= .int .i64 k/\Hid (TS w wr C (qT k))) (λt _=>5-(intOf t).toNat)
 case atStart=>exact⟨0,by omega,rfl,c2.out⟩
 case round=>
  obtain⟨k,a3,rfl,x⟩:=hrel;by_cases S:k<5
  ·obtain⟨A,n,c,b7,hs,_⟩:=x.out.X k S;have U:=Lib.hid b7;have e0:=Lib.hid hs;clear b7 hs;have fo:=E7 k;go_wp2_with(refine iH rfl 216 _ _ rfl 5 214 Tryz.underlying216 _ Tryz.underlying214 rfl Kp C .i64 k k rfl rfl rfl S _ U.out ?_)
   obtain⟨b8,rfl⟩:∃b8:World,b8=wr:=⟨_,rfl⟩;go_loopw [34] (λt wr=>∃j:Nat,j<=n/\t= .int .i64 j/\Hid (TS w wr C (tY (qT k) (texts k) (32* k) j))) (λt _=>n-(intOf t).toNat)
   case atStart=>exact⟨0,by omega,rfl,x.out⟩
   case round=>
    obtain⟨j,e9,rfl,Y⟩:=hrel;obtain⟨fb,fc,fd,a1,T,_⟩:=Y.out.X k S;rw[U.out]at a1;injection a1 with a1;injection a1 with bx eh el;subst bx eh el;by_cases en:j<n
    ·obtain⟨a,rfl,fx,c3⟩:=T.rd (by rw[<-T.hn];omega);have bx:=c3 j (by rw[<-T.hn];exact en);have fr:j<31:=by have:=T.hn;omega
     obtain⟨E,bz⟩:∃E,E=(texts k).getD j ByteArray.empty:=⟨_,rfl⟩;have em:=Lib.hid bz;rw[<-bz]at bx;clear c3 T bz;have ec:Hid (TS w (wr.setRow (w.heap.size+1) (splice (tY (qT k) (texts k) (32* k) j).toList (k* 96+(j+1)* 3) (mc 1 0 E)).toArray) C (gI (tY (qT k) (texts k) (32* k) j) (32* k+j+1) (mc 1 0 E))):=Y.out.put _ _ _ oO oO rfl (fZ 1 0 E);have eq:Hid (k* 96+(j+1)* 3+(mc 1 0 E).length<=(tY (qT k) (texts k) (32* k) j).size):=Y.out.fit rfl oO;have ed:Hid (∀v∈mc 1 0 E,v.oneCell'=true):=fZ 1 0 E;have b1:Hid (mc 1 0 E=[.int .i64 1,.int .i64 0,.string E]):=rfl;generalize mc 1 0 E=ce at*;go_wp2_with(refine cB rfl 168 _ _ rfl 170 (w.heap.size+1) (k* 96+(j+1)* 3) (tY (qT k) (texts k) (32* k) j) ce rfl (by rw[b1.out];rfl) Y.out.R1 (by rw[b1.out];exact eB) eq.out ed.out ?_;generalize World.setRow _ _ _=a4 at*)
     refine⟨⟨j+1,by omega,by go_num,?_⟩,by simp[intOf];omega⟩;have y:=ec.out;rw[b1.out,em.out]at y;exact y
    ·obtain rfl:j=n:=oO;have hq:j=(texts k).length:=T.hn;clear T;have ef:=Lib.hid hq;clear hq;go_wp2;refine⟨⟨k+1,by omega,by go_num,?_⟩,by simp[intOf];omega⟩;have y:=Y.out;rw[ef.out]at y;exact y
  ·have u:k=5:=oO;clear c2;have l:Hid (TS w wr C (ui 0)):=by
    have y:=x.out;rw[u]at y;exact y
   clear u;clear x;go_wp2;go_loopw [49] (λt wr=>∃k:Nat,k<=4/\t= .int .i64 k/\Hid (TS w wr C (ui k))) (λt _=>4-(intOf t).toNat)
   case atStart=>exact⟨0,by omega,rfl,l.out⟩
   case round=>
    clear l;obtain⟨k,a3,rfl,x⟩:=hrel;by_cases S:k<4
    ·have ad:Hid (TS w wr C (ui k)):=x;have l:Hid (TS w (wr.setRow (w.heap.size+1) (splice (ui k).toList (shN k* 96) (mc 3 3 ByteArray.empty)).toArray) C (ui (k+1))):=x.out.put _ _ _ oO (by have:=FF k;omega) rfl (fZ _ _ _);have U:Hid (#[Value.int .i64 0,.int .i64 1,.int .i64 2,.int .i64 4][k]?=some (.int .i64 (shN k))):=by
      have u:k=0\/k=1\/k=2\/k=3:=oO;rcases u with rfl|rfl|rfl|rfl<;>rfl
     have fv:=FF k;generalize shN k=m at*;go_wp2_with(first|(refine iH rfl 128 _ _ rfl 4 3 Tryz.underlying128 _ Tryz.underlying3 rfl JR _ .i64 k k rfl rfl rfl S _ U.out ?_)|(refine cB rfl 168 _ _ rfl 170 (w.heap.size+1) (m* 96) _ (mc 3 3 ByteArray.empty) rfl rfl ad.out.R1 eB (ad.out.fit rfl oO) (fZ 3 3 ByteArray.empty) ?_;generalize World.setRow _ _ _=a4 at*))
     exact⟨⟨k+1,by omega,by go_num,l.out⟩,by simp[intOf];omega⟩
    ·have u:k=4:=oO;have l:Hid (TS w wr C (rV 0)):=by
      have y:=x.out;rw[u]at y;exact y
     clear u;clear x;go_wp2;go_loopw [58] (λt wr=>∃k:Nat,k<=3/\t= .int .i64 k/\Hid (TS w wr C (rV k))) (λt _=>3-(intOf t).toNat)
     case atStart=>exact⟨0,by omega,rfl,l.out⟩
     case round=>
      clear l;obtain⟨k,a3,rfl,x⟩:=hrel;by_cases S:k<3
      ·have ad:Hid (TS w wr C (rV k)):=x;have l:Hid (TS w (wr.setRow (w.heap.size+1) (splice (rV k).toList (k* 96+93) (mc 4 0 ByteArray.empty)).toArray) C (rV (k+1))):=x.out.put _ _ _ oO oO rfl (fZ _ _ _);have U:Hid (#[Value.int .i64 0,.int .i64 1,.int .i64 2][k]?=some (.int .i64 k)):=by
        have u:k=0\/k=1\/k=2:=oO;rcases u with rfl|rfl|rfl<;>rfl
       go_wp2_with(first|(refine iH rfl 217 _ _ rfl 3 3 Tryz.underlying217 _ Tryz.underlying3 rfl JR _ .i64 k k rfl rfl rfl S _ U.out ?_)|(refine cB rfl 168 _ _ rfl 170 (w.heap.size+1) (k* 96+93) _ (mc 4 0 ByteArray.empty) rfl rfl ad.out.R1 eB (ad.out.fit rfl oO) (fZ 4 0 ByteArray.empty) ?_;generalize World.setRow _ _ _=a4 at*))
       exact⟨⟨k+1,by omega,by go_num,l.out⟩,by simp[intOf];omega⟩
      ·have u:k=3:=oO;have l:Hid (TS w wr C (rV 3)):=by
        have y:=x.out;rw[u]at y;exact y
       clear u;clear x;go_wp2_with(first|(refine D5 l.out rfl _ _ rfl _ [_,_,_] rfl rfl rfl (fZ _ _ _) oD oD ?_;clear l;intro a4 l)|(refine AQ l.out rfl _ rfl rfl ?_;intro c4 HC)|(refine yK l.out HC.out rfl _ _ rfl rfl rfl ?_;intro fn b9;have hc:Hid (c4=gX):=HC.out;clear l HC;have HC:=hc;clear hc))
       (try simp only[Exit.inBlock,Exit.then])
       refine bodyPost_ret (results_cell_row rfl _ _ w.heap.size 170 c4 (0,0) _ rfl b9.out.1 Tryz.underlying170 rfl (by rw[HC.out];exact LZ)) rfl ?_;exact⟨by rw[HC.out],b9.out.2⟩
def dU (m n:Nat):Nat:=
 if 1<=n/\n<=(texts m).length then 1 else
 match m,n with
 |0,0=>3|1,0=>3|2,0=>3|4,0=>3|1,28=>3|4,15=>3
 |0,31=>4|1,31=>4|2,31=>4
 |0,28=>2|0,29=>2|0,30=>2|1,29=>2|1,30=>2|2,28=>2|2,29=>2|2,30=>2|3,31=>2|4,14=>2
 |_,_=>0
def modeF (m n:Nat):Nat:=
 match m,n with
 |0,0=>3|1,0=>3|2,0=>3|4,0=>3
 |0,28=>1|0,29=>2|0,30=>4|1,29=>2|1,30=>4|2,28=>1|2,30=>3
 |_,_=>0
def iC (m n:Nat):ByteArray:=if n=0 then ByteArray.empty else(texts m).getD (n-1) ByteArray.empty
abbrev vQ (m n:Nat):List Value:=[.int .i64 ((dU m n:Nat):Int),.int .i64 ((modeF m n:Nat):Int),.string (iC m n)]
def oG (m:Nat):List Value:=(List.range 32).flatMap (vQ m)
def MD:List Value:=(List.range 5).flatMap oG
theorem G9:gX.toList=MD:=oK
theorem AB {α:Type} (L:Nat) (f:Nat->List α) (b:∀i,(f i).length=L):∀(k i j:Nat),i<k->j<L->((List.range k).flatMap f)[i* L+j]?=(f i)[j]?:=by
 intro k
 induction k with
 |zero=>intro i j h;omega
 |succ k a=>
  intro i j c d;have hl:((List.range k).flatMap f).length=k* L:=by
   clear a c
   induction k with
   |zero=>simp
   |succ k a=>rw[List.range_succ,List.flatMap_append,List.length_append,a];simp[b,Nat.succ_mul]
  rw[List.range_succ,List.flatMap_append];by_cases h:i<k
  ·rw[List.getElem?_append_left (by rw[hl];calc i* L+j<i* L+L:=oO
    _=(i+1)* L:=by rw[Nat.succ_mul]
    _<=k* L:=Nat.mul_le_mul_right _ oO)]
   exact a i j h d
  ·obtain rfl:i=k:=oO;rw[List.getElem?_append_right (by rw[hl];omega),hl];simp
theorem AJ {α:Type} (L:Nat) (f:Nat->List α) (a:∀i,(f i).length=L) (k:Nat):((List.range k).flatMap f).length=k* L:=by
 induction k with
 |zero=>simp
 |succ k b=>rw[List.range_succ,List.flatMap_append,List.length_append,b];simp[a,Nat.succ_mul]
theorem qM (m:Nat):(oG m).length=96:=AJ 3 (vQ m) (λ_=>rfl) 32
theorem I3 (m n j:Nat) (hn:n<32) (a:j<3):(oG m)[n* 3+j]?=(vQ m n)[j]?:=AB 3 (vQ m) (λ_=>rfl) 32 n j hn a
theorem En (m k:Nat) (a:m<5) (b:k<96):gX[m* 96+k]?=(oG m)[k]?:=by
 have h:=AB 96 oG qM 5 m k a b;rw[<-h,<-Array.getElem?_toList,G9];rfl
theorem CI:gX.size=480:=by
 rw[<-Array.length_toList,G9];exact AJ 96 oG qM 5
theorem Db (m n:Nat) (hn:n<32):(oG m).toArray.extract (n* 3) (n* 3+3)=(vQ m n).toArray:=by
 apply Array.ext';rw[Array.toList_extract,List.extract_eq_take_drop];apply List.ext_getElem?;intro j;rw[List.getElem?_take];by_cases a:j<3
 ·rw[if_pos oO,List.getElem?_drop];exact I3 m n j hn a
 ·rw[if_neg oO,List.getElem?_eq_none (by show 3<=j;omega)]
structure ay where
 num:Nat
 sec:Int
 run:Nat
 long:Bool
 size:Nat
 at_:Nat
 mode:Nat
deriving DecidableEq
def ay.aC (a:ay):List Value:=[.int .i64 (a.num:Int),.int .i64 a.sec,.int .i64 (a.run:Int),.bool a.long,.int .i64 (a.size:Int),.int .i64 (a.at_:Int),.int .i64 (a.mode:Int)]
def ay.val (a:ay):Value:= .agg a.aC.toArray
def ay.bQ (C:Nat->Nat->Nat) (a:ay):Nat:=a.size+C a.at_ a.mode
structure SW (w:World) (c d cap hb:Nat) (p:ByteArray) (C:Nat->Nat->Nat):Prop where
 lt:c<w.heap.size
 c0:w.cell? ⟨c,0,none⟩=some (.string p)
 ct:∀i v,gX[i]?=some v->w.cell? ⟨c,1+i,none⟩=some v
 cc:w.cell? ⟨c,481,none⟩=some (.slice (some ⟨d,0,none⟩) (p.size+1) cap)
 cm:w.cell? ⟨c,482,none⟩=some (.map (some hb))
 cl:d<w.heap.size
 cz:∀a m,a<=p.size->m<5->w.cell? ⟨d,a* 5+m,none⟩=some (.int .i64 ((C a m:Nat):Int))
 hc:p.size+1<=cap
 hp:p.size<=4096
 b:∀a m,C a m<=1073741824
theorem SW.below {w W:World} {c d cap hb:Nat} {p:ByteArray} {C:Nat->Nat->Nat} (h:SW w c d cap hb p C) (b:Below w.heap.size w W):SW W c d cap hb p C:=
 ⟨Nat.lt_of_lt_of_le h.lt b.size,(b.cell h.lt).trans h.c0,λi v e=>(b.cell h.lt).trans (h.ct i v e),(b.cell h.lt).trans h.cc,(b.cell h.lt).trans h.cm,Nat.lt_of_lt_of_le h.cl b.size,
  λa m f g=>(b.cell h.cl).trans (h.cz a m f g),h.hc,h.hp,h.b⟩
theorem ay.cells (W:World) (a:ay) (t:TypeId) (b:Nat) (hb:b=W.heap.size):an (W.alloc (.cells a.aC.toArray t)) b a.aC:=an.new W a.aC.toArray t b hb
theorem rR {W:World} {b:Nat} {a:ay} (h:an W b a.aC):
 W.cell? ⟨b,0,none⟩=some (.int .i64 (a.num:Int))/\W.cell? ⟨b,1,none⟩=some (.int .i64 a.sec)/\W.cell? ⟨b,2,none⟩=some (.int .i64 (a.run:Int))/\W.cell? ⟨b,3,none⟩=some (.bool a.long)/\
 W.cell? ⟨b,4,none⟩=some (.int .i64 (a.size:Int))/\W.cell? ⟨b,5,none⟩=some (.int .i64 (a.at_:Int))/\W.cell? ⟨b,6,none⟩=some (.int .i64 (a.mode:Int)):=
 ⟨h.2 0 (by simp[ay.aC]),h.2 1 (by simp[ay.aC]),h.2 2 (by simp[ay.aC]),h.2 3 (by simp[ay.aC]),h.2 4 (by simp[ay.aC]),h.2 5 (by simp[ay.aC]),h.2 6 (by simp[ay.aC])⟩
theorem kZ (b:ay) (w:World) (f g cap hb:Nat) (p:ByteArray) (C:Nat->Nat->Nat) (h:SW w f g cap hb p C) (i:b.at_<=p.size) (k:b.mode<5) (hs:b.size<=1073741824):
 Calls Tryz.prog 180 #[.pointer (some ⟨f,0,none⟩),b.val] w λe w'=>e= .returned (.int .i64 ((b.bQ C:Nat):Int))/\Below w.heap.size w w':=by
 have r:=h.b b.at_ b.mode;have t:=h.hp;have y:=h.hc;obtain⟨num,d,run,long,size,at_,a⟩:=b;have l:Hid (ay.bQ C ⟨num,d,run,long,size,at_,a⟩=size+C at_ a):=rfl
 have q:Hid (∀W,af (w.alloc (.cells (ay.aC ⟨num,d,run,long,size,at_,a⟩).toArray 181)) W->
  W.cell? ⟨w.heap.size,4,none⟩=some (.int .i64 (size:Int))/\W.cell? ⟨w.heap.size,5,none⟩=some (.int .i64 (at_:Int))/\W.cell? ⟨w.heap.size,6,none⟩=some (.int .i64 (a:Int))/\
  W.cell? ⟨f,481,none⟩=some (.slice (some ⟨g,0,none⟩) (p.size+1) cap)/\W.cell? ⟨g,at_* 5+a,none⟩=some (.int .i64 ((C at_ a:Nat):Int))):=by
  show∀W,_;intro W o;have j:=rR ((an.new w (ay.aC ⟨num,d,run,long,size,at_,a⟩).toArray 181 w.heap.size rfl).below o);have m:=(h.below (ax _ _)).below o;exact⟨j.2.2.2.2.1,j.2.2.2.2.2.1,j.2.2.2.2.2.2,m.cc,m.cz at_ a i k⟩
 have n:Hid (ay.val ⟨num,d,run,long,size,at_,a⟩= .agg #[.int .i64 (num:Int),.int .i64 d,.int .i64 (run:Int),.bool long,.int .i64 (size:Int),.int .i64 (at_:Int),.int .i64 (a:Int)]):=rfl;rw[n.out,l.out];clear h l n;generalize C at_ a=c at*;have u:at_<=4096:=by simp only at i;omega
 simp only at k hs i;have v:(at_:Int)<(p.size:Int)+1:=oO;have x:(a:Int)<5:=oO;have s:IntKind.i64.wrap ((size:Int)+(c:Int))=((size+c:Nat):Int):=by rw[aE _ oO oO];omega
 go_enter Tryz.func180,Tryz.ntmps180;go_wp2;refine yO (af (w.alloc (.cells (ay.aC ⟨num,d,run,long,size,at_,a⟩).toArray 181))) [1,2,3,4,5,6,7,8,9,10,11,12,13,14,15,16,17] (ai (Below.refl _ _)) ?_
 repeat refine zO q.out ?_
 refine ag ?_;go_wp2;go_ret;exact⟨rfl,(ax w _).trans ((ai (Below.refl _ _)).mono oS)⟩
def cY (C:Nat->Nat->Nat) (num at_ m:Nat) (a:ay) (n sz:Nat) (lg:Bool):ay:=
 if a.run=0\/ay.bQ C ⟨num,-1,n,lg,sz+8* n,at_+n,m⟩<a.bQ C then⟨num,-1,n,lg,sz+8* n,at_+n,m⟩else a
theorem mh:(Tryz.prog.info? 181).map (·.zero)=some (some (.agg #[.int .i64 0,.int .i64 0,.int .i64 0,.bool false,.int .i64 0,.int .i64 0,.int .i64 0])):=oK
theorem fD:(Tryz.prog.info? 181).map (·.size)=some 7:=oK
theorem ay.one (b:ay):∀v∈b.aC,v.oneCell'=true:=by
 intro v a;simp only[ay.aC,List.mem_cons,List.not_mem_nil,or_false]at a;rcases a with rfl|rfl|rfl|rfl|rfl|rfl|rfl<;>rfl
theorem bm {P:Program} {w:World} {g:Array Oper} {i:List Oper} {c:Oper} {a:Act} {Q:Exit->Act->World->Prop} (q:c.guard=none) (f:TypeId) (p x:Operand) (j:c.op= .store f p x)
 (t:TypeId) (d:Array Value) (b:List Value) (k:a.eval p= .pointer (some ⟨w.heap.size,0,none⟩)) (l:a.eval x= .agg b.toArray) (m:(P.info? f).map (·.size)=some b.length)
 (r:b.length=d.size) (n:∀v∈b,v.oneCell'=true)
 (o:wpList P g Q i (a.put c.dst undef) (w.alloc (.cells b.toArray t))):wpList P g Q (c::i) a (w.alloc (.cells d t)):=by
 refine cB q f p x j t w.heap.size 0 d b k l (heap_alloc_new _ _) m oO n ?_;have e:(splice d.toList 0 b).toArray=b.toArray:=by
  unfold splice;rw[List.take_zero,List.nil_append,List.drop_eq_nil_of_le (by simp[r]),List.append_nil]
 rw[e,World.setRow_alloc_new];exact o
theorem ae.cells {w:World} {g:Nat} {l:List Value} {t:TypeId} (h:ae w g l.toArray t):an w g l:=by
 refine⟨ar h,λi a=>?_⟩;rw[h.cell i (l.getD i undef) (by simp[List.getD,a])]
theorem ae.new (w:World) (a:Array Value) (t:TypeId) (b:Nat) (hb:b=w.heap.size):ae (w.alloc (.cells a t)) b a t:=by subst hb;exact heap_alloc_new _ _
theorem og {W:World} {b:Nat} {a:ay} (h:an W b a.aC):∀j v,a.aC[j]?=some v->W.cell? ((⟨b,0,none⟩:Addr).add j)=some v:=by
 intro j v c;have hl:j<a.aC.length:=by
  rcases Nat.lt_or_ge j a.aC.length with d|d
  ·exact d
  ·rw[List.getElem?_eq_none d]at c;cases c
 rw[add_plain,Nat.zero_add,h.2 j hl];simp[List.getD,c]
theorem jx (a b:List Value) (h:b.length=a.length):(splice a.toArray.toList 0 b).toArray=b.toArray:=by
 unfold splice;rw[List.take_zero,List.nil_append,List.drop_eq_nil_of_le (by simp[h]),List.append_nil]
theorem rW {a:Act} {c:Oper} {W:World} {b:Nat} {q:Operand} (d:c.op= .load 181 q) (e:a.eval q= .pointer (some ⟨b,0,none⟩)) (x:ay) (h:an W b x.aC):
 (execOp a.eval c).run Tryz.prog W= .ok (.value x.val) W:=by
 have f:=iR (P:=Tryz.prog) W 181 _ ⟨b,0,none⟩ x.aC Tryz.underlying181 rfl fD (og h);unfold execOp;simp only[d,e,Instr.loadAt,Instr.sureAddr,Sem.run_bind,Sem.run_pure,Result.andThen_ok,f];rfl
theorem DG (n sz num at_ m:Nat) (lg:Bool) (a:ay) (w:World) (f q cap hb B D b xb:Nat) (p:ByteArray) (C:Nat->Nat->Nat) (h:SW w f q cap hb p C)
 (E:an w B [.int .i64 (num:Int)]) (hF:an w D [.int .i64 (at_:Int),.int .i64 (m:Int)]) (g:an w xb [.pointer (some ⟨f,0,none⟩)]) (hB:ae w b a.aC.toArray 181)
 (K:at_+n<=p.size) (L:m<5) (ad:sz<=100) (M:a.at_<=p.size) (N:a.mode<5) (O:a.size<=1073741824) (al:num<32) (am:a.run<=4096):
 Calls Tryz.prog 228 #[.int .i64 (n:Int),.int .i64 (sz:Int),.bool lg,.pointer (some ⟨B,0,none⟩),.pointer (some ⟨D,0,none⟩),.pointer (some ⟨b,0,none⟩),.pointer (some ⟨xb,0,none⟩)] w
  λe w'=>e= .returned (.tuple #[])/\ae w' b (cY C num at_ m a n sz lg).aC.toArray 181/\Below b w w':=by
 have ap:=h.hp;have c1:=E.2 0 oS;have P:=hF.2 0 oS;have Q:=hF.2 1 oS;have S:=g.2 0 oS;simp only[List.getD,List.getElem?_cons_zero,List.getElem?_cons_succ,Option.getD_some]at c1 P Q S;have T:=Lib.hid h;have i:=Lib.hid hB;have av:=Lib.hid g.1;have U:=Lib.hid g;have a1:IntKind.i64.wrap (8* (n:Int))=((8* n:Nat):Int):=by rw[aE _ oO oO];omega
 have a2:IntKind.i64.wrap ((sz:Int)+((8* n:Nat):Int))=((sz+8* n:Nat):Int):=by rw[aE _ oO oO];omega
 have a3:IntKind.i64.wrap ((at_:Int)+(n:Int))=((at_+n:Nat):Int):=by rw[aE _ oO oO];omega
 obtain⟨no,r⟩:∃no:ay,no=⟨num,-1,n,lg,sz+8* n,at_+n,m⟩:=⟨_,rfl⟩;have ab:=Lib.hid r;have o:Hid (cY C num at_ m a n sz lg=if a.run=0\/no.bQ C<a.bQ C then no else a):=by rw[r];rfl
 have x:Hid (no.at_<=p.size/\no.mode<5/\no.size<=1073741824):=by rw[r];exact⟨K,L,by show sz+8* n<=_;omega⟩
 clear h hB E hF g r;go_enter Tryz.func228,Tryz.ntmps228;go_wp2_with(first|(refine aX rfl 181 rfl _ mh ?_)|(refine bm rfl 181 _ _ rfl 181 _ no.aC rfl (by rw[ab.out];rfl) fD rfl no.one ?_))
 have c:Hid (∀W,af (w.alloc (.cells no.aC.toArray 181)) W->W.cell? ⟨b,2,none⟩=some (.int .i64 (a.run:Int))/\W.cell? ⟨xb,0,none⟩=some (.pointer (some ⟨f,0,none⟩))):=by
  show∀W,_;intro W d;have hB:=(i.out.below (ax w (.cells no.aC.toArray 181))).below d;have g:=((U.out.alloc (.cells no.aC.toArray 181)).below d).2 0 oS;exact⟨(rR hB.cells).2.2.1,g⟩
 have s:Hid (∀W,af (w.alloc (.cells no.aC.toArray 181)) W->an W w.heap.size no.aC):=λW d=>((ae.new w no.aC.toArray 181 _ rfl).cells).below d;have y:Hid (∀W,af (w.alloc (.cells no.aC.toArray 181)) W->an W b a.aC):=λW d=>((i.out.below (ax w _)).below d).cells;have t:Hid (∀W,af (w.alloc (.cells no.aC.toArray 181)) W->SW W f q cap hb p C):=λW d=>(T.out.below (ax w _)).below d
 (try simp only[yQ,yU,yX,yY])
 by_cases F:a.run=0
 ·have V:((a.run:Int)==0)=true:=by rw[beq_iff_eq];omega
  have k:Hid (cY C num at_ m a n sz lg=no):=by show _=_;rw[o.out,if_pos (.inl F)]
  refine yO (af (w.alloc (.cells no.aC.toArray 181))) [1,2,3,4,5,6,8,9,0,7,10,0,11,12] (ai (Below.refl _ _)) ?_
  repeat refine zO c.out ?_
  repeat(first|refine' tX rfl ?_|refine' sJ rfl (ai (Below.refl _ _)) ?_)
  repeat refine zO c.out ?_
  refine ag ?_;have j:Hid (ae (w.alloc (.cells no.aC.toArray 181)).drew b a.aC.toArray 181):=(i.out.below (ax w _)).below (ai (Below.refl _ _));have z:Hid (an (w.alloc (.cells no.aC.toArray 181)).drew w.heap.size no.aC):=(ae.new w no.aC.toArray 181 _ rfl).cells.below (ai (Below.refl _ _));have u:Hid (Below w.heap.size w (w.alloc (.cells no.aC.toArray 181)).drew):=ai (ax w _);generalize(w.alloc (.cells no.aC.toArray 181)).drew=a0 at*;have ac:b<w.heap.size:=ar i.out;go_wp2_with(first|(refine bD rfl 181 _ rfl _ Tryz.underlying181 rfl ⟨w.heap.size,0,none⟩ no.aC fD rfl (og z.out) ?_)|(refine cB rfl 181 _ _ rfl 181 b 0 a.aC.toArray no.aC rfl rfl j.out fD (by show 7<=7;omega) no.one ?_;rw[jx a.aC no.aC (by rfl)]))
  refine bodyPost_end (results_none rfl _ _ _) rfl ?_;rw[k.out];exact⟨rfl,j.out.set _,below_setRow (u.out.mono oO) (Nat.le_refl _) _⟩
 ·have V:((a.run:Int)==0)=false:=by rw[beq_eq_false_iff_ne];omega
  refine yO (af (w.alloc (.cells no.aC.toArray 181))) [1,2,3,4,5,6,8,9,0,7,10,0,11,12] (ai (Below.refl _ _)) ?_
  repeat first|refine zO c.out ?_|refine zX c.out ?_
  refine' zW rfl (λW d=>rW rfl rfl no (s.out W d)) ?_
  repeat first|refine zO c.out ?_|refine zX c.out ?_
  refine' zW rfl (λW d=>rW rfl rfl a (y.out W d)) ?_;refine zZ ?_;refine(kZ no _ f q cap hb p C (t.out _ (ai (Below.refl _ _))) x.out.1 x.out.2.1 x.out.2.2).mono ?_;rintro e X ⟨rfl,H⟩;have A:Hid (af (w.alloc (.cells no.aC.toArray 181)) X):=(ai (Below.refl _ _)).trans H;clear H;refine⟨_,rfl,A.out,jO ?_⟩;refine zZ ?_;refine(kZ a _ f q cap hb p C (t.out _ A.out) M N O).mono ?_;rintro e l ⟨rfl,J⟩;have v:Hid (af (w.alloc (.cells no.aC.toArray 181)) l):=aa A.out J;clear J;refine⟨_,rfl,v.out,jO ?_⟩;have j:Hid (ae l b a.aC.toArray 181):=(i.out.below (ax w (.cells no.aC.toArray 181))).below v.out;have z:Hid (an l w.heap.size no.aC):=s.out l v.out;have u:Hid (Below w.heap.size w l):=(ax w _).trans (v.out.mono oS);have ac:b<w.heap.size:=ar i.out;by_cases G:no.bQ C<a.bQ C
  ·have k:Hid (cY C num at_ m a n sz lg=no):=by show _=_;rw[o.out,if_pos (.inr G)]
   repeat first|refine zO c.out ?_|refine zX c.out ?_
   refine ag ?_;clear c s y t o;generalize no.bQ C=Y at*;generalize a.bQ C=Z at*;go_wp2_with(first|(refine bD rfl 181 _ rfl _ Tryz.underlying181 rfl ⟨w.heap.size,0,none⟩ no.aC fD rfl (og z.out) ?_)|(refine cB rfl 181 _ _ rfl 181 b 0 a.aC.toArray no.aC rfl rfl j.out fD (by show 7<=7;omega) no.one ?_;rw[jx a.aC no.aC (by rfl)]))
   refine bodyPost_end (results_none rfl _ _ _) rfl ?_;rw[k.out];exact⟨rfl,j.out.set _,below_setRow (u.out.mono oO) (Nat.le_refl _) _⟩
  ·have k:Hid (cY C num at_ m a n sz lg=a):=by show _=_;rw[o.out,if_neg (λh=>h.elim F G)]
   repeat first|refine zO c.out ?_|refine zX c.out ?_
   refine ag ?_;clear c s y t o;generalize no.bQ C=Y at*;generalize a.bQ C=Z at*;go_wp2;refine bodyPost_end (results_none rfl _ _ _) rfl ?_;rw[k.out];exact⟨rfl,j.out,u.out.mono oO⟩
end
end Go.Proofs.YtmnlkganmgcpbaaGreatDoor
