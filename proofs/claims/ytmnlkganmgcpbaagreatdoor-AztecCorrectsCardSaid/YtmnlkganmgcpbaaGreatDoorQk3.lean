import Derived.Test.YtmnlkganmgcpbaaGreatDoorQk2
import Derived.Laws.CopyOwn
import Derived.Laws.CopyRow
import Derived.Deep.WholeRow
set_option maxRecDepth 100000
set_option maxHeartbeats 4000000
set_option linter.unusedVariables false
set_option linter.unusedSectionVars false
set_option linter.unusedSimpArgs false
namespace Go.Proofs.YtmnlkganmgcpbaaGreatDoor
section
open Go.RowKit
def RT {α:Type} (f:α->Value) (d:α) (w:World) (L:List α×Int) (e:Ending) (w':World):Prop:=∃v,e= .returned (.tuple #[v,.int .i64 L.2])/\SG f d w' v L.1/\Below w.heap.size w w'
theorem RT.mk {α:Type} {f:α->Value} {d:α} {w w':World} {R:List α×Int} {v:Value} {L:List α} {err:Int} (h:R=(L,err)) (a:SG f d w' v L) (hb:Below w.heap.size w w'):RT f d w R (.returned (.tuple #[v,.int .i64 err])) w':=by
 subst h;exact⟨v,rfl,a,hb⟩
def ic (b:List Bool) (size:Int):List Nat×Int:=
 if size<2\/12<size then([],3)else if 1048576<b.length then([],4)else(aI b size.toNat,0)
theorem zS (A:Option Addr) (n c:Nat) (size:Int) (b:List Bool) (w:World) (hb:SR vB false w A n c b):
 Calls Tryz.prog 32 #[.slice A n c,.int .i64 size] w (RT vN 0 w (ic b size)):=by
 have hn:n=b.length:=hb.hn;have i:n<=9223372036854775807:=by have:=hb.hm;have:=hb.hc;unfold maxLen at*;omega
 by_cases d:size<2
 ·have a:Hid (ic b size=([],3)):=by show _=_;unfold ic;rw[if_pos (.inl d)]
  clear hb hn;go_enter Tryz.func32,Tryz.ntmps32;go_wp2;go_ret2
  exact RT.mk a.out (SG.dI _) (Below.refl _ _)
 by_cases e:12<size
 ·have a:Hid (ic b size=([],3)):=by show _=_;unfold ic;rw[if_pos (.inr e)]
  clear hb hn;go_enter Tryz.func32,Tryz.ntmps32;go_wp2;go_ret2
  exact RT.mk a.out (SG.dI _) (Below.refl _ _)
 by_cases f:n<=1048576
 ·obtain⟨s,rfl⟩:=Int.eq_ofNat_of_zero_le (show 0<=size by omega);have a:ic b s=(aI b s,0):=by unfold ic;rw[if_neg oO,if_neg oO];rfl
  rw[a];exact Ga A n c s b w hb oO oO f
 ·have a:Hid (ic b size=([],4)):=by show _=_;unfold ic;rw[if_neg oO,if_pos oO]
  have g:decide ((1048576:Int)<(n:Int))=true:=by simp;omega
  clear hb hn;go_enter Tryz.func32,Tryz.ntmps32;go_wp2;go_ret2
  exact RT.mk a.out (SG.dI _) (Below.refl _ _)
end
theorem wD (a b:Nat):(a^^^b)%2=(a%2+b%2)%2:=by
 have h:=Nat.testBit_xor a b 0;simp only[Nat.testBit_zero]at h;have c:=Nat.mod_two_eq_zero_or_one a;have hb:=Nat.mod_two_eq_zero_or_one b;have hc:=Nat.mod_two_eq_zero_or_one (a^^^b);rcases c with c|c<;>rcases hb with hb|hb<;>rcases hc with hc|hc<;>simp[c,hb,hc]at h⊢
theorem vC (a b:Nat):(a^^^b)/2=a/2^^^b/2:=by
 apply Nat.eq_of_testBit_eq;intro i;simp[Nat.testBit_xor,Nat.testBit_div_two]
theorem pZ (a b:Nat):2* (a^^^b)=2* a^^^2* b:=by
 apply Nat.eq_of_testBit_eq;intro i;cases i with
 |zero=>simp[Nat.testBit_zero,wD]
 |succ i=>simp[Nat.testBit_succ,vC]
def cmulF:Nat->Nat->Nat->Nat
 |0,_,_=>0
 |n+1,a,b=>(if b%2=1 then a else 0)^^^2* cmulF n a (b/2)
theorem jw (n a:Nat):cmulF n a 0=0:=by
 induction n with
 |zero=>rfl
 |succ n b=>simp[cmulF,b]
theorem FK (n m a b:Nat) (hn:b<=n) (d:b<=m):cmulF n a b=cmulF m a b:=by
 induction n generalizing m b with
 |zero=>
  obtain rfl:b=0:=oO;rw[jw,jw]
 |succ n c=>
  cases m with
  |zero=>
   obtain rfl:b=0:=oO;rw[jw,jw]
  |succ m=>simp only[cmulF];rw[c m (b/2) oO oO]
def bU (a b:Nat):Nat:=cmulF b a b
theorem fX (a:Nat):bU a 0=0:=rfl
theorem e8 (a b:Nat):bU a b=(if b%2=1 then a else 0)^^^2* bU a (b/2):=by
 by_cases hb:b=0
 ·subst hb;simp[bU,cmulF]
 ·obtain⟨c,rfl⟩:∃c,b=c+1:=⟨b-1,by omega⟩;unfold bU;rw[cmulF];rw[FK c ((c+1)/2) a ((c+1)/2) oO oO]
theorem tG (a b:Nat):bU a (2* b)=2* bU a b:=by
 rw[e8];simp
theorem ry (a:Nat):bU a 1=a:=by
 rw[e8];simp[fX]
theorem zf (b:Nat):bU 0 b=0:=by
 induction b using Nat.strongRecOn with
 |_ b a=>
  by_cases hb:b=0
  ·subst hb;rfl
  ·rw[e8,a (b/2) oO];simp
theorem rj (a b c:Nat):bU (a^^^b) c=bU a c^^^bU b c:=by
 induction c using Nat.strongRecOn with
 |_ c d=>
  by_cases hc:c=0
  ·subst hc;simp[fX]
  ·rw[e8 (a^^^b),e8 a c,e8 b c,d (c/2) oO,pZ];split
   ·ac_rfl
   ·simp
theorem td (a b:Nat):bU (2* a) b=2* bU a b:=by
 induction b using Nat.strongRecOn with
 |_ b c=>
  by_cases hb:b=0
  ·subst hb;simp[fX]
  ·rw[e8 (2* a),e8 a b,c (b/2) oO,pZ];split<;>simp
theorem AR (a:Nat):(a%2)^^^2* (a/2)=a:=by
 apply Nat.eq_of_testBit_eq;intro i;cases i with
 |zero=>simp[Nat.testBit_zero,wD]
 |succ i=>
  rw[Nat.testBit_succ,Nat.testBit_succ,vC];simp
theorem CO (a b c:Nat):bU a (b^^^c)=bU a b^^^bU a c:=by
 induction b using Nat.strongRecOn generalizing c with
 |_ b f=>
  by_cases hb:b=0
  ·subst hb;simp[fX]
  ·rw[e8 a (b^^^c),e8 a b,e8 a c,vC,f (b/2) oO,pZ,wD];rcases Nat.mod_two_eq_zero_or_one b with d|d<;>rcases Nat.mod_two_eq_zero_or_one c with e|e
   ·simp[d,e]
   ·simp[d,e];ac_rfl
   ·simp[d,e];ac_rfl
   ·simp only[d,e];simp;rw[show a^^^2* bU a (b/2)^^^(a^^^2* bU a (c/2))=(a^^^a)^^^(2* bU a (b/2)^^^2* bU a (c/2))from by ac_rfl];simp
theorem vy (b:Nat):bU 1 b=b:=by
 induction b using Nat.strongRecOn with
 |_ b c=>
  by_cases hb:b=0
  ·subst hb;rfl
  ·rw[e8,c (b/2) oO];have:=AR b;rcases Nat.mod_two_eq_zero_or_one b with a|a<;>simp[a]at this⊢<;>exact this
theorem nF (a b:Nat):bU a b=bU b a:=by
 induction a using Nat.strongRecOn generalizing b with
 |_ a d=>
  by_cases e:a=0
  ·subst e;rw[zf,fX]
  ·conv=>lhs;rw[<-AR a,rj,td,d (a/2) oO]
   rw[e8 b a];rcases Nat.mod_two_eq_zero_or_one a with c|c<;>simp[c,zf,vy]
theorem qV (a b c:Nat):bU (bU a b) c=bU a (bU b c):=by
 induction c using Nat.strongRecOn with
 |_ c d=>
  by_cases hc:c=0
  ·subst hc;simp[fX]
  ·rw[e8 (bU a b) c,e8 b c,CO,tG,d (c/2) oO];split<;>simp[fX]
instance:Std.Associative bU:=⟨qV⟩
instance:Std.Commutative bU:=⟨nF⟩
def bl:Nat->Nat:=λn=>if n=0 then 0 else n.log2+1
theorem bB (a n:Nat):bl a<=n↔a<2^n:=by
 unfold bl;split
 ·subst a;simp;exact Nat.two_pow_pos n
 ·rename_i h;rw[<-Nat.log2_lt h];omega
theorem iF (a n:Nat):n<bl a↔2^n<=a:=by
 have:=bB a n;omega
theorem ze (a:Nat):a<2^bl a:=(bB a _).1 (Nat.le_refl _)
theorem Iu (a:Nat) (h:a≠0):2^(bl a-1)<=a:=by
 apply(iF a _).1;have:0<bl a:=(iF a 0).2 oT;omega
theorem fy:bl 0=0:=rfl
theorem ia (a:Nat) (h:a≠0):0<bl a:=(iF a 0).2 oT
theorem wY (a n:Nat) (b:2^n<=a) (c:a<2^(n+1)):bl a=n+1:=by
 have:=(iF a n).2 b;have:=(bB a (n+1)).2 c;omega
theorem uu (a b:Nat) (h:a<=b):bl a<=bl b:=(bB _ _).2 (Nat.lt_of_le_of_lt h (ze b))
theorem vg (a b:Nat) (h:bl a<bl b):a<b:=by
 have:=uu b a;omega
theorem rF (a:Nat) (h:a≠0):bl (2* a)=bl a+1:=by
 obtain⟨n,hn⟩:∃n,bl a=n+1:=⟨bl a-1,by have:=ia a h;omega⟩;rw[hn];have b:=(iF a n).1 oO;have c:=(bB a (n+1)).1 oO;exact wY _ _ (by rw[Nat.pow_succ];omega) (by rw[Nat.pow_succ];omega)
theorem nX (a n:Nat) (h:bl a=n+1):a.testBit n=true:=by
 have c:=(iF a n).1 oO;have b:=(bB a (n+1)).1 oO;rw[Nat.testBit_eq_decide_div_mod_eq];have:a/2^n=1:=by
  apply Nat.div_eq_of_lt_le
  ·omega
  ·rw[Nat.pow_succ]at b;omega
 simp[this]
theorem Aw (a n:Nat) (h:a.testBit n=true) (b:a<2^(n+1)):bl a=n+1:=by
 refine wY _ _ (Nat.ge_two_pow_of_testBit h) b
theorem nG (a b n:Nat) (c:bl a<=n) (hb:bl b<=n):bl (a^^^b)<=n:=by
 rw[bB]at*;exact Nat.xor_lt_two_pow c hb
theorem zx (a b n:Nat) (c:bl a=n+1) (hb:bl b=n+1):bl (a^^^b)<=n:=by
 have h:bl (a^^^b)<=n+1:=nG _ _ _ oO oO;by_cases e:bl (a^^^b)=n+1
 ·have:=nX _ _ e;rw[Nat.testBit_xor,nX _ _ c,nX _ _ hb]at this;simp at this
 ·omega
theorem F9 (a b:Nat) (h:bl a<bl b):bl (a^^^b)=bl b:=by
 obtain⟨n,hn⟩:∃n,bl b=n+1:=⟨bl b-1,by omega⟩;have c:a<2^n:=(bB a n).1 oO;rw[hn];refine Aw _ _ ?_ ?_
 ·rw[Nat.testBit_xor,nX _ _ hn,Nat.testBit_lt_two_pow c];rfl
 ·exact(bB _ _).1 (nG _ _ _ oO oO)
theorem Ev (a b:Nat) (d:a≠0) (hb:b≠0):bl (bU a b)+1=bl a+bl b:=by
 induction b using Nat.strongRecOn with
 |_ b e=>
  have m:=ia a d;by_cases f:b=1
  ·subst f;rw[ry];have:bl 1=1:=by decide
   omega
  ·have c:b/2≠0:=oO;have g:=e (b/2) oO c;have o:bl b=bl (b/2)+1:=by
    obtain⟨n,hn⟩:∃n,bl (b/2)=n+1:=⟨bl (b/2)-1,by have:=ia _ c;omega⟩;have k:=(iF (b/2) n).1 oO;have l:=(bB (b/2) (n+1)).1 oO;rw[hn];exact wY _ _ (by rw[Nat.pow_succ];omega) (by rw[Nat.pow_succ];omega)
   have p:=ia _ c;have j:bU a (b/2)≠0:=by
    intro i;rw[i,fy]at g;omega
   rw[e8];have e2:=rF _ j;split
   ·rw[F9 _ _ oO];omega
   ·simp;omega
theorem Bs (a n:Nat):bU a (2^n)=a* 2^n:=by
 induction n with
 |zero=>simp[ry]
 |succ n b=>rw[show 2^(n+1)=2* 2^n from by rw[Nat.pow_succ];omega,tG,b,Nat.mul_left_comm]
theorem Bj (a n:Nat) (b:a≠0):bl (a* 2^n)=bl a+n:=by
 induction n with
 |zero=>simp
 |succ n c=>
  rw[Nat.pow_succ,show a* (2^n* 2)=2* (a* 2^n)from by ac_rfl,rF _ (by have:=Nat.two_pow_pos n;exact Nat.mul_ne_zero b oO),c];omega
def gn (p a:Nat):Prop:=∃k,a=bU p k
theorem pL (p:Nat):gn p 0:=⟨0,(fX p).symm⟩
theorem Gw (p:Nat):gn p p:=⟨1,(ry p).symm⟩
theorem mC {p a b:Nat} (c:gn p a) (d:gn p b):gn p (a^^^b):=by
 obtain⟨k,rfl⟩:=c;obtain⟨l,rfl⟩:=d;exact⟨k^^^l,(CO _ _ _).symm⟩
theorem BD {p a:Nat} (b:Nat) (c:gn p a):gn p (bU a b):=by
 obtain⟨k,rfl⟩:=c;exact⟨bU k b,qV _ _ _⟩
theorem sj {p a:Nat} (h:gn p a) (d:bl a<bl p):a=0:=by
 obtain⟨k,rfl⟩:=h;by_cases b:k=0
 ·subst b;exact fX _
 ·by_cases c:p=0
  ·subst c;rw[fy]at d;omega
  ·have:=Ev p k c b;have:=ia k b;omega
def kf (p q:Nat):Nat:=p^^^q* 2^(bl p-bl q)
theorem Cm (p q:Nat) (hq:q≠0) (h:bl q<=bl p):bl (kf p q)<bl p:=by
 have a:=ia q hq;obtain⟨n,hn⟩:∃n,bl p=n+1:=⟨bl p-1,by omega⟩;have:=Bj q (bl p-bl q) hq;have:=zx p (q* 2^(bl p-bl q)) n hn oO;unfold kf;omega
def mZ:Nat->Nat->Nat->Nat
 |0,p,_=>p
 |n+1,p,q=>if bl q<=bl p then mZ n (kf p q) q else p
def cmod (p q:Nat):Nat:=mZ (bl p) p q
theorem Ka (n p q:Nat) (hq:q≠0) (h:bl p<bl q+n):bl (mZ n p q)<bl q:=by
 induction n generalizing p with
 |zero=>simp[mZ];omega
 |succ n a=>
  simp only[mZ];split
  ·rename_i b;have:=Cm p q hq b
   exact a _ oO
  ·omega
theorem Gm (n p q:Nat):gn q (p^^^mZ n p q):=by
 induction n generalizing p with
 |zero=>simp[mZ];exact pL _
 |succ n a=>
  simp only[mZ];split
  ·have:=mC (a (kf p q)) (⟨2^(bl p-bl q),(Bs q _).symm⟩:gn q (q* 2^(bl p-bl q)));rw[show kf p q^^^mZ n (kf p q) q^^^q* 2^(bl p-bl q)=(kf p q^^^q* 2^(bl p-bl q))^^^mZ n (kf p q) q from by ac_rfl]at this;rw[show kf p q^^^q* 2^(bl p-bl q)=p from by unfold kf;rw[Nat.xor_assoc];simp]at this;exact this
  ·simp;exact pL _
theorem lj (p q:Nat) (hq:q≠0):bl (cmod p q)<bl q:=
 Ka _ _ _ hq (by have:=ia q hq;omega)
theorem j8 (p q:Nat):gn q (p^^^cmod p q):=Gm _ _ _
theorem jJ (p q r:Nat) (b:gn q (p^^^r)) (c:bl r<bl q):r=cmod p q:=by
 have hq:q≠0:=by intro h;subst h;rw[fy]at c;omega
 have a:=mC b (j8 p q);rw[show p^^^r^^^(p^^^cmod p q)=(p^^^p)^^^(r^^^cmod p q)from by ac_rfl]at a;simp at a;have d:=sj a (Nat.lt_of_le_of_lt (nG r (cmod p q) (bl q-1) oO (by have:=lj p q hq;omega)) oO);have e:=congrArg (λx=>x^^^cmod p q) d;simpa[Nat.xor_assoc]using e
theorem oA (p q:Nat) (hq:q≠0):cmod p q=0↔gn q p:=by
 constructor
 ·intro h;have:=j8 p q;rw[h]at this;simpa using this
 ·intro h;exact(jJ p q 0 (by simpa using h) (by rw[fy];exact ia q hq)).symm
theorem kl (p q:Nat) (h:bl p<bl q):cmod p q=p:=
 (jJ p q p (by simp;exact pL _) h).symm
def ND (p:Nat):Prop:=2<=bl p/\∀q,2<=q->2* (bl q-1)<=bl p-1->¬gn q p
theorem zw (q:Nat) (a:q≠0) (b:q≠1):2<=q:=oO
theorem Nd (p a b:Nat) (g:ND p) (h:gn p (bU a b)):gn p a\/gn p b:=by
 by_cases l:gn p a
 ·exact .inl l
 right;have u:p≠0:=by intro h;subst h;have:=g.1;rw[fy]at this;omega
 have v:a≠0:=by intro h;subst h;exact l (pL _)
 have key:∀n,∀c,c<n->c≠0->gn p (bU c b)->gn p b:=by
  intro n
  induction n with
  |zero=>intro c hc;omega
  |succ n s=>
   intro c hc f m;have red:∀x,gn p (bU x b)->gn p b\/gn c x:=by
    intro x t;by_cases o:cmod x c=0
    ·exact .inr ((oA _ _ f).1 o)
    ·left;refine s (cmod x c) ?_ o ?_
     ·have:=vg _ _ (lj x c f);omega
     ·obtain⟨k,d⟩:=j8 x c;have e:cmod x c=x^^^bU c k:=by rw[<-d,<-Nat.xor_assoc];simp
      rw[e,rj];refine mC t ?_;rw[show bU (bU c k) b=bU (bU c b) k from by ac_rfl];exact BD _ m
   rcases red p ⟨b,rfl⟩with i|i
   ·exact i
   rcases red a h with j|j
   ·exact j
   obtain⟨k,d⟩:=i;have r:k≠0:=by intro h;subst h;rw[fX]at d;exact u d
   have w:=Ev c k f r;rw[<-d]at w;by_cases c1:c=1
   ·subst c1;rw[vy]at m;exact m
   by_cases q:k=1
   ·subst q;rw[ry]at d;subst d;exact absurd j l
   exfalso;by_cases y:bl c<=bl k
   ·exact g.2 c (zw c f c1) oO ⟨k,d⟩
   ·exact g.2 k (zw k r q) oO ⟨c,by rw[nF];exact d⟩
 exact key (a+1) a oO v h
theorem lh (a:Nat) (b:a<2^62):(BitVec.ofInt 64 (a:Int)).toNat=a:=by
 rw[BitVec.ofInt_natCast,BitVec.toNat_ofNat];exact Nat.mod_eq_of_lt oO
theorem iQ (a b:Nat) (c:a<2^62) (hb:b<2^62):bits .xor .i64 (a:Int) (b:Int)=((a^^^b:Nat):Int):=by
 have d:a^^^b<2^62:=Nat.xor_lt_two_pow c hb;show IntKind.i64.wrap ((BitVec.ofInt 64 (a:Int)^^^BitVec.ofInt 64 (b:Int)).toNat:Int)=_;rw[BitVec.toNat_xor,lh a c,lh b hb,IntKind.wrap_i64];omega
theorem DN (a b:Nat) (c:a<2^62) (hb:b<2^62):bits .and .i64 (a:Int) (b:Int)=((a&&&b:Nat):Int):=by
 have d:a&&&b<2^62:=Nat.and_lt_two_pow _ hb;show IntKind.i64.wrap ((BitVec.ofInt 64 (a:Int)&&&BitVec.ofInt 64 (b:Int)).toNat:Int)=_;rw[BitVec.toNat_and,lh a c,lh b hb,IntKind.wrap_i64];omega
theorem qc (a:Nat) (b:a<2^62):bits .and .i64 (a:Int) 1=((a%2:Nat):Int):=by
 have:=DN a 1 b oD;rw[Nat.and_one_is_mod]at this;exact this
section
open Go.RowKit
def jx (v i:Nat):Bool:=v/2^i%2==1
def lowF (v n:Nat):Nat->List Bool
 |0=>[]
 |k+1=>lowF v n k++[jx v (n-1-k)]
def aH (v n:Nat):List Bool:=lowF v n n
theorem kB (v n k:Nat):(lowF v n k).length=k:=by
 induction k with
 |zero=>rfl
 |succ k a=>unfold lowF;rw[List.length_append,a];rfl
theorem sc (v i:Nat) (b:v<=1000000000000):(bits BinOp.and IntKind.i64 ((v:Int)/2^i) 1==1)=jx v i:=by
 have e:((v:Int)/2^i)=((v/2^i:Nat):Int):=by simp
 have a:v/2^i<2^62:=Nat.lt_of_le_of_lt (Nat.div_le_self _ _) oO;rw[e,qc _ a];unfold jx;generalize v/2^i%2=x;by_cases h:x=1
 ·subst h;rfl
 ·rw[beq_eq_false_iff_ne.2 h,beq_eq_false_iff_ne];omega
theorem nR (base:Nat) (a:List Bool) (u:Value) (v n:Nat) (w:World) (z:v<=1000000000000) (hn:n<=62) (hl:a.length<=100000000) (hb:base<=w.heap.size) (m:w.ownsRow base 4 1 u a.length (a.map vB)):
 Calls Tryz.prog 108 #[u,.int .i64 v,.int .i64 n] w λe w'=>∃o,e= .returned o/\w'.ownsRow base 4 1 o (a++aH v n).length ((a++aH v n).map vB)/\Below base w w':=by
 obtain⟨A,B,F,G,H⟩:=info_parts gZ;have C:=Lib.hid m;clear m;go_enter Tryz.func108,Tryz.ntmps108;go_wp2;go_loopw [0,7] (λD b wr=>∃(k:Nat) (j:Int),k<=n/\b= .int .i64 j/\Hid (j=(n:Int)-1-k)/\Hid (Below base w wr)/\Hid (wr.ownsRow base 4 1 D (a++lowF v n k).length ((a++lowF v n k).map vB))) (λ_ b _=>(intOf b+1).toNat)
 case atStart=>exact⟨0,_,Nat.zero_le _,rfl,by show _=_;omega,Below.refl _ _,by show World.ownsRow _ _ _ _ _ _ _;rw[show lowF v n 0=[]from rfl,List.append_nil];exact C.out⟩
 case round=>
  obtain⟨k,j,M,rfl,p,c,g⟩:=hrel;by_cases O:k<n
  ·obtain⟨i,s⟩:∃i,i=n-1-k:=⟨_,rfl⟩;obtain rfl:j=(i:Int):=by have:=p.out;omega
   have r:=Lib.hid s;have P:i<=61:=oO;clear s;have S:=sc v i z;have J:Hid (lowF v n (k+1)=lowF v n k++[jx v i]):=by show _=_;rw[r.out];rfl
   have t:Hid ((a++lowF v n k).length<=100000062):=by show _<=_;rw[List.length_append,kB];omega
   generalize jx v i=y at*;have l:Hid (base<=wr.heap.size):=Nat.le_trans hb c.out.size;go_wp2_with(at_builtin;refine aV (f:=vB) (d:=false) wh rfl _ _ _ rfl base 4 A _ 1 Tryz.underlying26 B F G H rfl _ _ (a++lowF v n k) rfl (fa g.out _) (some ⟨wr.heap.size,0,none⟩) 1 1 [y] rfl rfl (RG.one _ _ _ _ rfl) (by unfold maxLen;have:=t.out;omega) (by have:=t.out;omega) (by have:=l.out;simp;omega) ?_;intro N E x hg;have K:Hid (Below base w E):=((c.out.alloc l.out _).grown hg (by have:=l.out;simp;omega) (λq hq=>(g.out.lt q hq).1));have L:=Lib.hid x;clear x hg)
   exact⟨⟨k+1,_,by omega,rfl,by have:=r.out;show _=_;omega,K.out,by
    show World.ownsRow _ _ _ _ _ _ _;rw[J.out,<-List.append_assoc];have e1:(a++lowF v n k++[y]).length=(a++lowF v n k).length+1:=List.length_append
    rw[e1];exact L.out⟩,by simp[intOf]⟩
  ·obtain rfl:k=n:=oO;have Q:decide ((0:Int)<=j)=false:=by have:=p.out;simp;omega
   go_wp2;go_ret;exact⟨_,rfl,g.out,c.out⟩
theorem Im:(Tryz.prog.info? 4).map (·.size)=some 1:=oK
theorem aL (v n:Nat):(aH v n).length=n:=kB v n n
theorem Dm (v n:Nat) (w:World) (g:v<=1000000000000) (hn:n<=62):
 Calls Tryz.prog 59 #[.slice none 0 0,.int .i64 v,.int .i64 n] w (RT vB false w (aH v n,0)):=by
 obtain⟨i,j,k,l,m⟩:=info_parts gZ;have t:∀a:World,(Builtin.copy_ #[26,26] 3 #[.slice (some ⟨w.heap.size,0,none⟩) 0 n,.slice none 0 0]).run Tryz.prog a= .ok (goInt 0) a:=λa=>run_copy_none a _ _ _ 4 _ _ _ _ _ _ Tryz.underlying26 Im oS;go_enter Tryz.func59,Tryz.ntmps59
 go_wp2_with(first
  |(at_make;refine wpList_make_own _ rfl _ _ _ rfl w.heap.size 4 i _ 1 Tryz.underlying26 j k l .i64 .i64 _ n rfl rfl (by first|rfl|omega) (by rw[m];omega) oM (Nat.le_refl _) ?_;intro a f hg;have o:=Lib.hid f;have b:Hid (Below w.heap.size w a):=(Below.refl _ _).grown hg (Nat.le_refl _) (λq hq=>by cases hq);clear f hg)
  |(go_at_call 108;refine(nR w.heap.size [] _ v n _ g hn oS b.out.size o.out).mono ?_;rintro e s ⟨u2,rfl,c,d⟩;have p:=Lib.hid c;have r:=Lib.hid d;clear c d))
 go_ret2
 exact RT.mk rfl (by have h:=p.out;rw[List.nil_append]at h;exact SG.cd h) (b.out.trans r.out)
def numF (b:List Bool) (at_:Nat):Nat->Nat
 |0=>0
 |k+1=>2* numF b at_ k+(if b.getD (at_+k) false then 1 else 0)
theorem ji (b:List Bool) (k j:Nat):numF b k j<2^j:=by
 induction j with
 |zero=>simp[numF]
 |succ j a=>
  have:(if b.getD (k+j) false then 1 else 0)<=1:=by split<;>omega
  show 2* numF b k j+(if b.getD (k+j) false then 1 else 0)<2^(j+1);rw[Nat.pow_succ];omega
theorem M4 (x:Nat) (a:x<=2199023255552):bits BinOp.or IntKind.i64 ((x:Int)* 2) 1=((2* x+1:Nat):Int):=by
 have e:((x:Int)* 2)=((2* x:Nat):Int):=oO;have e2:2* x|||1=2* x+1:=by
  have:=Nat.two_pow_add_eq_or_of_lt (i:=1) (b:=1) oD x;simpa using this.symm
 rw[e];show IntKind.i64.wrap ((BitVec.ofInt 64 ((2* x:Nat):Int)|||BitVec.ofInt 64 ((1:Nat):Int)).toNat:Int)=_;rw[BitVec.toNat_or,lh _ oO,lh 1 oD,e2,IntKind.wrap_i64];omega
theorem rz (A:Option Addr) (n c:Nat) (b:List Bool) (w:World) (hn:n<=40) (hb:SR vB false w A n c b):
 Calls Tryz.prog 109 #[.slice A n c] w λe w'=>e= .returned (.int .i64 ((numF b 0 n:Nat):Int))/\w'=w:=by
 have o:=Lib.hid hb;have i:Hid (n=b.length):=hb.hn;clear hb;go_enter Tryz.func109,Tryz.ntmps109;go_wp2;go_loop [3,8] (λp f=>∃k x:Nat,k<=n/\f= .int .i64 k/\p= .int .i64 x/\x<=2199023255552/\Hid (x=numF b 0 k)) (λ_ f=>n-(intOf f).toNat)
 case atStart=>exact⟨0,0,Nat.zero_le _,rfl,rfl,by omega,rfl⟩
 case round=>
  obtain⟨k,x,u,rfl,rfl,q,j⟩:=hrel;by_cases t:k<n
  ·obtain⟨v,rfl,C,m⟩:=o.out.rd (by rw[<-i.out];omega);have B:=m k (by rw[<-i.out];exact t);clear m;have l:Hid (∀y,b.getD k false=y->numF b 0 (k+1)=2* x+(if y then 1 else 0)):=by
    show∀y,_;rintro y rfl;rw[j.out];show 2* _+(if b.getD (0+k) false then 1 else 0)=_;rw[Nat.zero_add]
   generalize b.getD k false=y at*;cases y with
   |true=>
    have z:=M4 x q;have a:=Lib.hid (l.out true rfl);have g:2* x+1<=2199023255552:=by
     have d:=ji b 0 (k+1);rw[a.out]at d;have r:2^(k+1)<=2^40:=Nat.pow_le_pow_right oO oO;have s:(2:Nat)^40=1099511627776:=by decide
     simp only[if_true]at d;omega
    go_wp2;exact⟨⟨k+1,2* x+1,by omega,by go_num,rfl,g,a.out.symm⟩,by simp[intOf];omega⟩
   |false=>
    have a:=Lib.hid (l.out false rfl);have g:2* x<=2199023255552:=by
     have d:=ji b 0 (k+1);rw[a.out]at d;have r:2^(k+1)<=2^40:=Nat.pow_le_pow_right oO oO;have s:(2:Nat)^40=1099511627776:=by decide
     omega
    go_wp2;exact⟨⟨k+1,2* x,by omega,by go_num,by go_num,g,a.out.symm⟩,by simp[intOf];omega⟩
  ·obtain rfl:k=n:=oO;go_wp2;go_ret;exact⟨by rw[<-j.out];rfl,rfl⟩
theorem RG.drop {α:Type} {f:α->Value} {d:α} {w:World} {a:Addr} {l:List α} (h:RG f d w (some a) l) (k:Nat):RG f d w (some (a.add k)) (l.drop k):=λhn=>by
 rw[List.length_drop]at hn;obtain⟨i,e,b,c⟩:=h oO;injection e with e;subst e;refine⟨_,rfl,by rw[aJ];exact b,λj g=>?_⟩;rw[List.length_drop]at g;rw[Fm,c (k+j) oO];simp[List.getD]
theorem RG.take {α:Type} {f:α->Value} {d:α} {w:World} {A:Option Addr} {l:List α} (h:RG f d w A l) (k:Nat):RG f d w A (l.take k):=λhn=>by
 rw[List.length_take]at hn;obtain⟨a,e,b,c⟩:=h oO;refine⟨a,e,b,λj g=>?_⟩;rw[List.length_take]at g;rw[c j oO];simp only[List.getD];rw[List.getElem?_take_of_lt oO]
theorem nL (b:List Bool) (k n:Nat):∀j,numF (b.drop k) n j=numF b (k+n) j:=by
 intro j
 induction j with
 |zero=>rfl
 |succ j a=>
  show 2* numF (b.drop k) n j+(if(b.drop k).getD (n+j) false then 1 else 0)=2* numF b (k+n) j+(if b.getD (k+n+j) false then 1 else 0);rw[a];congr 2;simp[List.getD,Nat.add_assoc]
theorem Ad (b:List Bool) (k m:Nat):∀j,k+j<=m->numF (b.take m) k j=numF b k j:=by
 intro j
 induction j with
 |zero=>intro _;rfl
 |succ j a=>
  intro h;show 2* numF (b.take m) k j+(if(b.take m).getD (k+j) false then 1 else 0)=2* numF b k j+(if b.getD (k+j) false then 1 else 0);rw[a oO];congr 2;simp only[List.getD];rw[List.getElem?_take_of_lt oO]
def bm (b:List Bool) (at_ n:Nat):Int×Int:=if b.length<at_+n then(0,10)else(((numF b at_ n:Nat):Int),0)
theorem zu (A:Option Addr) (n c m:Nat) (b:List Bool) (w:World) (i:m<=40) (hn:n<=1048576) (hb:SR vB false w A n c b):
 Calls Tryz.prog 67 #[.slice A n c,.int .i64 0,.int .i64 m] w (λe w'=>e= .returned (.tuple #[.int .i64 (bm b 0 m).1,.int .i64 (bm b 0 m).2])/\w'=w):=by
 have f:=Lib.hid hb;have a:Hid (n=b.length):=hb.hn;by_cases k:n<m
 ·have d:Hid (bm b 0 m=(0,10)):=by show _=_;unfold bm;rw[if_pos (by rw[<-a.out];omega)]
  clear hb;go_enter Tryz.func67,Tryz.ntmps67;go_wp2;go_ret2
  rw[d.out];exact⟨rfl,rfl⟩
 ·have d:Hid (bm b 0 m=(((numF b 0 m:Nat):Int),0)):=by show _=_;unfold bm;rw[if_neg (by rw[<-a.out];omega)]
  have l:=hb.hc;clear hb;go_enter Tryz.func67,Tryz.ntmps67;have j:Hid (Calls Tryz.prog 109 #[.slice A m c] w λe w'=>e= .returned (.int .i64 ((numF b 0 m:Nat):Int))/\w'=w):=by
   show Calls _ _ _ _ _;rw[<-Ad b 0 m m oO];exact rz A m c (b.take m) w i ⟨by rw[List.length_take,<-a.out];omega,by omega,f.out.hm,f.out.rd.take m⟩
  go_wp2_with(go_at_call 109;refine j.out.mono ?_;rintro e w' ⟨rfl,g⟩;rw[g];clear g)
  go_ret2
  rw[d.out];exact⟨rfl,rfl⟩
theorem SR.drop {α:Type} {f:α->Value} {d:α} {w:World} {A b:Option Addr} {n c m g:Nat} {l:List α} (h:SR f d w A n c l) (k:m<=n) (i:n=m\/∃a,A=some a/\b=some (a.add m)) (hc:g=c-m):SR f d w b (n-m) g (l.drop m):=by
 have hn:=h.hn;have o:=h.hc;have p:=h.hm;refine⟨by rw[List.length_drop,<-hn],by omega,by omega,?_⟩;rcases i with e|⟨a,rfl,rfl⟩
 ·intro j;rw[List.length_drop]at j;omega
 ·exact h.rd.drop m
def Eb (A:Option Addr) (n c:Nat):List Value:=[.slice A n c,.bool true]
theorem sU {W:World} {b n c:Nat} {A:Option Addr} (h:ak W b (Eb A n c)):W.cell? ⟨b,0,none⟩=some (.slice A n c)/\W.cell? ⟨b,1,none⟩=some (.bool true):=⟨h.2 0 (by simp[Eb]),h.2 1 (by simp[Eb])⟩
theorem JX (a:Nat) (A:Option Addr) (n c:Nat) (w:World) (h:ak w a (Eb A n c)):
 Calls Tryz.prog 181 #[.pointer (some ⟨a,0,none⟩)] w λe w'=>e= .returned (.int .i64 n)/\w'=w:=by
 obtain⟨b,d⟩:=sU h;clear h;go_enter Tryz.func181,Tryz.ntmps181;go_wp2;go_ret;exact⟨rfl,rfl⟩
def lz (s w:Nat):List Bool:=if w/2=0\/w/2=(2^s-1)/2 then aH (w/2) (s-1)else aH w s
def gS (s:Nat) (a:List Int):Nat->List Bool
 |0=>[]
 |k+1=>gS s a k++lz s (a.getD k 0).toNat
theorem Ll (s w:Nat):(lz s w).length<=s:=by
 unfold lz;split
 ·rw[aL];omega
 ·rw[aL];exact Nat.le_refl _
theorem yB (s:Nat) (a:List Int) (k:Nat):(gS s a k).length<=s* k:=by
 induction k with
 |zero=>exact Nat.le_refl _
 |succ k b=>
  show(gS s a k++lz s _).length<=_;rw[List.length_append,Nat.mul_succ];have:=Ll s (a.getD k 0).toNat;omega
def zb (s:Nat) (a:List Int):Bool:=a.all λw=>decide (0<=w)&&decide (w<=((2^s-1:Nat):Int))
def okW (s:Nat) (a:List Int):Bool:=a.all λw=>!(w==0)&&!(w==((2^s-1:Nat):Int))
def aO (a:List Int) (size:Int):List Bool×Int:=
 if size<2\/12<size then([],3)
 else if zb size.toNat a=false then([],3)
 else if 1048576/size<a.length then([],4)
 else if okW size.toNat a=false then([],22)
 else(gS size.toNat a a.length,0)
theorem all_false {α:Type} {p:α->Bool} {d:α} {l:List α} {k:Nat} (a:k<l.length) (h:p (l.getD k d)=false):l.all p=false:=by
 rw[List.all_eq_false];refine⟨l[k],List.getElem_mem a,?_⟩;have e:l.getD k d=l[k]:=by simp[List.getD,a]
 rw[e]at h;rw[h];simp
theorem all_true {α:Type} {p:α->Bool} {d:α} {l:List α} (h:∀j,j<l.length->p (l.getD j d)=true):l.all p=true:=by
 rw[List.all_eq_true];intro x b;obtain⟨j,a,rfl⟩:=List.getElem_of_mem b;have:=h j a;simpa[List.getD,a]using this
theorem Dl (A:Option Addr) (n c s:Nat) (a:List Int) (w:World) (hb:SR vI 0 w A n c a) (r:2<=s) (bb:s<=12):
 Calls Tryz.prog 90 #[.slice A n c,.int .i64 s] w (RT vB false w (aO a s)):=by
 obtain⟨ab,ac,av,a0,a1⟩:=info_parts gZ;have ad:=Lib.hid hb;have o:Hid (n=a.length):=hb.hn;have c9:n<=9223372036854775807:=by have:=hb.hm;have:=hb.hc;unfold maxLen at*;omega
 have co:=AU (j:=s) bb;have cp:=qW bb;have cq:4<=2^s:=by
  have:=Nat.pow_le_pow_right (n:=2) oO r;simpa using this
 have a6:Hid (∀k,k<n->(decide (0<=a.getD k 0)&&decide (a.getD k 0<=((2^s-1:Nat):Int)))=false->aO a s=([],3)):=by
  show∀k,_;intro k u h;unfold aO;have e:zb ((s:Nat):Int).toNat a=false:=all_false (d:=0) (by rw[<-o.out];exact u) h;rw[if_neg oO,if_pos e]
 have a7:Hid ((∀j,j<n->0<=a.getD j 0/\a.getD j 0<=((2^s-1:Nat):Int))->zb s a=true):=by
  show _->_;intro h;refine all_true (d:=0) λj m=>?_;have:=h j (by rw[o.out];exact m);rw[decide_eq_true this.1,decide_eq_true this.2];rfl
 have b4:Hid (zb s a=true->1048576/(s:Int)<(n:Int)->aO a s=([],4)):=by
  show _->_;intro h z;unfold aO;rw[if_neg oO,if_neg (by rw[show((s:Nat):Int).toNat=s from rfl,h];simp),if_pos (by rw[<-o.out];exact z)]
 have a8:Hid (zb s a=true->¬1048576/(s:Int)<(n:Int)->∀k,k<n->(!(a.getD k 0==0)&&!(a.getD k 0==((2^s-1:Nat):Int)))=false->aO a s=([],22)):=by
  show _->_;intro h z k u Q;unfold aO;have e:okW ((s:Nat):Int).toNat a=false:=all_false (d:=0) (by rw[<-o.out];exact u) Q;rw[if_neg oO,if_neg (by rw[show((s:Nat):Int).toNat=s from rfl,h];simp),if_neg (by rw[<-o.out];exact z),if_pos e]
 have a9:Hid (zb s a=true->¬1048576/(s:Int)<(n:Int)->(∀j,j<n->a.getD j 0≠0/\a.getD j 0≠((2^s-1:Nat):Int))->aO a s=(gS s a n,0)):=by
  show _->_;intro h z Q;unfold aO;have e:okW s a=true:=all_true (d:=0) λj m=>by
   have:=Q j (by rw[o.out];exact m);rw[beq_eq_false_iff_ne.2 this.1,beq_eq_false_iff_ne.2 this.2];rfl
  rw[if_neg oO,if_neg (by rw[show((s:Nat):Int).toNat=s from rfl,h];simp),if_neg (by rw[<-o.out];exact z),if_neg (by rw[show((s:Nat):Int).toNat=s from rfl,e];simp),<-o.out];rfl
 obtain⟨M,al⟩:∃M,M=2^s-1:=⟨_,rfl⟩;have ca:=Lib.hid al;rw[<-al]at co a6 a7 a8 a9;have cx:3<=M:=oO;have cN:M<=4095:=oO;have c2:decide ((s:Int)<2)=false:=by simp;omega
 have da:decide ((12:Int)<(s:Int))=false:=by simp;omega
 clear hb al cp cq;go_enter Tryz.func90,Tryz.ntmps90;go_wp2;go_loop [28] (λg=>∃k:Nat,k<=n/\g= .int .i64 k/\Hid (∀j,j<k->0<=a.getD j 0/\a.getD j 0<=(M:Int))) (λg=>n-(intOf g).toNat)
 case atStart=>exact⟨0,Nat.zero_le _,rfl,λj m=>by omega⟩
 case round=>
  obtain⟨k,u,rfl,am⟩:=hrel;by_cases E:k<n
  ·obtain⟨bd,rfl,b5,H⟩:=ad.out.rd (by rw[<-o.out];omega);have a2:=H k (by rw[<-o.out];exact E);clear H;have B:=a6.out k E;have a3:Hid (0<=a.getD k 0/\a.getD k 0<=(M:Int)->∀j,j<k+1->0<=a.getD j 0/\a.getD j 0<=(M:Int)):=by
    show _->_;intro h j m;rcases Nat.lt_or_ge j k with r|r
    ·exact am.out j r
    ·obtain rfl:j=k:=oO;exact h
   generalize a.getD k 0=x at*;by_cases l:0<=x/\x<=(M:Int)
   ·have a4:=Lib.hid (a3.out l);have dd:=l.1;have de:=l.2;clear l B;go_wp2;exact⟨⟨k+1,by omega,by go_num,a4.out⟩,by simp[intOf];omega⟩
   ·have O:=Lib.hid (B (by
     by_cases v:0<=x
     ·rw[decide_eq_true v,decide_eq_false (λh=>l ⟨v,h⟩)];rfl
     ·rw[decide_eq_false v];rfl))
    have cs:x<0\/(0<=x/\(M:Int)<x):=oO;clear l B;rcases cs with l|⟨l,c3⟩
    ·go_wp2;go_ret2
     exact RT.mk O.out (SG.dI _) (Below.refl _ _)
    ·go_wp2;go_ret2
     exact RT.mk O.out (SG.dI _) (Below.refl _ _)
  ·obtain rfl:k=n:=oO;have Y:=Lib.hid (a7.out am.out);clear a6 a7;by_cases hq:1048576/(s:Int)<(k:Int)
   ·have O:=Lib.hid (b4.out Y.out hq);go_wp2;go_ret2
    exact RT.mk O.out (SG.dI _) (Below.refl _ _)
   have b6:Hid (∀j,j<k->(!(a.getD j 0==0)&&!(a.getD j 0==(M:Int)))=false->aO a s=([],22)):=a8.out Y.out (by simpa using hq);have b7:Hid ((∀j,j<k->a.getD j 0≠0/\a.getD j 0≠(M:Int))->aO a s=(gS s a k,0)):=a9.out Y.out (by simpa using hq);have c4:k<=1048576:=by
    have T:1048576/(s:Int)<=1048576:=Int.ediv_le_self _ oO;omega
   have a5:Hid (s* k<=1048576):=by
    have T:(k:Int)<=1048576/(s:Int):=oO;have X:(k:Int)* (s:Int)<=1048576:=(Int.le_ediv_iff_mul_le oO).1 T;show _<=_;rw[Nat.mul_comm];have cb:((k* s:Nat):Int)<=((1048576:Nat):Int):=by rw[Int.natCast_mul];exact X
    exact Int.ofNat_le.1 cb
   clear b4 a8 a9;go_wp2;clear u;generalize k=t at*;go_loop [47] (λg=>∃k:Nat,k<=t/\g= .int .i64 k/\Hid (∀j,j<k->a.getD j 0≠0/\a.getD j 0≠(M:Int))) (λg=>t-(intOf g).toNat)
   case atStart=>exact⟨0,Nat.zero_le _,rfl,λj m=>by omega⟩
   case round=>
    obtain⟨k,u,rfl,be⟩:=hrel;by_cases E:k<t
    ·obtain⟨bd,rfl,b5,H⟩:=ad.out.rd (by rw[<-o.out];omega);have a2:=H k (by rw[<-o.out];exact E);clear H;have B:=b6.out k E;have a3:Hid (a.getD k 0≠0/\a.getD k 0≠(M:Int)->∀j,j<k+1->a.getD j 0≠0/\a.getD j 0≠(M:Int)):=by
      show _->_;intro h j m;rcases Nat.lt_or_ge j k with r|r
      ·exact be.out j r
      ·obtain rfl:j=k:=oO;exact h
     generalize a.getD k 0=x at*;by_cases l:x≠0/\x≠(M:Int)
     ·have a4:=Lib.hid (a3.out l);have ce:(x==0)=false:=beq_eq_false_iff_ne.2 l.1;have ch:(x==(M:Int))=false:=beq_eq_false_iff_ne.2 l.2;clear l B;go_wp2;exact⟨⟨k+1,by omega,by go_num,a4.out⟩,by simp[intOf];omega⟩
     ·have O:=Lib.hid (B (by
       by_cases v:x=0
       ·rw[beq_iff_eq.2 v];rfl
       ·have:x=(M:Int):=by
         by_cases r:x=(M:Int)
         ·exact r
         ·exact absurd ⟨v,r⟩ l
        rw[beq_iff_eq.2 this,Bool.not_true,Bool.and_false]))
      by_cases v:x=0
      ·subst v;clear l B;go_wp2;go_ret2
       exact RT.mk O.out (SG.dI _) (Below.refl _ _)
      ·have ce:(x==0)=false:=beq_eq_false_iff_ne.2 v;have ch:(x==(M:Int))=true:=by
        rw[beq_iff_eq];by_cases r:x=(M:Int)
        ·exact r
        ·exact absurd ⟨v,r⟩ l
       clear l B v;go_wp2;go_ret2
       exact RT.mk O.out (SG.dI _) (Below.refl _ _)
    ·obtain rfl:k=t:=oO;have ci:=Lib.hid (b7.out be.out);clear b6 b7;have cv:Hid (∀j,j<k->0<=a.getD j 0/\a.getD j 0<=(M:Int)):=am.out;clear Y;go_wp2;clear u;generalize k=t at*;go_loopw [11,61] (λP g wr=>∃k:Nat,k<=t/\g= .int .i64 k/\Hid (OG vB 4 w wr P (gS s a k))) (λ_ g _=>t-(intOf g).toNat)
     case atStart=>exact⟨0,Nat.zero_le _,rfl,OG.start _ _⟩
     case round=>
      obtain⟨k,u,rfl,S⟩:=hrel;by_cases E:k<t
      ·obtain⟨bd,rfl,b5,H⟩:=(ad.out.below S.out.B).rd (by rw[<-o.out];omega);have a2:=H k (by rw[<-o.out];exact E);clear H;obtain⟨z,Q⟩:=cv.out k E;obtain⟨N,ap⟩:=Int.eq_ofNat_of_zero_le z;have bt:Hid (gS s a (k+1)=gS s a k++lz s N):=by
        show gS s a k++lz s (a.getD k 0).toNat=_;rw[ap];rfl
       rw[ap]at a2 Q;clear z ap;have c5:N<=M:=oO;clear Q;obtain⟨F,hF⟩:∃F,F=N/2:=⟨_,rfl⟩;obtain⟨G,bv⟩:∃G,G=M/2:=⟨_,rfl⟩;obtain⟨b,bf⟩:∃b,b=s-1:=⟨_,rfl⟩;have e1:(N:Int)/2=(F:Int):=oO;have e2:(M:Int)/2=(G:Int):=oO;have e3:((s:Int)-1)=(b:Int):=oO;have c6:F<=4095:=oO;have c7:1<=b:=oO;have c8:b<=11:=oO;have bx:Hid (lz s N=if F=0\/F=G then aH F b else aH N s):=by
        show _=_;unfold lz;rw[<-ca.out,<-hF,<-bv,<-bf]
       clear hF bv bf;by_cases U:F=0\/F=G
       ·have Z:Hid (gS s a (k+1)=gS s a k++lowF F b b):=by show _=_;rw[bt.out,bx.out,if_pos U];rfl
        by_cases bz:F=0
        ·have bi:((F:Int)==0)=true:=by rw[beq_iff_eq];omega
         clear U bz;go_wp2;obtain⟨C,rfl⟩:∃C:World,C=wr:=⟨_,rfl⟩;go_loopw [11,16] (λP g wr=>∃(q:Nat) (j:Int),q<=b/\g= .int .i64 j/\Hid (j=(b:Int)-1-q)/\Hid (OG vB 4 w wr P (gS s a k++lowF F b q))) (λ_ g _=>(intOf g+1).toNat)
         case atStart=>exact⟨0,_,Nat.zero_le _,rfl,by show _=_;omega,by show OG _ _ _ _ _ _;rw[show lowF F b 0=[]from rfl,List.append_nil];exact S.out⟩
         case round=>
          obtain⟨q,j,b1,rfl,m,p⟩:=hrel;by_cases b8:q<b
          ·obtain⟨i,J⟩:∃i,i=b-1-q:=⟨_,rfl⟩;obtain rfl:j=(i:Int):=by have:=m.out;omega
           have D:=Lib.hid J;have b2:i<=61:=oO;clear J;have b9:=sc F i oO;have W:Hid (gS s a k++lowF F b (q+1)=(gS s a k++lowF F b q)++[jx F i]):=by show _=_;rw[D.out,List.append_assoc];rfl
           have K:Hid ((gS s a k++lowF F b q).length<=100000000):=by
            show _<=_;rw[List.length_append,kB];have T:=yB s a k;have X:s* k<=s* t:=Nat.mul_le_mul_left s u;have bo:=a5.out;omega
           generalize jx F i=y at*;go_wp2_with(at_builtin;refine aV (f:=vB) (d:=false) wh rfl _ _ _ rfl w.heap.size 4 ab _ 1 Tryz.underlying26 ac av a0 a1 rfl _ _ (gS s a k++lowF F b q) rfl (fa p.out.O _) (some ⟨wr.heap.size,0,none⟩) 1 1 [y] rfl rfl (RG.one _ _ _ _ rfl) (by unfold maxLen;have:=K.out;omega) (by have:=K.out;omega) (by have:=p.out.B.size;simp;omega) ?_;intro bq bs L hg;have V:=Lib.hid (p.out.grow (ax _ _) L hg);clear L hg)
           exact⟨⟨q+1,_,by omega,rfl,by have:=D.out;show _=_;omega,by rw[W.out];exact V.out⟩,by simp[intOf]⟩
          ·obtain rfl:q=b:=oO;have b3:decide ((0:Int)<=j)=false:=by have:=m.out;simp;omega
           go_wp2;exact⟨⟨k+1,by omega,by go_num,by rw[Z.out];exact p.out⟩,by simp[intOf];omega⟩
        ·have bi:((F:Int)==0)=false:=by rw[beq_eq_false_iff_ne];omega
         have ck:((F:Int)==(G:Int))=true:=by rw[beq_iff_eq];omega
         clear U bz;go_wp2;obtain⟨C,rfl⟩:∃C:World,C=wr:=⟨_,rfl⟩;go_loopw [11,16] (λP g wr=>∃(q:Nat) (j:Int),q<=b/\g= .int .i64 j/\Hid (j=(b:Int)-1-q)/\Hid (OG vB 4 w wr P (gS s a k++lowF F b q))) (λ_ g _=>(intOf g+1).toNat)
         case atStart=>exact⟨0,_,Nat.zero_le _,rfl,by show _=_;omega,by show OG _ _ _ _ _ _;rw[show lowF F b 0=[]from rfl,List.append_nil];exact S.out⟩
         case round=>
          obtain⟨q,j,b1,rfl,m,p⟩:=hrel;by_cases b8:q<b
          ·obtain⟨i,J⟩:∃i,i=b-1-q:=⟨_,rfl⟩;obtain rfl:j=(i:Int):=by have:=m.out;omega
           have D:=Lib.hid J;have b2:i<=61:=oO;clear J;have b9:=sc F i oO;have W:Hid (gS s a k++lowF F b (q+1)=(gS s a k++lowF F b q)++[jx F i]):=by show _=_;rw[D.out,List.append_assoc];rfl
           have K:Hid ((gS s a k++lowF F b q).length<=100000000):=by
            show _<=_;rw[List.length_append,kB];have T:=yB s a k;have X:s* k<=s* t:=Nat.mul_le_mul_left s u;have bo:=a5.out;omega
           generalize jx F i=y at*;go_wp2_with(at_builtin;refine aV (f:=vB) (d:=false) wh rfl _ _ _ rfl w.heap.size 4 ab _ 1 Tryz.underlying26 ac av a0 a1 rfl _ _ (gS s a k++lowF F b q) rfl (fa p.out.O _) (some ⟨wr.heap.size,0,none⟩) 1 1 [y] rfl rfl (RG.one _ _ _ _ rfl) (by unfold maxLen;have:=K.out;omega) (by have:=K.out;omega) (by have:=p.out.B.size;simp;omega) ?_;intro bq bs L hg;have V:=Lib.hid (p.out.grow (ax _ _) L hg);clear L hg)
           exact⟨⟨q+1,_,by omega,rfl,by have:=D.out;show _=_;omega,by rw[W.out];exact V.out⟩,by simp[intOf]⟩
          ·obtain rfl:q=b:=oO;have b3:decide ((0:Int)<=j)=false:=by have:=m.out;simp;omega
           go_wp2;exact⟨⟨k+1,by omega,by go_num,by rw[Z.out];exact p.out⟩,by simp[intOf];omega⟩
       ·have Z:Hid (gS s a (k+1)=gS s a k++lowF N s s):=by show _=_;rw[bt.out,bx.out,if_neg U];rfl
        have bi:((F:Int)==0)=false:=by rw[beq_eq_false_iff_ne];omega
        have ck:((F:Int)==(G:Int))=false:=by rw[beq_eq_false_iff_ne];omega
        clear U;go_wp2;obtain⟨C,rfl⟩:∃C:World,C=wr:=⟨_,rfl⟩;go_loopw [11,16] (λP g wr=>∃(q:Nat) (j:Int),q<=s/\g= .int .i64 j/\Hid (j=(s:Int)-1-q)/\Hid (OG vB 4 w wr P (gS s a k++lowF N s q))) (λ_ g _=>(intOf g+1).toNat)
        case atStart=>exact⟨0,_,Nat.zero_le _,rfl,by show _=_;omega,by show OG _ _ _ _ _ _;rw[show lowF N s 0=[]from rfl,List.append_nil];exact S.out⟩
        case round=>
         obtain⟨q,j,b1,rfl,m,p⟩:=hrel;by_cases b8:q<s
         ·obtain⟨i,J⟩:∃i,i=s-1-q:=⟨_,rfl⟩;obtain rfl:j=(i:Int):=by have:=m.out;omega
          have D:=Lib.hid J;have b2:i<=61:=oO;clear J;have b9:=sc N i oO;have W:Hid (gS s a k++lowF N s (q+1)=(gS s a k++lowF N s q)++[jx N i]):=by show _=_;rw[D.out,List.append_assoc];rfl
          have K:Hid ((gS s a k++lowF N s q).length<=100000000):=by
           show _<=_;rw[List.length_append,kB];have T:=yB s a k;have X:s* k<=s* t:=Nat.mul_le_mul_left s u;have bo:=a5.out;omega
          generalize jx N i=y at*;go_wp2_with(at_builtin;refine aV (f:=vB) (d:=false) wh rfl _ _ _ rfl w.heap.size 4 ab _ 1 Tryz.underlying26 ac av a0 a1 rfl _ _ (gS s a k++lowF N s q) rfl (fa p.out.O _) (some ⟨wr.heap.size,0,none⟩) 1 1 [y] rfl rfl (RG.one _ _ _ _ rfl) (by unfold maxLen;have:=K.out;omega) (by have:=K.out;omega) (by have:=p.out.B.size;simp;omega) ?_;intro bq bs L hg;have V:=Lib.hid (p.out.grow (ax _ _) L hg);clear L hg)
          exact⟨⟨q+1,_,by omega,rfl,by have:=D.out;show _=_;omega,by rw[W.out];exact V.out⟩,by simp[intOf]⟩
         ·obtain rfl:q=s:=oO;have b3:decide ((0:Int)<=j)=false:=by have:=m.out;simp;omega
          go_wp2;exact⟨⟨k+1,by omega,by go_num,by rw[Z.out];exact p.out⟩,by simp[intOf];omega⟩
      ·obtain rfl:k=t:=oO;go_wp2;go_ret2
       exact RT.mk ci.out S.out.sg S.out.B
section
variable {P : Program}
def aggD (d:TypeDesc):Bool:=match d with|.struct _|.array _ _=>true|_=>false
theorem xd (w:World) (a:TypeId) (d:TypeDesc) (b:P.underlying a=some d) (c:aggD d=true):(isAgg a).run P w= .ok true w:=by
 unfold isAgg;rw[Sem.run_bind,run_underlying b];cases d<;>simp_all[aggD,Result.andThen]
theorem gF (w:World) (b:TypeId) (d:TypeDesc) (a:Addr) (c:List Value) (f:P.underlying b=some d) (g:aggD d=true) (e:(P.info? b).map (·.size)=some c.length)
 (h:∀j v,c[j]?=some v->w.cell? (a.add j)=some v):(loadVar b a).run P w= .ok (.agg c.toArray) w:=by
 have hl:=run_loadCells_list (P:=P) w a c h;cases hq:P.info? b with
 |none=>simp[hq]at e
 |some i=>
  have hs:i.size=c.length:=by simp[hq]at e;exact e
  unfold loadVar;rw[Sem.run_bind,xd w b d f g];simp[Result.andThen,sizeOf,typeInfo,hq,hs,hl]
theorem kq (w:World) (f d:TypeId) (g b:Nat) (c:Array Value) (a:List Value) (hg:w.heap[g]?=some (.cells c f (0,0))) (e:(P.info? d).map (·.size)=some a.length)
 (l:b+a.length<=c.size) (k:∀v∈a,v.oneCell'=true):
 (storeVar d ⟨g,b,none⟩ (.agg a.toArray)).run P w= .ok () (w.setRow g (splice c.toList b a).toArray):=by
 have j:=run_storeCells_at (P:=P) g b f a 0 c w hg (by simpa using l) k;cases hq:P.info? d with
 |none=>simp[hq]at e
 |some i=>
  have hs:i.size=a.length:=by simp[hq]at e;exact e
  unfold splice;simp only[Nat.add_zero,List.append_assoc]at j;simp[storeVar,sizeOf,typeInfo,hq,Value.cells,hs,j]
theorem bj {w:World} {g:Array Oper} {i:List Oper} {b:Oper} {a:Act} {Q:Exit->Act->World->Prop} (s:b.guard=none) (c:TypeId) (p:Operand) (k:b.op= .load c p)
 (d:TypeDesc) (l:P.underlying c=some d) (m:aggD d=true) (f:Addr) (e:List Value) (n:(P.info? c).map (·.size)=some e.length) (o:a.eval p= .pointer (some f))
 (h:∀j v,e[j]?=some v->w.cell? (f.add j)=some v) (q:wpList P g Q i (a.put b.dst (.agg e.toArray)) w):wpList P g Q (b::i) a w:=by
 refine wpList_plain s λK r=>?_;have t:=gF (P:=P) w c d f e l m n h;unfold Oper.wp execOp;simp only[k,o,Instr.loadAt,Instr.sureAddr,Sem.run_bind,Sem.run_pure,Result.andThen_ok,t];exact r _ _ q
theorem bT {w:World} {j:Array Oper} {k:List Oper} {c:Oper} {a:Act} {Q:Exit->Act->World->Prop} (t:c.guard=none) (e:TypeId) (p x:Operand) (l:c.op= .store e p x)
 (i:TypeId) (g f:Nat) (d:Array Value) (b:List Value) (m:a.eval p= .pointer (some ⟨g,f,none⟩)) (n:a.eval x= .agg b.toArray) (hg:w.heap[g]?=some (.cells d i (0,0))) (o:(P.info? e).map (·.size)=some b.length)
 (u:f+b.length<=d.size) (q:∀v∈b,v.oneCell'=true)
 (r:wpList P j Q k (a.put c.dst undef) (w.setRow g (splice d.toList f b).toArray)):wpList P j Q (c::k) a w:=by
 refine wpList_plain t λK s=>?_;have y:=kq (P:=P) w i e g f d b hg o u q;unfold Oper.wp execOp;simp only[l,m,n,Instr.storeAt,Instr.sureAddr,Sem.run_bind,Sem.run_pure,Result.andThen_ok,y];exact s _ _ r
theorem Bt (w:World) (a:TypeId) (d:TypeDesc) (e:Array Value) (b n:Nat) (f:P.underlying a=some d) (g:aggD d=true) (c:(P.info? a).map (·.size)=some n):
 (part a e b).run P w= .ok (.agg (e.extract b (b+n))) w:=by
 cases hq:P.info? a with
 |none=>simp[hq]at c
 |some i=>
  have hs:i.size=n:=by simp[hq]at c;exact c
  unfold part;rw[Sem.run_bind,xd w a d f g];simp[Result.andThen,sizeOf,typeInfo,hq,hs]
theorem dR {w:World} {m:Array Oper} {o:List Oper} {b:Oper} {a:Act} {Q:Exit->Act->World->Prop} (A:b.guard=none) (g:TypeId) (x i:Operand) (p:b.op= .index g x i)
 (len:Nat) (e:TypeId) (r:P.underlying g=some (.array len e)) (d:TypeDesc) (B:P.underlying e=some d) (s:aggD d=true) (n:Nat) (c:(P.info? e).map (·.size)=some n)
 (f:Array Value) (k:IntKind) (I:Int) (j:Nat) (t:a.eval x= .agg f) (u:a.eval i= .int k I) (v:I=(j:Int)) (F:j<len) (l:Array Value) (C:f.extract (j* n) (j* n+n)=l)
 (y:wpList P m Q o (a.put b.dst (.agg l)) w):wpList P m Q (b::o) a w:=by
 refine wpList_plain A λK z=>?_;subst v C;have E:=Bt (P:=P) w e d f (j* n) n B s c;have D:(sizeOf e).run P w= .ok n w:=by
  cases hq:P.info? e with
  |none=>simp[hq]at c
  |some q=>simp[hq]at c;simp[sizeOf,typeInfo,hq,c]
 have hc:(0:Int)<=(j:Int)/\(j:Int)<(len:Int):=oO;unfold Oper.wp execOp;simp only[p,t,u,Instr.index,asIntOf,Sem.run_bind,Sem.run_pure,Result.andThen_ok,run_underlying r,if_pos hc,D,Int.toNat_natCast,E];exact z _ _ y
theorem aM {w:World} {f:Array Oper} {g:List Oper} {c:Oper} {a:Act} {Q:Exit->Act->World->Prop} (m:c.guard=none) (b:TypeId) (j:c.op= .alloc b)
 (d:Array Value) (e:(P.info? b).map (·.zero)=some (some (.agg d)))
 (k:wpList P f Q g (a.put c.dst (.pointer (some ⟨w.heap.size,0,none⟩))) (w.alloc (.cells d b))):wpList P f Q (c::g) a w:=by
 refine wpList_plain m λK l=>?_;cases hq:P.info? b with
 |none=>simp[hq]at e
 |some i=>
  have n:i.zero=some (.agg d):=by simpa[hq]using e
  unfold Oper.wp execOp;simp only[j];have o:(Instr.alloc b true (.tuple #[])).run P w= .ok (.pointer (some ⟨w.heap.size,0,none⟩)) (w.alloc (.cells d b)):=by
   simp[Instr.alloc,zeroValue,typeInfo,hq,n,newVar,newRow,Value.cells]
  simp only[Sem.run_bind,Sem.run_pure,Result.andThen_ok,o];exact l _ _ k
theorem iG {w:World} {l:Array Oper} {m:List Oper} {b:Oper} {a:Act} {Q:Exit->Act->World->Prop} (z:b.guard=none) (g:TypeId) (x i:Operand) (n:b.op= .index g x i)
 (len:Nat) (e:TypeId) (o:P.underlying g=some (.array len e)) (d:TypeDesc) (A:P.underlying e=some d) (E:aggD d=false) (c:(P.info? e).map (·.size)=some 1)
 (f:Array Value) (k:IntKind) (I:Int) (j:Nat) (p:a.eval x= .agg f) (r:a.eval i= .int k I) (s:I=(j:Int)) (F:j<len) (v:Value) (t:f[j]?=some v)
 (u:wpList P l Q m (a.put b.dst v) w):wpList P l Q (b::m) a w:=by
 refine wpList_plain z λK y=>?_;subst s;have B:(isAgg e).run P w= .ok false w:=by
  unfold isAgg;rw[Sem.run_bind,run_underlying A];cases d<;>simp_all[aggD,Result.andThen]
 have C:(sizeOf e).run P w= .ok 1 w:=by
  cases hq:P.info? e with
  |none=>simp[hq]at c
  |some q=>simp[hq]at c;simp[sizeOf,typeInfo,hq,c]
 have D:(part e f (j* 1)).run P w= .ok v w:=by
  unfold part;rw[Sem.run_bind,B];simp[Result.andThen,t]
 have hc:(0:Int)<=(j:Int)/\(j:Int)<(len:Int):=oO;unfold Oper.wp execOp;simp only[n,p,r,Instr.index,asIntOf,Sem.run_bind,Sem.run_pure,Result.andThen_ok,run_underlying o,if_pos hc,C,Int.toNat_natCast,D];exact y _ _ u
end
def aa (w:World) (g:Nat) (b:Array Value) (a:TypeId):Prop:=w.heap[g]?=some (.cells b a (0,0))
theorem aa.below {W b:World} {g:Nat} {c:Array Value} {a:TypeId} (h:aa W g c a) (hb:Below W.heap.size W b):aa b g c a:=(hb.block _ (ar h)).trans h
theorem aa.cell {w:World} {g:Nat} {a:Array Value} {b:TypeId} (h:aa w g a b) (j:Nat) (v:Value) (c:a[j]?=some v):w.cell? ⟨g,j,none⟩=some v:=by
 rw[cell_of_row _ _ j a b (0,0) h];exact c
theorem aa.set {w:World} {g:Nat} {c:Array Value} {a:TypeId} (h:aa w g c a) (b:Array Value):aa (w.setRow g b) g b a:=setRow_heap w g c b a (0,0) h
theorem aa.other {w:World} {g a:Nat} {d:Array Value} {b:TypeId} (h:aa w g d b) (c:Array Value) (e:g≠a):aa (w.setRow a c) g d b:=(setRow_other w a g c e).trans h
theorem qF {α:Type} {f:α->Value} (a:World) (xs:List α) (e:TypeId) (n:Nat) (hn:n=xs.length) (b:n<=maxLen):(a.alloc (.cells (xs.map f).toArray e)).ownsRow a.heap.size e 1 (.slice (some ⟨a.heap.size,0,none⟩) n n) n (xs.map f):=by
 refine⟨by simp[hn],.inr ⟨a.heap.size,n,(xs.map f).toArray,rfl,Nat.le_refl _,heap_alloc_new a _,Nat.le_refl _,b,by simp[hn],by show List.take (n* 1) (xs.map f)=_;exact List.take_of_length_le (by simp[hn])⟩⟩
theorem ny (s:ByteArray) (w:World) (hs:s.size<=1000) (a:s.data.toList.all (λb=>decide (b.toNat<128))=true):
 Calls Tryz.prog 178 #[.string s,.string ByteArray.empty] w λe w'=>∃A c,e= .returned (.slice A s.size c)/\SR Value.string ByteArray.empty w' A s.size c (Lib.charsB s)/\Below w.heap.size w w':=by
 have hl:s.size=(Lib.charsB s).length:=(Lib.charsUpTo_length s s.size).symm;refine(Tryz.strings_Split_chars s ByteArray.empty w rfl oO (λj b hb=>?_)).mono ?_
 ·rw[List.all_eq_true]at a;exact of_decide_eq_true (a b (List.mem_of_getElem? hb))
 ·rintro e w' ⟨rfl,rfl⟩;exact⟨_,_,rfl,SR.lit (w.iter s s.size) (Lib.charsB s) 9 _ _ rfl hl oM,(ax w _).trans ((ax _ _).mono (by show _<=(w.heap.push _).size;simp))⟩
abbrev G5:ByteArray:=⟨#[65,66,67,68,69,70,71,72,73,74,75,76,77,78,79,80,81,82,83,84,85,86,87,88,89,90]⟩
abbrev IA:ByteArray:=⟨#[97,98,99,100,101,102,103,104,105,106,107,108,109,110,111,112,113,114,115,116,117,118,119,120,121,122]⟩
abbrev Gp:ByteArray:=⟨#[1,2,3,4,5,6,7,8,9,10,11,12,13,27,28,29,30,31,64,92,94,95,96,124,126,127]⟩
abbrev GQ:ByteArray:=⟨#[33,34,35,36,37,38,39,40,41,42,43,44,45,46,47,58,59,60,61,62,63,91,93,123,125]⟩
abbrev DW:ByteArray:=⟨#[48,49,50,51,52,53,54,55,56,57,44,46]⟩
abbrev nK:ByteArray:=⟨#[32]⟩
abbrev KJ:List ByteArray:=[⟨#[13]⟩,⟨#[13,10]⟩,⟨#[46,32]⟩,⟨#[44,32]⟩,⟨#[58,32]⟩]
def texts:Nat->List ByteArray
 |0=>[nK]++Lib.charsB G5
 |1=>[nK]++Lib.charsB IA
 |2=>[nK]++Lib.charsB Gp
 |3=>KJ++Lib.charsB GQ
 |_=>[nK]++Lib.charsB DW
abbrev mc (kind a:Int) (text:ByteArray):List Value:=[.int .i64 kind,.int .i64 a,.string text]
def cg:Array Value:=(List.replicate 160 (mc 0 0 ByteArray.empty)).flatten.toArray
theorem CW:(Tryz.prog.info? 170).map (·.zero)=some (some (.agg cg)):=oK
def gI (a:Array Value) (i:Nat) (c:List Value):Array Value:=(splice a.toList (3* i) c).toArray
theorem Ih (a:Array Value) (i:Nat) (c:List Value) (h:3* i+c.length<=a.size):(gI a i c).size=a.size:=by
 unfold gI;rw[List.size_toArray,length_splice _ _ _ (by simpa using h)];simp
def vE (a:Array Value) (l:List ByteArray) (base:Nat):Nat->Array Value
 |0=>a
 |j+1=>gI (vE a l base j) (base+j+1) (mc 1 0 (l.getD j ByteArray.empty))
def rY:Nat->Array Value
 |0=>cg
 |k+1=>vE (rY k) (texts k) (32* k) (texts k).length
theorem oW:cg.size=480:=oK
theorem Ik:∀k,(texts k).length<=31
 |0=>by decide
 |1=>by decide
 |2=>by decide
 |3=>by decide
 |_+4=>by show([nK]++Lib.charsB DW).length<=31;decide
theorem DQ (w:World) (g:Nat) (c:Array Value) (a:Addr) (h:a.block≠g):(w.setRow g c).cell? a=w.cell? a:=by
 unfold World.cell?;rw[setRow_other w g a.block c h]
theorem eX (k m:Int) (b:ByteArray):∀v∈mc k m b,v.oneCell'=true:=by
 intro v a;simp only[List.mem_cons,List.not_mem_nil,or_false]at a;rcases a with rfl|rfl|rfl<;>rfl
theorem Ff {α:Type} (l:List α) (i:Nat) (c:List α) (v:α) (h:v∈splice l i c):v∈l\/v∈c:=by
 unfold splice at h;simp only[List.mem_append]at h;rcases h with h|h|h
 ·exact .inl (List.mem_of_mem_take h)
 ·exact .inr h
 ·exact .inl (List.mem_of_mem_drop h)
structure TS (w wr:World) (cs a:Array Value):Prop where
 B:Below w.heap.size w wr
 R0:aa wr w.heap.size cg 170
 R1:aa wr (w.heap.size+1) a 170
 X:∀k,k<5->∃A n c,cs[k]?=some (.slice A n c)/\SR Value.string ByteArray.empty wr A n c (texts k)/\∀b,A=some b->w.heap.size+2<=b.block
 Z:a.size=480
 O:∀v∈a.toList,v.oneCell'=true
theorem TS.fit {w wr:World} {b a:Array Value} (h:TS w wr b a) {f:Nat} {ce:List Value} (c:ce.length=3) (d:f+3<=480):f+ce.length<=a.size:=by rw[c,h.Z];exact d
theorem TS.put {w wr:World} {d b:Array Value} (h:TS w wr d b) (f i:Nat) (ce:List Value) (p:f=3* i) (x:i<160) (g:ce.length=3) (a:∀v∈ce,v.oneCell'=true):
 TS w (wr.setRow (w.heap.size+1) (splice b.toList f ce).toArray) d (gI b i ce):=by
 subst p;show TS w (wr.setRow (w.heap.size+1) (gI b i ce)) d (gI b i ce);refine⟨below_setRow h.B oO _,h.R0.other _ oO,h.R1.set _,λk q=>?_,?_,λv r=>?_⟩
 ·obtain⟨A,n,c,g,a,m⟩:=h.X k q;refine⟨A,n,c,g,⟨a.hn,a.hc,a.hm,λhn=>?_⟩,m⟩;obtain⟨o,e,s,t⟩:=a.rd hn;have y:=m o e;refine⟨o,e,by rw[size_setRow];exact s,λj u=>?_⟩;rw[DQ _ _ _ _ (by rw[aJ];omega)];exact t j u
 ·rw[Ih _ _ _ (by rw[g,h.Z];omega),h.Z]
 ·rcases Ff _ _ _ _ (by simpa[gI]using r)with l|l
  ·exact h.O v l
  ·exact a v l
theorem TS.NV {w wr:World} {b a:Array Value} (h:TS w wr b a) (f:Nat) (ce:List Value) (e:f%3=0) (g:f<480) (c:ce.length=3) (d:∀v∈ce,v.oneCell'=true):
 TS w (wr.setRow (w.heap.size+1) (splice a.toList f ce).toArray) b (gI a (f/3) ce):=h.put f _ ce oO oO c d
theorem DG:∀v∈cg.toList,v.oneCell'=true:=by
 intro v a;simp only[cg,List.mem_flatten]at a;obtain⟨l,hl,a⟩:=a;rw[List.eq_of_mem_replicate hl]at a;exact eX _ _ _ v a
def shN:Nat->Nat
 |0=>0
 |1=>1
 |2=>2
 |_=>4
theorem Ir (k:Nat):shN k<5:=by unfold shN;split<;>omega
def vQ:Nat->Array Value
 |0=>rY 5
 |k+1=>gI (vQ k) (32* shN k) (mc 3 3 ByteArray.empty)
def s8:Nat->Array Value
 |0=>vQ 4
 |k+1=>gI (s8 k) (32* k+31) (mc 4 0 ByteArray.empty)
def eg:Array Value:=gI (gI (gI (gI (gI (gI (gI (gI (gI (gI (gI (gI (s8 3) (84/3) (mc 2 1 ByteArray.empty)) (87/3) (mc 2 2 ByteArray.empty)) (90/3) (mc 2 4 ByteArray.empty)) (180/3) (mc 3 0 ByteArray.empty)) (183/3) (mc 2 2 ByteArray.empty)) (186/3) (mc 2 4 ByteArray.empty)) (276/3) (mc 2 1 ByteArray.empty)) (279/3) (mc 2 0 ByteArray.empty)) (282/3) (mc 2 3 ByteArray.empty)) (381/3) (mc 2 0 ByteArray.empty)) (426/3) (mc 2 0 ByteArray.empty)) (429/3) (mc 3 0 ByteArray.empty)
theorem KZ:(Tryz.prog.info? 3).map (·.size)=some 1:=oK
theorem AG:(Tryz.prog.info? 170).map (·.size)=some 480:=oK
theorem Nb:(Tryz.prog.info? 170).map (·.size)=some eg.size:=oK
theorem TS.fin {w wr:World} {b a:Array Value} (h:TS w wr b a):0+a.toList.length<=cg.size:=by rw[oW,Array.length_toList,h.Z];omega
theorem TS.AG {w wr:World} {b a:Array Value} (h:TS w wr b a):(Tryz.prog.info? 170).map (·.size)=some a.toList.length:=by rw[Array.length_toList,h.Z];exact _root_.Go.Proofs.YtmnlkganmgcpbaaGreatDoor.AG
theorem TS.last {w wr:World} {b a:Array Value} (h:TS w wr b a):aa (wr.setRow w.heap.size (splice cg.toList 0 a.toList).toArray) w.heap.size a 170/\Below w.heap.size w (wr.setRow w.heap.size (splice cg.toList 0 a.toList).toArray):=by
 have e:(splice cg.toList 0 a.toList).toArray=a:=by
  unfold splice;rw[List.take_zero,List.nil_append,List.drop_eq_nil_of_le (by simp[h.Z,oW]),List.append_nil]
 rw[e];exact⟨h.R0.set _,below_setRow h.B (Nat.le_refl _) _⟩
theorem di:(Tryz.prog.info? 168).map (·.size)=some 3:=oK
theorem LB:(Tryz.prog.info? 214).map (·.size)=some 1:=oK
theorem FJ {j:Array Oper} {k:List Oper} {b:Oper} {a:Act} {Q:Exit->Act->World->Prop} {w wr:World} {e d:Array Value} (h:TS w wr e d) (s:b.guard=none) (p x:Operand) (l:b.op= .store 168 p x)
 (f:Nat) (ce:List Value) (m:a.eval p= .pointer (some ⟨w.heap.size+1,f,none⟩)) (n:a.eval x= .agg ce.toArray) (c:ce.length=3) (g:∀v∈ce,v.oneCell'=true) (o:f%3=0) (q:f<480)
 (r:∀i,Hid (TS w i e (gI d (f/3) ce))->wpList Tryz.prog j Q k (a.put b.dst undef) i):wpList Tryz.prog j Q (b::k) a wr:=
 bT s 168 p x l 170 (w.heap.size+1) f d ce m n h.R1 (by rw[c];exact di) (h.fit c oO) g (r _ (h.NV f ce o q c g))
theorem BU {e:Array Oper} {f:List Oper} {b:Oper} {a:Act} {Q:Exit->Act->World->Prop} {w wr:World} {g c:Array Value} (h:TS w wr g c) (l:b.guard=none) (p:Operand) (i:b.op= .load 170 p)
 (j:a.eval p= .pointer (some ⟨w.heap.size+1,0,none⟩))
 (k:∀d,Hid (d=c)->wpList Tryz.prog e Q f (a.put b.dst (.agg d)) wr):wpList Tryz.prog e Q (b::f) a wr:=
 wpList_load_row l 170 p i (w.heap.size+1) j 170 c (0,0) _ h.R1 Tryz.underlying170 rfl (by rw[h.Z];exact AG) (k _ rfl)
theorem AB {e:Array Oper} {g:List Oper} {b:Oper} {a:Act} {Q:Exit->Act->World->Prop} {w wr:World} {i f c:Array Value} (h:TS w wr i f) (hc:c=f) (n:b.guard=none) (p x:Operand) (j:b.op= .store 170 p x)
 (k:a.eval p= .pointer (some ⟨w.heap.size,0,none⟩)) (l:a.eval x= .agg c)
 (m:∀d,Hid (aa d w.heap.size c 170/\Below w.heap.size w d)->wpList Tryz.prog e Q g (a.put b.dst undef) d):wpList Tryz.prog e Q (b::g) a wr:=by
 subst hc;exact bT n 170 p x j 170 w.heap.size 0 cg c.toList k l h.R0 h.AG h.fin h.O (m _ h.last)
theorem lf (w:World):
 Calls Tryz.prog 129 #[] w λe w'=>e= .returned (.agg eg)/\Below w.heap.size w w':=by
 obtain⟨S,T,V,X,Y⟩:=info_parts Lp;go_enter Tryz.func129,Tryz.ntmps129;go_wp2_with(refine aM rfl 170 rfl cg CW ?_)
 have b7:Hid (aa ((w.alloc (.cells cg 170)).alloc (.cells cg 170)) w.heap.size cg 170):=aa.below (W:=w.alloc (.cells cg 170)) (heap_alloc_new _ _) (ax _ _);have b8:Hid (aa ((w.alloc (.cells cg 170)).alloc (.cells cg 170)) (w.heap.size+1) cg 170):=by
  have h:=heap_alloc_new (w.alloc (.cells cg 170)) (.cells cg 170);rw[show(w.alloc (.cells cg 170)).heap.size=w.heap.size+1 from by simp]at h;exact h
 have b9:Hid (Below w.heap.size w ((w.alloc (.cells cg 170)).alloc (.cells cg 170))):=ah (ax _ _) _;have av:((w.alloc (.cells cg 170)).alloc (.cells cg 170)).heap.size=w.heap.size+1+1:=by simp
 generalize(w.alloc (.cells cg 170)).alloc (.cells cg 170)=o at*;rw[<-av];have ca:=Lib.hid av;clear av;refine(ny G5 _ oD oD).mono ?_;rintro e bx ⟨dl,c0,rfl,hs,hb⟩;have a2:=Lib.hid hs;have a3:Hid (bx.ownsRow o.heap.size 9 1 (.slice (some ⟨o.heap.size,0,none⟩) 1 1) 1 ([nK].map Value.string)):=au (qF o [nK] 9 1 rfl oM) hb;have ab:Hid (af o bx):=ae (ax _ _) hb;clear hs hb;go_wp2_with(at_builtin;refine aV (f:=Value.string) (d:=ByteArray.empty) CD rfl _ _ _ rfl o.heap.size 9 S _ 16 Tryz.underlying214 T V X Y rfl _ 1 [nK] rfl a3.out dl _ c0 (Lib.charsB G5) rfl a2.out.hn a2.out.rd (by have:G5.size=26:=rfl;unfold maxLen;omega) (by have:G5.size=26:=rfl;omega) ab.out.size ?_;intro v0 i g hg;have b:Hid (Below o.heap.size o i):=ab.out.grown hg ab.out.size (λq hq=>(a3.out.lt q hq).1);obtain⟨F,L,k0,rfl,B⟩:=(SG.cd (f:=Value.string) (d:=ByteArray.empty) g).parts;have cb:Hid (SR Value.string ByteArray.empty i F L k0 (texts 0)):=B;have ch:Hid (∀a,F=some a->o.heap.size<=a.block):=(λa e=>(g.lt a.block (by rw[e];rfl)).1);clear B;have a4:Hid (af o i):=b.out;clear b ab a3 a2;clear g hg)
 refine(ny IA _ oD oD).mono ?_;rintro e bz ⟨dn,c1,rfl,hs,hb⟩;have a5:=Lib.hid hs;have a6:Hid (bz.ownsRow i.heap.size 9 1 (.slice (some ⟨i.heap.size,0,none⟩) 1 1) 1 ([nK].map Value.string)):=au (qF i [nK] 9 1 rfl oM) hb;have ac:Hid (af i bz):=ae (ax _ _) hb;clear hs hb;go_wp2_with(at_builtin;refine aV (f:=Value.string) (d:=ByteArray.empty) CD rfl _ _ _ rfl i.heap.size 9 S _ 16 Tryz.underlying214 T V X Y rfl _ 1 [nK] rfl a6.out dn _ c1 (Lib.charsB IA) rfl a5.out.hn a5.out.rd (by have:IA.size=26:=rfl;unfold maxLen;omega) (by have:IA.size=26:=rfl;omega) ac.out.size ?_;intro v1 p g hg;have b:Hid (Below i.heap.size i p):=ac.out.grown hg ac.out.size (λq hq=>(a6.out.lt q hq).1);obtain⟨G,n1,M,rfl,B⟩:=(SG.cd (f:=Value.string) (d:=ByteArray.empty) g).parts;have ci:Hid (SR Value.string ByteArray.empty p G n1 M (texts 1)):=B;have ck:Hid (∀a,G=some a->i.heap.size<=a.block):=(λa e=>(g.lt a.block (by rw[e];rfl)).1);clear B;have a7:Hid (af o p):=ae a4.out b.out;have c4:=b;clear b ac a6 a5;clear g hg)
 refine(ny Gp _ oD oD).mono ?_;rintro e b1 ⟨dp,ds,rfl,hs,hb⟩;have a8:=Lib.hid hs;have a9:Hid (b1.ownsRow p.heap.size 9 1 (.slice (some ⟨p.heap.size,0,none⟩) 1 1) 1 ([nK].map Value.string)):=au (qF p [nK] 9 1 rfl oM) hb;have ad:Hid (af p b1):=ae (ax _ _) hb;clear hs hb;go_wp2_with(at_builtin;refine aV (f:=Value.string) (d:=ByteArray.empty) CD rfl _ _ _ rfl p.heap.size 9 S _ 16 Tryz.underlying214 T V X Y rfl _ 1 [nK] rfl a9.out dp _ ds (Lib.charsB Gp) rfl a8.out.hn a8.out.rd (by have:Gp.size=26:=rfl;unfold maxLen;omega) (by have:Gp.size=26:=rfl;omega) ad.out.size ?_;intro ec r g hg;have b:Hid (Below p.heap.size p r):=ad.out.grown hg ad.out.size (λq hq=>(a9.out.lt q hq).1);obtain⟨H,n2,N,rfl,B⟩:=(SG.cd (f:=Value.string) (d:=ByteArray.empty) g).parts;have co:Hid (SR Value.string ByteArray.empty r H n2 N (texts 2)):=B;have cp:Hid (∀a,H=some a->p.heap.size<=a.block):=(λa e=>(g.lt a.block (by rw[e];rfl)).1);clear B;have bb:Hid (af o r):=ae a7.out b.out;have c5:Hid (af i r):=ae c4.out b.out;have c6:=b;clear c4;clear b ad a9 a8;clear g hg)
 refine(ny GQ _ oD oD).mono ?_;rintro e b2 ⟨dv,dx,rfl,hs,hb⟩;have bd:=Lib.hid hs;have be:Hid (b2.ownsRow r.heap.size 9 1 (.slice (some ⟨r.heap.size,0,none⟩) 5 5) 5 (KJ.map Value.string)):=au (qF r KJ 9 5 rfl oM) hb;have al:Hid (af r b2):=ae (ax _ _) hb;clear hs hb;go_wp2_with(at_builtin;refine aV (f:=Value.string) (d:=ByteArray.empty) CD rfl _ _ _ rfl r.heap.size 9 S _ 16 Tryz.underlying214 T V X Y rfl _ 5 KJ rfl be.out dv _ dx (Lib.charsB GQ) rfl bd.out.hn bd.out.rd (by have:GQ.size=25:=rfl;unfold maxLen;omega) (by have:GQ.size=25:=rfl;omega) al.out.size ?_;intro ed s g hg;have b:Hid (Below r.heap.size r s):=al.out.grown hg al.out.size (λq hq=>(be.out.lt q hq).1);obtain⟨J,n3,k3,rfl,B⟩:=(SG.cd (f:=Value.string) (d:=ByteArray.empty) g).parts;have cq:Hid (SR Value.string ByteArray.empty s J n3 k3 (texts 3)):=B;have cs:Hid (∀a,J=some a->r.heap.size<=a.block):=(λa e=>(g.lt a.block (by rw[e];rfl)).1);clear B;have bf:Hid (af o s):=ae bb.out b.out;have c7:Hid (af i s):=ae c5.out b.out;have c8:Hid (af p s):=ae c6.out b.out;have c9:=b;clear c5 c6;clear b al be bd;clear g hg)
 refine(ny DW _ oD oD).mono ?_;rintro e b3 ⟨dy,dz,rfl,hs,hb⟩;have bi:=Lib.hid hs;have bo:Hid (b3.ownsRow s.heap.size 9 1 (.slice (some ⟨s.heap.size,0,none⟩) 1 1) 1 ([nK].map Value.string)):=au (qF s [nK] 9 1 rfl oM) hb;have am:Hid (af s b3):=ae (ax _ _) hb;clear hs hb;go_wp2_with(at_builtin;refine aV (f:=Value.string) (d:=ByteArray.empty) CD rfl _ _ _ rfl s.heap.size 9 S _ 16 Tryz.underlying214 T V X Y rfl _ 1 [nK] rfl bo.out dy _ dz (Lib.charsB DW) rfl bi.out.hn bi.out.rd (by have:DW.size=12:=rfl;unfold maxLen;omega) (by have:DW.size=12:=rfl;omega) am.out.size ?_;intro v4 D g hg;have b:Hid (Below s.heap.size s D):=am.out.grown hg am.out.size (λq hq=>(bo.out.lt q hq).1);obtain⟨K,n4,k4,rfl,B⟩:=(SG.cd (f:=Value.string) (d:=ByteArray.empty) g).parts;have cv:Hid (SR Value.string ByteArray.empty D K n4 k4 (texts 4)):=B;have cx:Hid (∀a,K=some a->s.heap.size<=a.block):=(λa e=>(g.lt a.block (by rw[e];rfl)).1);clear B;have bq:Hid (af o D):=ae bf.out b.out;have da:Hid (af i D):=ae c7.out b.out;have dd:Hid (af p D):=ae c8.out b.out;have de:Hid (af r D):=ae c9.out b.out;have dk:=b;clear c7 c8 c9;clear b am bo bi;clear g hg)
 have cN:Hid (TS w (D.alloc (.cells #[.slice F L k0,.slice G n1 M,.slice H n2 N,.slice J n3 k3,.slice K n4 k4] 216)) #[.slice F L k0,.slice G n1 M,.slice H n2 N,.slice J n3 k3,.slice K n4 k4] (rY 0)):=by
  have z:=ca.out;have ef:=a4.out.size;have eh:=a7.out.size;have ei:=bb.out.size;have ek:=bf.out.size;have el:=bq.out.size;have b0:Below o.heap.size o (D.alloc (.cells #[.slice F L k0,.slice G n1 M,.slice H n2 N,.slice J n3 k3,.slice K n4 k4] 216)):=ah bq.out _;have dE:Below i.heap.size i D:=da.out;have d0:Below p.heap.size p D:=dd.out;have d1:Below r.heap.size r D:=de.out;have d2:Below s.heap.size s D:=dk.out;refine⟨ae b9.out b0,b7.out.below b0,b8.out.below b0,λk a0=>?_,oW,DG⟩;have u:k=0\/k=1\/k=2\/k=3\/k=4:=oO;rcases u with rfl|rfl|rfl|rfl|rfl
  ·exact⟨F,L,k0,rfl,cb.out.below (ah dE _),λa e=>by have:=ch.out a e;omega⟩
  ·exact⟨G,n1,M,rfl,ci.out.below (ah d0 _),λa e=>by have:=ck.out a e;omega⟩
  ·exact⟨H,n2,N,rfl,co.out.below (ah d1 _),λa e=>by have:=cp.out a e;omega⟩
  ·exact⟨J,n3,k3,rfl,cq.out.below (ah d2 _),λa e=>by have:=cs.out a e;omega⟩
  ·exact⟨K,n4,k4,rfl,cv.out.below (ax _ _),λa e=>by have:=cx.out a e;omega⟩
 clear ca b7 b8 b9 a4 a7 bb bf bq da dd de dk cb ci co cq cv ch ck cp cs cx;have ez:(#[Value.slice F L k0,.slice G n1 M,.slice H n2 N,.slice J n3 k3,.slice K n4 k4]:Array Value).size=5:=rfl;generalize(#[Value.slice F L k0,.slice G n1 M,.slice H n2 N,.slice J n3 k3,.slice K n4 k4]:Array Value)=C at*;go_loopw [28] (λt wr=>∃k:Nat,k<=5/\t= .int .i64 k/\Hid (TS w wr C (rY k))) (λt _=>5-(intOf t).toNat)
 case atStart=>exact⟨0,by omega,rfl,cN.out⟩
 case round=>
  obtain⟨k,a0,rfl,x⟩:=hrel;by_cases O:k<5
  ·obtain⟨A,n,c,b4,hs,_⟩:=x.out.X k O;have Q:=Lib.hid b4;have em:=Lib.hid hs;clear b4 hs;have ew:=Ik k;go_wp2_with(refine iG rfl 216 _ _ rfl 5 214 Tryz.underlying216 _ Tryz.underlying214 rfl LB C .i64 k k rfl rfl rfl O _ Q.out ?_)
   obtain⟨b5,rfl⟩:∃b5:World,b5=wr:=⟨_,rfl⟩;go_loopw [34] (λt wr=>∃j:Nat,j<=n/\t= .int .i64 j/\Hid (TS w wr C (vE (rY k) (texts k) (32* k) j))) (λt _=>n-(intOf t).toNat)
   case atStart=>exact⟨0,by omega,rfl,x.out⟩
   case round=>
    obtain⟨j,en,rfl,U⟩:=hrel;obtain⟨eq,er,es,ap,P,_⟩:=U.out.X k O;rw[Q.out]at ap;injection ap with ap;injection ap with bs d6 d7;subst bs d6 d7;by_cases d9:j<n
    ·obtain⟨a,rfl,eA,c2⟩:=P.rd (by rw[<-P.hn];omega);have bs:=c2 j (by rw[<-P.hn];exact d9);have ex:j<31:=by have:=P.hn;omega
     obtain⟨E,bt⟩:∃E,E=(texts k).getD j ByteArray.empty:=⟨_,rfl⟩;have d8:=Lib.hid bt;rw[<-bt]at bs;clear c2 P bt;have d3:Hid (TS w (wr.setRow (w.heap.size+1) (splice (vE (rY k) (texts k) (32* k) j).toList (k* 96+(j+1)* 3) (mc 1 0 E)).toArray) C (gI (vE (rY k) (texts k) (32* k) j) (32* k+j+1) (mc 1 0 E))):=U.out.put _ _ _ oO oO rfl (eX 1 0 E);have ea:Hid (k* 96+(j+1)* 3+(mc 1 0 E).length<=(vE (rY k) (texts k) (32* k) j).size):=U.out.fit rfl oO;have d4:Hid (∀v∈mc 1 0 E,v.oneCell'=true):=eX 1 0 E;have bv:Hid (mc 1 0 E=[.int .i64 1,.int .i64 0,.string E]):=rfl;generalize mc 1 0 E=ce at*;go_wp2_with(refine bT rfl 168 _ _ rfl 170 (w.heap.size+1) (k* 96+(j+1)* 3) (vE (rY k) (texts k) (32* k) j) ce rfl (by rw[bv.out];rfl) U.out.R1 (by rw[bv.out];exact di) ea.out d4.out ?_;generalize World.setRow _ _ _=a1 at*)
     refine⟨⟨j+1,by omega,by go_num,?_⟩,by simp[intOf];omega⟩;have y:=d3.out;rw[bv.out,d8.out]at y;exact y
    ·obtain rfl:j=n:=oO;have hq:j=(texts k).length:=P.hn;clear P;have d5:=Lib.hid hq;clear hq;go_wp2;refine⟨⟨k+1,by omega,by go_num,?_⟩,by simp[intOf];omega⟩;have y:=U.out;rw[d5.out]at y;exact y
  ·have u:k=5:=oO;clear cN;have l:Hid (TS w wr C (vQ 0)):=by
    have y:=x.out;rw[u]at y;exact y
   clear u;clear x;go_wp2;go_loopw [49] (λt wr=>∃k:Nat,k<=4/\t= .int .i64 k/\Hid (TS w wr C (vQ k))) (λt _=>4-(intOf t).toNat)
   case atStart=>exact⟨0,by omega,rfl,l.out⟩
   case round=>
    clear l;obtain⟨k,a0,rfl,x⟩:=hrel;by_cases O:k<4
    ·have Z:Hid (TS w wr C (vQ k)):=x;have l:Hid (TS w (wr.setRow (w.heap.size+1) (splice (vQ k).toList (shN k* 96) (mc 3 3 ByteArray.empty)).toArray) C (vQ (k+1))):=x.out.put _ _ _ oO (by have:=Ir k;omega) rfl (eX _ _ _);have Q:Hid (#[Value.int .i64 0,.int .i64 1,.int .i64 2,.int .i64 4][k]?=some (.int .i64 (shN k))):=by
      have u:k=0\/k=1\/k=2\/k=3:=oO;rcases u with rfl|rfl|rfl|rfl<;>rfl
     have ey:=Ir k;generalize shN k=m at*;go_wp2_with(first|(refine iG rfl 128 _ _ rfl 4 3 Tryz.underlying128 _ Tryz.underlying3 rfl KZ _ .i64 k k rfl rfl rfl O _ Q.out ?_)|(refine bT rfl 168 _ _ rfl 170 (w.heap.size+1) (m* 96) _ (mc 3 3 ByteArray.empty) rfl rfl Z.out.R1 di (Z.out.fit rfl oO) (eX 3 3 ByteArray.empty) ?_;generalize World.setRow _ _ _=a1 at*))
     exact⟨⟨k+1,by omega,by go_num,l.out⟩,by simp[intOf];omega⟩
    ·have u:k=4:=oO;have l:Hid (TS w wr C (s8 0)):=by
      have y:=x.out;rw[u]at y;exact y
     clear u;clear x;go_wp2;go_loopw [58] (λt wr=>∃k:Nat,k<=3/\t= .int .i64 k/\Hid (TS w wr C (s8 k))) (λt _=>3-(intOf t).toNat)
     case atStart=>exact⟨0,by omega,rfl,l.out⟩
     case round=>
      clear l;obtain⟨k,a0,rfl,x⟩:=hrel;by_cases O:k<3
      ·have Z:Hid (TS w wr C (s8 k)):=x;have l:Hid (TS w (wr.setRow (w.heap.size+1) (splice (s8 k).toList (k* 96+93) (mc 4 0 ByteArray.empty)).toArray) C (s8 (k+1))):=x.out.put _ _ _ oO oO rfl (eX _ _ _);have Q:Hid (#[Value.int .i64 0,.int .i64 1,.int .i64 2][k]?=some (.int .i64 k)):=by
        have u:k=0\/k=1\/k=2:=oO;rcases u with rfl|rfl|rfl<;>rfl
       go_wp2_with(first|(refine iG rfl 217 _ _ rfl 3 3 Tryz.underlying217 _ Tryz.underlying3 rfl KZ _ .i64 k k rfl rfl rfl O _ Q.out ?_)|(refine bT rfl 168 _ _ rfl 170 (w.heap.size+1) (k* 96+93) _ (mc 4 0 ByteArray.empty) rfl rfl Z.out.R1 di (Z.out.fit rfl oO) (eX 4 0 ByteArray.empty) ?_;generalize World.setRow _ _ _=a1 at*))
       exact⟨⟨k+1,by omega,by go_num,l.out⟩,by simp[intOf];omega⟩
      ·have u:k=3:=oO;have l:Hid (TS w wr C (s8 3)):=by
        have y:=x.out;rw[u]at y;exact y
       clear u;clear x;go_wp2_with(first|(refine FJ l.out rfl _ _ rfl _ [_,_,_] rfl rfl rfl (eX _ _ _) oD oD ?_;clear l;intro a1 l)|(refine BU l.out rfl _ rfl rfl ?_;intro c3 HC)|(refine AB l.out HC.out rfl _ _ rfl rfl rfl ?_;intro et b6;have hc:Hid (c3=eg):=HC.out;clear l HC;have HC:=hc;clear hc))
       (try simp only[Exit.inBlock,Exit.then])
       refine bodyPost_ret (results_cell_row rfl _ _ w.heap.size 170 c3 (0,0) _ rfl b6.out.1 Tryz.underlying170 rfl (by rw[HC.out];exact Nb)) rfl ?_;exact⟨by rw[HC.out],b6.out.2⟩
end
end Go.Proofs.YtmnlkganmgcpbaaGreatDoor
