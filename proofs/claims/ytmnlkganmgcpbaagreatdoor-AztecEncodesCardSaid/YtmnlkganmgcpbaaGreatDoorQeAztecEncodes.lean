/- For every input, the law AztecEncodes of layer 28 (aztec) answers true and leaves its arguments as they were, whatever the listed tables of Go's library hold when it begins: the row and its tied card. No condition beyond the listed tables. -/
import Derived.Test.YtmnlkganmgcpbaaGreatDoorQe23
import Derived.Test.YtmnlkganmgcpbaaGreatDoorCards
set_option maxRecDepth 100000
set_option maxHeartbeats 4000000
set_option linter.unusedVariables false
set_option linter.unusedSectionVars false
set_option linter.unusedSimpArgs false
namespace Go.Proofs.YtmnlkganmgcpbaaGreatDoor.aztecEncodes
section
open Go.RowKit
abbrev optV (a:Int) (b:Bool) (c:Int):Value:= .agg #[.int .i64 a,.bool b,.int .i64 c]
theorem dK:(Tryz.prog.info? 24).map (·.size)=some 3:=oK
theorem codeSz:(Tryz.prog.info? 30).map (·.size)=some 6:=oK
def cL (a:Option (Nat×Bool)):Int:=match a with|none=>0|some p=>(p.1:Int)
def cC (a:Option (Nat×Bool)):Bool:=match a with|none=>false|some p=>p.2
noncomputable def cK (a:List Bool) (b:Option (Nat×Bool)):Int:=match b with|none=>0|some p=>((az a (aq p.1)).length:Int)
def cS (a:Option (Nat×Bool)):Int:=match a with|none=>0|some p=>((ao p.1 p.2:Nat):Int)
noncomputable def cD (a:List Bool) (b:Option (Nat×Bool)):List Bool:=match b with|none=>[]|some p=>fw p.1 p.2 (az a (aq p.1))
theorem Ai {w:World} {v:Value} {c:List Bool}:∀{a:Option (Nat×Bool)},xN w v c a->∃A N b,v= .agg #[.int .i64 (cL a),.bool (cC a),.int .i64 (cK c a),.int .i64 (cS a),.int .i64 (cS a),.slice A N b]/\SR vB false w A N b (cD c a)
 |none,h=>⟨none,0,0,h,⟨rfl,Nat.le_refl _,Nat.zero_le _,RG.dD _ _⟩⟩
 |some p,h=>by
  obtain⟨A,N,b,-,d,e⟩:=h;exact⟨A,N,b,d,e⟩
theorem Gf (A:Option Addr) (n j:Nat) (b:Int) (k:Bool) (p:Int) (w:World) (r:n<=9223372036854775807) (h:(60<n/\n<=4096)\/(n<=60/\6<b/\b<=32)\/(4096<n/\6<b/\b<=32)):Calls Tryz.prog 6 #[.slice A n j,optV b k p] w λe w'=>e= .returned (.bool true)/\Below w.heap.size w w':=by
 have f:Hid (∀W,Calls Tryz.prog 11 #[] W λe w'=>e= .returned (.bool true)/\Below W.heap.size W w'):=λW=>q7 W;rcases h with⟨g,q⟩|⟨g,l,m⟩|⟨g,l,m⟩
 ·have i:(60:Int)<n:=oO;have o:(n:Int)<=4096:=oO;go_enter Tryz.func6,Tryz.ntmps6;go_wp2_with(go_at_call 11;refine(f.out _).mono ?_;rintro e c ⟨rfl,a⟩;have d:Hid (Below w.heap.size w c):=cN a;clear a)
  go_ret;exact⟨rfl,d.out⟩
 ·have i:¬(60:Int)<n:=oO;go_enter Tryz.func6,Tryz.ntmps6;go_wp2_with(go_at_call 11;refine(f.out _).mono ?_;rintro e c ⟨rfl,a⟩;have d:Hid (Below w.heap.size w c):=cN a;clear a)
  go_ret;exact⟨rfl,d.out⟩
 ·have i:(60:Int)<n:=oO;have o:¬(n:Int)<=4096:=oO;go_enter Tryz.func6,Tryz.ntmps6;go_wp2_with(go_at_call 11;refine(f.out _).mono ?_;rintro e c ⟨rfl,a⟩;have d:Hid (Below w.heap.size w c):=cN a;clear a)
  go_ret;exact⟨rfl,d.out⟩
theorem EW (A:Option Addr) (n Z:Nat) (j:Int) (o:Bool) (p L k s al:Int) (c:Bool) (dl:List Bool) (P:Prop) (w:World) (av:n<=9223372036854775807) (h:(n<=60/\j<=6)\/(n<=60/\32<j)\/(4096<n/\j<=6)\/(4096<n/\32<j))
 (X:Hid (∀V,af w V->Calls Tryz.prog 12 #[.slice A n Z,optV j o p] V λe w'=>∃A N S,e= .returned (.tuple #[.agg #[.int .i64 L,.bool c,.int .i64 k,.int .i64 s,.int .i64 s,.slice A N S],.int .i64 al])/\SR vB false w' A N S dl/\Below V.heap.size V w'/\Hid P))
 (Y:Hid (P->∀V,af w V->Calls Tryz.prog 21 #[.slice A n Z,optV j o p] V λe w'=>∃A N S,e= .returned (.tuple #[.agg #[.int .i64 L,.bool c,.int .i64 k,.int .i64 s,.int .i64 s,.slice A N S],.int .i64 al])/\SR vB false w' A N S dl/\Below V.heap.size V w')):
 Calls Tryz.prog 6 #[.slice A n Z,optV j o p] w λe w'=>e= .returned (.bool true)/\Below w.heap.size w w':=by
 have T:Hid (∀W,Calls Tryz.prog 11 #[] W λe w'=>e= .returned (.bool true)/\Below W.heap.size W w'):=λW=>q7 W;have U:Hid (ai (w.alloc (.cells #[.int .i64 j,.bool o,.int .i64 p] 24)) w.heap.size [.int .i64 j,.bool o,.int .i64 p]):=ai.new w #[.int .i64 j,.bool o,.int .i64 p] _ _ rfl;rcases h with⟨x,y⟩|⟨x,y⟩|⟨x,y⟩|⟨x,y⟩
 ·have ac:¬(60:Int)<n:=oO;have ad:¬(6:Int)<j:=oO;clear x y;go_enter Tryz.func6,Tryz.ntmps6
  go_wp2_with(first
   |(go_at_call 12;refine(X.out _ (ar _ _)).mono ?_;rintro e w1 ⟨f,g,i,rfl,q,m,C⟩;have r:Hid (Below w.heap.size w (w1.alloc (.cells #[.int .i64 L,.bool c,.int .i64 k,.int .i64 s,.int .i64 s,.slice f g i] 30))):=ae (cN m) _;have D:Hid (ai (w1.alloc (.cells #[.int .i64 L,.bool c,.int .i64 k,.int .i64 s,.int .i64 s,.slice f g i] 30)) w.heap.size [.int .i64 j,.bool o,.int .i64 p]):=(U.out.below m).below (ar _ _);have E:Hid (ai (w1.alloc (.cells #[.int .i64 L,.bool c,.int .i64 k,.int .i64 s,.int .i64 s,.slice f g i] 30)) w1.heap.size [.int .i64 L,.bool c,.int .i64 k,.int .i64 s,.int .i64 s,.slice f g i]):=ai.new w1 #[.int .i64 L,.bool c,.int .i64 k,.int .i64 s,.int .i64 s,.slice f g i] _ _ rfl;have F:Hid (SR vB false (w1.alloc (.cells #[.int .i64 L,.bool c,.int .i64 k,.int .i64 s,.int .i64 s,.slice f g i] 30)) f g i dl):=q.below (ar _ _);clear m q)
   |((with_reducible show wpList _ _ _ (⟨some 36,Op.load 24 _,_,_,_,_⟩::_) _ _);refine aK rfl 24 _ rfl _ Tryz.underlying24 rfl ⟨w.heap.size,0,none⟩ [.int .i64 j,.bool o,.int .i64 p] dK rfl (bS D.out) ?_)
   |(go_at_call 21;refine(Y.out C.out _ r.out).mono ?_;rintro e w2 ⟨a,b,d,rfl,t,l⟩;have G:Hid (Below w.heap.size w (w2.alloc (.cells #[.int .i64 L,.bool c,.int .i64 k,.int .i64 s,.int .i64 s,.slice a b d] 30))):=ae (ab r.out l) _;have H:Hid (ai (w2.alloc (.cells #[.int .i64 L,.bool c,.int .i64 k,.int .i64 s,.int .i64 s,.slice a b d] 30)) w2.heap.size [.int .i64 L,.bool c,.int .i64 k,.int .i64 s,.int .i64 s,.slice a b d]):=ai.new w2 #[.int .i64 L,.bool c,.int .i64 k,.int .i64 s,.int .i64 s,.slice a b d] _ _ rfl;have J:Hid (SR vB false (w2.alloc (.cells #[.int .i64 L,.bool c,.int .i64 k,.int .i64 s,.int .i64 s,.slice a b d] 30)) a b d dl):=t.below (ar _ _);have K:=Lib.hid ((E.out.below l).below (ar w2 (.cells #[.int .i64 L,.bool c,.int .i64 k,.int .i64 s,.int .i64 s,.slice a b d] 30)));have M:=Lib.hid ((F.out.below l).below (ar w2 (.cells #[.int .i64 L,.bool c,.int .i64 k,.int .i64 s,.int .i64 s,.slice a b d] 30)));clear l t)
   |((with_reducible show wpList _ _ _ (⟨some 40,Op.load 30 _,_,_,_,_⟩::_) _ _);refine aK rfl 30 _ rfl _ Tryz.underlying30 rfl ⟨w1.heap.size,0,none⟩ [.int .i64 L,.bool c,.int .i64 k,.int .i64 s,.int .i64 s,.slice f g i] codeSz rfl (bS K.out) ?_)
   |((with_reducible show wpList _ _ _ (⟨some 41,Op.load 30 _,_,_,_,_⟩::_) _ _);refine aK rfl 30 _ rfl _ Tryz.underlying30 rfl ⟨w2.heap.size,0,none⟩ [.int .i64 L,.bool c,.int .i64 k,.int .i64 s,.int .i64 s,.slice a b d] codeSz rfl (bS H.out) ?_)
   |(go_at_call 22;refine(mG _ _ _ _ _ _ _ _ _ _ _ _ _ M.out J.out).mono ?_;rintro e z ⟨rfl,u⟩;have O:Hid (Below w.heap.size w z):=ab G.out u;clear u)
   |(go_at_call 11;refine(T.out _).mono ?_;rintro e B ⟨rfl,v⟩;have Q:Hid (Below w.heap.size w B):=ab O.out v;clear v))
  go_ret;exact⟨rfl,Q.out⟩
 ·have ac:¬(60:Int)<n:=oO;have ad:(6:Int)<j:=oO;have am:¬j<=32:=oO;clear x y;go_enter Tryz.func6,Tryz.ntmps6
  go_wp2_with(first
   |(go_at_call 12;refine(X.out _ (ar _ _)).mono ?_;rintro e w1 ⟨f,g,i,rfl,q,m,C⟩;have r:Hid (Below w.heap.size w (w1.alloc (.cells #[.int .i64 L,.bool c,.int .i64 k,.int .i64 s,.int .i64 s,.slice f g i] 30))):=ae (cN m) _;have D:Hid (ai (w1.alloc (.cells #[.int .i64 L,.bool c,.int .i64 k,.int .i64 s,.int .i64 s,.slice f g i] 30)) w.heap.size [.int .i64 j,.bool o,.int .i64 p]):=(U.out.below m).below (ar _ _);have E:Hid (ai (w1.alloc (.cells #[.int .i64 L,.bool c,.int .i64 k,.int .i64 s,.int .i64 s,.slice f g i] 30)) w1.heap.size [.int .i64 L,.bool c,.int .i64 k,.int .i64 s,.int .i64 s,.slice f g i]):=ai.new w1 #[.int .i64 L,.bool c,.int .i64 k,.int .i64 s,.int .i64 s,.slice f g i] _ _ rfl;have F:Hid (SR vB false (w1.alloc (.cells #[.int .i64 L,.bool c,.int .i64 k,.int .i64 s,.int .i64 s,.slice f g i] 30)) f g i dl):=q.below (ar _ _);clear m q)
   |((with_reducible show wpList _ _ _ (⟨some 36,Op.load 24 _,_,_,_,_⟩::_) _ _);refine aK rfl 24 _ rfl _ Tryz.underlying24 rfl ⟨w.heap.size,0,none⟩ [.int .i64 j,.bool o,.int .i64 p] dK rfl (bS D.out) ?_)
   |(go_at_call 21;refine(Y.out C.out _ r.out).mono ?_;rintro e w2 ⟨a,b,d,rfl,t,l⟩;have G:Hid (Below w.heap.size w (w2.alloc (.cells #[.int .i64 L,.bool c,.int .i64 k,.int .i64 s,.int .i64 s,.slice a b d] 30))):=ae (ab r.out l) _;have H:Hid (ai (w2.alloc (.cells #[.int .i64 L,.bool c,.int .i64 k,.int .i64 s,.int .i64 s,.slice a b d] 30)) w2.heap.size [.int .i64 L,.bool c,.int .i64 k,.int .i64 s,.int .i64 s,.slice a b d]):=ai.new w2 #[.int .i64 L,.bool c,.int .i64 k,.int .i64 s,.int .i64 s,.slice a b d] _ _ rfl;have J:Hid (SR vB false (w2.alloc (.cells #[.int .i64 L,.bool c,.int .i64 k,.int .i64 s,.int .i64 s,.slice a b d] 30)) a b d dl):=t.below (ar _ _);have K:=Lib.hid ((E.out.below l).below (ar w2 (.cells #[.int .i64 L,.bool c,.int .i64 k,.int .i64 s,.int .i64 s,.slice a b d] 30)));have M:=Lib.hid ((F.out.below l).below (ar w2 (.cells #[.int .i64 L,.bool c,.int .i64 k,.int .i64 s,.int .i64 s,.slice a b d] 30)));clear l t)
   |((with_reducible show wpList _ _ _ (⟨some 40,Op.load 30 _,_,_,_,_⟩::_) _ _);refine aK rfl 30 _ rfl _ Tryz.underlying30 rfl ⟨w1.heap.size,0,none⟩ [.int .i64 L,.bool c,.int .i64 k,.int .i64 s,.int .i64 s,.slice f g i] codeSz rfl (bS K.out) ?_)
   |((with_reducible show wpList _ _ _ (⟨some 41,Op.load 30 _,_,_,_,_⟩::_) _ _);refine aK rfl 30 _ rfl _ Tryz.underlying30 rfl ⟨w2.heap.size,0,none⟩ [.int .i64 L,.bool c,.int .i64 k,.int .i64 s,.int .i64 s,.slice a b d] codeSz rfl (bS H.out) ?_)
   |(go_at_call 22;refine(mG _ _ _ _ _ _ _ _ _ _ _ _ _ M.out J.out).mono ?_;rintro e z ⟨rfl,u⟩;have O:Hid (Below w.heap.size w z):=ab G.out u;clear u)
   |(go_at_call 11;refine(T.out _).mono ?_;rintro e B ⟨rfl,v⟩;have Q:Hid (Below w.heap.size w B):=ab O.out v;clear v))
  go_ret;exact⟨rfl,Q.out⟩
 ·have ac:(60:Int)<n:=oO;have ap:¬(n:Int)<=4096:=oO;have ad:¬(6:Int)<j:=oO;clear x y;go_enter Tryz.func6,Tryz.ntmps6
  go_wp2_with(first
   |(go_at_call 12;refine(X.out _ (ar _ _)).mono ?_;rintro e w1 ⟨f,g,i,rfl,q,m,C⟩;have r:Hid (Below w.heap.size w (w1.alloc (.cells #[.int .i64 L,.bool c,.int .i64 k,.int .i64 s,.int .i64 s,.slice f g i] 30))):=ae (cN m) _;have D:Hid (ai (w1.alloc (.cells #[.int .i64 L,.bool c,.int .i64 k,.int .i64 s,.int .i64 s,.slice f g i] 30)) w.heap.size [.int .i64 j,.bool o,.int .i64 p]):=(U.out.below m).below (ar _ _);have E:Hid (ai (w1.alloc (.cells #[.int .i64 L,.bool c,.int .i64 k,.int .i64 s,.int .i64 s,.slice f g i] 30)) w1.heap.size [.int .i64 L,.bool c,.int .i64 k,.int .i64 s,.int .i64 s,.slice f g i]):=ai.new w1 #[.int .i64 L,.bool c,.int .i64 k,.int .i64 s,.int .i64 s,.slice f g i] _ _ rfl;have F:Hid (SR vB false (w1.alloc (.cells #[.int .i64 L,.bool c,.int .i64 k,.int .i64 s,.int .i64 s,.slice f g i] 30)) f g i dl):=q.below (ar _ _);clear m q)
   |((with_reducible show wpList _ _ _ (⟨some 36,Op.load 24 _,_,_,_,_⟩::_) _ _);refine aK rfl 24 _ rfl _ Tryz.underlying24 rfl ⟨w.heap.size,0,none⟩ [.int .i64 j,.bool o,.int .i64 p] dK rfl (bS D.out) ?_)
   |(go_at_call 21;refine(Y.out C.out _ r.out).mono ?_;rintro e w2 ⟨a,b,d,rfl,t,l⟩;have G:Hid (Below w.heap.size w (w2.alloc (.cells #[.int .i64 L,.bool c,.int .i64 k,.int .i64 s,.int .i64 s,.slice a b d] 30))):=ae (ab r.out l) _;have H:Hid (ai (w2.alloc (.cells #[.int .i64 L,.bool c,.int .i64 k,.int .i64 s,.int .i64 s,.slice a b d] 30)) w2.heap.size [.int .i64 L,.bool c,.int .i64 k,.int .i64 s,.int .i64 s,.slice a b d]):=ai.new w2 #[.int .i64 L,.bool c,.int .i64 k,.int .i64 s,.int .i64 s,.slice a b d] _ _ rfl;have J:Hid (SR vB false (w2.alloc (.cells #[.int .i64 L,.bool c,.int .i64 k,.int .i64 s,.int .i64 s,.slice a b d] 30)) a b d dl):=t.below (ar _ _);have K:=Lib.hid ((E.out.below l).below (ar w2 (.cells #[.int .i64 L,.bool c,.int .i64 k,.int .i64 s,.int .i64 s,.slice a b d] 30)));have M:=Lib.hid ((F.out.below l).below (ar w2 (.cells #[.int .i64 L,.bool c,.int .i64 k,.int .i64 s,.int .i64 s,.slice a b d] 30)));clear l t)
   |((with_reducible show wpList _ _ _ (⟨some 40,Op.load 30 _,_,_,_,_⟩::_) _ _);refine aK rfl 30 _ rfl _ Tryz.underlying30 rfl ⟨w1.heap.size,0,none⟩ [.int .i64 L,.bool c,.int .i64 k,.int .i64 s,.int .i64 s,.slice f g i] codeSz rfl (bS K.out) ?_)
   |((with_reducible show wpList _ _ _ (⟨some 41,Op.load 30 _,_,_,_,_⟩::_) _ _);refine aK rfl 30 _ rfl _ Tryz.underlying30 rfl ⟨w2.heap.size,0,none⟩ [.int .i64 L,.bool c,.int .i64 k,.int .i64 s,.int .i64 s,.slice a b d] codeSz rfl (bS H.out) ?_)
   |(go_at_call 22;refine(mG _ _ _ _ _ _ _ _ _ _ _ _ _ M.out J.out).mono ?_;rintro e z ⟨rfl,u⟩;have O:Hid (Below w.heap.size w z):=ab G.out u;clear u)
   |(go_at_call 11;refine(T.out _).mono ?_;rintro e B ⟨rfl,v⟩;have Q:Hid (Below w.heap.size w B):=ab O.out v;clear v))
  go_ret;exact⟨rfl,Q.out⟩
 ·have ac:(60:Int)<n:=oO;have ap:¬(n:Int)<=4096:=oO;have ad:(6:Int)<j:=oO;have am:¬j<=32:=oO;clear x y;go_enter Tryz.func6,Tryz.ntmps6
  go_wp2_with(first
   |(go_at_call 12;refine(X.out _ (ar _ _)).mono ?_;rintro e w1 ⟨f,g,i,rfl,q,m,C⟩;have r:Hid (Below w.heap.size w (w1.alloc (.cells #[.int .i64 L,.bool c,.int .i64 k,.int .i64 s,.int .i64 s,.slice f g i] 30))):=ae (cN m) _;have D:Hid (ai (w1.alloc (.cells #[.int .i64 L,.bool c,.int .i64 k,.int .i64 s,.int .i64 s,.slice f g i] 30)) w.heap.size [.int .i64 j,.bool o,.int .i64 p]):=(U.out.below m).below (ar _ _);have E:Hid (ai (w1.alloc (.cells #[.int .i64 L,.bool c,.int .i64 k,.int .i64 s,.int .i64 s,.slice f g i] 30)) w1.heap.size [.int .i64 L,.bool c,.int .i64 k,.int .i64 s,.int .i64 s,.slice f g i]):=ai.new w1 #[.int .i64 L,.bool c,.int .i64 k,.int .i64 s,.int .i64 s,.slice f g i] _ _ rfl;have F:Hid (SR vB false (w1.alloc (.cells #[.int .i64 L,.bool c,.int .i64 k,.int .i64 s,.int .i64 s,.slice f g i] 30)) f g i dl):=q.below (ar _ _);clear m q)
   |((with_reducible show wpList _ _ _ (⟨some 36,Op.load 24 _,_,_,_,_⟩::_) _ _);refine aK rfl 24 _ rfl _ Tryz.underlying24 rfl ⟨w.heap.size,0,none⟩ [.int .i64 j,.bool o,.int .i64 p] dK rfl (bS D.out) ?_)
   |(go_at_call 21;refine(Y.out C.out _ r.out).mono ?_;rintro e w2 ⟨a,b,d,rfl,t,l⟩;have G:Hid (Below w.heap.size w (w2.alloc (.cells #[.int .i64 L,.bool c,.int .i64 k,.int .i64 s,.int .i64 s,.slice a b d] 30))):=ae (ab r.out l) _;have H:Hid (ai (w2.alloc (.cells #[.int .i64 L,.bool c,.int .i64 k,.int .i64 s,.int .i64 s,.slice a b d] 30)) w2.heap.size [.int .i64 L,.bool c,.int .i64 k,.int .i64 s,.int .i64 s,.slice a b d]):=ai.new w2 #[.int .i64 L,.bool c,.int .i64 k,.int .i64 s,.int .i64 s,.slice a b d] _ _ rfl;have J:Hid (SR vB false (w2.alloc (.cells #[.int .i64 L,.bool c,.int .i64 k,.int .i64 s,.int .i64 s,.slice a b d] 30)) a b d dl):=t.below (ar _ _);have K:=Lib.hid ((E.out.below l).below (ar w2 (.cells #[.int .i64 L,.bool c,.int .i64 k,.int .i64 s,.int .i64 s,.slice a b d] 30)));have M:=Lib.hid ((F.out.below l).below (ar w2 (.cells #[.int .i64 L,.bool c,.int .i64 k,.int .i64 s,.int .i64 s,.slice a b d] 30)));clear l t)
   |((with_reducible show wpList _ _ _ (⟨some 40,Op.load 30 _,_,_,_,_⟩::_) _ _);refine aK rfl 30 _ rfl _ Tryz.underlying30 rfl ⟨w1.heap.size,0,none⟩ [.int .i64 L,.bool c,.int .i64 k,.int .i64 s,.int .i64 s,.slice f g i] codeSz rfl (bS K.out) ?_)
   |((with_reducible show wpList _ _ _ (⟨some 41,Op.load 30 _,_,_,_,_⟩::_) _ _);refine aK rfl 30 _ rfl _ Tryz.underlying30 rfl ⟨w2.heap.size,0,none⟩ [.int .i64 L,.bool c,.int .i64 k,.int .i64 s,.int .i64 s,.slice a b d] codeSz rfl (bS H.out) ?_)
   |(go_at_call 22;refine(mG _ _ _ _ _ _ _ _ _ _ _ _ _ M.out J.out).mono ?_;rintro e z ⟨rfl,u⟩;have O:Hid (Below w.heap.size w z):=ab G.out u;clear u)
   |(go_at_call 11;refine(T.out _).mono ?_;rintro e B ⟨rfl,v⟩;have Q:Hid (Below w.heap.size w B):=ab O.out v;clear v))
  go_ret;exact⟨rfl,Q.out⟩
theorem law_walk (A:Option Addr) (n d:Nat) (l:List UInt8) (a:Int) (b:Bool) (c:Int) (w:World) (hs:SR vU 0 w A n d l):Calls Tryz.prog 6 #[.slice A n d,.agg #[.int .i64 a,.bool b,.int .i64 c]] w λe w'=>e= .returned (.bool true)/\Below w.heap.size w w':=by
 have m:n<=9223372036854775807:=by have:=hs.hm;have:=hs.hc;unfold maxLen at*;omega
 have hn:n=l.length:=hs.hn;by_cases h:(60<n/\n<=4096)\/(n<=60/\6<a/\a<=32)\/(4096<n/\6<a/\a<=32)
 ·exact Gf A n d a b c w m h
 have hl:l.length<=60\/4096<l.length:=oO;refine EW A n d a b c (cL (gF l a b c).1) (cK (bz l) (gF l a b c).1) (cS (gF l a b c).1) (gF l a b c).2 (cC (gF l a b c).1) (cD (bz l) (gF l a b c).1) (iG l.length a b c=0->∃C,cj (bA l) C) w m oO ?_ ?_
 ·intro V f;refine(sD A n d l a b c V (hs.below f) hl).mono ?_;rintro e w' ⟨g,v,rfl,i,hb⟩;obtain⟨A',j,k,rfl,h⟩:=Ai i;exact⟨A',j,k,rfl,h,hb,g⟩
 ·intro g V f;refine(yt A n d l a b c V (hs.below f) hl g).mono ?_;rintro e w' ⟨v,rfl,i,hb⟩;obtain⟨A',j,k,rfl,h⟩:=Ai i;exact⟨A',j,k,rfl,h,hb⟩
end
section
open Go.ChangeShapes Go.WideShapes Go.ChangeAt Go.RowKit
theorem k0:Rows.aztecEncodesRow.wf (OpenSpec.ofChange Rows.aztecEncodesSpec)=true:=oK
theorem k3:Tryz.f6.params.all (Tryz.prog.readableRec ·)=true:=oK
theorem k4:namedTie Tryz.prog Rows.aztecEncodesRow.named Rows.aztecEncodesSpec.vars=true:=oK
theorem k5:(Rows.aztecEncodesRow.stops==[])=true:=oK
theorem k7:(Rows.aztecEncodesRow.knobs==[])=true:=oK
theorem k9:(Rows.aztecEncodesRow.inPlace==Tryz.prog.inPlace 6)=true:=oK
theorem k10:(Rows.aztecEncodesRow.unfollowed==Tryz.prog.unfollowed 6)=true:=oK
theorem k11:(Rows.aztecEncodesRow.recurses==Tryz.prog.recurses 6)=true:=oK
theorem k12:(Rows.aztecEncodesRow.named==Tryz.prog.varsNamed 6)=true:=oK
theorem k13:(Rows.aztecEncodesRow.maps==(Tryz.f6.params.toList++Rows.aztecEncodesSpec.plain.varTypes Tryz.prog).any (Tryz.prog.mapsRec ·))=true:=oK
theorem k14:(Rows.aztecEncodesRow.ifaces==(Tryz.f6.params.toList++Rows.aztecEncodesSpec.plain.varTypes Tryz.prog).any (Tryz.prog.ifacesRec ·))=true:=oK
theorem k15:(Rows.aztecEncodesRow.mapsOut==Tryz.prog.mapsAmong Tryz.f6.resultTypes.toList)=true:=oK
theorem k16:(Rows.aztecEncodesRow.loops==(Tryz.f6.params.toList++Rows.aztecEncodesSpec.plain.varTypes Tryz.prog).any (Tryz.prog.loopsFrom ·))=true:=oK
theorem k17:(Rows.aztecEncodesRow.wideKeys==(Tryz.f6.params.toList++Rows.aztecEncodesSpec.plain.varTypes Tryz.prog++Tryz.f6.resultTypes.toList).any (Tryz.prog.wideKeysFrom ·))=true:=oK
theorem k18:Rows.aztecEncodesSpec.vars.all (Tryz.prog.varReadable ·)=true:=oK
theorem k19:Tryz.f6.resultTypes.all (λa=>Tryz.prog.readableRec a&&decide (a<Tryz.prog.types.size))=true:=oK
theorem k20:(Rows.aztecEncodesRow.ifacesOut==Tryz.f6.resultTypes.toList.any (Tryz.prog.ifacesRec ·))=true:=oK
theorem k21:(Rows.aztecEncodesRow.loopsOut==Tryz.f6.resultTypes.toList.any (Tryz.prog.loopsFrom ·))=true:=oK
theorem k22:(Rows.aztecEncodesRow.plainKeys==Tryz.prog.plainKeys)=true:=oK
theorem k23:Rows.aztecEncodesRow.shortTexts.isNone=true:=oK
theorem k26:(Rows.aztecEncodesRow.lifted==Tryz.prog.liftsFinal)=true:=oK
theorem k27:(Tryz.prog.make==some Rows.aztecEncodesRow.make)=true:=oK
theorem k28:(Rows.aztecEncodesRow.kinds==(if Rows.aztecEncodesRow.domain.isEmpty then[]else Tryz.f6.params.toList.map λa=>match Tryz.prog.underlying a with|some (.int k)=>some k|_=>none))=true:=oK
theorem k29:(Rows.aztecEncodesRow.pinned==Rows.aztecEncodesRow.pinnedBy)=true:=oK
theorem k30:(Rows.aztecEncodesRow.veiled==(Tryz.f6.params.toList++Rows.aztecEncodesSpec.plain.varTypes Tryz.prog++Tryz.f6.resultTypes.toList).any (Tryz.prog.veiledRec ·))=true:=oK
theorem k31:Rows.aztecEncodesRow.veiledFits Tryz.prog Tryz.f6.params.toList (Tryz.f6.params.toList++Rows.aztecEncodesSpec.plain.varTypes Tryz.prog++Tryz.f6.resultTypes.toList)=true:=oK
theorem closedK:joinedFacts Tryz.prog 6 Tryz.f6 Rows.aztecEncodesSpec Rows.aztecEncodesRow=true:=cM (cM (cM (cM (cM (cM (cM (cM (cM (cM (cM (cM (cM (cM (cM (cM (cM (cM (cM (cM (cM (cM (cM (cM (cM (cM (cM (cM (cM (cM (cM k0 Jy) xX) k3) k4) k5) IC) k7) yL) k9) k10) k11) k12) k13) k14) k15) k16) k17) k18) k19) k20) k21) k22) k23) xk) AY) k26) k27) k28) k29) k30) k31
abbrev L:List (String×DataW Unit):=[("unicode/utf8.acceptRanges",Rows.laid_unicode_utf8_acceptRanges),("unicode/utf8.first",Rows.laid_unicode_utf8_first)]
theorem lifted (os:Os) (F:os.Started) (H:Type) (enc:TypeId×Value->H):
 ReturnsInHanded {} Tryz.checked os 6 .any (λw args=>(Rows.aztecEncodesSpec.pre enc Tryz.prog Tryz.f6 [] false w args/\laidMetH Tryz.prog L w)/\sizedMet enc Tryz.prog Tryz.f6 (OpenSpec.ofChange Rows.aztecEncodesSpec) false w args)
  (Rows.aztecEncodesSpec.post enc Tryz.prog Tryz.f6 false true false false):=by
 refine returnsInHanded_of_change_and (C:=Tryz.checked) (X:=λw _=>laidMetH Tryz.prog L w) (λ_ _ _ g h=>h.of_heap g) LA F oK Tryz.func6
  (ChangeSpec.witness_shaped (enc:=enc) (C:=Tryz.checked) (os:=os) (X:=λw _=>laidMetH Tryz.prog L w) false (World.laidAll Tryz.prog os L) #[.slice none 0 0,.agg #[.int .i64 0,.bool false,.int .i64 0]] 8 (World.laidAll_os _ _ _)
   (World.shaped_of_ZipB oK oK) oK oK oK
   (by rw[MakeChecks.laidMetH_plain _ _ _ oK];exact laidMet_laidAll _ oK oK)) ?_
 intro W base args i G ad E c _ _ J _;have b:∀(j:Nat) a v,Tryz.f6.params[j]?=some a->args[j]?=some v->Value.okWide Tryz.prog W .any base a v:=E;have A:=c;obtain⟨p,q,B,k,rfl,S,T⟩:=c;have d:DataW.TrodAll enc Tryz.prog W 0 (λ_=>true) true Tryz.f6.params.toList args.toList i p:=B;rw[Tryz.params6]at d b;obtain⟨v0,U,K,V,M,N,ac,rfl,rfl,l,m⟩:=trodAll_cons d;obtain⟨v1,Y,O,Z,p1,P,rfl,rfl,rfl,n,o⟩:=trodAll_cons m;obtain⟨rfl,rfl,rfl⟩:=trodAll_nil o;obtain rfl:args=#[v0,v1]:=by cases args;simp_all
 obtain⟨rfl,rfl⟩:=trodVars_none k;have D:∀a∈Tryz.f6.params.toList,Tryz.prog.readableRec a=true/\a<Tryz.prog.types.size:=by
  rw[Tryz.params6];intro a f;simp only[List.mem_cons,List.not_mem_nil,or_false]at f;rcases f with rfl|rfl<;>exact⟨by kernel_rfl,of_decide_eq_true oK⟩
 obtain⟨r,s,c0,l0,rfl,t⟩:=Is (b 0 22 v0 rfl rfl) l;obtain⟨u,x,y,rfl⟩:=He (b 1 24 v1 rfl rfl) n;refine(law_walk r s c0 l0 u x y W t).mono λe Q ⟨z,hb⟩=>?_;subst z;exact⟨_,rfl,Hp Lc Tryz.underlying4 rfl rfl D A rfl hb⟩
theorem over:Rows.aztecEncodesRow.holds Tryz.pinned (OpenSpec.ofChange Rows.aztecEncodesSpec):=
 OpenClaim.holds_of_wide 6 Tryz.f6 rfl rfl rfl rfl rfl rfl rfl ⟨rfl,rfl,rfl,rfl,rfl⟩ rfl rfl rfl rfl rfl oK Tryz.func6 closedK
  (of_decide_eq_true oK) (by unfold Func.isWrapper;first|(rw[if_pos (by decide+kernel)];kernel_rfl)|(rw[if_neg (by decide+kernel)];exact⟨rfl,rfl⟩))
  (λos a H enc _=>lifted os a H enc)
theorem named:Tryz.prog.funcNamed "barscan/barscanlaw28.AztecEncodes" =some 6:=oK
theorem noStand:([22,24].all λu=>!Tryz.prog.wantsStandIn u)=true:=oK
theorem proved:Rows.AztecEncodesCardSaid:=
 Claim7.holds_tied_plain_at .later [] [.data,.pinned] true (true,"65e349eac71c602cf550908973254ebb7b14ef88971fe42e5ec397cea621a45b") false
  over (λ_ h=>by cases h) oK (λ_ h=>by cases h) aztecEncodes_row_tie rfl ⟨rfl,rfl⟩ oK rfl
  (λf fn c e=>by
   obtain rfl:f=6:=Option.some.inj (named.symm.trans c)|>.symm;obtain rfl:fn=Tryz.f6:=(Option.some.inj (Tryz.func6.symm.trans e)).symm
   exact⟨by kernel_rfl,λj a b=>by
    rw[Tryz.params6]at b;have d:a∈[22,24]:=by
     have h:=Array.mem_of_getElem? b;simp only[List.mem_toArray,List.mem_cons,List.not_mem_nil,or_false]at h;rcases h with rfl|rfl<;>simp
    exact(show Tryz.prog.wantsStandIn a=false by simpa using List.all_eq_true.1 noStand a d)⟩)
  oK
end
end Go.Proofs.YtmnlkganmgcpbaaGreatDoor.aztecEncodes
