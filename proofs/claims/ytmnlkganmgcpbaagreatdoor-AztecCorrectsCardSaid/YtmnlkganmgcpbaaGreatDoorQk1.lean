import Derived.WalkKit
import Derived.ProofKit
import Derived.RegionTactic
import Derived.Lib.Hide
import Derived.KernelRfl
set_option maxRecDepth 100000
set_option maxHeartbeats 4000000
set_option linter.unusedVariables false
set_option linter.unusedSectionVars false
set_option linter.unusedSimpArgs false
namespace Go.Proofs.YtmnlkganmgcpbaaGreatDoor
section
open Go.RowKit
theorem oO {P:Prop} (h:P:=by omega):P:=h
theorem oK {P:Prop} (h:P:=by kernel_rfl):P:=h
theorem oS {P:Prop} (h:P:=by simp):P:=h
theorem oT {P:Prop} (h:P:=by simp;omega):P:=h
theorem oD {P:Prop} (h:P:=by decide):P:=h
theorem oM {P:Prop} (h:P:=by unfold maxLen;omega):P:=h
theorem yQ (l:List Value) (s:List _) (d:Nat) (v:Value):Act.put {tmps:=l.toArray,defers:=s} (some d) v={tmps:=(l.set d v).toArray,defers:=s}:=by simp[Act.put]
theorem yY (l:List Value) (s:List _) (v:Value):Act.put {tmps:=l.toArray,defers:=s} none v={tmps:=l.toArray,defers:=s}:=by simp[Act.put]
theorem yU {α:Type} (a b:α) (l:List α):(a::l).set 0 b=b::l:=rfl
theorem yX {α:Type} (a b:α) (l:List α) (n:Nat):(a::l).set (n+1) b=a::l.set n b:=rfl
end
end Go.Proofs.YtmnlkganmgcpbaaGreatDoor
