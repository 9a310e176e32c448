import Derived.Test.YtplppbfnlfehnaaDoorRows
import Derived.JoinedOf
import Derived.KernelRfl
namespace Go.Proofs.YtplppbfnlfehnaaDoor
theorem and_tt {a b : Bool} (h : a = true) (g : b = true) : (a && b) = true := by rw [h, g]; rfl
theorem fp_laid : laidOutB Tryd.prog = true := by kernel_rfl
theorem fp_mapsRowed : mapsRowed Tryd.prog = true := by kernel_rfl
theorem fp_stops : (Tryd.prog.stops == []) = true := by kernel_rfl
theorem fp_stopKnobs : (Tryd.prog.stopKnobs == []) = true := by kernel_rfl
theorem fp_stopsHeard : Tryd.prog.stopsHeard = true := by kernel_rfl
theorem fp_mayEnter : Tryd.prog.mayEnter = true := by kernel_rfl
end Go.Proofs.YtplppbfnlfehnaaDoor
