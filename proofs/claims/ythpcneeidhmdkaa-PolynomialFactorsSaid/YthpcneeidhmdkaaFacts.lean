import Derived.Test.YthpcneeidhmdkaaRows
import Derived.JoinedOf
import Derived.KernelRfl
namespace Go.Proofs.Ythpcneeidhmdkaa
theorem and_tt {a b : Bool} (h : a = true) (g : b = true) : (a && b) = true := by rw [h, g]; rfl
theorem fp_laid : laidOutB Try.prog = true := by kernel_rfl
theorem fp_mapsRowed : mapsRowed Try.prog = true := by kernel_rfl
theorem fp_stops : (Try.prog.stops == []) = true := by kernel_rfl
theorem fp_stopKnobs : (Try.prog.stopKnobs == []) = true := by kernel_rfl
theorem fp_stopsHeard : Try.prog.stopsHeard = true := by kernel_rfl
theorem fp_mayEnter : Try.prog.mayEnter = true := by kernel_rfl
end Go.Proofs.Ythpcneeidhmdkaa
