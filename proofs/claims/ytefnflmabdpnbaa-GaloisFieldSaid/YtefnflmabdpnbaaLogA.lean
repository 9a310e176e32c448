import Derived.Test.YtefnflmabdpnbaaApiR
import Derived.Maps.OwnOps
import Derived.DeepKeys4
namespace Go.Proofs.Ytefnflmabdpnbaa
open Go.RowKit Go.WideMaps Go.Maps
set_option linter.unusedVariables false
/-! the map of logarithms: its keys -/
theorem elLaid : laidOutB Try.prog = true := by kernel_rfl
theorem elRow : (54 : TypeId) < Try.prog.types.size := of_decide_eq_true (by kernel_rfl)
theorem elWide : (match Try.prog.underlying 54 with | some (.array _ _) | some (.struct _) => true | _ => false) = true := by kernel_rfl
theorem elLaw : Keyed Try.prog 54 := Keyed.of_law (deep_law_laid elLaid (m := 3) (by omega) elRow (by kernel_rfl) elWide)
abbrev elv (c s p a : Int) : Value := .agg #[.int .i64 c, .int .i64 s, .int .i64 p, .int .i64 a]
theorem elKeyType : Try.prog.keyType 54 = true := by kernel_rfl
theorem elCells : Try.prog.cellsOf 54 = 4 := by kernel_rfl
theorem fldCells : Try.prog.cellsOf 23 = 3 := by kernel_rfl
theorem intCells : Try.prog.cellsOf 3 = 1 := by kernel_rfl
theorem elFuel : Try.prog.types.size + 1 = (Try.prog.types.size - 2) + 3 := by
  have h : 2 ≤ Try.prog.types.size := of_decide_eq_true (by kernel_rfl)
  omega
theorem kl_int (n : Nat) (a : Int) (h : (Lit.int .i64 a).wf = true) : Try.prog.keyLits (n + 1) 3 [.int .i64 a] = some [.int .i64 a] := by
  simp [Program.keyLits, Try.underlying3, h]
theorem kl_fld (n : Nat) (c s p : Int) (h0 : (Lit.int .i64 c).wf = true) (h1 : (Lit.int .i64 s).wf = true) (h2 : (Lit.int .i64 p).wf = true) :
    Try.prog.keyLits (n + 2) 23 [.int .i64 c, .int .i64 s, .int .i64 p] = some [.int .i64 c, .int .i64 s, .int .i64 p] := by
  unfold Program.keyLits
  rw [Try.underlying23]
  dsimp only
  rw [if_pos (by rw [fldCells]; exact ⟨rfl, by kernel_rfl⟩)]
  simp only [List.mapM_cons, List.mapM_nil, intCells, List.drop_zero, List.drop_succ_cons, List.take_succ_cons, List.take_zero, kl_int _ _ h0, kl_int _ _ h1, kl_int _ _ h2]
  rfl
theorem key_el (c s p a : Int) (h0 : (Lit.int .i64 c).wf = true) (h1 : (Lit.int .i64 s).wf = true) (h2 : (Lit.int .i64 p).wf = true) (h3 : (Lit.int .i64 a).wf = true) :
    keyOf Try.prog 54 (elv c s p a) = some (.string (keyBytes [.int .i64 c, .int .i64 s, .int .i64 p, .int .i64 a])) := by
  unfold keyOf
  have hu := Try.underlying54
  have hf : (elv c s p a).formed Try.prog 54 = true := by simp [Value.formed, hu, elCells]
  rw [hu]
  simp only [elKeyType, hf, Bool.and_self, if_true]
  rw [elFuel]
  generalize Try.prog.types.size - 2 = n
  have hl : Try.prog.keyLits (n + 3) 54 [.int .i64 c, .int .i64 s, .int .i64 p, .int .i64 a] = some [.int .i64 c, .int .i64 s, .int .i64 p, .int .i64 a] := by
    unfold Program.keyLits
    rw [hu]
    dsimp only
    rw [if_pos (by rw [elCells]; exact ⟨rfl, by kernel_rfl⟩)]
    simp only [List.mapM_cons, List.mapM_nil, intCells, fldCells, List.drop_zero, List.drop_succ_cons, List.take_succ_cons, List.take_zero, kl_int _ _ h3, kl_fld _ _ _ _ h0 h1 h2]
    rfl
  rw [show (elv c s p a).cells.toList = [.int .i64 c, .int .i64 s, .int .i64 p, .int .i64 a] from rfl, hl]
  rfl
/-- the key of an element, as read -/
def kl (c s p a : Int) : Lit := .string (keyBytes [.int .i64 c, .int .i64 s, .int .i64 p, .int .i64 a])
theorem wf_small (a : Nat) (h : a ≤ 9223372036854775807) : (Lit.int .i64 (a : Int)).wf = true := WalkArith.wf_i64 (by omega)
theorem key_nat (C S P A : Nat) (hC : C ≤ 4096) (hS : S ≤ 4096) (hP : P ≤ 8192) (hA : A ≤ 4096) : keyOf Try.prog 54 (elv C S P A) = some (kl C S P A) :=
  key_el _ _ _ _ (wf_small C (by omega)) (wf_small S (by omega)) (wf_small P (by omega)) (wf_small A (by omega))
theorem VF.c_le {C S P : Nat} (h : VF C S P) : C ≤ 4096 := by
  rcases h with ⟨_, h1, _, h2, _⟩ | ⟨d, _, _, _, _, h, _⟩ <;> omega
theorem VF.p_le {C S P : Nat} (h : VF C S P) : P ≤ 8192 := by
  rcases h with ⟨h1, _⟩ | ⟨d, _, h1, h2, _⟩
  · omega
  · have := (bl_le_iff P 13).1 (by omega); omega
theorem kl_inj {C S P A B : Nat} (hC : C ≤ 4096) (hS : S ≤ 4096) (hP : P ≤ 8192) (hA : A ≤ 4096) (hB : B ≤ 4096) (h : kl C S P A = kl C S P B) : A = B := by
  have h1 := key_nat C S P A hC hS hP hA
  have h2 := key_nat C S P B hC hS hP hB
  rw [h] at h1
  have h3 := elLaw.inj h1 h2
  have h4 : (A : Int) = B := by simpa using h3
  omega
/-- block b holds the logarithms of the first n powers of the generator -/
def LogMap (C S P n : Nat) (W : World) (b : Nat) : Prop :=
  ∃ D : DataW Unit, Maps.IsMap D ∧ W.ownsMap Try.prog 54 (plainElem Try.prog 3) b n D ∧
    ∀ j, j < n → D.atKey (kl C S P (fpowN S P (genF S P) j : Nat)) (.lit (.int .i64 0)) = .lit (.int .i64 j)
theorem zeroInt (w : World) : (zeroValue 3).run Try.prog w = .ok (.int .i64 0) w := by kernel_rfl
theorem LogMap.kept {C S P n : Nat} {W W' : World} {b : Nat} (h : LogMap C S P n W b) (hb : Below W.heap.size W W') : LogMap C S P n W' b := by
  obtain ⟨D, h1, h2, h3⟩ := h
  refine ⟨D, h1, ?_, h3⟩
  obtain ⟨es, clock, hh, F, hs, hD⟩ := h2
  exact ⟨es, clock, (hb.block b ((Array.getElem?_eq_some_iff.1 hh).1)).trans hh, F, hs, hD⟩
theorem LogMap.lookup {C S P : Nat} (hv : VF C S P) {W : World} {b : Nat} (h : LogMap C S P (S - 1) W b) (A : Nat) (hA : A < S) (h0 : A ≠ 0) :
    (Instr.lookup 51 (.map (some b)) (elv C S P A) false).run Try.prog W = .ok (.int .i64 (logF S P A : Nat)) W := by
  obtain ⟨D, h1, h2, h3⟩ := h
  obtain ⟨c, hrun, hat, -⟩ := h2.lookup_int elLaw Try.underlying51 Try.underlying3 (zeroInt _) (key_nat C S P A hv.c_le hv.le hv.p_le (by have := hv.le; omega))
  have hl := logF_spec hv hA h0
  have := h3 _ hl.1
  rw [hl.2] at this
  rw [this] at hat
  have hc : ((logF S P A : Nat) : Int) = c := by simpa using hat
  rw [hrun, hc]
theorem LogMap.put {C S P n : Nat} (hv : VF C S P) (hn : n < S - 1) {D : DataW Unit} (h1 : Maps.IsMap D)
    (h3 : ∀ j, j < n → D.atKey (kl C S P (fpowN S P (genF S P) j : Nat)) (.lit (.int .i64 0)) = .lit (.int .i64 j)) :
    Maps.IsMap (D.put (kl C S P (fpowN S P (genF S P) n : Nat)) (.lit (.int .i64 n))) ∧
    ∀ j, j < n + 1 → (D.put (kl C S P (fpowN S P (genF S P) n : Nat)) (.lit (.int .i64 n))).atKey (kl C S P (fpowN S P (genF S P) j : Nat)) (.lit (.int .i64 0)) = .lit (.int .i64 j) := by
  have hS := hv.le
  have hlt : ∀ j, fpowN S P (genF S P) j < S := fun j => fpowN_lt hv _ _
  refine ⟨h1.put _ _, fun j hj => ?_⟩
  by_cases hjn : j = n
  · subst hjn
    exact Maps.atKey_put_same h1 (elLaw.key (key_nat C S P _ hv.c_le hS hv.p_le (by have := hlt j; omega))) _ _
  · rw [Maps.atKey_put_other]
    · exact h3 j (by omega)
    · intro e
      have := kl_inj hv.c_le hS hv.p_le (by have := hlt j; omega) (by have := hlt n; omega) e
      exact hjn (gen_inj hv (by omega) hn this)
end Go.Proofs.Ytefnflmabdpnbaa
