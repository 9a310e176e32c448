import Derived.Test.YtefnflmabdpnbaaWalkC
import Derived.Deep.QuietTactic
import Derived.BigQuiet
namespace Go.Proofs.Ytefnflmabdpnbaa
open Go.RowKit
/-- a callee that leaves the world alone, inside a quiet region -/
theorem quietL {P : Program} {f : FuncId} {args : Array Value} {w : World} {n : Nat} {v : Value}
    (h : Calls P f args (w.drewN n) fun e w' => e = .returned v ∧ w.drewN n = w') :
    Calls P f args (w.drewN n) fun e w'' => e = .returned v ∧ ∃ m, w'' = w.drewN m :=
  h.mono fun _ _ hx => ⟨hx.1, n, hx.2.symm⟩
theorem below_drewN {B : Nat} {a w : World} (h : Below B a w) (n : Nat) : Below B a (w.drewN n) := ⟨h.os, h.tape, h.output, h.size, h.block⟩
/-! Valid -/
def vldB (c s p : Int) : Bool :=
  if p = 0 then decide (2 < s) && decide (s ≤ 4096) && decide (c = s) && primeB s.toNat
  else decide (2 ≤ p) && decide (bl p.toNat ≤ 13) && decide (c = 2) && decide (s = ((2 ^ (bl p.toNat - 1) : Nat) : Int)) && irrB p.toNat

abbrev fldv (c s p : Int) : Value := .agg #[.int .i64 c, .int .i64 s, .int .i64 p]

set_option maxHeartbeats 400000 in
theorem valid_a1 (c s : Int) (w : World) (h : ¬ 2 < s) :
    Calls Try.prog 14 #[fldv c s 0] w fun e w' => e = .returned (.bool (vldB c s 0)) ∧ Below w.heap.size w w' := by
  have hI : vldB c s 0 = false := by unfold vldB; simp; omega
  have HI := Lib.hid hI; clear hI
  go_enter Try.func14, Try.ntmps14
  go_wp2
  go_ret
  exact ⟨ret_bool HI.out.symm, (Below.refl _ _).alloc (Nat.le_refl _) _⟩
set_option maxHeartbeats 400000 in
theorem valid_a4 (c s : Int) (w : World) (h : 2 < s) (h2 : s ≤ 4096) (h3 : c = s) :
    Calls Try.prog 14 #[fldv c s 0] w fun e w' => e = .returned (.bool (vldB c s 0)) ∧ Below w.heap.size w w' := by
  have hI : vldB c s 0 = primeB s.toNat := by unfold vldB; simp; omega
  have HI := Lib.hid hI; clear hI
  subst h3
  go_enter Try.func14, Try.ntmps14
  go_wp2_with (go_at_call 42; refine (prime_any _ _ (by omega) (by omega)).mono ?_; rintro e w' ⟨rfl, rfl⟩)
  go_ret
  exact ⟨ret_bool HI.out.symm, (Below.refl _ _).alloc (Nat.le_refl _) _⟩
set_option maxHeartbeats 400000 in
theorem valid_a2 (c s : Int) (w : World) (h : 2 < s) (h2 : 4096 < s) :
    Calls Try.prog 14 #[fldv c s 0] w fun e w' => e = .returned (.bool (vldB c s 0)) ∧ Below w.heap.size w w' := by
  have hI : vldB c s 0 = false := by unfold vldB; simp; omega
  have HI := Lib.hid hI; clear hI
  go_enter Try.func14, Try.ntmps14
  go_wp2
  go_ret
  exact ⟨ret_bool HI.out.symm, (Below.refl _ _).alloc (Nat.le_refl _) _⟩
set_option maxHeartbeats 400000 in
theorem valid_a3 (c s : Int) (w : World) (h : 2 < s) (h2 : s ≤ 4096) (h3 : (c == s) = false) :
    Calls Try.prog 14 #[fldv c s 0] w fun e w' => e = .returned (.bool (vldB c s 0)) ∧ Below w.heap.size w w' := by
  have hI : vldB c s 0 = false := by unfold vldB; have := ne_of_beq_false h3; simp [this]
  have HI := Lib.hid hI; clear hI
  go_enter Try.func14, Try.ntmps14
  go_wp2
  go_ret
  exact ⟨ret_bool HI.out.symm, (Below.refl _ _).alloc (Nat.le_refl _) _⟩
theorem valid_a (c s : Int) (w : World) :
    Calls Try.prog 14 #[fldv c s 0] w fun e w' => e = .returned (.bool (vldB c s 0)) ∧ Below w.heap.size w w' := by
  by_cases h : 2 < s
  · by_cases h2 : s ≤ 4096
    · by_cases h3 : c = s
      · exact valid_a4 c s w h h2 h3
      · exact valid_a3 c s w h h2 (beq_false_of_ne h3)
    · exact valid_a2 c s w h (by omega)
  · exact valid_a1 c s w h
set_option maxHeartbeats 400000 in
theorem valid_b1 (c s p : Int) (w : World) (hp0 : (p == 0) = false) (h : p < 2) :
    Calls Try.prog 14 #[fldv c s p] w fun e w' => e = .returned (.bool (vldB c s p)) ∧ Below w.heap.size w w' := by
  have hI : vldB c s p = false := by unfold vldB; have := ne_of_beq_false hp0; rw [if_neg this]; simp; omega
  have HI := Lib.hid hI; clear hI
  go_enter Try.func14, Try.ntmps14
  go_wp2
  go_ret
  exact ⟨ret_bool HI.out.symm, (Below.refl _ _).alloc (Nat.le_refl _) _⟩
set_option maxHeartbeats 400000 in
theorem valid_b2 (c s p : Int) (w : World) (hp0 : (p == 0) = false) (h : 2 ≤ p) (h1 : p ≤ 9223372036854775807) (h2 : 13 < bl p.toNat) :
    Calls Try.prog 14 #[fldv c s p] w fun e w' => e = .returned (.bool (vldB c s p)) ∧ Below w.heap.size w w' := by
  have hI : vldB c s p = false := by unfold vldB; have := ne_of_beq_false hp0; rw [if_neg this]; simp; omega
  have HI := Lib.hid hI; clear hI
  go_enter Try.func14, Try.ntmps14
  go_wp2_with (go_at_call 44; refine (degree_any _ _ (by omega) (by omega)).mono ?_; rintro e w' ⟨rfl, rfl⟩)
  go_ret
  exact ⟨ret_bool HI.out.symm, (Below.refl _ _).alloc (Nat.le_refl _) _⟩
abbrev szw (p : Int) : Int := IntKind.i64.wrap (2 ^ (bl p.toNat - 1))
theorem szw_eq (p : Int) (h2 : bl p.toNat ≤ 13) : szw p = ((2 ^ (bl p.toNat - 1) : Nat) : Int) := by
  show IntKind.i64.wrap (2 ^ (bl p.toNat - 1)) = _
  have h := Nat.pow_le_pow_right (n := 2) (by omega) (show bl p.toNat - 1 ≤ 12 by omega)
  rw [show ((2 : Int) ^ (bl p.toNat - 1)) = ((2 ^ (bl p.toNat - 1) : Nat) : Int) from by simp]
  generalize 2 ^ (bl p.toNat - 1) = N at *
  rw [IntKind.wrap_i64]; omega
set_option maxHeartbeats 400000 in
theorem valid_b3 (c s p : Int) (w : World) (hp0 : (p == 0) = false) (h : 2 ≤ p) (h1 : p ≤ 9223372036854775807) (h2 : bl p.toNat ≤ 13) (hb : 2 ≤ bl p.toNat)
    (h3 : (c == 2) = false) :
    Calls Try.prog 14 #[fldv c s p] w fun e w' => e = .returned (.bool (vldB c s p)) ∧ Below w.heap.size w w' := by
  have hI : vldB c s p = false := by unfold vldB; have := ne_of_beq_false hp0; rw [if_neg this]; have := ne_of_beq_false h3; simp [this]
  have HI := Lib.hid hI; clear hI
  go_enter Try.func14, Try.ntmps14
  go_wp2_with (go_at_call 44; refine (degree_any _ _ (by omega) (by omega)).mono ?_; rintro e w' ⟨rfl, rfl⟩)
  go_quiet ((first | (go_at_call 44; exact quietL (degree_any _ _ (by omega) (by omega))) | (go_at_call 45; exact quietL (irr_any _ _ (by omega) h2))))
  go_wp2
  go_ret
  exact ⟨ret_bool HI.out.symm, below_drewN ((Below.refl _ _).alloc (Nat.le_refl _) _) _⟩
set_option maxHeartbeats 400000 in
theorem valid_b4 (s z p : Int) (w : World) (hp0 : (p == 0) = false) (h : 2 ≤ p) (h1 : p ≤ 9223372036854775807) (h2 : bl p.toNat ≤ 13) (hb : 2 ≤ bl p.toNat)
    (hz : IntKind.i64.wrap (2 ^ (bl p.toNat - 1)) = z) (h3 : (s == z) = false) :
    Calls Try.prog 14 #[fldv 2 s p] w fun e w' => e = .returned (.bool (vldB 2 s p)) ∧ Below w.heap.size w w' := by
  have hI : vldB 2 s p = false := by
    unfold vldB; have := ne_of_beq_false hp0; rw [if_neg this]; rw [← szw_eq p h2]
    have h4 : ¬ s = szw p := by rw [show szw p = z from hz]; exact ne_of_beq_false h3
    simp [h4]
  have HI := Lib.hid hI; clear hI
  go_enter Try.func14, Try.ntmps14
  go_wp2_with (go_at_call 44; refine (degree_any _ _ (by omega) (by omega)).mono ?_; rintro e w' ⟨rfl, rfl⟩)
  go_quiet ((first | (go_at_call 44; exact quietL (degree_any _ _ (by omega) (by omega))) | (go_at_call 45; exact quietL (irr_any _ _ (by omega) h2))))
  go_wp2
  go_ret
  exact ⟨ret_bool HI.out.symm, below_drewN ((Below.refl _ _).alloc (Nat.le_refl _) _) _⟩
set_option maxHeartbeats 400000 in
theorem valid_b5 (s p : Int) (w : World) (hp0 : (p == 0) = false) (h : 2 ≤ p) (h1 : p ≤ 9223372036854775807) (h2 : bl p.toNat ≤ 13) (hb : 2 ≤ bl p.toNat)
    (hz : IntKind.i64.wrap (2 ^ (bl p.toNat - 1)) = s) :
    Calls Try.prog 14 #[fldv 2 s p] w fun e w' => e = .returned (.bool (vldB 2 s p)) ∧ Below w.heap.size w w' := by
  have hI : vldB 2 s p = irrB p.toNat := by
    rw [← show szw p = s from hz]
    unfold vldB; have := ne_of_beq_false hp0; rw [if_neg this]; rw [← szw_eq p h2]
    simp [h, h2]
  have HI := Lib.hid hI; clear hI
  go_enter Try.func14, Try.ntmps14
  go_wp2_with (go_at_call 44; refine (degree_any _ _ (by omega) (by omega)).mono ?_; rintro e w' ⟨rfl, rfl⟩)
  go_quiet ((first | (go_at_call 44; exact quietL (degree_any _ _ (by omega) (by omega))) | (go_at_call 45; exact quietL (irr_any _ _ (by omega) h2))))
  go_wp2
  go_ret
  exact ⟨ret_bool HI.out.symm, below_drewN ((Below.refl _ _).alloc (Nat.le_refl _) _) _⟩
theorem two_le_bl (p : Int) (h : 2 ≤ p) : 2 ≤ bl p.toNat := by
  have h1 := bl_mono 2 p.toNat (by omega)
  have e : bl 2 = 2 := by decide
  omega
theorem valid_any (c s p : Int) (w : World) (h1 : p ≤ 9223372036854775807) :
    Calls Try.prog 14 #[fldv c s p] w fun e w' => e = .returned (.bool (vldB c s p)) ∧ Below w.heap.size w w' := by
  by_cases hp0 : p = 0
  · subst hp0; exact valid_a c s w
  have hpb := beq_false_of_ne hp0
  by_cases h : 2 ≤ p
  · have hb := two_le_bl p h
    by_cases h2 : bl p.toNat ≤ 13
    · by_cases h3 : c = 2
      · subst h3
        by_cases h4 : s = IntKind.i64.wrap (2 ^ (bl p.toNat - 1))
        · exact valid_b5 s p w hpb h h1 h2 hb h4.symm
        · exact valid_b4 s _ p w hpb h h1 h2 hb rfl (beq_false_of_ne h4)
      · exact valid_b3 c s p w hpb h h1 h2 hb (beq_false_of_ne h3)
    · exact valid_b2 c s p w hpb h h1 (by omega)
  · exact valid_b1 c s p w hpb (by omega)
end Go.Proofs.Ytefnflmabdpnbaa
