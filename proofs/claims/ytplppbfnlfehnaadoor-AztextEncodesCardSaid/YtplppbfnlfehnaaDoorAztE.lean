import Derived.Test.YtplppbfnlfehnaaDoorAztD
import Derived.Test.YtplppbfnlfehnaaDoorBits
import Derived.Laws.CopyOwn
namespace Go.Proofs.YtplppbfnlfehnaaDoor
open Go.RowKit
set_option linter.unusedVariables false
/-! bits of numbers -/
/-- bit i of v -/
def bitV (v i : Nat) : Bool := v / 2 ^ i % 2 == 1
/-- the k bits under bit n, the highest first -/
def lowF (v n : Nat) : Nat → List Bool
  | 0 => []
  | k + 1 => lowF v n k ++ [bitV v (n - 1 - k)]
def lowB (v n : Nat) : List Bool := lowF v n n
theorem lowF_length (v n k : Nat) : (lowF v n k).length = k := by
  induction k with
  | zero => rfl
  | succ k ih => unfold lowF; rw [List.length_append, ih]; rfl
theorem bit_fact (v i : Nat) (hv : v ≤ 1000000000000) : (bits BinOp.and IntKind.i64 ((v : Int) / 2 ^ i) 1 == 1) = bitV v i := by
  have e : ((v : Int) / 2 ^ i) = ((v / 2 ^ i : Nat) : Int) := by simp
  have hlt : v / 2 ^ i < 2 ^ 62 := Nat.lt_of_le_of_lt (Nat.div_le_self _ _) (by omega)
  rw [e, i64_and_one _ hlt]
  unfold bitV
  generalize v / 2 ^ i % 2 = x
  by_cases h : x = 1
  · subst h; rfl
  · rw [beq_eq_false_iff_ne.2 h, beq_eq_false_iff_ne]; omega
set_option maxRecDepth 100000 in
set_option maxHeartbeats 2000000 in
theorem appendLow_any (base : Nat) (bs : List Bool) (u : Value) (v n : Nat) (w : World) (hv : v ≤ 1000000000000) (hn : n ≤ 62) (hl : bs.length ≤ 100000000) (hb : base ≤ w.heap.size) (ho : w.ownsRow base 4 1 u bs.length (bs.map vB)) :
    Calls Tryd.prog 56 #[u, .int .i64 v, .int .i64 n] w fun e w' => ∃ u', e = .returned u' ∧ w'.ownsRow base 4 1 u' (bs ++ lowB v n).length ((bs ++ lowB v n).map vB) ∧ Below base w w' := by
  obtain ⟨i0, hi, hz0, hz1, hz2⟩ := info_parts boolInfo
  have HO := Lib.hid ho
  clear ho
  go_enter Tryd.func56, Tryd.ntmps56
  go_wp2
  go_loopw [0, 7] (fun ov iv wr => ∃ (k : Nat) (j : Int), k ≤ n ∧ iv = .int .i64 j ∧ Hid (j = (n : Int) - 1 - k) ∧ Hid (Below base w wr) ∧ Hid (wr.ownsRow base 4 1 ov (bs ++ lowF v n k).length ((bs ++ lowF v n k).map vB))) (fun _ iv _ => (intOf iv + 1).toNat)
  case atStart => exact ⟨0, _, Nat.zero_le _, rfl, by show _ = _; omega, Below.refl _ _, by show World.ownsRow _ _ _ _ _ _ _; rw [show lowF v n 0 = [] from rfl, List.append_nil]; exact HO.out⟩
  case round =>
    obtain ⟨k, j, hk, rfl, hj, hW, hO⟩ := hrel
    by_cases hlt : k < n
    · obtain ⟨i, hi1⟩ : ∃ i, i = n - 1 - k := ⟨_, rfl⟩
      obtain rfl : j = (i : Int) := by have := hj.out; omega
      have HI := Lib.hid hi1
      have hi2 : i ≤ 61 := by omega
      clear hi1
      have hbit := bit_fact v i hv
      have HST : Hid (lowF v n (k + 1) = lowF v n k ++ [bitV v i]) := by show _ = _; rw [HI.out]; rfl
      have HLE : Hid ((bs ++ lowF v n k).length ≤ 100000062) := by show _ ≤ _; rw [List.length_append, lowF_length]; omega
      generalize bitV v i = y at *
      have HSZ : Hid (base ≤ wr.heap.size) := Nat.le_trans hb hW.out.size
      go_wp2_with (at_builtin; refine wpList_append_G (f := vB) (d := false) oneB rfl _ _ _ rfl base 4 i0 _ 1 Tryd.underlying24 hi hz0 hz1 hz2 rfl _ _ (bs ++ lowF v n k) rfl (ownsRow_alloc' hO.out _) (some ⟨wr.heap.size, 0, none⟩) 1 1 [y] rfl rfl (RG.one _ _ _ _ rfl) (by unfold maxLen; have := HLE.out; omega) (by have := HLE.out; omega) (by have := HSZ.out; simp; omega) ?_; intro v5 w5 hown hg; have HB5 : Hid (Below base w w5) := ((hW.out.alloc HSZ.out _).grown hg (by have := HSZ.out; simp; omega) (fun q hq => (hO.out.lt q hq).1)); have HO5 := Lib.hid hown; clear hown hg)
      exact ⟨⟨k + 1, _, by omega, rfl, by have := HI.out; show _ = _; omega, HB5.out, by
        show World.ownsRow _ _ _ _ _ _ _
        rw [HST.out, ← List.append_assoc]
        have e1 : (bs ++ lowF v n k ++ [y]).length = (bs ++ lowF v n k).length + 1 := List.length_append
        rw [e1]; exact HO5.out⟩, by simp [intOf]⟩
    · obtain rfl : k = n := by omega
      have hj0 : decide ((0 : Int) ≤ j) = false := by have := hj.out; simp; omega
      go_wp2
      go_ret
      exact ⟨_, rfl, hO.out, hW.out⟩
theorem boolSz : (Tryd.prog.info? 4).map (·.size) = some 1 := by kernel_rfl
/-- Append of a number to no bits -/
theorem lowB_length (v n : Nat) : (lowB v n).length = n := lowF_length v n n
set_option maxRecDepth 100000 in
set_option maxHeartbeats 2000000 in
theorem Append0_any (v n : Nat) (w : World) (hv : v ≤ 1000000000000) (hn : n ≤ 62) :
    Calls Tryd.prog 40 #[.slice none 0 0, .int .i64 v, .int .i64 n] w (RT vB false w (lowB v n, 0)) := by
  obtain ⟨i0, hi, hz0, hz1, hz2⟩ := info_parts boolInfo
  have hcp : ∀ w1 : World, (Builtin.copy_ #[24, 24] 3 #[.slice (some ⟨w.heap.size, 0, none⟩) 0 n, .slice none 0 0]).run Tryd.prog w1 = .ok (goInt 0) w1 := fun w1 => run_copy_none w1 _ _ _ 4 _ _ _ _ _ _ Tryd.underlying24 boolSz (by simp)
  go_enter Tryd.func40, Tryd.ntmps40
  go_wp2_with (first
    | (at_make; refine wpList_make_own _ rfl _ _ _ rfl w.heap.size 4 i0 _ 1 Tryd.underlying24 hi hz0 hz1 .i64 .i64 _ n rfl rfl (by first | rfl | omega) (by rw [hz2]; omega) (by unfold maxLen; omega) (Nat.le_refl _) ?_; intro w1 hown hg; have HO1 := Lib.hid hown; have HB1 : Hid (Below w.heap.size w w1) := (Below.refl _ _).grown hg (Nat.le_refl _) (fun q hq => by cases hq); clear hown hg)
    | (go_at_call 56; refine (appendLow_any w.heap.size [] _ v n _ hv hn (by simp) HB1.out.size HO1.out).mono ?_; rintro e w2 ⟨u2, rfl, ho2, hb2⟩; have HO2 := Lib.hid ho2; have HB2 := Lib.hid hb2; clear ho2 hb2))
  go_ret2
  exact RT.mk rfl (by have h := HO2.out; rw [List.nil_append] at h; exact SG.of_own h) (HB1.out.trans HB2.out)
end Go.Proofs.YtplppbfnlfehnaaDoor
