import Derived.Test.YtplppbfnlfehnaaDoorAztG
import Derived.Test.YtplppbfnlfehnaaDoorAztC
namespace Go.Proofs.YtplppbfnlfehnaaDoor
open Go.RowKit
set_option linter.unusedVariables false
/-! stuffed and unstuffed: plain facts -/
theorem bitV_step (x y i : Nat) (hy : y ≤ 1) : bitV (2 * x + y) (i + 1) = bitV x i := by
  unfold bitV
  have e : (2 * x + y) / 2 ^ (i + 1) = x / 2 ^ i := by
    rw [Nat.pow_succ, Nat.mul_comm (2 ^ i) 2, ← Nat.div_div_eq_div_mul]
    congr 1
    omega
  rw [e]
theorem bitV_zero (x y : Nat) (hy : y ≤ 1) : bitV (2 * x + y) 0 = (y == 1) := by
  unfold bitV
  rw [Nat.pow_zero, Nat.div_one]
  have e : (2 * x + y) % 2 = y := by omega
  rw [e]
theorem lowF_step (x y j : Nat) (hy : y ≤ 1) : ∀ k, k ≤ j → lowF (2 * x + y) (j + 1) k = lowF x j k
  | 0, _ => rfl
  | k + 1, h => by
    show lowF _ _ k ++ [bitV _ (j + 1 - 1 - k)] = lowF _ _ k ++ [bitV _ (j - 1 - k)]
    rw [lowF_step x y j hy k (by omega), show j + 1 - 1 - k = (j - 1 - k) + 1 from by omega, bitV_step _ _ _ hy]
theorem lowB_step (x y j : Nat) (hy : y ≤ 1) : lowB (2 * x + y) (j + 1) = lowB x j ++ [y == 1] := by
  show lowF _ _ j ++ [bitV _ (j + 1 - 1 - j)] = _
  rw [lowF_step x y j hy j (Nat.le_refl _), show j + 1 - 1 - j = 0 from by omega, bitV_zero _ _ hy]
  rfl
/-- the bits from a place on, ones behind the end -/
def oneB_ (b : List Bool) (k j : Nat) : List Bool := (List.range j).map fun i => b.getD (k + i) true
theorem oneB_len (b : List Bool) (k j : Nat) : (oneB_ b k j).length = j := by unfold oneB_; simp
theorem oneB_succ (b : List Bool) (k j : Nat) : oneB_ b k (j + 1) = oneB_ b k j ++ [b.getD (k + j) true] := by
  unfold oneB_
  rw [List.range_succ, List.map_append]; rfl
theorem oneB_add (b : List Bool) (k j : Nat) : ∀ i, oneB_ b k (j + i) = oneB_ b k j ++ oneB_ b (k + j) i
  | 0 => by show oneB_ b k j = _ ++ []; rw [List.append_nil]
  | i + 1 => by
    rw [← Nat.add_assoc, oneB_succ, oneB_succ, oneB_add b k j i, List.append_assoc, Nat.add_assoc]
theorem bitN_one (b : List Bool) (k : Nat) : (bitN b k == 1) = b.getD k true := by
  unfold bitN
  by_cases h : k < b.length
  · simp only [List.getD_eq_getElem?_getD, List.getElem?_eq_getElem h, Option.getD_some]
    cases b[k] <;> simp [h]
  · have e : b.getD k true = true := by rw [List.getD_eq_getElem?_getD, List.getElem?_eq_none (by omega)]; rfl
    rw [if_neg (fun h2 => h h2.1), e]; rfl
theorem lowB_sfV (b : List Bool) (k : Nat) : ∀ j, lowB (sfV b k j) j = oneB_ b k j
  | 0 => rfl
  | j + 1 => by
    show lowB (2 * sfV b k j + bitN b (k + j)) (j + 1) = _
    rw [lowB_step _ _ _ (bitN_le b _), lowB_sfV b k j, oneB_succ, bitN_one]
theorem two_pow (t : Nat) : 2 ^ (t + 1) = 2 * 2 ^ t := by rw [Nat.pow_succ, Nat.mul_comm]
/-- a word, and the bits that it stands for -/
theorem sfW_spec (b : List Bool) (s k : Nat) (hs : 2 ≤ s) : 1 ≤ (sfW b s k).1 ∧ (sfW b s k).1 < 2 ^ s - 1 ∧ k + (s - 1) ≤ (sfW b s k).2 ∧ (sfW b s k).2 ≤ k + s ∧ unB s (sfW b s k).1 = oneB_ b k ((sfW b s k).2 - k) := by
  obtain ⟨t, rfl⟩ : ∃ t, s = t + 1 := ⟨s - 1, by omega⟩
  have hlt := sfV_lt b k t
  have hls := lowB_sfV b k t
  have hp : 2 ≤ 2 ^ t := by
    have := Nat.pow_le_pow_right (n := 2) (by omega) (show 1 ≤ t by omega)
    simpa using this
  have e2 := two_pow t
  have eh : (2 ^ (t + 1) - 1) / 2 = 2 ^ t - 1 := by omega
  unfold sfW
  rw [Nat.add_sub_cancel]
  generalize hv : sfV b k t = v at *
  by_cases h0 : v = 0
  · rw [if_pos h0]
    refine ⟨Nat.le_refl _, by show 1 < _; omega, Nat.le_refl _, by show k + t ≤ _; omega, ?_⟩
    show unB (t + 1) 1 = oneB_ b k (k + t - k)
    rw [Nat.add_sub_cancel_left, ← hls, h0]
    unfold unB
    rw [if_pos (.inl rfl)]; rfl
  · rw [if_neg h0]
    by_cases h1 : v = 2 ^ t - 1
    · rw [if_pos h1]
      refine ⟨by show 1 ≤ 2 * v; omega, by show 2 * v < _; omega, Nat.le_refl _, by show k + t ≤ _; omega, ?_⟩
      show unB (t + 1) (2 * v) = oneB_ b k (k + t - k)
      rw [Nat.add_sub_cancel_left, ← hls]
      unfold unB
      have e : 2 * v / 2 = v := by omega
      rw [e, if_pos (.inr (by rw [eh]; exact h1))]; rfl
    · rw [if_neg h1]
      have hb := bitN_le b (k + t)
      refine ⟨by show 1 ≤ 2 * v + _; omega, by show 2 * v + _ < _; omega, by show k + t ≤ k + (t + 1); omega, Nat.le_refl _, ?_⟩
      show unB (t + 1) (2 * v + bitN b (k + t)) = oneB_ b k (k + (t + 1) - k)
      rw [Nat.add_sub_cancel_left]
      unfold unB
      have e : (2 * v + bitN b (k + t)) / 2 = v := by omega
      rw [e, if_neg (by rw [eh]; omega), lowB_step _ _ _ hb, hls, oneB_succ, bitN_one]
theorem stuff_spec (b : List Bool) (s : Nat) (hs : 2 ≤ s) : ∀ (f k : Nat), b.length ≤ f + k → k < b.length + s →
    (∀ x ∈ stuffFrom b s f k, 1 ≤ x ∧ x < 2 ^ s - 1) ∧ (stuffFrom b s f k).length ≤ b.length - k ∧
    (k < b.length → (stuffFrom b s f k).length * (s - 1) + k ≤ b.length + s - 2) ∧
    ∃ e, b.length ≤ e ∧ e < b.length + s ∧ k ≤ e ∧ ((stuffFrom b s f k).map (unB s)).flatten = oneB_ b k (e - k) ∧ e - k ≤ (stuffFrom b s f k).length * s
  | 0, k, hf, hk => by
    refine ⟨fun x hx => (by cases hx), Nat.zero_le _, fun h => absurd h (by omega), k, by omega, hk, Nat.le_refl _, ?_, by simp⟩
    rw [Nat.sub_self]; rfl
  | f + 1, k, hf, hk => by
    by_cases hkl : k < b.length
    · have hw := sfW_spec b s k hs
      have e1 : stuffFrom b s (f + 1) k = (sfW b s k).1 :: stuffFrom b s f (sfW b s k).2 := by
        show (if k < b.length then _ else _) = _
        rw [if_pos hkl]
      obtain ⟨w1, w2, w3, w4, w5⟩ := hw
      generalize sfW b s k = q at *
      obtain ⟨i1, i2, i3, e, i4, i5, i6, i7, i8⟩ := stuff_spec b s hs f q.2 (by omega) (by omega)
      rw [e1]
      generalize stuffFrom b s f q.2 = r at *
      refine ⟨fun x hx => ?_, ?_, fun _ => ?_, e, i4, i5, by omega, ?_, ?_⟩
      · rcases List.mem_cons.1 hx with rfl | hx
        · exact ⟨w1, w2⟩
        · exact i1 x hx
      · rw [List.length_cons]; omega
      · rw [List.length_cons, Nat.succ_mul]
        by_cases h : q.2 < b.length
        · have := i3 h; omega
        · have h0 : r.length = 0 := by omega
          rw [h0]; omega
      · rw [List.map_cons, List.flatten_cons, i7, w5, show e - k = (q.2 - k) + (e - q.2) from by omega, oneB_add, show k + (q.2 - k) = q.2 from by omega]
      · rw [List.length_cons, Nat.succ_mul]; omega
    · rw [stuff_end b s (f + 1) k (by omega)]
      refine ⟨fun x hx => (by cases hx), Nat.zero_le _, fun h => absurd h hkl, k, by omega, hk, Nat.le_refl _, ?_, by simp⟩
      rw [Nat.sub_self]; rfl
theorem unF_flat (s : Nat) (ws : List Int) : ∀ k, k ≤ ws.length → unF s ws k = ((ws.take k).map fun w => unB s w.toNat).flatten
  | 0, _ => rfl
  | k + 1, h => by
    show unF s ws k ++ unB s (ws.getD k 0).toNat = _
    rw [unF_flat s ws k (by omega), List.take_add_one, List.getElem?_eq_getElem (by omega), List.map_append, List.flatten_append]
    congr 1
    rw [List.getD_eq_getElem?_getD, List.getElem?_eq_getElem (by omega)]
    simp
def zN (l : List Nat) : List Int := l.map fun x : Nat => (x : Int)
theorem zN_len (l : List Nat) : (zN l).length = l.length := by simp [zN]
theorem unF_zN (s : Nat) (l : List Nat) : unF s (zN l) (zN l).length = (l.map (unB s)).flatten := by
  rw [unF_flat s (zN l) _ (Nat.le_refl _), List.take_length]
  congr 1
  unfold zN
  rw [List.map_map]
  rfl
theorem oneB_take (b : List Bool) (e : Nat) (h : b.length ≤ e) : (oneB_ b 0 e).take b.length = b := by
  apply List.ext_getElem?
  intro i
  by_cases hi : i < b.length
  · rw [List.getElem?_take_of_lt hi]
    unfold oneB_
    rw [List.getElem?_map, List.getElem?_range (by omega), Option.map_some, Nat.zero_add, List.getD_eq_getElem?_getD, List.getElem?_eq_getElem hi]; rfl
  · rw [List.getElem?_eq_none (by rw [List.length_take]; omega), List.getElem?_eq_none (by omega)]
theorem oneB_tail (b : List Bool) (e i : Nat) (h : b.length ≤ i) (hi : i < e) : (oneB_ b 0 e).getD i false = true := by
  unfold oneB_
  rw [List.getD_eq_getElem?_getD, List.getElem?_map, List.getElem?_range hi, Option.map_some, Nat.zero_add, List.getD_eq_getElem?_getD, List.getElem?_eq_none h]; rfl
/-- what stuffing leaves, unstuffed -/
theorem unstuff_stuff (b : List Bool) (s : Nat) (hs : 2 ≤ s) (hs2 : s ≤ 12) (hb : b.length ≤ 80000) : ∃ e, b.length ≤ e ∧ e < b.length + s ∧ unstuffRes (zN (stuffL b s)) s = (oneB_ b 0 e, 0) ∧
    b.length ≤ (stuffL b s).length * s ∧ (stuffL b s).length * (s - 1) ≤ b.length + s - 2 ∧ (∀ x ∈ stuffL b s, 1 ≤ x ∧ x < 2 ^ s - 1) ∧ (stuffL b s).length ≤ b.length := by
  obtain ⟨h1, h2, h3, e, h4, h5, h6, h7, h8⟩ := stuff_spec b s hs b.length 0 (by omega) (by omega)
  refine ⟨e, h4, h5, ?_, ?_, ?_, h1, by have h9 : (stuffL b s).length ≤ b.length - 0 := h2; omega⟩
  · have hl : (stuffL b s).length ≤ b.length := h2
    have hin : inW s (zN (stuffL b s)) = true := by
      unfold inW
      rw [List.all_eq_true]
      intro x hx
      obtain ⟨y, hy, rfl⟩ := List.mem_map.1 hx
      have := h1 y hy
      rw [decide_eq_true (by omega), decide_eq_true (by omega)]; rfl
    have hok : okW s (zN (stuffL b s)) = true := by
      unfold okW
      rw [List.all_eq_true]
      intro x hx
      obtain ⟨y, hy, rfl⟩ := List.mem_map.1 hx
      have := h1 y hy
      rw [beq_eq_false_iff_ne.2 (by omega), beq_eq_false_iff_ne.2 (by omega)]; rfl
    have hq : ¬ 1048576 / (s : Int) < ((zN (stuffL b s)).length : Int) := by
      rw [zN_len]
      have h9 : (87381 : Int) ≤ 1048576 / (s : Int) := (Int.le_ediv_iff_mul_le (by omega)).2 (by omega)
      omega
    unfold unstuffRes
    rw [if_neg (by omega), if_neg (by rw [show ((s : Nat) : Int).toNat = s from rfl, hin]; simp), if_neg hq, if_neg (by rw [show ((s : Nat) : Int).toNat = s from rfl, hok]; simp)]
    rw [show ((s : Nat) : Int).toNat = s from rfl, unF_zN]
    have h7' := h7
    rw [Nat.sub_zero] at h7'
    rw [show ((stuffL b s).map (unB s)).flatten = oneB_ b 0 e from h7']
  · have h8' : e - 0 ≤ (stuffL b s).length * s := h8
    omega
  · by_cases h0 : 0 < b.length
    · have := h3 h0
      exact this
    · have hz : (stuffL b s).length = 0 := by
        have : (stuffL b s).length ≤ b.length - 0 := h2
        omega
      rw [hz]; omega
end Go.Proofs.YtplppbfnlfehnaaDoor
