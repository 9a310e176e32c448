import Derived.Test.YtmnlkganmgcpbaaGreatDoorQa11
import Derived.Lib.AppendStr
import Derived.Test.YtmnlkganmgcpbaaGreatDoorQa3
import Derived.Test.YtmnlkganmgcpbaaGreatDoorQa2
namespace Go.Proofs.YtmnlkganmgcpbaaGreatDoor
open Go.RowKit Go.WideMaps Go.Maps
set_option linter.unusedVariables false
structure Cost (p : ByteArray) (C : Nat → Nat → Nat) : Prop where
  fix : ∀ a, a < p.size → FixAt C p a
  zero : ∀ a m, p.size ≤ a → C a m = 0
  top : ∀ a m, C a m ≤ 1073741824
theorem widthN_pos (m : Nat) : 4 ≤ widthN m := by unfold widthN; split <;> omega
theorem tryO_mode {C : Nat → Nat → Nat} {num at_ m : Nat} {best : Opt} {n sz : Nat} {lg : Bool} (hb : best.mode = m) : (tryO C num at_ m best n sz lg).mode = m := by unfold tryO; split <;> first | rfl | exact hb
theorem bLong_mode {C : Nat → Nat → Nat} {num at_ m : Nat} : ∀ k, (bLong C num at_ m k).mode = m
  | 0 => rfl
  | k + 1 => tryO_mode (bLong_mode k)
theorem bShort_mode {C : Nat → Nat → Nat} {num at_ m K : Nat} : ∀ k, (bShort C num at_ m K k).mode = m
  | 0 => bLong_mode K
  | k + 1 => tryO_mode (bShort_mode k)
theorem tryO_congr5 {C C' : Nat → Nat → Nat} {num at_ m : Nat} {best : Opt} {n sz : Nat} {lg : Bool} (h : ∀ a, at_ < a → C a m = C' a m) (hn : 0 < n) (hm : best.mode = m) (hb : best.run = 0 ∨ at_ < best.at_) : tryO C num at_ m best n sz lg = tryO C' num at_ m best n sz lg := by
  have e1 : Opt.tot C ⟨num, -1, n, lg, sz + 8 * n, at_ + n, m⟩ = Opt.tot C' ⟨num, -1, n, lg, sz + 8 * n, at_ + n, m⟩ := by
    unfold Opt.tot; rw [h _ (by show at_ < at_ + n; omega)]
  unfold tryO
  rcases hb with hb | hb
  · rw [if_pos (.inl hb), if_pos (.inl hb)]
  · have e2 : best.tot C = best.tot C' := by unfold Opt.tot; rw [hm, h _ hb]
    rw [e1, e2]
theorem bLong_congr5 {C C' : Nat → Nat → Nat} {num at_ m : Nat} (h : ∀ a, at_ < a → C a m = C' a m) : ∀ k, bLong C num at_ m k = bLong C' num at_ m k
  | 0 => rfl
  | k + 1 => by
    show tryO C _ _ _ _ _ _ _ = tryO C' _ _ _ _ _ _ _
    rw [tryO_congr5 h (by omega) (bLong_mode k) (bLong_run k), bLong_congr5 h k]
theorem bShort_congr5 {C C' : Nat → Nat → Nat} {num at_ m K : Nat} (h : ∀ a, at_ < a → C a m = C' a m) : ∀ k, bShort C num at_ m K k = bShort C' num at_ m K k
  | 0 => bLong_congr5 h K
  | k + 1 => by
    show tryO C _ _ _ _ _ _ _ = tryO C' _ _ _ _ _ _ _
    rw [tryO_congr5 h (by omega) (bShort_mode k) (bShort_run k), bShort_congr5 h k]
theorem optK_congr5 {C C' : Nat → Nat → Nat} {p : ByteArray} {at_ m : Nat} (h : ∀ a, at_ < a → C a m = C' a m) : ∀ k, optK C p at_ m k = optK C' p at_ m k
  | 0 => rfl
  | k + 1 => by
    unfold optK
    rw [optK_congr5 h k]
    congr 1
    unfold optN binOpt
    rw [bShort_congr5 h]
theorem optK_size {C : Nat → Nat → Nat} {p : ByteArray} {at_ m : Nat} {o : Opt} : ∀ k, o ∈ optK C p at_ m k → 0 < o.size := by
  have hw := widthN_pos m
  have h1 : ∀ num k, 0 < (bLong C num at_ m k).size := by
    intro num k
    induction k with
    | zero => show 0 < 1073741824; omega
    | succ k ih =>
      show 0 < (tryO _ _ _ _ _ _ _ _).size
      unfold tryO; split
      · show 0 < widthN m + 16 + 8 * (31 + k); omega
      · exact ih
  have h2 : ∀ num K k, 0 < (bShort C num at_ m K k).size := by
    intro num K k
    induction k with
    | zero => exact h1 num K
    | succ k ih =>
      show 0 < (tryO _ _ _ _ _ _ _ _).size
      unfold tryO; split
      · show 0 < widthN m + 5 + 8 * (1 + k); omega
      · exact ih
  have h3 : ∀ n, o ∈ optN C p at_ m n → 0 < o.size := by
    intro n ho
    unfold optN at ho
    split at ho
    · split at ho
      · rw [List.mem_singleton] at ho; subst ho; show 0 < widthN m; omega
      · cases ho
    split at ho
    · rw [List.mem_singleton] at ho; subst ho; show 0 < widthN m; omega
    split at ho
    · have key : ∀ k, o ∈ optSK p at_ m n (modeF m n) k → 0 < o.size := by
        intro k
        induction k with
        | zero => intro h; cases h
        | succ k ih =>
          intro h
          unfold optSK at h
          rw [List.mem_append] at h
          rcases h with h | h
          · exact ih h
          · unfold optS at h
            split at h
            · rw [List.mem_singleton] at h; subst h; show 0 < widthN m + widthN (modeF m n); omega
            · cases h
      exact key 32 ho
    split at ho
    · rw [List.mem_singleton] at ho; subst ho; exact h2 _ _ _
    · cases ho
  intro k
  induction k with
  | zero => intro h; cases h
  | succ k ih =>
    intro h
    unfold optK at h
    rw [List.mem_append] at h
    rcases h with h | h
    · exact ih h
    · exact h3 _ h
theorem Cost.le_of {p : ByteArray} {C C' : Nat → Nat → Nat} (hp : p.size ≤ 4096) (h : Cost p C) (h' : Cost p C') (a : Nat) (ha : a < p.size) (ih : ∀ a' m, a < a' → m < 5 → C a' m = C' a' m) : ∀ x m, m < 5 → C' a m = x → C a m ≤ C' a m := by
  intro x
  induction x using Nat.strongRecOn with
  | ind x ihx =>
    intro m hm hx
    rcases (h'.fix a ha).2 m hm with h1 | ⟨o, ho, e⟩
    · rw [h1]; exact h.top a m
    · have el : optK C' p a m 32 = optK C p a m 32 := optK_congr5 (fun a' ha' => (ih a' m ha' hm).symm) 32
      have hok := okO_all ha hp hm 32 ho
      have hsz := optK_size 32 ho
      have hat := optK_at 32 ho
      rw [el] at ho
      have h2 := (h.fix a ha).1 m hm o ho
      refine Nat.le_trans h2 ?_
      rw [← e]
      unfold Opt.tot at e ⊢
      refine Nat.add_le_add_left ?_ _
      rcases Nat.eq_or_lt_of_le hat with h3 | h3
      · rw [← h3]
        rw [← h3] at e
        exact ihx (C' a o.mode) (by omega) o.mode hok.2.1 rfl
      · rw [ih _ _ h3 hok.2.1]; exact Nat.le_refl _
theorem Cost.uniq {p : ByteArray} {C C' : Nat → Nat → Nat} (hp : p.size ≤ 4096) (h : Cost p C) (h' : Cost p C') (a m : Nat) (hm : m < 5) : C a m = C' a m := by
  have key : ∀ k a, p.size ≤ a + k → ∀ m, m < 5 → C a m = C' a m := by
    intro k
    induction k with
    | zero => intro a ha m _; rw [h.zero a m ha, h'.zero a m ha]
    | succ k ih =>
      intro a hk m hm
      by_cases ha : a < p.size
      · have ih' : ∀ a' m, a < a' → m < 5 → C a' m = C' a' m := fun a' m h1 h2 => ih a' (by omega) m h2
        exact Nat.le_antisymm (h.le_of hp h' a ha ih' _ m hm rfl) (h'.le_of hp h a ha (fun a' m h1 h2 => (ih' a' m h1 h2).symm) _ m hm rfl)
      · rw [h.zero a m (by omega), h'.zero a m (by omega)]
  exact key p.size a (by omega) m hm
theorem tryO_le {C : Nat → Nat → Nat} {num at_ m : Nat} {best : Opt} {n sz : Nat} {lg : Bool} (hb : best.run ≠ 0) : (tryO C num at_ m best n sz lg).tot C ≤ best.tot C := by
  unfold tryO
  split
  · rename_i h
    rcases h with h | h
    · exact absurd h hb
    · exact Nat.le_of_lt h
  · exact Nat.le_refl _
theorem tryO_le2 {C : Nat → Nat → Nat} {num at_ m : Nat} {best : Opt} {n sz : Nat} {lg : Bool} : (tryO C num at_ m best n sz lg).tot C ≤ Opt.tot C ⟨num, -1, n, lg, sz + 8 * n, at_ + n, m⟩ := by
  unfold tryO
  split
  · exact Nat.le_refl _
  · rename_i h; omega
theorem tryO_run0 {C : Nat → Nat → Nat} {num at_ m : Nat} {best : Opt} {n sz : Nat} {lg : Bool} (hn : 0 < n) : (tryO C num at_ m best n sz lg).run ≠ 0 := by
  unfold tryO
  split
  · show n ≠ 0; omega
  · rename_i h; exact fun e => h (.inl e)
theorem bShort_le {C : Nat → Nat → Nat} {num at_ m K : Nat} : ∀ k j, 1 ≤ j → j ≤ k → (bShort C num at_ m K k).tot C ≤ Opt.tot C ⟨num, -1, j, false, widthN m + 5 + 8 * j, at_ + j, m⟩
  | 0, j, h1, h2 => by omega
  | k + 1, j, h1, h2 => by
    show (tryO _ _ _ _ _ _ _ _).tot C ≤ _
    by_cases e : j = 1 + k
    · subst e; exact tryO_le2
    · have ih := bShort_le (C := C) (num := num) (at_ := at_) (m := m) (K := K) k j h1 (by omega)
      refine Nat.le_trans (tryO_le ?_) ih
      cases k with
      | zero => omega
      | succ k => exact tryO_run0 (by omega)
theorem bLong_le {C : Nat → Nat → Nat} {num at_ m : Nat} : ∀ k j, 31 ≤ j → j < 31 + k → (bLong C num at_ m k).tot C ≤ Opt.tot C ⟨num, -1, j, true, widthN m + 16 + 8 * j, at_ + j, m⟩
  | 0, j, h1, h2 => by omega
  | k + 1, j, h1, h2 => by
    show (tryO _ _ _ _ _ _ _ _).tot C ≤ _
    by_cases e : j = 31 + k
    · subst e; exact tryO_le2
    · have ih := bLong_le (C := C) (num := num) (at_ := at_) (m := m) k j h1 (by omega)
      refine Nat.le_trans (tryO_le ?_) ih
      cases k with
      | zero => omega
      | succ k => exact tryO_run0 (by omega)
theorem bShort_le2 {C : Nat → Nat → Nat} {num at_ m K : Nat} (hK : 0 < K) : ∀ k, (bShort C num at_ m K k).tot C ≤ (bLong C num at_ m K).tot C ∧ (bShort C num at_ m K k).run ≠ 0
  | 0 => ⟨Nat.le_refl _, by
    obtain ⟨K', rfl⟩ : ∃ K', K = K' + 1 := ⟨K - 1, by omega⟩
    exact tryO_run0 (by omega)⟩
  | k + 1 => ⟨Nat.le_trans (tryO_le (bShort_le2 hK k).2) (bShort_le2 hK k).1, tryO_run0 (by omega)⟩
theorem mem_optK {C : Nat → Nat → Nat} {p : ByteArray} {at_ m n : Nat} {o : Opt} (ho : o ∈ optN C p at_ m n) : ∀ k, n < k → o ∈ optK C p at_ m k
  | 0, h => by omega
  | k + 1, h => by
    unfold optK
    rw [List.mem_append]
    by_cases e : n = k
    · subst e; exact .inr ho
    · exact .inl (mem_optK ho k (by omega))
theorem Cost.bin {p : ByteArray} {C : Nat → Nat → Nat} (h : Cost p C) (a m : Nat) (ha : a < p.size) (hm : m < 3) : C a m ≤ 18 + C (a + 1) m := by
  have hk : kindF m 31 = 4 := by
    have k0 : kindF 0 31 = 4 := by kernel_rfl
    have k1 : kindF 1 31 = 4 := by kernel_rfl
    have k2 : kindF 2 31 = 4 := by kernel_rfl
    have h5 : m = 0 ∨ m = 1 ∨ m = 2 := by omega
    rcases h5 with rfl | rfl | rfl
    · exact k0
    · exact k1
    · exact k2
  have hw : widthN m = 5 := by unfold widthN; rw [if_neg (by omega)]
  have ho : binOpt C 31 a m (p.size - a) ∈ optN C p a m 31 := by
    unfold optN
    rw [hk, if_neg (by omega), if_neg (by omega), if_neg (by omega), if_pos rfl]
    exact List.mem_singleton.2 rfl
  have h1 := (h.fix a ha).1 m (by omega) _ (mem_optK ho 32 (by omega))
  refine Nat.le_trans h1 ?_
  have h2 := bShort_le (C := C) (num := 31) (at_ := a) (m := m) (K := min (p.size - a) 2078 - 30) (min (p.size - a) 31) 1 (by omega) (by omega)
  refine Nat.le_trans h2 ?_
  show widthN m + 5 + 8 * 1 + C (a + 1) m ≤ _
  rw [hw]; omega
theorem Cost.latch {p : ByteArray} {C : Nat → Nat → Nat} (h : Cost p C) (a m n : Nat) (ha : a < p.size) (hm : m < 5) (hn : n < 32) (hk : kindF m n = 2) : C a m ≤ widthN m + C a (modeF m n) := by
  have ho : (⟨n, -1, 0, false, widthN m, a, modeF m n⟩ : Opt) ∈ optN C p a m n := by
    unfold optN
    rw [hk, if_neg (by omega), if_pos rfl]
    exact List.mem_singleton.2 rfl
  exact (h.fix a ha).1 m hm _ (mem_optK ho 32 hn)
theorem Cost.up {p : ByteArray} {C : Nat → Nat → Nat} (h : Cost p C) (a : Nat) : C a 0 ≤ 18 * (p.size - a) := by
  have key : ∀ k a, p.size ≤ a + k → C a 0 ≤ 18 * (p.size - a) := by
    intro k
    induction k with
    | zero => intro a ha; rw [h.zero a 0 ha]; exact Nat.zero_le _
    | succ k ih =>
      intro a ha
      by_cases h1 : a < p.size
      · have h2 := h.bin a 0 h1 (by omega)
        have h3 := ih (a + 1) (by omega)
        omega
      · rw [h.zero a 0 (by omega)]; exact Nat.zero_le _
  exact key p.size a (by omega)
theorem Cost.toUp {p : ByteArray} {C : Nat → Nat → Nat} (h : Cost p C) (a m : Nat) (hm : m < 5) : C a m ≤ 9 + C a 0 := by
  by_cases ha : a < p.size
  · have l1 := h.latch a 4 14 ha (by omega) (by omega) (by kernel_rfl)
    have e1 : modeF 4 14 = 0 := by kernel_rfl
    have e2 : modeF 1 30 = 4 := by kernel_rfl
    have e3 : modeF 2 29 = 0 := by kernel_rfl
    have e4 : modeF 3 31 = 0 := by kernel_rfl
    have w4 : widthN 4 = 4 := rfl
    have w1 : widthN 1 = 5 := rfl
    have w2 : widthN 2 = 5 := rfl
    have w3 : widthN 3 = 5 := rfl
    rw [e1, w4] at l1
    have h5 : m = 0 ∨ m = 1 ∨ m = 2 ∨ m = 3 ∨ m = 4 := by omega
    rcases h5 with rfl | rfl | rfl | rfl | rfl
    · omega
    · have l2 := h.latch a 1 30 ha (by omega) (by omega) (by kernel_rfl)
      rw [e2, w1] at l2; omega
    · have l2 := h.latch a 2 29 ha (by omega) (by omega) (by kernel_rfl)
      rw [e3, w2] at l2; omega
    · have l2 := h.latch a 3 31 ha (by omega) (by omega) (by kernel_rfl)
      rw [e4, w3] at l2; omega
    · omega
  · rw [h.zero a m (by omega)]; omega
theorem Cost.fin {p : ByteArray} {C : Nat → Nat → Nat} (hp : p.size ≤ 4096) (h : Cost p C) (a m : Nat) (hm : m < 5) : C a m < 1073741824 := by
  have h1 := h.toUp a m hm
  have h2 := h.up a
  omega
end Go.Proofs.YtmnlkganmgcpbaaGreatDoor
namespace Go.Proofs.YtmnlkganmgcpbaaGreatDoor
open Go.RowKit Go.WideMaps Go.Maps
set_option linter.unusedVariables false
structure StB (p : ByteArray) (a m : Nat) (o : Opt) : Prop where
  nm : o.num < 32
  s1 : -1 ≤ o.sec
  s2 : o.sec < 32
  rn : a + o.run ≤ p.size
  lg : 0 < o.run → o.long = true → 31 ≤ o.run
  sr : 0 ≤ o.sec → o.run = 0
  ln : (optBits p a m o).length = o.size
theorem shift_five : ∀ m, m < 5 → ∀ n, n < 32 → kindF m n = 3 → widthN (modeF m n) = 5 := of_decide_eq_true (by kernel_rfl)
def GoodB (p : ByteArray) (num a m : Nat) (o : Opt) : Prop := o.run = 0 ∨ (o = ⟨num, -1, o.run, o.long, (if o.long = true then widthN m + 16 else widthN m + 5) + 8 * o.run, a + o.run, m⟩ ∧ 0 < o.run ∧ a + o.run ≤ p.size ∧ (o.long = true → 31 ≤ o.run))
theorem tryO_good {C : Nat → Nat → Nat} {p : ByteArray} {num at_ m : Nat} {best : Opt} {n : Nat} {lg : Bool} (hb : GoodB p num at_ m best) (hn : 0 < n) (ha : at_ + n ≤ p.size) (hl : lg = true → 31 ≤ n) : GoodB p num at_ m (tryO C num at_ m best n (if lg = true then widthN m + 16 else widthN m + 5) lg) := by
  obtain ⟨sz, hsz⟩ : ∃ sz, sz = (if lg = true then widthN m + 16 else widthN m + 5) := ⟨_, rfl⟩
  rw [← hsz]
  unfold tryO
  split
  · exact .inr ⟨by show (⟨num, -1, n, lg, sz + 8 * n, at_ + n, m⟩ : Opt) = ⟨num, -1, n, lg, (if lg = true then widthN m + 16 else widthN m + 5) + 8 * n, at_ + n, m⟩; rw [← hsz], hn, ha, hl⟩
  · exact hb
theorem bLong_good {C : Nat → Nat → Nat} {p : ByteArray} {num at_ m : Nat} : ∀ k, (at_ + 30 + k ≤ p.size ∨ k = 0) → GoodB p num at_ m (bLong C num at_ m k)
  | 0, _ => .inl rfl
  | k + 1, h => tryO_good (lg := true) (bLong_good k (by omega)) (by omega) (by omega) (fun _ => by omega)
theorem bShort_good {C : Nat → Nat → Nat} {p : ByteArray} {num at_ m K : Nat} (hK : at_ + 30 + K ≤ p.size ∨ K = 0) : ∀ k, at_ + k ≤ p.size → GoodB p num at_ m (bShort C num at_ m K k)
  | 0, _ => bLong_good K hK
  | k + 1, h => tryO_good (lg := false) (bShort_good hK k (by omega)) (by omega) (by omega) (fun e => by cases e)
theorem binOpt_good {C : Nat → Nat → Nat} {p : ByteArray} {num a m : Nat} (ha : a < p.size) : GoodB p num a m (binOpt C num a m (p.size - a)) ∧ (binOpt C num a m (p.size - a)).run ≠ 0 := by
  refine ⟨bShort_good (by omega) _ (by omega), ?_⟩
  unfold binOpt
  obtain ⟨k, hk⟩ : ∃ k, min (p.size - a) 31 = k + 1 := ⟨min (p.size - a) 31 - 1, by omega⟩
  rw [hk]
  exact tryO_run0 (by omega)
theorem GoodB.st {p : ByteArray} {num a m : Nat} {o : Opt} (h : GoodB p num a m o) (h0 : o.run ≠ 0) (hn : num < 32) : StB p a m o := by
  rcases h with h | ⟨e, h1, h2, h3⟩
  · exact absurd h h0
  · have es : o.sec = -1 := by rw [e]
    have en : o.num = num := by rw [e]
    have ez : o.size = (if o.long = true then widthN m + 16 else widthN m + 5) + 8 * o.run := by rw [e]
    refine ⟨by rw [en]; exact hn, by omega, by omega, h2, fun _ => h3, fun h => by omega, ?_⟩
    rw [ez]
    unfold optBits runB
    rw [if_neg (by omega), if_pos h1, List.append_nil]
    simp only [List.length_append, lowB_length, byF_len]
    split
    · simp only [List.length_append, lowB_length]; omega
    · simp only [lowB_length]; omega
theorem optN_st {C : Nat → Nat → Nat} {p : ByteArray} {a m n : Nat} (ha : a < p.size) (hm : m < 5) (hn : n < 32) {o : Opt} (ho : o ∈ optN C p a m n) : StB p a m o := by
  have plain : ∀ (at_ md : Nat), StB p a m ⟨n, -1, 0, false, widthN m, at_, md⟩ := fun at_ md => by
    refine ⟨hn, by show (-1 : Int) ≤ -1; omega, by show (-1 : Int) < 32; omega, by show a + 0 ≤ _; omega, fun h => (by cases h), fun h => rfl, ?_⟩
    show (lowB n (widthN m) ++ (if (0 : Int) ≤ -1 then lowB (-1 : Int).toNat 5 else []) ++ []).length = widthN m
    rw [if_neg (by omega)]
    simp [lowB_length]
  unfold optN at ho
  split at ho
  · split at ho
    · rw [List.mem_singleton] at ho; subst ho; exact plain _ _
    · cases ho
  split at ho
  · rw [List.mem_singleton] at ho; subst ho; exact plain _ _
  split at ho
  · rename_i h3
    have hw := shift_five m hm n hn h3
    have key : ∀ k, k ≤ 32 → o ∈ optSK p a m n (modeF m n) k → StB p a m o := by
      intro k
      induction k with
      | zero => intro _ h; cases h
      | succ k ih =>
        intro hk h
        unfold optSK at h
        rw [List.mem_append] at h
        rcases h with h | h
        · exact ih (by omega) h
        · unfold optS at h
          split at h
          · rw [List.mem_singleton] at h
            subst h
            refine ⟨hn, by show (-1 : Int) ≤ (k : Int); omega, by show (k : Int) < 32; omega, by show a + 0 ≤ _; omega, fun h => (by cases h), fun h => rfl, ?_⟩
            show (lowB n (widthN m) ++ (if (0 : Int) ≤ (k : Int) then lowB (k : Int).toNat 5 else []) ++ []).length = widthN m + widthN (modeF m n)
            rw [if_pos (by omega), hw]
            simp [lowB_length]
          · cases h
    exact key 32 (Nat.le_refl _) ho
  split at ho
  · rw [List.mem_singleton] at ho
    subst ho
    exact (binOpt_good ha).1.st (binOpt_good ha).2 hn
  · cases ho
theorem optK_st {C : Nat → Nat → Nat} {p : ByteArray} {a m : Nat} (ha : a < p.size) (hm : m < 5) {o : Opt} : ∀ k, k ≤ 32 → o ∈ optK C p a m k → StB p a m o := by
  intro k
  induction k with
  | zero => intro _ h; cases h
  | succ k ih =>
    intro hk h
    unfold optK at h
    rw [List.mem_append] at h
    rcases h with h | h
    · exact ih (by omega) h
    · exact optN_st ha hm (by omega) h
theorem Cost.step {p : ByteArray} {C : Nat → Nat → Nat} (hp : p.size ≤ 4096) (h : Cost p C) (a m : Nat) (ha : a < p.size) (hm : m < 5) : ∃ o, stepF C p a m = some o ∧ o ∈ optK C p a m 32 ∧ StOK p C a m o := by
  obtain ⟨o0, h0, e0⟩ : ∃ o ∈ optK C p a m 32, o.tot C = C a m := by
    rcases (h.fix a ha).2 m hm with h1 | h1
    · have := h.fin hp a m hm; omega
    · exact h1
  cases hf : stepF C p a m with
  | none =>
    unfold stepF at hf
    rw [List.find?_eq_none] at hf
    exact absurd (by rw [e0]; simp) (hf o0 h0)
  | some o =>
    unfold stepF at hf
    have hmem := List.mem_of_find?_eq_some hf
    have hpr := List.find?_some hf
    have he : o.tot C = C a m := by simpa using hpr
    have hok := okO_all ha hp hm 32 hmem
    have hst := optK_st ha hm 32 (Nat.le_refl _) hmem
    exact ⟨o, rfl, hmem, ⟨hok.1, hok.2.1, he.symm, optK_size 32 hmem, hst.nm, hst.s1, hst.s2, hst.rn, hst.lg, hst.sr, Nat.le_of_eq hst.ln⟩⟩
def encP (p : ByteArray) (C : Nat → Nat → Nat) : List Bool := encF p (stepF C p) (C 0 0) 0 0
set_option maxRecDepth 100000 in
set_option maxHeartbeats 2000000 in
theorem Encode_any (A : Option Addr) (n c : Nat) (l : List UInt8) (w : World) (hb : SR vU 0 w A n c l) (hn : n ≤ 4096) :
    Calls Tryz.prog 30 #[.slice A n c] w fun e w' => ∃ C, Cost ⟨l.toArray⟩ C ∧ RT vB false w (encP ⟨l.toArray⟩ C, 0) e w' := by
  obtain ⟨p, hpd⟩ : ∃ p : ByteArray, p = ⟨l.toArray⟩ := ⟨_, rfl⟩
  have hn2 : n = p.size := by rw [hb.hn, hpd]; show l.length = l.toArray.size; simp
  have HN2 := Lib.hid hn2
  have HNS := newSearch_any A n c l w hb hn
  rw [← hpd] at HNS ⊢
  have HNH := Lib.hid HNS
  clear hb hn2 HNS hpd
  go_enter Tryz.func30, Tryz.ntmps30
  go_wp2_with (first
    | (go_at_call 80; refine HNH.out.mono ?_; rintro e w4 ⟨sb, cb, cap, hb, C, T, rfl, hq, hm, hf, hz, hbw⟩; have hCo : Cost p C := ⟨fun a ha => (hf a (by rw [HN2.out]; exact ha)).1, fun a m ha => hz a m (by rw [HN2.out]; exact ha), hq.S.b⟩; have HCO := Lib.hid hCo; have HB4 := Lib.hid hbw; have HBI := Lib.hid (bits_any w4 sb cb cap hb _ p C (stepF C p) hq (hm.weak (Nat.le_refl _) (fun a m o _ hm5 ho => (by
        by_cases ha : a < n
        · rw [(hf a ha).2 m]; exact ho
        · exfalso
          unfold stepF at ho
          have hmem := List.mem_of_find?_eq_some ho
          have h8 : 0 < C a m := (by have h9 := List.find?_some ho; have h10 : o.tot C = C a m := (by simpa using h9); have := optK_size 32 hmem; unfold Opt.tot at h10; omega)
          rw [hz a m (by omega)] at h8
          omega))) (fun a m ha hm5 => (by obtain ⟨o, h1, _, h2⟩ := hCo.step (by rw [← HN2.out]; exact hn) a m ha hm5; exact ⟨o, h1, h2⟩))); clear hq hm hf hz hbw hCo)
    | (go_at_call 81; refine HBI.out.mono ?_; rintro e w5 ⟨v5, rfl, hs5, hb5⟩; have HS5 := Lib.hid hs5; have HB5 := Lib.hid hb5; clear hs5 hb5))
  go_ret2
  exact ⟨C, HCO.out, RT.mk rfl HS5.out (HB4.out.trans (HB5.out.mono HB4.out.size))⟩
end Go.Proofs.YtmnlkganmgcpbaaGreatDoor
namespace Go.Proofs.YtmnlkganmgcpbaaGreatDoor
open Go.RowKit Go.WideMaps Go.Maps
set_option linter.unusedVariables false
theorem boolElem : Tryz.prog.underlying 26 = some (.slice (Tryz.prog.elem 26)) := by kernel_rfl
theorem boolElemSz (w : World) : (sizeOf (Tryz.prog.elem 26)).run Tryz.prog w = .ok 1 w := by kernel_rfl
end Go.Proofs.YtmnlkganmgcpbaaGreatDoor
namespace Go.Proofs.YtmnlkganmgcpbaaGreatDoor
open Go.RowKit
set_option linter.unusedVariables false
theorem bitV_step (x y i : Nat) (hy : y ≤ 1) : bitV (2 * x + y) (i + 1) = bitV x i := by
  unfold bitV
  have e : (2 * x + y) / 2 ^ (i + 1) = x / 2 ^ i := by
    rw [Nat.pow_succ, Nat.mul_comm (2 ^ i) 2, ← Nat.div_div_eq_div_mul]
    congr 1
    omega
  rw [e]
theorem bitV_zero (x y : Nat) (hy : y ≤ 1) : bitV (2 * x + y) 0 = (y == 1) := by
  unfold bitV
  rw [Nat.pow_zero, Nat.div_one]
  have e : (2 * x + y) % 2 = y := by omega
  rw [e]
theorem lowF_step (x y j : Nat) (hy : y ≤ 1) : ∀ k, k ≤ j → lowF (2 * x + y) (j + 1) k = lowF x j k
  | 0, _ => rfl
  | k + 1, h => by
    show lowF _ _ k ++ [bitV _ (j + 1 - 1 - k)] = lowF _ _ k ++ [bitV _ (j - 1 - k)]
    rw [lowF_step x y j hy k (by omega), show j + 1 - 1 - k = (j - 1 - k) + 1 from by omega, bitV_step _ _ _ hy]
theorem lowB_step (x y j : Nat) (hy : y ≤ 1) : lowB (2 * x + y) (j + 1) = lowB x j ++ [y == 1] := by
  show lowF _ _ j ++ [bitV _ (j + 1 - 1 - j)] = _
  rw [lowF_step x y j hy j (Nat.le_refl _), show j + 1 - 1 - j = 0 from by omega, bitV_zero _ _ hy]
  rfl
def oneB_ (b : List Bool) (k j : Nat) : List Bool := (List.range j).map fun i => b.getD (k + i) true
theorem oneB_succ (b : List Bool) (k j : Nat) : oneB_ b k (j + 1) = oneB_ b k j ++ [b.getD (k + j) true] := by
  unfold oneB_
  rw [List.range_succ, List.map_append]; rfl
theorem oneB_add (b : List Bool) (k j : Nat) : ∀ i, oneB_ b k (j + i) = oneB_ b k j ++ oneB_ b (k + j) i
  | 0 => by show oneB_ b k j = _ ++ []; rw [List.append_nil]
  | i + 1 => by
    rw [← Nat.add_assoc, oneB_succ, oneB_succ, oneB_add b k j i, List.append_assoc, Nat.add_assoc]
theorem bitN_one (b : List Bool) (k : Nat) : (bitN b k == 1) = b.getD k true := by
  unfold bitN
  by_cases h : k < b.length
  · simp only [List.getD_eq_getElem?_getD, List.getElem?_eq_getElem h, Option.getD_some]
    cases b[k] <;> simp [h]
  · have e : b.getD k true = true := by rw [List.getD_eq_getElem?_getD, List.getElem?_eq_none (by omega)]; rfl
    rw [if_neg (fun h2 => h h2.1), e]; rfl
theorem lowB_sfV (b : List Bool) (k : Nat) : ∀ j, lowB (sfV b k j) j = oneB_ b k j
  | 0 => rfl
  | j + 1 => by
    show lowB (2 * sfV b k j + bitN b (k + j)) (j + 1) = _
    rw [lowB_step _ _ _ (bitN_le b _), lowB_sfV b k j, oneB_succ, bitN_one]
theorem two_pow (t : Nat) : 2 ^ (t + 1) = 2 * 2 ^ t := by rw [Nat.pow_succ, Nat.mul_comm]
theorem sfW_spec (b : List Bool) (s k : Nat) (hs : 2 ≤ s) : 1 ≤ (sfW b s k).1 ∧ (sfW b s k).1 < 2 ^ s - 1 ∧ k + (s - 1) ≤ (sfW b s k).2 ∧ (sfW b s k).2 ≤ k + s ∧ unB s (sfW b s k).1 = oneB_ b k ((sfW b s k).2 - k) := by
  obtain ⟨t, rfl⟩ : ∃ t, s = t + 1 := ⟨s - 1, by omega⟩
  have hlt := sfV_lt b k t
  have hls := lowB_sfV b k t
  have hp : 2 ≤ 2 ^ t := by
    have := Nat.pow_le_pow_right (n := 2) (by omega) (show 1 ≤ t by omega)
    simpa using this
  have e2 := two_pow t
  have eh : (2 ^ (t + 1) - 1) / 2 = 2 ^ t - 1 := by omega
  unfold sfW
  rw [Nat.add_sub_cancel]
  generalize hv : sfV b k t = v at *
  by_cases h0 : v = 0
  · rw [if_pos h0]
    refine ⟨Nat.le_refl _, by show 1 < _; omega, Nat.le_refl _, by show k + t ≤ _; omega, ?_⟩
    show unB (t + 1) 1 = oneB_ b k (k + t - k)
    rw [Nat.add_sub_cancel_left, ← hls, h0]
    unfold unB
    rw [if_pos (.inl rfl)]; rfl
  · rw [if_neg h0]
    by_cases h1 : v = 2 ^ t - 1
    · rw [if_pos h1]
      refine ⟨by show 1 ≤ 2 * v; omega, by show 2 * v < _; omega, Nat.le_refl _, by show k + t ≤ _; omega, ?_⟩
      show unB (t + 1) (2 * v) = oneB_ b k (k + t - k)
      rw [Nat.add_sub_cancel_left, ← hls]
      unfold unB
      have e : 2 * v / 2 = v := by omega
      rw [e, if_pos (.inr (by rw [eh]; exact h1))]; rfl
    · rw [if_neg h1]
      have hb := bitN_le b (k + t)
      refine ⟨by show 1 ≤ 2 * v + _; omega, by show 2 * v + _ < _; omega, by show k + t ≤ k + (t + 1); omega, Nat.le_refl _, ?_⟩
      show unB (t + 1) (2 * v + bitN b (k + t)) = oneB_ b k (k + (t + 1) - k)
      rw [Nat.add_sub_cancel_left]
      unfold unB
      have e : (2 * v + bitN b (k + t)) / 2 = v := by omega
      rw [e, if_neg (by rw [eh]; omega), lowB_step _ _ _ hb, hls, oneB_succ, bitN_one]
theorem stuff_spec (b : List Bool) (s : Nat) (hs : 2 ≤ s) : ∀ (f k : Nat), b.length ≤ f + k → k < b.length + s →
    (∀ x ∈ stuffFrom b s f k, 1 ≤ x ∧ x < 2 ^ s - 1) ∧ (stuffFrom b s f k).length ≤ b.length - k ∧
    (k < b.length → (stuffFrom b s f k).length * (s - 1) + k ≤ b.length + s - 2) ∧
    ∃ e, b.length ≤ e ∧ e < b.length + s ∧ k ≤ e ∧ ((stuffFrom b s f k).map (unB s)).flatten = oneB_ b k (e - k) ∧ e - k ≤ (stuffFrom b s f k).length * s
  | 0, k, hf, hk => by
    refine ⟨fun x hx => (by cases hx), Nat.zero_le _, fun h => absurd h (by omega), k, by omega, hk, Nat.le_refl _, ?_, by simp⟩
    rw [Nat.sub_self]; rfl
  | f + 1, k, hf, hk => by
    by_cases hkl : k < b.length
    · have hw := sfW_spec b s k hs
      have e1 : stuffFrom b s (f + 1) k = (sfW b s k).1 :: stuffFrom b s f (sfW b s k).2 := by
        show (if k < b.length then _ else _) = _
        rw [if_pos hkl]
      obtain ⟨w1, w2, w3, w4, w5⟩ := hw
      generalize sfW b s k = q at *
      obtain ⟨i1, i2, i3, e, i4, i5, i6, i7, i8⟩ := stuff_spec b s hs f q.2 (by omega) (by omega)
      rw [e1]
      generalize stuffFrom b s f q.2 = r at *
      refine ⟨fun x hx => ?_, ?_, fun _ => ?_, e, i4, i5, by omega, ?_, ?_⟩
      · rcases List.mem_cons.1 hx with rfl | hx
        · exact ⟨w1, w2⟩
        · exact i1 x hx
      · rw [List.length_cons]; omega
      · rw [List.length_cons, Nat.succ_mul]
        by_cases h : q.2 < b.length
        · have := i3 h; omega
        · have h0 : r.length = 0 := by omega
          rw [h0]; omega
      · rw [List.map_cons, List.flatten_cons, i7, w5, show e - k = (q.2 - k) + (e - q.2) from by omega, oneB_add, show k + (q.2 - k) = q.2 from by omega]
      · rw [List.length_cons, Nat.succ_mul]; omega
    · rw [stuff_end b s (f + 1) k (by omega)]
      refine ⟨fun x hx => (by cases hx), Nat.zero_le _, fun h => absurd h hkl, k, by omega, hk, Nat.le_refl _, ?_, by simp⟩
      rw [Nat.sub_self]; rfl
theorem unF_flat (s : Nat) (ws : List Int) : ∀ k, k ≤ ws.length → unF s ws k = ((ws.take k).map fun w => unB s w.toNat).flatten
  | 0, _ => rfl
  | k + 1, h => by
    show unF s ws k ++ unB s (ws.getD k 0).toNat = _
    rw [unF_flat s ws k (by omega), List.take_add_one, List.getElem?_eq_getElem (by omega), List.map_append, List.flatten_append]
    congr 1
    rw [List.getD_eq_getElem?_getD, List.getElem?_eq_getElem (by omega)]
    simp
def zN (l : List Nat) : List Int := l.map fun x : Nat => (x : Int)
theorem zN_len (l : List Nat) : (zN l).length = l.length := by simp [zN]
theorem unF_zN (s : Nat) (l : List Nat) : unF s (zN l) (zN l).length = (l.map (unB s)).flatten := by
  rw [unF_flat s (zN l) _ (Nat.le_refl _), List.take_length]
  congr 1
  unfold zN
  rw [List.map_map]
  rfl
theorem unstuff_stuff (b : List Bool) (s : Nat) (hs : 2 ≤ s) (hs2 : s ≤ 12) (hb : b.length ≤ 80000) : ∃ e, b.length ≤ e ∧ e < b.length + s ∧ unstuffRes (zN (stuffL b s)) s = (oneB_ b 0 e, 0) ∧
    b.length ≤ (stuffL b s).length * s ∧ (stuffL b s).length * (s - 1) ≤ b.length + s - 2 ∧ (∀ x ∈ stuffL b s, 1 ≤ x ∧ x < 2 ^ s - 1) ∧ (stuffL b s).length ≤ b.length := by
  obtain ⟨h1, h2, h3, e, h4, h5, h6, h7, h8⟩ := stuff_spec b s hs b.length 0 (by omega) (by omega)
  refine ⟨e, h4, h5, ?_, ?_, ?_, h1, by have h9 : (stuffL b s).length ≤ b.length - 0 := h2; omega⟩
  · have hl : (stuffL b s).length ≤ b.length := h2
    have hin : inW s (zN (stuffL b s)) = true := by
      unfold inW
      rw [List.all_eq_true]
      intro x hx
      obtain ⟨y, hy, rfl⟩ := List.mem_map.1 hx
      have := h1 y hy
      rw [decide_eq_true (by omega), decide_eq_true (by omega)]; rfl
    have hok : okW s (zN (stuffL b s)) = true := by
      unfold okW
      rw [List.all_eq_true]
      intro x hx
      obtain ⟨y, hy, rfl⟩ := List.mem_map.1 hx
      have := h1 y hy
      rw [beq_eq_false_iff_ne.2 (by omega), beq_eq_false_iff_ne.2 (by omega)]; rfl
    have hq : ¬ 1048576 / (s : Int) < ((zN (stuffL b s)).length : Int) := by
      rw [zN_len]
      have h9 : (87381 : Int) ≤ 1048576 / (s : Int) := (Int.le_ediv_iff_mul_le (by omega)).2 (by omega)
      omega
    unfold unstuffRes
    rw [if_neg (by omega), if_neg (by rw [show ((s : Nat) : Int).toNat = s from rfl, hin]; simp), if_neg hq, if_neg (by rw [show ((s : Nat) : Int).toNat = s from rfl, hok]; simp)]
    rw [show ((s : Nat) : Int).toNat = s from rfl, unF_zN]
    have h7' := h7
    rw [Nat.sub_zero] at h7'
    rw [show ((stuffL b s).map (unB s)).flatten = oneB_ b 0 e from h7']
  · have h8' : e - 0 ≤ (stuffL b s).length * s := h8
    omega
  · by_cases h0 : 0 < b.length
    · have := h3 h0
      exact this
    · have hz : (stuffL b s).length = 0 := by
        have : (stuffL b s).length ≤ b.length - 0 := h2
        omega
      rw [hz]; omega
end Go.Proofs.YtmnlkganmgcpbaaGreatDoor
