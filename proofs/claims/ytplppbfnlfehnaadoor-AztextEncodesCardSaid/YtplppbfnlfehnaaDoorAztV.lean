import Derived.Test.YtplppbfnlfehnaaDoorAztU
namespace Go.Proofs.YtplppbfnlfehnaaDoor
open Go.RowKit Go.WideMaps Go.Maps
set_option linter.unusedVariables false
/-! the least costs: plain facts -/
structure Cost (p : ByteArray) (C : Nat → Nat → Nat) : Prop where
  fix : ∀ a, a < p.size → FixAt C p a
  zero : ∀ a m, p.size ≤ a → C a m = 0
  top : ∀ a m, C a m ≤ 1073741824
theorem widthN_pos (m : Nat) : 4 ≤ widthN m := by unfold widthN; split <;> omega
theorem tryO_mode {C : Nat → Nat → Nat} {num at_ m : Nat} {best : Opt} {n sz : Nat} {lg : Bool} (hb : best.mode = m) : (tryO C num at_ m best n sz lg).mode = m := by unfold tryO; split <;> first | rfl | exact hb
theorem bLong_mode {C : Nat → Nat → Nat} {num at_ m : Nat} : ∀ k, (bLong C num at_ m k).mode = m
  | 0 => rfl
  | k + 1 => tryO_mode (bLong_mode k)
theorem bShort_mode {C : Nat → Nat → Nat} {num at_ m K : Nat} : ∀ k, (bShort C num at_ m K k).mode = m
  | 0 => bLong_mode K
  | k + 1 => tryO_mode (bShort_mode k)
theorem tryO_congr5 {C C' : Nat → Nat → Nat} {num at_ m : Nat} {best : Opt} {n sz : Nat} {lg : Bool} (h : ∀ a, at_ < a → C a m = C' a m) (hn : 0 < n) (hm : best.mode = m) (hb : best.run = 0 ∨ at_ < best.at_) : tryO C num at_ m best n sz lg = tryO C' num at_ m best n sz lg := by
  have e1 : Opt.tot C ⟨num, -1, n, lg, sz + 8 * n, at_ + n, m⟩ = Opt.tot C' ⟨num, -1, n, lg, sz + 8 * n, at_ + n, m⟩ := by
    unfold Opt.tot; rw [h _ (by show at_ < at_ + n; omega)]
  unfold tryO
  rcases hb with hb | hb
  · rw [if_pos (.inl hb), if_pos (.inl hb)]
  · have e2 : best.tot C = best.tot C' := by unfold Opt.tot; rw [hm, h _ hb]
    rw [e1, e2]
theorem bLong_congr5 {C C' : Nat → Nat → Nat} {num at_ m : Nat} (h : ∀ a, at_ < a → C a m = C' a m) : ∀ k, bLong C num at_ m k = bLong C' num at_ m k
  | 0 => rfl
  | k + 1 => by
    show tryO C _ _ _ _ _ _ _ = tryO C' _ _ _ _ _ _ _
    rw [tryO_congr5 h (by omega) (bLong_mode k) (bLong_run k), bLong_congr5 h k]
theorem bShort_congr5 {C C' : Nat → Nat → Nat} {num at_ m K : Nat} (h : ∀ a, at_ < a → C a m = C' a m) : ∀ k, bShort C num at_ m K k = bShort C' num at_ m K k
  | 0 => bLong_congr5 h K
  | k + 1 => by
    show tryO C _ _ _ _ _ _ _ = tryO C' _ _ _ _ _ _ _
    rw [tryO_congr5 h (by omega) (bShort_mode k) (bShort_run k), bShort_congr5 h k]
theorem optK_congr5 {C C' : Nat → Nat → Nat} {p : ByteArray} {at_ m : Nat} (h : ∀ a, at_ < a → C a m = C' a m) : ∀ k, optK C p at_ m k = optK C' p at_ m k
  | 0 => rfl
  | k + 1 => by
    unfold optK
    rw [optK_congr5 h k]
    congr 1
    unfold optN binOpt
    rw [bShort_congr5 h]
theorem optK_size {C : Nat → Nat → Nat} {p : ByteArray} {at_ m : Nat} {o : Opt} : ∀ k, o ∈ optK C p at_ m k → 0 < o.size := by
  have hw := widthN_pos m
  have h1 : ∀ num k, 0 < (bLong C num at_ m k).size := by
    intro num k
    induction k with
    | zero => show 0 < 1073741824; omega
    | succ k ih =>
      show 0 < (tryO _ _ _ _ _ _ _ _).size
      unfold tryO; split
      · show 0 < widthN m + 16 + 8 * (31 + k); omega
      · exact ih
  have h2 : ∀ num K k, 0 < (bShort C num at_ m K k).size := by
    intro num K k
    induction k with
    | zero => exact h1 num K
    | succ k ih =>
      show 0 < (tryO _ _ _ _ _ _ _ _).size
      unfold tryO; split
      · show 0 < widthN m + 5 + 8 * (1 + k); omega
      · exact ih
  have h3 : ∀ n, o ∈ optN C p at_ m n → 0 < o.size := by
    intro n ho
    unfold optN at ho
    split at ho
    · split at ho
      · rw [List.mem_singleton] at ho; subst ho; show 0 < widthN m; omega
      · cases ho
    split at ho
    · rw [List.mem_singleton] at ho; subst ho; show 0 < widthN m; omega
    split at ho
    · have key : ∀ k, o ∈ optSK p at_ m n (modeF m n) k → 0 < o.size := by
        intro k
        induction k with
        | zero => intro h; cases h
        | succ k ih =>
          intro h
          unfold optSK at h
          rw [List.mem_append] at h
          rcases h with h | h
          · exact ih h
          · unfold optS at h
            split at h
            · rw [List.mem_singleton] at h; subst h; show 0 < widthN m + widthN (modeF m n); omega
            · cases h
      exact key 32 ho
    split at ho
    · rw [List.mem_singleton] at ho; subst ho; exact h2 _ _ _
    · cases ho
  intro k
  induction k with
  | zero => intro h; cases h
  | succ k ih =>
    intro h
    unfold optK at h
    rw [List.mem_append] at h
    rcases h with h | h
    · exact ih h
    · exact h3 _ h
theorem Cost.le_of {p : ByteArray} {C C' : Nat → Nat → Nat} (hp : p.size ≤ 4096) (h : Cost p C) (h' : Cost p C') (a : Nat) (ha : a < p.size) (ih : ∀ a' m, a < a' → m < 5 → C a' m = C' a' m) : ∀ x m, m < 5 → C' a m = x → C a m ≤ C' a m := by
  intro x
  induction x using Nat.strongRecOn with
  | ind x ihx =>
    intro m hm hx
    rcases (h'.fix a ha).2 m hm with h1 | ⟨o, ho, e⟩
    · rw [h1]; exact h.top a m
    · have el : optK C' p a m 32 = optK C p a m 32 := optK_congr5 (fun a' ha' => (ih a' m ha' hm).symm) 32
      have hok := okO_all ha hp hm 32 ho
      have hsz := optK_size 32 ho
      have hat := optK_at 32 ho
      rw [el] at ho
      have h2 := (h.fix a ha).1 m hm o ho
      refine Nat.le_trans h2 ?_
      rw [← e]
      unfold Opt.tot at e ⊢
      refine Nat.add_le_add_left ?_ _
      rcases Nat.eq_or_lt_of_le hat with h3 | h3
      · rw [← h3]
        rw [← h3] at e
        exact ihx (C' a o.mode) (by omega) o.mode hok.2.1 rfl
      · rw [ih _ _ h3 hok.2.1]; exact Nat.le_refl _
theorem Cost.uniq {p : ByteArray} {C C' : Nat → Nat → Nat} (hp : p.size ≤ 4096) (h : Cost p C) (h' : Cost p C') (a m : Nat) (hm : m < 5) : C a m = C' a m := by
  have key : ∀ k a, p.size ≤ a + k → ∀ m, m < 5 → C a m = C' a m := by
    intro k
    induction k with
    | zero => intro a ha m _; rw [h.zero a m ha, h'.zero a m ha]
    | succ k ih =>
      intro a hk m hm
      by_cases ha : a < p.size
      · have ih' : ∀ a' m, a < a' → m < 5 → C a' m = C' a' m := fun a' m h1 h2 => ih a' (by omega) m h2
        exact Nat.le_antisymm (h.le_of hp h' a ha ih' _ m hm rfl) (h'.le_of hp h a ha (fun a' m h1 h2 => (ih' a' m h1 h2).symm) _ m hm rfl)
      · rw [h.zero a m (by omega), h'.zero a m (by omega)]
  exact key p.size a (by omega) m hm
theorem tryO_le {C : Nat → Nat → Nat} {num at_ m : Nat} {best : Opt} {n sz : Nat} {lg : Bool} (hb : best.run ≠ 0) : (tryO C num at_ m best n sz lg).tot C ≤ best.tot C := by
  unfold tryO
  split
  · rename_i h
    rcases h with h | h
    · exact absurd h hb
    · exact Nat.le_of_lt h
  · exact Nat.le_refl _
theorem tryO_le2 {C : Nat → Nat → Nat} {num at_ m : Nat} {best : Opt} {n sz : Nat} {lg : Bool} : (tryO C num at_ m best n sz lg).tot C ≤ Opt.tot C ⟨num, -1, n, lg, sz + 8 * n, at_ + n, m⟩ := by
  unfold tryO
  split
  · exact Nat.le_refl _
  · rename_i h; omega
theorem tryO_run0 {C : Nat → Nat → Nat} {num at_ m : Nat} {best : Opt} {n sz : Nat} {lg : Bool} (hn : 0 < n) : (tryO C num at_ m best n sz lg).run ≠ 0 := by
  unfold tryO
  split
  · show n ≠ 0; omega
  · rename_i h; exact fun e => h (.inl e)
/-- the best run is no worse than any short one -/
theorem bShort_le {C : Nat → Nat → Nat} {num at_ m K : Nat} : ∀ k j, 1 ≤ j → j ≤ k → (bShort C num at_ m K k).tot C ≤ Opt.tot C ⟨num, -1, j, false, widthN m + 5 + 8 * j, at_ + j, m⟩
  | 0, j, h1, h2 => by omega
  | k + 1, j, h1, h2 => by
    show (tryO _ _ _ _ _ _ _ _).tot C ≤ _
    by_cases e : j = 1 + k
    · subst e; exact tryO_le2
    · have ih := bShort_le (C := C) (num := num) (at_ := at_) (m := m) (K := K) k j h1 (by omega)
      refine Nat.le_trans (tryO_le ?_) ih
      cases k with
      | zero => omega
      | succ k => exact tryO_run0 (by omega)
/-- .. and no worse than any long one -/
theorem bLong_le {C : Nat → Nat → Nat} {num at_ m : Nat} : ∀ k j, 31 ≤ j → j < 31 + k → (bLong C num at_ m k).tot C ≤ Opt.tot C ⟨num, -1, j, true, widthN m + 16 + 8 * j, at_ + j, m⟩
  | 0, j, h1, h2 => by omega
  | k + 1, j, h1, h2 => by
    show (tryO _ _ _ _ _ _ _ _).tot C ≤ _
    by_cases e : j = 31 + k
    · subst e; exact tryO_le2
    · have ih := bLong_le (C := C) (num := num) (at_ := at_) (m := m) k j h1 (by omega)
      refine Nat.le_trans (tryO_le ?_) ih
      cases k with
      | zero => omega
      | succ k => exact tryO_run0 (by omega)
theorem bShort_le2 {C : Nat → Nat → Nat} {num at_ m K : Nat} (hK : 0 < K) : ∀ k, (bShort C num at_ m K k).tot C ≤ (bLong C num at_ m K).tot C ∧ (bShort C num at_ m K k).run ≠ 0
  | 0 => ⟨Nat.le_refl _, by
    obtain ⟨K', rfl⟩ : ∃ K', K = K' + 1 := ⟨K - 1, by omega⟩
    exact tryO_run0 (by omega)⟩
  | k + 1 => ⟨Nat.le_trans (tryO_le (bShort_le2 hK k).2) (bShort_le2 hK k).1, tryO_run0 (by omega)⟩
theorem mem_optK {C : Nat → Nat → Nat} {p : ByteArray} {at_ m n : Nat} {o : Opt} (ho : o ∈ optN C p at_ m n) : ∀ k, n < k → o ∈ optK C p at_ m k
  | 0, h => by omega
  | k + 1, h => by
    unfold optK
    rw [List.mem_append]
    by_cases e : n = k
    · subst e; exact .inr ho
    · exact .inl (mem_optK ho k (by omega))
theorem Cost.bin {p : ByteArray} {C : Nat → Nat → Nat} (h : Cost p C) (a m : Nat) (ha : a < p.size) (hm : m < 3) : C a m ≤ 18 + C (a + 1) m := by
  have hk : kindF m 31 = 4 := by
    have k0 : kindF 0 31 = 4 := by kernel_rfl
    have k1 : kindF 1 31 = 4 := by kernel_rfl
    have k2 : kindF 2 31 = 4 := by kernel_rfl
    have h5 : m = 0 ∨ m = 1 ∨ m = 2 := by omega
    rcases h5 with rfl | rfl | rfl
    · exact k0
    · exact k1
    · exact k2
  have hw : widthN m = 5 := by unfold widthN; rw [if_neg (by omega)]
  have ho : binOpt C 31 a m (p.size - a) ∈ optN C p a m 31 := by
    unfold optN
    rw [hk, if_neg (by omega), if_neg (by omega), if_neg (by omega), if_pos rfl]
    exact List.mem_singleton.2 rfl
  have h1 := (h.fix a ha).1 m (by omega) _ (mem_optK ho 32 (by omega))
  refine Nat.le_trans h1 ?_
  have h2 := bShort_le (C := C) (num := 31) (at_ := a) (m := m) (K := min (p.size - a) 2078 - 30) (min (p.size - a) 31) 1 (by omega) (by omega)
  refine Nat.le_trans h2 ?_
  show widthN m + 5 + 8 * 1 + C (a + 1) m ≤ _
  rw [hw]; omega
theorem Cost.latch {p : ByteArray} {C : Nat → Nat → Nat} (h : Cost p C) (a m n : Nat) (ha : a < p.size) (hm : m < 5) (hn : n < 32) (hk : kindF m n = 2) : C a m ≤ widthN m + C a (modeF m n) := by
  have ho : (⟨n, -1, 0, false, widthN m, a, modeF m n⟩ : Opt) ∈ optN C p a m n := by
    unfold optN
    rw [hk, if_neg (by omega), if_pos rfl]
    exact List.mem_singleton.2 rfl
  exact (h.fix a ha).1 m hm _ (mem_optK ho 32 hn)
theorem Cost.up {p : ByteArray} {C : Nat → Nat → Nat} (h : Cost p C) (a : Nat) : C a 0 ≤ 18 * (p.size - a) := by
  have key : ∀ k a, p.size ≤ a + k → C a 0 ≤ 18 * (p.size - a) := by
    intro k
    induction k with
    | zero => intro a ha; rw [h.zero a 0 ha]; exact Nat.zero_le _
    | succ k ih =>
      intro a ha
      by_cases h1 : a < p.size
      · have h2 := h.bin a 0 h1 (by omega)
        have h3 := ih (a + 1) (by omega)
        omega
      · rw [h.zero a 0 (by omega)]; exact Nat.zero_le _
  exact key p.size a (by omega)
theorem Cost.toUp {p : ByteArray} {C : Nat → Nat → Nat} (h : Cost p C) (a m : Nat) (hm : m < 5) : C a m ≤ 9 + C a 0 := by
  by_cases ha : a < p.size
  · have l1 := h.latch a 4 14 ha (by omega) (by omega) (by kernel_rfl)
    have e1 : modeF 4 14 = 0 := by kernel_rfl
    have e2 : modeF 1 30 = 4 := by kernel_rfl
    have e3 : modeF 2 29 = 0 := by kernel_rfl
    have e4 : modeF 3 31 = 0 := by kernel_rfl
    have w4 : widthN 4 = 4 := rfl
    have w1 : widthN 1 = 5 := rfl
    have w2 : widthN 2 = 5 := rfl
    have w3 : widthN 3 = 5 := rfl
    rw [e1, w4] at l1
    have h5 : m = 0 ∨ m = 1 ∨ m = 2 ∨ m = 3 ∨ m = 4 := by omega
    rcases h5 with rfl | rfl | rfl | rfl | rfl
    · omega
    · have l2 := h.latch a 1 30 ha (by omega) (by omega) (by kernel_rfl)
      rw [e2, w1] at l2; omega
    · have l2 := h.latch a 2 29 ha (by omega) (by omega) (by kernel_rfl)
      rw [e3, w2] at l2; omega
    · have l2 := h.latch a 3 31 ha (by omega) (by omega) (by kernel_rfl)
      rw [e4, w3] at l2; omega
    · omega
  · rw [h.zero a m (by omega)]; omega
theorem Cost.fin {p : ByteArray} {C : Nat → Nat → Nat} (hp : p.size ≤ 4096) (h : Cost p C) (a m : Nat) (hm : m < 5) : C a m < 1073741824 := by
  have h1 := h.toUp a m hm
  have h2 := h.up a
  omega
end Go.Proofs.YtplppbfnlfehnaaDoor
