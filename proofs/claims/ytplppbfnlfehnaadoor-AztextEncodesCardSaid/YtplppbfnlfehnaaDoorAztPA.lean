import Derived.Test.YtplppbfnlfehnaaDoorAztW
namespace Go.Proofs.YtplppbfnlfehnaaDoor
open Go.RowKit Go.WideMaps Go.Maps
set_option linter.unusedVariables false
/-! single options: a number with what belongs to it, each run by itself -/
inductive Atom (p : ByteArray) (a m : Nat) : Opt → Prop
  | chars (n : Nat) : n < 32 → kindF m n = 1 → preB p a (charF m n) = true → Atom p a m ⟨n, -1, 0, false, widthN m, a + (charF m n).size, m⟩
  | latch (n : Nat) : n < 32 → kindF m n = 2 → Atom p a m ⟨n, -1, 0, false, widthN m, a, modeF m n⟩
  | shift (n s : Nat) : n < 32 → kindF m n = 3 → s < 32 → kindF (modeF m n) s = 1 → preB p a (charF (modeF m n) s) = true → Atom p a m ⟨n, (s : Int), 0, false, widthN m + widthN (modeF m n), a + (charF (modeF m n) s).size, m⟩
  | short (n j : Nat) : n < 32 → kindF m n = 4 → 1 ≤ j → j ≤ 31 → a + j ≤ p.size → Atom p a m ⟨n, -1, j, false, widthN m + 5 + 8 * j, a + j, m⟩
  | long (n j : Nat) : n < 32 → kindF m n = 4 → 31 ≤ j → j ≤ 2078 → a + j ≤ p.size → Atom p a m ⟨n, -1, j, true, widthN m + 16 + 8 * j, a + j, m⟩
theorem run_atom {p : ByteArray} {a m n : Nat} {o : Opt} (hn : n < 32) (hk : kindF m n = 4) (h : GoodB p n a m o) (h0 : o.run ≠ 0) (hs : o.long = false → o.run ≤ 31) (hl : o.run ≤ 2078) : Atom p a m o := by
  rcases h with h | ⟨e, h1, h2, h3⟩
  · exact absurd h h0
  · rw [e]
    cases hlg : o.long with
    | true =>
      have := Atom.long (p := p) (a := a) (m := m) n o.run hn hk (h3 hlg) hl h2
      simpa using this
    | false =>
      have := Atom.short (p := p) (a := a) (m := m) n o.run hn hk h1 (hs hlg) h2
      simpa using this
def runOk (o : Opt) : Prop := (o.long = false → o.run ≤ 31) ∧ o.run ≤ 2078
theorem tryO_runOk {C : Nat → Nat → Nat} {num at_ m : Nat} {best : Opt} {n sz : Nat} {lg : Bool} (hb : runOk best) (h1 : lg = false → n ≤ 31) (h2 : n ≤ 2078) : runOk (tryO C num at_ m best n sz lg) := by
  unfold tryO
  split
  · exact ⟨h1, h2⟩
  · exact hb
theorem bLong_runOk {C : Nat → Nat → Nat} {num at_ m : Nat} : ∀ k, k ≤ 2048 → runOk (bLong C num at_ m k)
  | 0, _ => ⟨fun _ => Nat.zero_le _, Nat.zero_le _⟩
  | k + 1, h => tryO_runOk (bLong_runOk k (by omega)) (fun e => by cases e) (by omega)
theorem bShort_runOk {C : Nat → Nat → Nat} {num at_ m K : Nat} (hK : K ≤ 2048) : ∀ k, k ≤ 31 → runOk (bShort C num at_ m K k)
  | 0, _ => bLong_runOk K hK
  | k + 1, h => tryO_runOk (bShort_runOk hK k (by omega)) (fun _ => by omega) (by omega)
theorem binOpt_atom {C : Nat → Nat → Nat} {p : ByteArray} {n a m : Nat} (ha : a < p.size) (hn : n < 32) (hk : kindF m n = 4) : Atom p a m (binOpt C n a m (p.size - a)) := by
  obtain ⟨h1, h2⟩ := binOpt_good (C := C) (num := n) (m := m) ha
  have h3 : runOk (binOpt C n a m (p.size - a)) := bShort_runOk (by omega) _ (by omega)
  exact run_atom hn hk h1 h2 h3.1 h3.2
theorem optSK_mem {p : ByteArray} {a m n md : Nat} {o : Opt} : ∀ k, o ∈ optSK p a m n md k → ∃ s, s < k ∧ o ∈ optS p a m n md s
  | 0, h => by cases h
  | k + 1, h => by
    unfold optSK at h
    rw [List.mem_append] at h
    rcases h with h | h
    · obtain ⟨s, h1, h2⟩ := optSK_mem k h
      exact ⟨s, by omega, h2⟩
    · exact ⟨k, by omega, h⟩
theorem mem_optSK {p : ByteArray} {a m n md s : Nat} {o : Opt} (h : o ∈ optS p a m n md s) : ∀ k, s < k → o ∈ optSK p a m n md k
  | 0, hk => by omega
  | k + 1, hk => by
    unfold optSK
    rw [List.mem_append]
    by_cases e : s = k
    · subst e; exact .inr h
    · exact .inl (mem_optSK h k (by omega))
theorem optN_atom {C : Nat → Nat → Nat} {p : ByteArray} {a m n : Nat} (ha : a < p.size) (hn : n < 32) {o : Opt} (ho : o ∈ optN C p a m n) : Atom p a m o := by
  unfold optN at ho
  split at ho
  · split at ho
    · rw [List.mem_singleton] at ho; subst ho; exact .chars n hn (by assumption) (by assumption)
    · cases ho
  split at ho
  · rw [List.mem_singleton] at ho; subst ho; exact .latch n hn (by assumption)
  split at ho
  · rename_i h3
    obtain ⟨s, hs, h⟩ := optSK_mem 32 ho
    unfold optS at h
    split at h
    · rename_i h4
      rw [List.mem_singleton] at h; subst h
      exact .shift n s hn h3 hs h4.1 h4.2
    · cases h
  split at ho
  · rw [List.mem_singleton] at ho; subst ho; exact binOpt_atom ha hn (by assumption)
  · cases ho
theorem optK_mem {C : Nat → Nat → Nat} {p : ByteArray} {a m : Nat} {o : Opt} : ∀ k, o ∈ optK C p a m k → ∃ n, n < k ∧ o ∈ optN C p a m n
  | 0, h => by cases h
  | k + 1, h => by
    unfold optK at h
    rw [List.mem_append] at h
    rcases h with h | h
    · obtain ⟨s, h1, h2⟩ := optK_mem k h
      exact ⟨s, by omega, h2⟩
    · exact ⟨k, by omega, h⟩
theorem optK_atom {C : Nat → Nat → Nat} {p : ByteArray} {a m : Nat} (ha : a < p.size) {o : Opt} (ho : o ∈ optK C p a m 32) : Atom p a m o := by
  obtain ⟨n, hn, h⟩ := optK_mem 32 ho
  exact optN_atom ha hn h
/-- the option of the search that stands for a single option: it is no dearer -/
theorem Atom.opt {C : Nat → Nat → Nat} {p : ByteArray} {a m : Nat} (ha : a < p.size) {o : Opt} (h : Atom p a m o) : ∃ o' ∈ optN C p a m o.num, o'.tot C ≤ o.tot C ∧ (o.run = 0 → o' = o) := by
  cases h with
  | chars n hn hk hp =>
    refine ⟨_, ?_, Nat.le_refl _, fun _ => rfl⟩
    show _ ∈ optN C p a m n
    unfold optN
    rw [if_pos hk, if_pos hp]; exact List.mem_singleton.2 rfl
  | latch n hn hk =>
    refine ⟨_, ?_, Nat.le_refl _, fun _ => rfl⟩
    show _ ∈ optN C p a m n
    unfold optN
    rw [hk, if_neg (by omega), if_pos rfl]; exact List.mem_singleton.2 rfl
  | shift n s hn hk hs hk2 hp =>
    refine ⟨_, ?_, Nat.le_refl _, fun _ => rfl⟩
    show _ ∈ optN C p a m n
    unfold optN
    rw [hk, if_neg (by omega), if_neg (by omega), if_pos rfl]
    refine mem_optSK (s := s) ?_ 32 hs
    unfold optS
    rw [if_pos ⟨hk2, hp⟩]; exact List.mem_singleton.2 rfl
  | short n j hn hk h1 h2 h3 =>
    refine ⟨binOpt C n a m (p.size - a), ?_, bShort_le _ _ h1 (by omega), fun e => by simp only at e; omega⟩
    show _ ∈ optN C p a m n
    unfold optN
    rw [hk, if_neg (by omega), if_neg (by omega), if_neg (by omega), if_pos rfl]; exact List.mem_singleton.2 rfl
  | long n j hn hk h1 h2 h3 =>
    refine ⟨binOpt C n a m (p.size - a), ?_, ?_, fun e => by simp only at e; omega⟩
    · show _ ∈ optN C p a m n
      unfold optN
      rw [hk, if_neg (by omega), if_neg (by omega), if_neg (by omega), if_pos rfl]; exact List.mem_singleton.2 rfl
    · exact Nat.le_trans (bShort_le2 (by omega) _).1 (bLong_le _ _ h1 (by omega))
theorem Atom.num_lt {p : ByteArray} {a m : Nat} {o : Opt} (h : Atom p a m o) : o.num < 32 := by cases h <;> assumption
theorem Atom.size_pos {p : ByteArray} {a m : Nat} {o : Opt} (h : Atom p a m o) : 4 ≤ o.size := by
  have := widthN_pos m
  cases h <;> simp only <;> omega
theorem preB_size {p t : ByteArray} {a : Nat} (h : preB p a t = true) (ha : a ≤ p.size) : a + t.size ≤ p.size := preB_le h ha
theorem Atom.at_le {p : ByteArray} {a m : Nat} (ha : a < p.size) {o : Opt} (h : Atom p a m o) : o.at_ ≤ p.size := by
  cases h with
  | chars n hn hk hp => exact preB_le hp (by omega)
  | latch n hn hk => show a ≤ _; omega
  | shift n s hn hk hs hk2 hp => exact preB_le hp (by omega)
  | short n j hn hk h1 h2 h3 => exact h3
  | long n j hn hk h1 h2 h3 => exact h3
theorem Atom.at_ge {p : ByteArray} {a m : Nat} {o : Opt} (h : Atom p a m o) : a ≤ o.at_ := by
  cases h <;> simp only <;> omega
theorem Atom.mode_lt {p : ByteArray} {a m : Nat} (hm : m < 5) {o : Opt} (h : Atom p a m o) : o.mode < 5 := by
  cases h <;> simp only <;> first | exact modeF_lt _ _ | exact hm
/-- least costs, by single options -/
structure ACost (p : ByteArray) (C : Nat → Nat → Nat) : Prop where
  le : ∀ a m, a < p.size → m < 5 → ∀ o, Atom p a m o → C a m ≤ o.tot C
  ex : ∀ a m, a < p.size → m < 5 → ∃ o, Atom p a m o ∧ o.tot C = C a m
  zero : ∀ a m, p.size ≤ a → C a m = 0
theorem Cost.ac {p : ByteArray} {C : Nat → Nat → Nat} (hp : p.size ≤ 4096) (h : Cost p C) : ACost p C := by
  refine ⟨fun a m ha hm o ho => ?_, fun a m ha hm => ?_, h.zero⟩
  · obtain ⟨o', h1, h2, _⟩ := ho.opt (C := C) ha
    exact Nat.le_trans ((h.fix a ha).1 m hm o' (mem_optK h1 32 ho.num_lt)) h2
  · rcases (h.fix a ha).2 m hm with h1 | ⟨o, h1, h2⟩
    · have := h.fin hp a m hm; omega
    · exact ⟨o, optK_atom ha h1, h2⟩
theorem ACost.le_of {p : ByteArray} {C C' : Nat → Nat → Nat} (h : ACost p C) (h' : ACost p C') (a : Nat) (ha : a < p.size) (ih : ∀ a' m, a < a' → m < 5 → C a' m = C' a' m) : ∀ x m, m < 5 → C' a m = x → C a m ≤ C' a m := by
  intro x
  induction x using Nat.strongRecOn with
  | ind x ihx =>
    intro m hm hx
    obtain ⟨o, ho, e⟩ := h'.ex a m ha hm
    refine Nat.le_trans (h.le a m ha hm o ho) ?_
    rw [← e]
    unfold Opt.tot at e ⊢
    refine Nat.add_le_add_left ?_ _
    have hsz := ho.size_pos
    rcases Nat.eq_or_lt_of_le ho.at_ge with h3 | h3
    · rw [← h3]
      rw [← h3] at e
      exact ihx (C' a o.mode) (by omega) o.mode (ho.mode_lt hm) rfl
    · rw [ih _ _ h3 (ho.mode_lt hm)]; exact Nat.le_refl _
theorem ACost.uniq {p : ByteArray} {C C' : Nat → Nat → Nat} (h : ACost p C) (h' : ACost p C') (a m : Nat) (hm : m < 5) : C a m = C' a m := by
  have key : ∀ k a, p.size ≤ a + k → ∀ m, m < 5 → C a m = C' a m := by
    intro k
    induction k with
    | zero => intro a ha m _; rw [h.zero a m ha, h'.zero a m ha]
    | succ k ih =>
      intro a hk m hm
      by_cases ha : a < p.size
      · have ih' : ∀ a' m, a < a' → m < 5 → C a' m = C' a' m := fun a' m h1 h2 => ih a' (by omega) m h2
        exact Nat.le_antisymm (h.le_of h' a ha ih' _ m hm rfl) (h'.le_of h a ha (fun a' m h1 h2 => (ih' a' m h1 h2).symm) _ m hm rfl)
      · rw [h.zero a m (by omega), h'.zero a m (by omega)]
  exact key p.size a (by omega) m hm
end Go.Proofs.YtplppbfnlfehnaaDoor
