import Derived.Test.YtplppbfnlfehnaaDoorAztPA
namespace Go.Proofs.YtplppbfnlfehnaaDoor
open Go.RowKit Go.WideMaps Go.Maps
set_option linter.unusedVariables false
/-! two payloads one after the other -/
def bA (l : List UInt8) : ByteArray := ⟨l.toArray⟩
theorem bA_size (l : List UInt8) : (bA l).size = l.length := by show l.toArray.size = _; simp
theorem preB_bA (l : List UInt8) (a : Nat) (t : ByteArray) : preB (bA l) a t = Lib.hasPrefix (l.drop a) t.data.toList := by
  unfold preB
  congr 1
  rw [ByteArray.data_extract, Array.toList_extract, List.extract_eq_take_drop, bA_size]
  show (l.drop a).take (l.length - a) = _
  rw [List.take_of_length_le (by rw [List.length_drop]; omega)]
theorem preB_mono {l r : List UInt8} {a : Nat} {t : ByteArray} (ha : a ≤ l.length) (h : preB (bA l) a t = true) : preB (bA (l ++ r)) a t = true := by
  rw [preB_bA] at h ⊢
  unfold Lib.hasPrefix at h ⊢
  rw [List.isPrefixOf_iff_prefix] at h ⊢
  rw [List.drop_append_of_le_length ha]
  exact h.trans (List.prefix_append _ _)
theorem preB_shift {l r : List UInt8} {i : Nat} {t : ByteArray} : preB (bA (l ++ r)) (l.length + i) t = preB (bA r) i t := by
  rw [preB_bA, preB_bA]
  congr 1
  rw [← List.drop_drop, List.drop_left]
theorem Atom.mono {l r : List UInt8} {a m : Nat} {o : Opt} (ha : a < l.length) (h : Atom (bA l) a m o) : Atom (bA (l ++ r)) a m o := by
  have hs : (bA l).size ≤ (bA (l ++ r)).size := by rw [bA_size, bA_size, List.length_append]; omega
  cases h with
  | chars n hn hk hp => exact .chars n hn hk (preB_mono (by omega) hp)
  | latch n hn hk => exact .latch n hn hk
  | shift n s hn hk hs hk2 hp => exact .shift n s hn hk hs hk2 (preB_mono (by omega) hp)
  | short n j hn hk h1 h2 h3 => exact .short n j hn hk h1 h2 (by omega)
  | long n j hn hk h1 h2 h3 => exact .long n j hn hk h1 h2 (by omega)
theorem Atom.shiftDown {l r : List UInt8} {i m : Nat} {o : Opt} (h : Atom (bA (l ++ r)) (l.length + i) m o) : Atom (bA r) i m { o with at_ := o.at_ - l.length } ∧ l.length ≤ o.at_ := by
  have hs : (bA (l ++ r)).size = l.length + (bA r).size := by rw [bA_size, bA_size, List.length_append]
  cases h with
  | chars n hn hk hp =>
    refine ⟨?_, by simp only; omega⟩
    rw [preB_shift] at hp
    have e := Atom.chars (p := bA r) (a := i) (m := m) n hn hk hp
    rw [show i + (charF m n).size = l.length + i + (charF m n).size - l.length from by omega] at e
    exact e
  | latch n hn hk =>
    refine ⟨?_, by simp only; omega⟩
    have e := Atom.latch (p := bA r) (a := i) (m := m) n hn hk
    have e2 : l.length + i - l.length = i := by omega
    show Atom (bA r) i m ⟨n, -1, 0, false, widthN m, l.length + i - l.length, modeF m n⟩
    rw [e2]; exact e
  | shift n s hn hk hs hk2 hp =>
    refine ⟨?_, by simp only; omega⟩
    rw [preB_shift] at hp
    have e := Atom.shift (p := bA r) (a := i) (m := m) n s hn hk hs hk2 hp
    rw [show i + (charF (modeF m n) s).size = l.length + i + (charF (modeF m n) s).size - l.length from by omega] at e
    exact e
  | short n j hn hk h1 h2 h3 =>
    refine ⟨?_, by simp only; omega⟩
    have e := Atom.short (p := bA r) (a := i) (m := m) n j hn hk h1 h2 (by omega)
    rw [show i + j = l.length + i + j - l.length from by omega] at e
    exact e
  | long n j hn hk h1 h2 h3 =>
    refine ⟨?_, by simp only; omega⟩
    have e := Atom.long (p := bA r) (a := i) (m := m) n j hn hk h1 h2 (by omega)
    rw [show i + j = l.length + i + j - l.length from by omega] at e
    exact e
theorem Atom.shiftUp {l r : List UInt8} {i m : Nat} {o : Opt} (h : Atom (bA r) i m o) : Atom (bA (l ++ r)) (l.length + i) m { o with at_ := l.length + o.at_ } := by
  have hs : (bA (l ++ r)).size = l.length + (bA r).size := by rw [bA_size, bA_size, List.length_append]
  cases h with
  | chars n hn hk hp =>
    rw [← preB_shift (l := l)] at hp
    have e := Atom.chars (p := bA (l ++ r)) (a := l.length + i) (m := m) n hn hk hp
    rw [Nat.add_assoc] at e
    exact e
  | latch n hn hk => exact Atom.latch (p := bA (l ++ r)) (a := l.length + i) (m := m) n hn hk
  | shift n s hn hk hs hk2 hp =>
    rw [← preB_shift (l := l)] at hp
    have e := Atom.shift (p := bA (l ++ r)) (a := l.length + i) (m := m) n s hn hk hs hk2 hp
    rw [Nat.add_assoc (l.length) i] at e
    exact e
  | short n j hn hk h1 h2 h3 =>
    have e := Atom.short (p := bA (l ++ r)) (a := l.length + i) (m := m) n j hn hk h1 h2 (by omega)
    rw [Nat.add_assoc (l.length) i] at e
    exact e
  | long n j hn hk h1 h2 h3 =>
    have e := Atom.long (p := bA (l ++ r)) (a := l.length + i) (m := m) n j hn hk h1 h2 (by omega)
    rw [Nat.add_assoc (l.length) i] at e
    exact e
theorem ACost.shift {l r : List UInt8} {C : Nat → Nat → Nat} (h : ACost (bA (l ++ r)) C) : ACost (bA r) (fun i m => C (l.length + i) m) := by
  have hs : (bA (l ++ r)).size = l.length + (bA r).size := by rw [bA_size, bA_size, List.length_append]
  refine ⟨fun i m hi hm o ho => ?_, fun i m hi hm => ?_, fun i m hi => h.zero _ _ (by omega)⟩
  · exact h.le (l.length + i) m (by omega) hm _ (ho.shiftUp (l := l))
  · obtain ⟨o, h1, h2⟩ := h.ex (l.length + i) m (by omega) hm
    obtain ⟨h3, h4⟩ := h1.shiftDown
    refine ⟨_, h3, ?_⟩
    rw [← h2]
    show o.size + C (l.length + (o.at_ - l.length)) o.mode = o.size + C o.at_ o.mode
    rw [show l.length + (o.at_ - l.length) = o.at_ from by omega]
theorem joins {l r : List UInt8} {A B C : Nat → Nat → Nat} (hA : ACost (bA l) A) (hB : ACost (bA r) B) (hC : ACost (bA (l ++ r)) C) (hU : ∀ m, m < 5 → C l.length m ≤ 9 + C l.length 0) : C 0 0 ≤ A 0 0 + B 0 0 + 9 := by
  have hB0 : C l.length 0 = B 0 0 := by
    have := (ACost.uniq hC.shift hB) 0 0 (by omega)
    simpa using this
  have hs : (bA (l ++ r)).size = l.length + r.length := by rw [bA_size, List.length_append]
  have key : ∀ k a, l.length ≤ a + k → a ≤ l.length → ∀ x m, m < 5 → A a m = x → C a m ≤ x + 9 + B 0 0 := by
    intro k
    induction k with
    | zero =>
      intro a h1 h2 x m hm hx
      obtain rfl : a = l.length := by omega
      have := hU m hm
      omega
    | succ k ih =>
      intro a h1 h2 x
      by_cases hal : a = l.length
      · intro m hm hx
        subst hal
        have := hU m hm
        omega
      · induction x using Nat.strongRecOn with
        | ind x ihx =>
          intro m hm hx
          obtain ⟨o, ho, e⟩ := hA.ex a m (by rw [bA_size]; omega) hm
          have h3 := hC.le a m (by omega) hm o (ho.mono (by omega))
          have hsz := ho.size_pos
          have hat := ho.at_le (by rw [bA_size]; omega)
          rw [bA_size] at hat
          unfold Opt.tot at h3 e
          rcases Nat.eq_or_lt_of_le ho.at_ge with h4 | h4
          · rw [← h4] at e h3
            have := ihx (A a o.mode) (by omega) o.mode (ho.mode_lt hm) rfl
            omega
          · have := ih o.at_ (by omega) hat _ o.mode (ho.mode_lt hm) rfl
            omega
  have := key l.length 0 (by omega) (by omega) _ 0 (by omega) rfl
  omega
end Go.Proofs.YtplppbfnlfehnaaDoor
