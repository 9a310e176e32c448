import Derived.Test.YtmnlkganmgcpbaaGreatDoorQa12
import Derived.Lib.SlBytesConst
import Derived.Test.YtmnlkganmgcpbaaGreatDoorQa1
import Derived.Test.YtmnlkganmgcpbaaGreatDoorRows
import Derived.Test.YtmnlkganmgcpbaaGreatDoorTie
import Derived.WalkKit
import Derived.ProofKit
import Derived.OpenShut
import Derived.Carry
import Derived.Lay
import Derived.LaidMore
import Derived.SevenTiedAt
import Derived.Deep.Grids
import Derived.JoinedOf
import Derived.KernelRfl
namespace Go.Proofs.YtmnlkganmgcpbaaGreatDoor
open Go.RowKit Go.WideMaps Go.Maps
set_option linter.unusedVariables false
inductive Atom (p : ByteArray) (a m : Nat) : Opt → Prop
  | chars (n : Nat) : n < 32 → kindF m n = 1 → preB p a (charF m n) = true → Atom p a m ⟨n, -1, 0, false, widthN m, a + (charF m n).size, m⟩
  | latch (n : Nat) : n < 32 → kindF m n = 2 → Atom p a m ⟨n, -1, 0, false, widthN m, a, modeF m n⟩
  | shift (n s : Nat) : n < 32 → kindF m n = 3 → s < 32 → kindF (modeF m n) s = 1 → preB p a (charF (modeF m n) s) = true → Atom p a m ⟨n, (s : Int), 0, false, widthN m + widthN (modeF m n), a + (charF (modeF m n) s).size, m⟩
  | short (n j : Nat) : n < 32 → kindF m n = 4 → 1 ≤ j → j ≤ 31 → a + j ≤ p.size → Atom p a m ⟨n, -1, j, false, widthN m + 5 + 8 * j, a + j, m⟩
  | long (n j : Nat) : n < 32 → kindF m n = 4 → 31 ≤ j → j ≤ 2078 → a + j ≤ p.size → Atom p a m ⟨n, -1, j, true, widthN m + 16 + 8 * j, a + j, m⟩
theorem run_atom {p : ByteArray} {a m n : Nat} {o : Opt} (hn : n < 32) (hk : kindF m n = 4) (h : GoodB p n a m o) (h0 : o.run ≠ 0) (hs : o.long = false → o.run ≤ 31) (hl : o.run ≤ 2078) : Atom p a m o := by
  rcases h with h | ⟨e, h1, h2, h3⟩
  · exact absurd h h0
  · rw [e]
    cases hlg : o.long with
    | true =>
      have := Atom.long (p := p) (a := a) (m := m) n o.run hn hk (h3 hlg) hl h2
      simpa using this
    | false =>
      have := Atom.short (p := p) (a := a) (m := m) n o.run hn hk h1 (hs hlg) h2
      simpa using this
def runOk (o : Opt) : Prop := (o.long = false → o.run ≤ 31) ∧ o.run ≤ 2078
theorem tryO_runOk {C : Nat → Nat → Nat} {num at_ m : Nat} {best : Opt} {n sz : Nat} {lg : Bool} (hb : runOk best) (h1 : lg = false → n ≤ 31) (h2 : n ≤ 2078) : runOk (tryO C num at_ m best n sz lg) := by
  unfold tryO
  split
  · exact ⟨h1, h2⟩
  · exact hb
theorem bLong_runOk {C : Nat → Nat → Nat} {num at_ m : Nat} : ∀ k, k ≤ 2048 → runOk (bLong C num at_ m k)
  | 0, _ => ⟨fun _ => Nat.zero_le _, Nat.zero_le _⟩
  | k + 1, h => tryO_runOk (bLong_runOk k (by omega)) (fun e => by cases e) (by omega)
theorem bShort_runOk {C : Nat → Nat → Nat} {num at_ m K : Nat} (hK : K ≤ 2048) : ∀ k, k ≤ 31 → runOk (bShort C num at_ m K k)
  | 0, _ => bLong_runOk K hK
  | k + 1, h => tryO_runOk (bShort_runOk hK k (by omega)) (fun _ => by omega) (by omega)
theorem binOpt_atom {C : Nat → Nat → Nat} {p : ByteArray} {n a m : Nat} (ha : a < p.size) (hn : n < 32) (hk : kindF m n = 4) : Atom p a m (binOpt C n a m (p.size - a)) := by
  obtain ⟨h1, h2⟩ := binOpt_good (C := C) (num := n) (m := m) ha
  have h3 : runOk (binOpt C n a m (p.size - a)) := bShort_runOk (by omega) _ (by omega)
  exact run_atom hn hk h1 h2 h3.1 h3.2
theorem optSK_mem {p : ByteArray} {a m n md : Nat} {o : Opt} : ∀ k, o ∈ optSK p a m n md k → ∃ s, s < k ∧ o ∈ optS p a m n md s
  | 0, h => by cases h
  | k + 1, h => by
    unfold optSK at h
    rw [List.mem_append] at h
    rcases h with h | h
    · obtain ⟨s, h1, h2⟩ := optSK_mem k h
      exact ⟨s, by omega, h2⟩
    · exact ⟨k, by omega, h⟩
theorem mem_optSK {p : ByteArray} {a m n md s : Nat} {o : Opt} (h : o ∈ optS p a m n md s) : ∀ k, s < k → o ∈ optSK p a m n md k
  | 0, hk => by omega
  | k + 1, hk => by
    unfold optSK
    rw [List.mem_append]
    by_cases e : s = k
    · subst e; exact .inr h
    · exact .inl (mem_optSK h k (by omega))
theorem optN_atom {C : Nat → Nat → Nat} {p : ByteArray} {a m n : Nat} (ha : a < p.size) (hn : n < 32) {o : Opt} (ho : o ∈ optN C p a m n) : Atom p a m o := by
  unfold optN at ho
  split at ho
  · split at ho
    · rw [List.mem_singleton] at ho; subst ho; exact .chars n hn (by assumption) (by assumption)
    · cases ho
  split at ho
  · rw [List.mem_singleton] at ho; subst ho; exact .latch n hn (by assumption)
  split at ho
  · rename_i h3
    obtain ⟨s, hs, h⟩ := optSK_mem 32 ho
    unfold optS at h
    split at h
    · rename_i h4
      rw [List.mem_singleton] at h; subst h
      exact .shift n s hn h3 hs h4.1 h4.2
    · cases h
  split at ho
  · rw [List.mem_singleton] at ho; subst ho; exact binOpt_atom ha hn (by assumption)
  · cases ho
theorem optK_mem {C : Nat → Nat → Nat} {p : ByteArray} {a m : Nat} {o : Opt} : ∀ k, o ∈ optK C p a m k → ∃ n, n < k ∧ o ∈ optN C p a m n
  | 0, h => by cases h
  | k + 1, h => by
    unfold optK at h
    rw [List.mem_append] at h
    rcases h with h | h
    · obtain ⟨s, h1, h2⟩ := optK_mem k h
      exact ⟨s, by omega, h2⟩
    · exact ⟨k, by omega, h⟩
theorem optK_atom {C : Nat → Nat → Nat} {p : ByteArray} {a m : Nat} (ha : a < p.size) {o : Opt} (ho : o ∈ optK C p a m 32) : Atom p a m o := by
  obtain ⟨n, hn, h⟩ := optK_mem 32 ho
  exact optN_atom ha hn h
theorem Atom.opt {C : Nat → Nat → Nat} {p : ByteArray} {a m : Nat} (ha : a < p.size) {o : Opt} (h : Atom p a m o) : ∃ o' ∈ optN C p a m o.num, o'.tot C ≤ o.tot C ∧ (o.run = 0 → o' = o) := by
  cases h with
  | chars n hn hk hp =>
    refine ⟨_, ?_, Nat.le_refl _, fun _ => rfl⟩
    show _ ∈ optN C p a m n
    unfold optN
    rw [if_pos hk, if_pos hp]; exact List.mem_singleton.2 rfl
  | latch n hn hk =>
    refine ⟨_, ?_, Nat.le_refl _, fun _ => rfl⟩
    show _ ∈ optN C p a m n
    unfold optN
    rw [hk, if_neg (by omega), if_pos rfl]; exact List.mem_singleton.2 rfl
  | shift n s hn hk hs hk2 hp =>
    refine ⟨_, ?_, Nat.le_refl _, fun _ => rfl⟩
    show _ ∈ optN C p a m n
    unfold optN
    rw [hk, if_neg (by omega), if_neg (by omega), if_pos rfl]
    refine mem_optSK (s := s) ?_ 32 hs
    unfold optS
    rw [if_pos ⟨hk2, hp⟩]; exact List.mem_singleton.2 rfl
  | short n j hn hk h1 h2 h3 =>
    refine ⟨binOpt C n a m (p.size - a), ?_, bShort_le _ _ h1 (by omega), fun e => by simp only at e; omega⟩
    show _ ∈ optN C p a m n
    unfold optN
    rw [hk, if_neg (by omega), if_neg (by omega), if_neg (by omega), if_pos rfl]; exact List.mem_singleton.2 rfl
  | long n j hn hk h1 h2 h3 =>
    refine ⟨binOpt C n a m (p.size - a), ?_, ?_, fun e => by simp only at e; omega⟩
    · show _ ∈ optN C p a m n
      unfold optN
      rw [hk, if_neg (by omega), if_neg (by omega), if_neg (by omega), if_pos rfl]; exact List.mem_singleton.2 rfl
    · exact Nat.le_trans (bShort_le2 (by omega) _).1 (bLong_le _ _ h1 (by omega))
theorem Atom.num_lt {p : ByteArray} {a m : Nat} {o : Opt} (h : Atom p a m o) : o.num < 32 := by cases h <;> assumption
theorem Atom.size_pos {p : ByteArray} {a m : Nat} {o : Opt} (h : Atom p a m o) : 4 ≤ o.size := by
  have := widthN_pos m
  cases h <;> simp only <;> omega
theorem Atom.mode_lt {p : ByteArray} {a m : Nat} (hm : m < 5) {o : Opt} (h : Atom p a m o) : o.mode < 5 := by
  cases h <;> simp only <;> first | exact modeF_lt _ _ | exact hm
structure ACost (p : ByteArray) (C : Nat → Nat → Nat) : Prop where
  le : ∀ a m, a < p.size → m < 5 → ∀ o, Atom p a m o → C a m ≤ o.tot C
  ex : ∀ a m, a < p.size → m < 5 → ∃ o, Atom p a m o ∧ o.tot C = C a m
  zero : ∀ a m, p.size ≤ a → C a m = 0
theorem Cost.ac {p : ByteArray} {C : Nat → Nat → Nat} (hp : p.size ≤ 4096) (h : Cost p C) : ACost p C := by
  refine ⟨fun a m ha hm o ho => ?_, fun a m ha hm => ?_, h.zero⟩
  · obtain ⟨o', h1, h2, _⟩ := ho.opt (C := C) ha
    exact Nat.le_trans ((h.fix a ha).1 m hm o' (mem_optK h1 32 ho.num_lt)) h2
  · rcases (h.fix a ha).2 m hm with h1 | ⟨o, h1, h2⟩
    · have := h.fin hp a m hm; omega
    · exact ⟨o, optK_atom ha h1, h2⟩
end Go.Proofs.YtmnlkganmgcpbaaGreatDoor
namespace Go.Proofs.YtmnlkganmgcpbaaGreatDoor
open Go.RowKit Go.WideMaps Go.Maps
set_option linter.unusedVariables false
def chkC (p : ByteArray) (C : Nat → Nat → Nat) (a : Nat) : Bool := (List.range 5).all fun m => (optK C p a m 32).all (fun o => decide (C a m ≤ o.tot C)) && (optK C p a m 32).any (fun o => o.tot C == C a m)
theorem FixAt.of_chk {p : ByteArray} {C : Nat → Nat → Nat} {a : Nat} (h : chkC p C a = true) : FixAt C p a := by
  unfold chkC at h
  rw [List.all_eq_true] at h
  refine ⟨fun m hm o ho => ?_, fun m hm => .inr ?_⟩
  · have h1 := h m (List.mem_range.2 hm)
    rw [Bool.and_eq_true, List.all_eq_true] at h1
    exact of_decide_eq_true (h1.1 o ho)
  · have h1 := h m (List.mem_range.2 hm)
    rw [Bool.and_eq_true, List.any_eq_true] at h1
    obtain ⟨o, ho, h2⟩ := h1.2
    exact ⟨o, ho, by simpa using h2⟩
def tabC (l : List (List Nat)) (a m : Nat) : Nat := (l.getD a []).getD m 0
theorem getD_le {l : List Nat} {B : Nat} (h : l.all (fun x => decide (x ≤ B)) = true) (m : Nat) : l.getD m 0 ≤ B := by
  rw [List.all_eq_true] at h
  by_cases hm : m < l.length
  · have := h l[m] (List.getElem_mem hm)
    simp only [List.getD, List.getElem?_eq_getElem hm, Option.getD_some]
    exact of_decide_eq_true this
  · simp only [List.getD, List.getElem?_eq_none (show l.length ≤ m by omega), Option.getD_none]; omega
theorem cost_of_tab {p : ByteArray} {l : List (List Nat)} (hl : l.length = p.size) (hb : l.all (fun r => r.all (fun x => decide (x ≤ 1073741824))) = true) (hc : (List.range l.length).all (chkC p (tabC l)) = true) : Cost p (tabC l) := by
  refine ⟨fun a ha => ?_, fun a m ha => ?_, fun a m => ?_⟩
  · rw [List.all_eq_true] at hc
    exact FixAt.of_chk (hc a (List.mem_range.2 (by omega)))
  · have e : l.getD a [] = [] := by rw [List.getD_eq_getElem?_getD, List.getElem?_eq_none (by omega)]; rfl
    unfold tabC
    rw [e]; simp
  · unfold tabC
    rw [List.all_eq_true] at hb
    by_cases ha : a < l.length
    · have e : l.getD a [] = l[a] := by rw [List.getD_eq_getElem?_getD, List.getElem?_eq_getElem ha]; rfl
      rw [e]
      exact getD_le (hb l[a] (List.getElem_mem ha)) m
    · have e : l.getD a [] = [] := by rw [List.getD_eq_getElem?_getD, List.getElem?_eq_none (by omega)]; rfl
      rw [e]; simp
theorem stepF_congr5 {p : ByteArray} {C C' : Nat → Nat → Nat} (hp : p.size ≤ 4096) (h : ∀ a m, m < 5 → C a m = C' a m) (a m : Nat) (ha : a < p.size) (hm : m < 5) : stepF C p a m = stepF C' p a m := by
  unfold stepF
  rw [optK_congr5 (C := C) (C' := C') (fun a' _ => h a' m hm) 32]
  refine find_congr fun o ho => ?_
  unfold Opt.tot
  rw [h _ _ (okO_all ha hp hm 32 ho).2.1, h a m hm]
theorem stepF_mode {p : ByteArray} {C : Nat → Nat → Nat} (hp : p.size ≤ 4096) {a m : Nat} (ha : a < p.size) (hm : m < 5) {o : Opt} (h : stepF C p a m = some o) : o.mode < 5 ∧ o ∈ optK C p a m 32 ∧ o.tot C = C a m := by
  unfold stepF at h
  have hmem := List.mem_of_find?_eq_some h
  have hpr := List.find?_some h
  exact ⟨(okO_all ha hp hm 32 hmem).2.1, hmem, by simpa using hpr⟩
theorem encF_congr {p : ByteArray} {T T' : Nat → Nat → Option Opt} (h : ∀ a m, a < p.size → m < 5 → T a m = T' a m) (hm : ∀ a m o, a < p.size → m < 5 → T a m = some o → o.mode < 5) : ∀ f a m, m < 5 → encF p T f a m = encF p T' f a m := by
  intro f
  induction f with
  | zero => intro a m _; rfl
  | succ f ih =>
    intro a m hm5
    show (if a < p.size then (match T a m with | some o => optBits p a m o ++ encF p T f o.at_ o.mode | none => []) else []) = (if a < p.size then (match T' a m with | some o => optBits p a m o ++ encF p T' f o.at_ o.mode | none => []) else [])
    split
    · rename_i ha
      rw [← h a m ha hm5]
      cases hs : T a m with
      | none => rfl
      | some o =>
        show _ ++ _ = _ ++ _
        rw [ih _ _ (hm a m o ha hm5 hs)]
    · rfl
theorem encF_congr5 {p : ByteArray} {C C' : Nat → Nat → Nat} (hp : p.size ≤ 4096) (h : ∀ a m, m < 5 → C a m = C' a m) (f a m : Nat) (hm : m < 5) : encF p (stepF C p) f a m = encF p (stepF C' p) f a m :=
  encF_congr (fun a m ha hm => stepF_congr5 hp h a m ha hm) (fun a m o ha hm ho => (stepF_mode hp ha hm ho).1) f a m hm
theorem encP_congr {p : ByteArray} {C C' : Nat → Nat → Nat} (hp : p.size ≤ 4096) (h : Cost p C) (h' : Cost p C') : encP p C = encP p C' ∧ C 0 0 = C' 0 0 := by
  have e : ∀ a m, m < 5 → C a m = C' a m := fun a m hm => h.uniq hp h' a m hm
  unfold encP
  rw [e 0 0 (by omega), encF_congr5 hp e _ _ _ (by omega)]
  exact ⟨rfl, rfl⟩
abbrev pA : ByteArray := ⟨#[65]⟩
theorem cost_A : Cost pA (tabC [[5, 10, 10, 10, 9]]) := cost_of_tab rfl rfl (by kernel_rfl)
theorem len_A {C : Nat → Nat → Nat} (h : Cost pA C) : C 0 0 = 5 := (encP_congr (by decide) h cost_A).2
end Go.Proofs.YtmnlkganmgcpbaaGreatDoor
namespace Go.Proofs.YtmnlkganmgcpbaaGreatDoor
open Go.RowKit Go.WideMaps Go.Maps
set_option linter.unusedVariables false
def bA (l : List UInt8) : ByteArray := ⟨l.toArray⟩
theorem bA_size (l : List UInt8) : (bA l).size = l.length := by show l.toArray.size = _; simp
end Go.Proofs.YtmnlkganmgcpbaaGreatDoor
namespace Go.Proofs.YtmnlkganmgcpbaaGreatDoor
open Go.RowKit Go.WideMaps Go.Maps
set_option linter.unusedVariables false
theorem encF_succ {p : ByteArray} {T : Nat → Nat → Option Opt} {f a m : Nat} {o : Opt} (ha : a < p.size) (h : T a m = some o) : encF p T (f + 1) a m = optBits p a m o ++ encF p T f o.at_ o.mode := by
  show (if a < p.size then (match T a m with | some o => optBits p a m o ++ encF p T f o.at_ o.mode | none => []) else []) = _
  rw [if_pos ha, h]
theorem encF_end {p : ByteArray} {T : Nat → Nat → Option Opt} {f a m : Nat} (ha : p.size ≤ a) : encF p T f a m = [] := by
  cases f with
  | zero => rfl
  | succ f =>
    show (if a < p.size then _ else []) = []
    rw [if_neg (by omega)]
theorem Cost.stepA {p : ByteArray} {C : Nat → Nat → Nat} (hp : p.size ≤ 4096) (h : Cost p C) (a m : Nat) (ha : a < p.size) (hm : m < 5) : ∃ o, stepF C p a m = some o ∧ Atom p a m o ∧ o.tot C = C a m ∧ (optBits p a m o).length = o.size := by
  obtain ⟨o, h1, h2, h3⟩ := h.step hp a m ha hm
  exact ⟨o, h1, optK_atom ha h2, h3.eq.symm, (optK_st ha hm 32 (Nat.le_refl _) h2).ln⟩
theorem encF_len {p : ByteArray} {C : Nat → Nat → Nat} (hp : p.size ≤ 4096) (h : Cost p C) : ∀ f a m, m < 5 → C a m ≤ f → (encF p (stepF C p) f a m).length = C a m := by
  intro f
  induction f with
  | zero =>
    intro a m hm hf
    have : C a m = 0 := by omega
    rw [this]; rfl
  | succ f ih =>
    intro a m hm hf
    by_cases ha : a < p.size
    · obtain ⟨o, h1, h2, h3, h4⟩ := h.stepA hp a m ha hm
      have hsz := h2.size_pos
      rw [encF_succ ha h1, List.length_append, h4, ih _ _ (h2.mode_lt hm) (by unfold Opt.tot at h3; omega)]
      exact h3
    · rw [encF_end (by omega), h.zero a m (by omega)]; rfl
theorem encP_len {p : ByteArray} {C : Nat → Nat → Nat} (hp : p.size ≤ 4096) (h : Cost p C) : (encP p C).length = C 0 0 := encF_len hp h _ 0 0 (by omega) (Nat.le_refl _)
theorem cost_bound {l : List UInt8} {C : Nat → Nat → Nat} (hp : l.length ≤ 2078) (h : ACost (bA l) C) : C 0 0 ≤ 8 * l.length + 21 := by
  have hs := bA_size l
  have k31 : kindF 0 31 = 4 := by kernel_rfl
  have w0 : widthN 0 = 5 := rfl
  by_cases h0 : 0 < l.length
  · by_cases h1 : l.length ≤ 31
    · have h2 := h.le 0 0 (by omega) (by omega) _ (Atom.short 31 l.length (by omega) k31 h0 h1 (by omega))
      have h3 : C (0 + l.length) 0 = 0 := h.zero _ _ (by omega)
      have h4 : C 0 0 ≤ widthN 0 + 5 + 8 * l.length + C (0 + l.length) 0 := h2
      omega
    · have h2 := h.le 0 0 (by omega) (by omega) _ (Atom.long 31 l.length (by omega) k31 (by omega) hp (by omega))
      have h3 : C (0 + l.length) 0 = 0 := h.zero _ _ (by omega)
      have h4 : C 0 0 ≤ widthN 0 + 16 + 8 * l.length + C (0 + l.length) 0 := h2
      omega
  · rw [h.zero 0 0 (by omega)]; omega
end Go.Proofs.YtmnlkganmgcpbaaGreatDoor
namespace Go.Proofs.YtmnlkganmgcpbaaGreatDoor
open Go.RowKit Go.WideMaps Go.Maps
set_option linter.unusedVariables false
theorem SR.litM {α : Type} {f : α → Value} {d : α} (W : World) (xs : List α) (t : TypeId) (fr : Nat × Nat) (n : Nat) (hn : n = xs.length) (hm : n ≤ maxLen) : SR f d (W.alloc (.cells (xs.map f).toArray t fr)) (some ⟨W.heap.size, 0, none⟩) n n xs := by
  refine ⟨hn, Nat.le_refl _, hm, fun _ => ⟨_, rfl, by simp, fun j hj => ?_⟩⟩
  rw [add_plain, Nat.zero_add, World.cell?_alloc_mark]
  simp [List.getD, hj]
end Go.Proofs.YtmnlkganmgcpbaaGreatDoor
namespace Go.Proofs.YtmnlkganmgcpbaaGreatDoor
open Go.ChangeShapes Go.WideShapes Go.ChangeAt Go.RowKit
set_option linter.unusedVariables false
theorem below_all {H : Type} {enc : TypeId × Value → H} {P : Program} (hl : laidOutB P = true) {W W' : World} (hb : Below W.heap.size W W') :
    ∀ (ts : List TypeId) (vs : List Value) (ds : List (DataW H)) (ps : List MemPlace), (∀ t ∈ ts, P.readableRec t = true ∧ t < P.types.size) →
      DataW.TrodAll enc P W 0 (fun _ => true) true ts vs ds ps → (∀ x ∈ ps, x.block < W.heap.size) →
      DataW.TrodAll enc P W' 0 (fun b => decide (b < W.heap.size)) true ts vs ds ps := by
  intro ts
  induction ts with
  | nil =>
    intro vs ds ps _ h _
    cases vs <;> cases ds <;> first | exact h | exact h.elim
  | cons t ts ih =>
    intro vs ds ps ht h hlt
    cases vs with
    | nil => cases ds <;> exact h.elim
    | cons v vs =>
      cases ds with
      | nil => exact h.elim
      | cons d ds =>
        obtain ⟨p, q, h1, h2, rfl⟩ := h
        have hr := ht t (by simp)
        exact ⟨p, q, Below.trod hl hr.1 hr.2 h1 hb (fun x hx => hlt x (by simp [hx])), ih vs ds q (fun t' h' => ht t' (by simp [h'])) h2 (fun x hx => hlt x (by simp [hx])), rfl⟩
theorem law_post {H : Type} {enc : TypeId × Value → H} {P : Program} (hl : laidOutB P = true) {f : Func} {s : ChangeSpec} {W W' : World} {args : Array Value} {ds gs : List (DataW H)} {before : List MemPlace} {B : TypeId}
    (hB : P.underlying B = some .bool) (hres : f.resultTypes = #[B]) (hvars : s.vars = []) (hrd : ∀ t ∈ f.params.toList, P.readableRec t = true ∧ t < P.types.size)
    (hW : DataW.Whole enc P f.params.toList s.vars false W args.toList ds gs before)
    (hs : s.fn H (ds ++ gs) = { results := [.lit (.bool true)], args := ds }) (hb : Below W.heap.size W W') :
    s.post enc P f false true false false W args (.bool true) W' := by
  have hlt := hW.lt
  obtain ⟨p, q, hA, hV, rfl, hfz, hnd⟩ := id hW
  refine ⟨ds, gs, p ++ q, [], p, q, hW, ?_, ?_, ?_, hb.frame _, fun h => by cases h⟩
  · rw [hs, hres]
    exact trodAll_cons_mk (shut_bool hB _) trodAll_mk0
  · rw [hs]
    exact below_all hl hb _ _ _ _ hrd hA (fun x hx => hlt x (by simp [hx]))
  · rw [hs]
    rw [hvars] at hV ⊢
    obtain ⟨rfl, rfl⟩ := trodVars_none hV
    rfl
theorem cell_lt {w : World} {a : Addr} {v : Value} (h : w.cell? a = some v) : a.block < w.heap.size := by
  rcases Nat.lt_or_ge a.block w.heap.size with h1 | h1
  · exact h1
  · unfold World.cell? at h
    rw [Array.getElem?_eq_none h1] at h
    cases h
theorem bd_u8 {a : Int} (h : (Lit.int .u8 a).wf = true) : 0 ≤ a ∧ a ≤ 255 := by
  simpa [Lit.wf, IntKind.min, IntKind.max, IntKind.signed, IntKind.bits] using h
theorem SR.nilV {α : Type} {f : α → Value} {d : α} (W : World) : SR f d W none 0 0 [] := ⟨rfl, Nat.le_refl _, Nat.zero_le _, RG.nil_ _ _⟩
set_option maxRecDepth 100000 in
theorem open_slU {H : Type} {enc : TypeId × Value → H} {W : World} {b0 : Nat} {r : Reach} {v : Value} {d : DataW H} {p : List MemPlace}
    (hv : Value.okWide Tryz.prog W r b0 22 v) (h : DataW.Trod enc Tryz.prog W 0 (fun _ => true) true 22 v d p) : ∃ A n c l, v = .slice A n c ∧ SR vU 0 W A n c l := by
  obtain ⟨a0, len0, cap0, rfl⟩ := okWide_slice Tryz.underlying22 hv
  obtain ⟨fuel, hf⟩ := h
  rcases open_ints Tryz.underlying22 Tryz.underlying5 (by kernel_rfl) hf with ⟨hcs, _⟩ | ⟨a, len, cap, zs, hcs, _, hl, hm, hz, hx, hcell, hwf⟩
  · simp [Value.cells] at hcs
    obtain ⟨rfl, rfl, rfl⟩ := hcs
    exact ⟨none, 0, 0, [], rfl, SR.nilV _⟩
  · simp [Value.cells] at hcs
    obtain ⟨rfl, rfl, rfl⟩ := hcs
    simp only [if_true] at hz
    refine ⟨some a, len0, cap0, (zs.take len0).map (fun z => UInt8.ofNat z.toNat), rfl, ⟨by simp; omega, hl, hm, fun hn => ?_⟩⟩
    simp only [List.length_map, List.length_take] at hn
    have h0 := hcell 0 (by omega)
    refine ⟨a, rfl, by have := cell_lt h0; rw [block_of_add] at this; exact this, fun j hj => ?_⟩
    simp only [List.length_map, List.length_take] at hj
    rw [hcell j (by omega)]
    have hj2 : j < zs.length := by omega
    have e1 : zs.getD j 0 = zs[j] := by simp [List.getD, hj2]
    have e2 : ((zs.take len0).map (fun z => UInt8.ofNat z.toNat)).getD j 0 = UInt8.ofNat (zs[j]).toNat := by
      rw [List.getD_eq_getElem?_getD, List.getElem?_map, List.getElem?_take_of_lt (by omega), List.getElem?_eq_getElem hj2]; rfl
    rw [e1, e2]
    have hb := bd_u8 (hwf _ (List.getElem_mem hj2))
    show some (Value.int .u8 zs[j]) = some (Value.int .u8 _)
    rw [UInt8.toNat_ofNat', Nat.mod_eq_of_lt (by omega), Int.toNat_of_nonneg hb.1]
theorem ownK : ownKnob Tryz.prog.godebug = none := by kernel_rfl
theorem laidK : laidOutB Tryz.prog = true := by kernel_rfl
end Go.Proofs.YtmnlkganmgcpbaaGreatDoor
namespace Go.Proofs.YtmnlkganmgcpbaaGreatDoor
theorem and_tt {a b : Bool} (h : a = true) (g : b = true) : (a && b) = true := by rw [h, g]; rfl
theorem fp_laid : laidOutB Tryz.prog = true := by kernel_rfl
theorem fp_mapsRowed : mapsRowed Tryz.prog = true := by kernel_rfl
theorem fp_stops : (Tryz.prog.stops == []) = true := by kernel_rfl
theorem fp_stopKnobs : (Tryz.prog.stopKnobs == []) = true := by kernel_rfl
theorem fp_stopsHeard : Tryz.prog.stopsHeard = true := by kernel_rfl
theorem fp_mayEnter : Tryz.prog.mayEnter = true := by kernel_rfl
end Go.Proofs.YtmnlkganmgcpbaaGreatDoor
