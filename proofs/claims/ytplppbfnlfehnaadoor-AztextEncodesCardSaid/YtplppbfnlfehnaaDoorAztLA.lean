import Derived.Test.YtplppbfnlfehnaaDoorAztPA
import Derived.Test.YtplppbfnlfehnaaDoorAztZD
namespace Go.Proofs.YtplppbfnlfehnaaDoor
open Go.RowKit Go.WideMaps Go.Maps
set_option linter.unusedVariables false
/-! the chapter's examples: values -/
def chkC (p : ByteArray) (C : Nat → Nat → Nat) (a : Nat) : Bool := (List.range 5).all fun m => (optK C p a m 32).all (fun o => decide (C a m ≤ o.tot C)) && (optK C p a m 32).any (fun o => o.tot C == C a m)
theorem FixAt.of_chk {p : ByteArray} {C : Nat → Nat → Nat} {a : Nat} (h : chkC p C a = true) : FixAt C p a := by
  unfold chkC at h
  rw [List.all_eq_true] at h
  refine ⟨fun m hm o ho => ?_, fun m hm => .inr ?_⟩
  · have h1 := h m (List.mem_range.2 hm)
    rw [Bool.and_eq_true, List.all_eq_true] at h1
    exact of_decide_eq_true (h1.1 o ho)
  · have h1 := h m (List.mem_range.2 hm)
    rw [Bool.and_eq_true, List.any_eq_true] at h1
    obtain ⟨o, ho, h2⟩ := h1.2
    exact ⟨o, ho, by simpa using h2⟩
def tabC (l : List (List Nat)) (a m : Nat) : Nat := (l.getD a []).getD m 0
theorem getD_le {l : List Nat} {B : Nat} (h : l.all (fun x => decide (x ≤ B)) = true) (m : Nat) : l.getD m 0 ≤ B := by
  rw [List.all_eq_true] at h
  by_cases hm : m < l.length
  · have := h l[m] (List.getElem_mem hm)
    simp only [List.getD, List.getElem?_eq_getElem hm, Option.getD_some]
    exact of_decide_eq_true this
  · simp only [List.getD, List.getElem?_eq_none (show l.length ≤ m by omega), Option.getD_none]; omega
theorem cost_of_tab {p : ByteArray} {l : List (List Nat)} (hl : l.length = p.size) (hb : l.all (fun r => r.all (fun x => decide (x ≤ 1073741824))) = true) (hc : (List.range l.length).all (chkC p (tabC l)) = true) : Cost p (tabC l) := by
  refine ⟨fun a ha => ?_, fun a m ha => ?_, fun a m => ?_⟩
  · rw [List.all_eq_true] at hc
    exact FixAt.of_chk (hc a (List.mem_range.2 (by omega)))
  · have e : l.getD a [] = [] := by rw [List.getD_eq_getElem?_getD, List.getElem?_eq_none (by omega)]; rfl
    unfold tabC
    rw [e]; simp
  · unfold tabC
    rw [List.all_eq_true] at hb
    by_cases ha : a < l.length
    · have e : l.getD a [] = l[a] := by rw [List.getD_eq_getElem?_getD, List.getElem?_eq_getElem ha]; rfl
      rw [e]
      exact getD_le (hb l[a] (List.getElem_mem ha)) m
    · have e : l.getD a [] = [] := by rw [List.getD_eq_getElem?_getD, List.getElem?_eq_none (by omega)]; rfl
      rw [e]; simp
theorem stepF_congr5 {p : ByteArray} {C C' : Nat → Nat → Nat} (hp : p.size ≤ 4096) (h : ∀ a m, m < 5 → C a m = C' a m) (a m : Nat) (ha : a < p.size) (hm : m < 5) : stepF C p a m = stepF C' p a m := by
  unfold stepF
  rw [optK_congr5 (C := C) (C' := C') (fun a' _ => h a' m hm) 32]
  refine find_congr fun o ho => ?_
  unfold Opt.tot
  rw [h _ _ (okO_all ha hp hm 32 ho).2.1, h a m hm]
theorem stepF_mode {p : ByteArray} {C : Nat → Nat → Nat} (hp : p.size ≤ 4096) {a m : Nat} (ha : a < p.size) (hm : m < 5) {o : Opt} (h : stepF C p a m = some o) : o.mode < 5 ∧ o ∈ optK C p a m 32 ∧ o.tot C = C a m := by
  unfold stepF at h
  have hmem := List.mem_of_find?_eq_some h
  have hpr := List.find?_some h
  exact ⟨(okO_all ha hp hm 32 hmem).2.1, hmem, by simpa using hpr⟩
theorem encF_congr {p : ByteArray} {T T' : Nat → Nat → Option Opt} (h : ∀ a m, a < p.size → m < 5 → T a m = T' a m) (hm : ∀ a m o, a < p.size → m < 5 → T a m = some o → o.mode < 5) : ∀ f a m, m < 5 → encF p T f a m = encF p T' f a m := by
  intro f
  induction f with
  | zero => intro a m _; rfl
  | succ f ih =>
    intro a m hm5
    show (if a < p.size then (match T a m with | some o => optBits p a m o ++ encF p T f o.at_ o.mode | none => []) else []) = (if a < p.size then (match T' a m with | some o => optBits p a m o ++ encF p T' f o.at_ o.mode | none => []) else [])
    split
    · rename_i ha
      rw [← h a m ha hm5]
      cases hs : T a m with
      | none => rfl
      | some o =>
        show _ ++ _ = _ ++ _
        rw [ih _ _ (hm a m o ha hm5 hs)]
    · rfl
theorem encF_congr5 {p : ByteArray} {C C' : Nat → Nat → Nat} (hp : p.size ≤ 4096) (h : ∀ a m, m < 5 → C a m = C' a m) (f a m : Nat) (hm : m < 5) : encF p (stepF C p) f a m = encF p (stepF C' p) f a m :=
  encF_congr (fun a m ha hm => stepF_congr5 hp h a m ha hm) (fun a m o ha hm ho => (stepF_mode hp ha hm ho).1) f a m hm
theorem encP_congr {p : ByteArray} {C C' : Nat → Nat → Nat} (hp : p.size ≤ 4096) (h : Cost p C) (h' : Cost p C') : encP p C = encP p C' ∧ C 0 0 = C' 0 0 := by
  have e : ∀ a m, m < 5 → C a m = C' a m := fun a m hm => h.uniq hp h' a m hm
  unfold encP
  rw [e 0 0 (by omega), encF_congr5 hp e _ _ _ (by omega)]
  exact ⟨rfl, rfl⟩
abbrev pAa : ByteArray := ⟨#[65, 97]⟩
abbrev p1d : ByteArray := ⟨#[49, 46]⟩
abbrev pA : ByteArray := ⟨#[65]⟩
def cAa : List (List Nat) := [[15, 15, 20, 20, 19], [10, 5, 10, 15, 14]]
theorem cost_Aa : Cost pAa (tabC cAa) := cost_of_tab rfl rfl (by kernel_rfl)
/-- "1.": digits -/
def c1d : List (List Nat) := [[13, 13, 18, 18, 8], [9, 9, 10, 5, 4]]
theorem cost_A : Cost pA (tabC [[5, 10, 10, 10, 9]]) := cost_of_tab rfl rfl (by kernel_rfl)
theorem cost_1d : Cost p1d (tabC c1d) := cost_of_tab rfl rfl (by kernel_rfl)
abbrev sAa : ByteArray := ⟨#[48, 48, 48, 49, 48, 49, 49, 49, 48, 48, 48, 48, 48, 49, 48]⟩
abbrev s1d : ByteArray := ⟨#[49, 49, 49, 49, 48, 48, 48, 49, 49, 49, 49, 48, 49]⟩
abbrev sDe : ByteArray := ⟨#[48, 48, 48, 49, 48, 49, 49, 49, 48, 48, 48, 48, 48, 49, 48, 49, 49, 49, 49, 49]⟩
abbrev sSt : ByteArray := ⟨#[48, 48, 48, 48, 48, 49]⟩
abbrev sUn : ByteArray := ⟨#[48, 48, 48, 48, 48, 49, 49, 49, 49, 49]⟩
theorem enc_Aa : encP pAa (tabC cAa) = parB sAa := by kernel_rfl
theorem enc_1d : encP p1d (tabC c1d) = parB s1d := by kernel_rfl
theorem dec_De : decRes (parB sDe) = ([65, 97], 0) := by kernel_rfl
theorem stu_St : stuffRes (parB sSt) 6 = ([1, 62], 0) := by kernel_rfl
theorem uns_Un : unstuffRes [1, 62] 6 = (parB sUn, 0) := by kernel_rfl
theorem len_A {C : Nat → Nat → Nat} (h : Cost pA C) : C 0 0 = 5 := (encP_congr (by decide) h cost_A).2
theorem encV_Aa {C : Nat → Nat → Nat} (h : Cost pAa C) : encP pAa C = parB sAa := (encP_congr (by decide) h cost_Aa).1.trans enc_Aa
theorem encV_1d {C : Nat → Nat → Nat} (h : Cost p1d C) : encP p1d C = parB s1d := (encP_congr (by decide) h cost_1d).1.trans enc_1d
end Go.Proofs.YtplppbfnlfehnaaDoor
