import Derived.Test.YtplppbfnlfehnaaDoorAztPD
namespace Go.Proofs.YtplppbfnlfehnaaDoor
open Go.RowKit Go.WideMaps Go.Maps
set_option linter.unusedVariables false
/-! a payload is decoded from its bits -/
theorem endB_len {b : List Bool} (h : 12 ≤ b.length) : endB b = false := by unfold endB; rw [decide_eq_false (by omega)]; rfl
theorem endB_mem {b : List Bool} (h : b.all id = false) : endB b = false := by unfold endB; rw [h, Bool.and_false]
theorem all_app_false {x r : List Bool} (h : x.all id = false) : (x ++ r).all id = false := by rw [List.all_append, h]; rfl
theorem full_kinds : ∀ m, m < 5 → ∀ n, n < 32 → kindF m n ≠ 0 → (lowB n (widthN m)).all id = false ∨ kindF m n = 4 ∨ (kindF m n = 2 ∧ m = 3 ∧ modeF m n = 0) ∨ (kindF m n = 3 ∧ modeF m n = 0) := of_decide_eq_true (by kernel_rfl)
theorem full_zero : ∀ n, n < 32 → kindF 0 n = 1 → (lowB n 5).all id = false := of_decide_eq_true (by kernel_rfl)
/-- a single option's bits hold a 0, or are many, or latch upper -/
theorem Atom.notEnd {p : ByteArray} {a m : Nat} {o : Opt} (hm : m < 5) (h : Atom p a m o) : (optBits p a m o).all id = false ∨ 12 ≤ (optBits p a m o).length ∨ (m = 3 ∧ o.mode = 0 ∧ o.at_ = a) := by
  have hw := widthN_pos m
  cases h with
  | chars n hn hk hp =>
    rcases full_kinds m hm n hn (by omega) with h | h | h | h
    · exact .inl (all_app_false (all_app_false h))
    · omega
    · omega
    · omega
  | latch n hn hk =>
    rcases full_kinds m hm n hn (by omega) with h | h | h | h
    · exact .inl (all_app_false (all_app_false h))
    · omega
    · exact .inr (.inr ⟨h.2.1, h.2.2, rfl⟩)
    · omega
  | shift n s hn hk hs hk2 hp =>
    rcases full_kinds m hm n hn (by omega) with h | h | h | h
    · exact .inl (all_app_false (all_app_false h))
    · omega
    · omega
    · rw [h.2] at hk2
      have h2 := full_zero s hs hk2
      left
      show ((lowB n (widthN m) ++ (if (0 : Int) ≤ (s : Int) then lowB (s : Int).toNat 5 else [])) ++ []).all id = false
      rw [if_pos (by omega), Int.toNat_natCast, List.append_nil, List.all_append, h2, Bool.and_false]
  | short n j hn hk h1 h2 h3 =>
    right; left
    show 12 ≤ ((lowB n (widthN m) ++ (if (0 : Int) ≤ -1 then lowB (-1 : Int).toNat 5 else [])) ++ runB p a ⟨n, -1, j, false, widthN m + 5 + 8 * j, a + j, m⟩).length
    unfold runB
    rw [if_neg (by omega), if_pos (by show 0 < j; omega), if_neg (by simp)]
    simp only [List.length_append, lowB_length, byF_len, List.length_nil]
    omega
  | long n j hn hk h1 h2 h3 =>
    right; left
    show 12 ≤ ((lowB n (widthN m) ++ (if (0 : Int) ≤ -1 then lowB (-1 : Int).toNat 5 else [])) ++ runB p a ⟨n, -1, j, true, widthN m + 16 + 8 * j, a + j, m⟩).length
    unfold runB
    rw [if_neg (by omega), if_pos (by show 0 < j; omega), if_pos rfl]
    simp only [List.length_append, lowB_length, byF_len, List.length_nil]
    omega
theorem encF_succ {p : ByteArray} {T : Nat → Nat → Option Opt} {f a m : Nat} {o : Opt} (ha : a < p.size) (h : T a m = some o) : encF p T (f + 1) a m = optBits p a m o ++ encF p T f o.at_ o.mode := by
  show (if a < p.size then (match T a m with | some o => optBits p a m o ++ encF p T f o.at_ o.mode | none => []) else []) = _
  rw [if_pos ha, h]
theorem encF_end {p : ByteArray} {T : Nat → Nat → Option Opt} {f a m : Nat} (ha : p.size ≤ a) : encF p T f a m = [] := by
  cases f with
  | zero => rfl
  | succ f =>
    show (if a < p.size then _ else []) = []
    rw [if_neg (by omega)]
/-- the step of the search, as a single option -/
theorem Cost.stepA {p : ByteArray} {C : Nat → Nat → Nat} (hp : p.size ≤ 4096) (h : Cost p C) (a m : Nat) (ha : a < p.size) (hm : m < 5) : ∃ o, stepF C p a m = some o ∧ Atom p a m o ∧ o.tot C = C a m ∧ (optBits p a m o).length = o.size := by
  obtain ⟨o, h1, h2, h3⟩ := h.step hp a m ha hm
  exact ⟨o, h1, optK_atom ha h2, h3.eq.symm, (optK_st ha hm 32 (Nat.le_refl _) h2).ln⟩
theorem encF_len {p : ByteArray} {C : Nat → Nat → Nat} (hp : p.size ≤ 4096) (h : Cost p C) : ∀ f a m, m < 5 → C a m ≤ f → (encF p (stepF C p) f a m).length = C a m := by
  intro f
  induction f with
  | zero =>
    intro a m hm hf
    have : C a m = 0 := by omega
    rw [this]; rfl
  | succ f ih =>
    intro a m hm hf
    by_cases ha : a < p.size
    · obtain ⟨o, h1, h2, h3, h4⟩ := h.stepA hp a m ha hm
      have hsz := h2.size_pos
      rw [encF_succ ha h1, List.length_append, h4, ih _ _ (h2.mode_lt hm) (by unfold Opt.tot at h3; omega)]
      exact h3
    · rw [encF_end (by omega), h.zero a m (by omega)]; rfl
theorem encP_len {p : ByteArray} {C : Nat → Nat → Nat} (hp : p.size ≤ 4096) (h : Cost p C) : (encP p C).length = C 0 0 := encF_len hp h _ 0 0 (by omega) (Nat.le_refl _)
theorem enc_notEnd {p : ByteArray} {C : Nat → Nat → Nat} (hp : p.size ≤ 4096) (h : Cost p C) (f a m : Nat) (hm : m < 5) (hf : C a m ≤ f) (ha : a < p.size) (r : List Bool) : endB (encF p (stepF C p) f a m ++ r) = false := by
  obtain ⟨o, h1, h2, h3, h4⟩ := h.stepA hp a m ha hm
  have hsz := h2.size_pos
  unfold Opt.tot at h3
  obtain ⟨f, rfl⟩ : ∃ f', f = f' + 1 := ⟨f - 1, by omega⟩
  rw [encF_succ ha h1, List.append_assoc]
  rcases h2.notEnd hm with h5 | h5 | h5
  · exact endB_mem (all_app_false h5)
  · exact endB_len (by rw [List.length_append]; omega)
  · obtain ⟨o2, g1, g2, g3, g4⟩ := h.stepA hp a 0 ha (by omega)
    have hsz2 := g2.size_pos
    rw [h5.2.2, h5.2.1] at h3 ⊢
    unfold Opt.tot at g3
    obtain ⟨f, rfl⟩ : ∃ f', f = f' + 1 := ⟨f - 1, by omega⟩
    rw [encF_succ ha g1, List.append_assoc]
    rcases g2.notEnd (by omega) with g5 | g5 | g5
    · refine endB_mem ?_
      rw [List.all_append, all_app_false g5, Bool.and_false]
    · exact endB_len (by rw [List.length_append, List.length_append]; omega)
    · omega
theorem endB_ones (k : Nat) (hk : k ≤ 11) : endB (List.replicate k true) = true := by
  unfold endB
  rw [decide_eq_true (by rw [List.length_replicate]; omega)]
  simp
theorem decF_end {F m : Nat} {b : List Bool} {out : List UInt8} (h : endB b = true) : decF (F + 1) m b out = (out, 0) := by
  unfold decF
  rw [if_pos h]
theorem decF_step {F m : Nat} {b : List Bool} {out : List UInt8} {e : Int} {b' : List Bool} {out' : List UInt8} {m' : Nat} (h : endB b = false) (hr : stRes m b out = (e, b', out', m')) (he : e = 0) : decF (F + 1) m b out = decF F m' b' out' := by
  show (if endB b = true then (out, (0 : Int)) else if (stRes m b out).1 = 0 then decF F (stRes m b out).2.2.2 (stRes m b out).2.1 (stRes m b out).2.2.1 else ([], (stRes m b out).1)) = _
  rw [h, hr, if_neg (by simp)]
  exact if_pos he
theorem dec_enc {l : List UInt8} {C : Nat → Nat → Nat} (hp : l.length ≤ 4096) (h : Cost (bA l) C) (k : Nat) (hk : k ≤ 11) : ∀ f a m F out, m < 5 → a ≤ l.length → C a m ≤ f → C a m < F →
    decF F m (encF (bA l) (stepF C (bA l)) f a m ++ List.replicate k true) out = (out ++ l.drop a, 0) := by
  intro f
  induction f with
  | zero =>
    intro a m F out hm ha hf hF
    obtain ⟨F, rfl⟩ : ∃ F', F = F' + 1 := ⟨F - 1, by omega⟩
    have haz : a = l.length := by
      rcases Nat.lt_or_ge a l.length with h1 | h1
      · obtain ⟨o, _, h2, h3, _⟩ := h.stepA (by rw [bA_size]; exact hp) a m (by rw [bA_size]; exact h1) hm
        have := h2.size_pos
        unfold Opt.tot at h3; omega
      · omega
    subst haz
    rw [show encF (bA l) (stepF C (bA l)) 0 l.length m = [] from rfl, List.nil_append, decF_end (endB_ones k hk), List.drop_length, List.append_nil]
  | succ f ih =>
    intro a m F out hm ha hf hF
    obtain ⟨F, rfl⟩ : ∃ F', F = F' + 1 := ⟨F - 1, by omega⟩
    by_cases ha2 : a < l.length
    · have hps : (bA l).size ≤ 4096 := by rw [bA_size]; exact hp
      have has : a < (bA l).size := by rw [bA_size]; exact ha2
      obtain ⟨o, h1, h2, h3, h4⟩ := h.stepA hps a m has hm
      have hsz := h2.size_pos
      have hne := enc_notEnd hps h (f + 1) a m hm hf has (List.replicate k true)
      have hat := h2.at_le has
      have hge := h2.at_ge
      rw [bA_size] at hat
      unfold Opt.tot at h3
      have hd := h2.dec hm (encF (bA l) (stepF C (bA l)) f o.at_ o.mode ++ List.replicate k true) out
      rw [← List.append_assoc, ← encF_succ has h1] at hd
      rw [decF_step hne hd rfl, ih o.at_ o.mode F _ (h2.mode_lt hm) hat (by omega) (by omega), List.append_assoc]
      have e : l.drop o.at_ = (l.drop a).drop (o.at_ - a) := by rw [List.drop_drop, show a + (o.at_ - a) = o.at_ from by omega]
      rw [e, List.take_append_drop]
    · have haz : a = l.length := by omega
      subst haz
      rw [encF_end (by rw [bA_size]; exact Nat.le_refl _), List.nil_append]
      rw [decF_end (endB_ones k hk), List.drop_length, List.append_nil]
theorem dec_encP {l : List UInt8} {C : Nat → Nat → Nat} (hp : l.length ≤ 4096) (h : Cost (bA l) C) (k : Nat) (hk : k ≤ 11) : decRes (encP (bA l) C ++ List.replicate k true) = (l, 0) := by
  have hlen : (encP (bA l) C).length = C 0 0 := encP_len (by rw [bA_size]; exact hp) h
  have hup := h.up 0
  rw [bA_size] at hup
  unfold decRes
  rw [if_neg (by rw [List.length_append, hlen, List.length_replicate]; omega)]
  have h9 := dec_enc hp h k hk (C 0 0) 0 0 ((encP (bA l) C ++ List.replicate k true).length + 1) [] (by omega) (by omega) (Nat.le_refl _) (by rw [List.length_append, hlen]; omega)
  rw [List.nil_append, List.drop_zero] at h9
  exact h9
theorem cost_bound {l : List UInt8} {C : Nat → Nat → Nat} (hp : l.length ≤ 2078) (h : ACost (bA l) C) : C 0 0 ≤ 8 * l.length + 21 := by
  have hs := bA_size l
  have k31 : kindF 0 31 = 4 := by kernel_rfl
  have w0 : widthN 0 = 5 := rfl
  by_cases h0 : 0 < l.length
  · by_cases h1 : l.length ≤ 31
    · have h2 := h.le 0 0 (by omega) (by omega) _ (Atom.short 31 l.length (by omega) k31 h0 h1 (by omega))
      have h3 : C (0 + l.length) 0 = 0 := h.zero _ _ (by omega)
      have h4 : C 0 0 ≤ widthN 0 + 5 + 8 * l.length + C (0 + l.length) 0 := h2
      omega
    · have h2 := h.le 0 0 (by omega) (by omega) _ (Atom.long 31 l.length (by omega) k31 (by omega) hp (by omega))
      have h3 : C (0 + l.length) 0 = 0 := h.zero _ _ (by omega)
      have h4 : C 0 0 ≤ widthN 0 + 16 + 8 * l.length + C (0 + l.length) 0 := h2
      omega
  · rw [h.zero 0 0 (by omega)]; omega
end Go.Proofs.YtplppbfnlfehnaaDoor
