import Derived.Test.YtplppbfnlfehnaaDoorAztPF
namespace Go.Proofs.YtplppbfnlfehnaaDoor
open Go.RowKit Go.WideMaps Go.Maps
set_option linter.unusedVariables false
theorem Atom.len {p : ByteArray} {a m : Nat} (hm : m < 5) {o : Opt} (h : Atom p a m o) : (optBits p a m o).length = o.size := by
  rw [optBits_num, List.length_append, List.length_append, lowB_length]
  cases h with
  | chars n hn hk hp => rfl
  | latch n hn hk => rfl
  | shift n s hn hk hs hk2 hp =>
    have h5 := shift_five m hm n hn hk
    show widthN m + ((if (0 : Int) ≤ (s : Int) then lowB (s : Int).toNat 5 else []).length + 0) = widthN m + widthN (modeF m n)
    rw [if_pos (by omega), lowB_length, h5]
  | short n j hn hk h1 h2 h3 =>
    show widthN m + (0 + (runB p a (shortO n a m j)).length) = widthN m + 5 + 8 * j
    rw [runB_S _ _ _ (show 0 < j by omega) rfl, List.length_append, lowB_length, byF_len]
    show widthN m + (0 + (5 + 8 * j)) = _
    omega
  | long n j hn hk h1 h2 h3 =>
    show widthN m + (0 + (runB p a (longO n a m j)).length) = widthN m + 16 + 8 * j
    rw [runB_L _ _ _ (show 0 < j by omega) rfl, List.length_append, List.length_append, lowB_length, lowB_length, byF_len]
    show widthN m + (0 + (5 + 11 + 8 * j)) = _
    omega
theorem split_low (b : List Bool) (j : Nat) (h : j ≤ b.length) : b = lowB (numF b 0 j) j ++ b.drop j := by
  rw [lowB_numF b j h, List.take_append_drop]
/-- what a step of the decoder reads is a single option -/
theorem dec_atom {m : Nat} {b : List Bool} {out : List UInt8} (hm : m < 5) (h : (stRes m b out).1 = 0) : ∃ u, (stRes m b out).2.2.1 = out ++ u ∧ ∀ l a, u <+: l.drop a → a ≤ l.length →
    ∃ o, Atom (bA l) a m o ∧ o.at_ = a + u.length ∧ o.mode = (stRes m b out).2.2.2 ∧ b = optBits (bA l) a m o ++ (stRes m b out).2.1 := by
  unfold stRes at h ⊢
  by_cases hlt : b.length < widthN m
  · rw [if_pos hlt] at h; simp at h
  rw [if_neg hlt] at h ⊢
  have hb := split_low b (widthN m) (by omega)
  have hk32 := num_lt32 b m
  generalize numF b 0 (widthN m) = k at *
  generalize b.drop (widthN m) = b1 at *
  unfold stK at h ⊢
  have hps : ∀ (l : List UInt8) (a : Nat) (t : ByteArray), t.data.toList <+: l.drop a → preB (bA l) a t = true := by
    intro l a t ht
    rw [preB_bA]
    unfold Lib.hasPrefix
    rw [List.isPrefixOf_iff_prefix]; exact ht
  have hsz : ∀ t : ByteArray, t.size = t.data.toList.length := fun t => by simp
  by_cases k1 : kindF m k = 1
  · rw [if_pos k1]
    refine ⟨(charF m k).data.toList, rfl, fun l a hu ha => ⟨_, .chars k hk32 k1 (hps l a _ hu), by show a + (charF m k).size = _; rw [hsz], rfl, ?_⟩⟩
    rw [optBits_num]
    show b = (lowB k (widthN m) ++ ([] ++ [])) ++ b1
    rw [List.append_nil, List.append_nil]; exact hb
  rw [if_neg k1] at h ⊢
  by_cases k2 : kindF m k = 2
  · rw [if_pos k2]
    refine ⟨[], (List.append_nil _).symm, fun l a hu ha => ⟨_, .latch k hk32 k2, by show a = _; simp, rfl, ?_⟩⟩
    rw [optBits_num]
    show b = (lowB k (widthN m) ++ ([] ++ [])) ++ b1
    rw [List.append_nil, List.append_nil]; exact hb
  rw [if_neg k2] at h ⊢
  by_cases k3 : kindF m k = 3
  · rw [if_pos k3] at h ⊢
    have h5 := shift_five m hm k hk32 k3
    simp only at h ⊢
    unfold shRes at h ⊢
    rw [h5] at h ⊢
    by_cases hl5 : b1.length < 5
    · rw [if_pos hl5] at h; simp at h
    rw [if_neg hl5] at h ⊢
    have hb1 := split_low b1 5 (by omega)
    have hs32 : numF b1 0 5 < 32 := numF_lt b1 0 5
    generalize numF b1 0 5 = s at *
    by_cases c1 : kindF (modeF m k) s = 1
    · rw [if_pos c1]
      refine ⟨(charF (modeF m k) s).data.toList, rfl, fun l a hu ha => ⟨_, .shift k s hk32 k3 hs32 c1 (hps l a _ hu), by show a + (charF (modeF m k) s).size = _; rw [hsz], rfl, ?_⟩⟩
      rw [optBits_num]
      show b = (lowB k (widthN m) ++ ((if (0 : Int) ≤ (s : Int) then lowB (s : Int).toNat 5 else []) ++ [])) ++ b1.drop 5
      rw [if_pos (by omega), Int.toNat_natCast, List.append_nil, List.append_assoc, ← hb1]; exact hb
    · rw [if_neg c1] at h; simp at h
  rw [if_neg k3] at h ⊢
  by_cases k4 : kindF m k = 4
  · rw [if_pos k4] at h ⊢
    simp only at h ⊢
    unfold biRes at h ⊢
    by_cases hl5 : b1.length < 5
    · rw [if_pos hl5] at h; simp at h
    rw [if_neg hl5] at h ⊢
    have hb1 := split_low b1 5 (by omega)
    have hs32 : numF b1 0 5 < 32 := numF_lt b1 0 5
    generalize numF b1 0 5 = j at *
    have hbyte : ∀ (l : List UInt8) (a : Nat) (u : List UInt8), u <+: l.drop a → a ≤ l.length → a + u.length ≤ l.length ∧ byF (bA l) a u.length = bytesB u := by
      intro l a u hu ha
      have h1 := hu.length_le
      rw [List.length_drop] at h1
      refine ⟨by omega, ?_⟩
      rw [byF_bytes l a _ (by omega), ← List.prefix_iff_eq_take.1 hu]
    by_cases j0 : j = 0
    · rw [if_pos j0] at h ⊢
      by_cases hl11 : (b1.drop 5).length < 11
      · rw [if_pos hl11] at h; simp at h
      rw [if_neg hl11] at h ⊢
      have hb2 := split_low (b1.drop 5) 11 (by omega)
      have hs11 : numF (b1.drop 5) 0 11 < 2048 := numF_lt (b1.drop 5) 0 11
      generalize numF (b1.drop 5) 0 11 = q at *
      obtain ⟨u, hu1, hu2, hu3⟩ := byRes_ok (q + 31) _ out h
      refine ⟨u, hu2, fun l a hu ha => ?_⟩
      obtain ⟨g1, g2⟩ := hbyte l a u hu ha
      rw [hu1] at g1 g2
      refine ⟨longO k a m (q + 31), .long k (q + 31) hk32 k4 (by omega) (by omega) (by rw [bA_size]; exact g1), by show a + (q + 31) = _; rw [hu1], rfl, ?_⟩
      rw [optBits_num, runB_L _ _ _ (show 0 < q + 31 by omega) rfl]
      show b = (lowB k (widthN m) ++ ([] ++ ((lowB 0 5 ++ lowB (q + 31 - 31) 11) ++ byF (bA l) a (q + 31)))) ++ _
      rw [List.nil_append, g2, Nat.add_sub_cancel, List.append_assoc, List.append_assoc, List.append_assoc, ← hu3, ← hb2]
      rw [j0] at hb1
      rw [← hb1]; exact hb
    · rw [if_neg j0] at h ⊢
      obtain ⟨u, hu1, hu2, hu3⟩ := byRes_ok j _ out h
      refine ⟨u, hu2, fun l a hu ha => ?_⟩
      obtain ⟨g1, g2⟩ := hbyte l a u hu ha
      rw [hu1] at g1 g2
      refine ⟨shortO k a m j, .short k j hk32 k4 (by omega) (by omega) (by rw [bA_size]; exact g1), by show a + j = _; rw [hu1], rfl, ?_⟩
      rw [optBits_num, runB_S _ _ _ (show 0 < j by omega) rfl]
      show b = (lowB k (widthN m) ++ ([] ++ (lowB j 5 ++ byF (bA l) a j))) ++ _
      rw [List.nil_append, g2, List.append_assoc, List.append_assoc, ← hu3, ← hb1]
      exact hb
  · rw [if_neg k4] at h; simp at h
theorem decF_bad {F m : Nat} {b : List Bool} {out : List UInt8} (h : endB b = false) (he : (stRes m b out).1 ≠ 0) : decF (F + 1) m b out = ([], (stRes m b out).1) := by
  show (if endB b = true then (out, (0 : Int)) else if (stRes m b out).1 = 0 then decF F (stRes m b out).2.2.2 (stRes m b out).2.1 (stRes m b out).2.2.1 else ([], (stRes m b out).1)) = _
  rw [h, if_neg (by simp), if_neg he]
theorem decF_good {F m : Nat} {b : List Bool} {out : List UInt8} (h : endB b = false) (he : (stRes m b out).1 = 0) : decF (F + 1) m b out = decF F (stRes m b out).2.2.2 (stRes m b out).2.1 (stRes m b out).2.2.1 := by
  show (if endB b = true then (out, (0 : Int)) else if (stRes m b out).1 = 0 then decF F (stRes m b out).2.2.2 (stRes m b out).2.1 (stRes m b out).2.2.1 else ([], (stRes m b out).1)) = _
  rw [h, if_neg (by simp), if_pos he]
/-- no shorter bit string says the same, and none of the same length comes before -/
theorem dec_lex : ∀ (f m : Nat) (b : List Bool) (out : List UInt8), m < 5 → b.length < f → (decF f m b out).2 = 0 → ∃ t, (decF f m b out).1 = out ++ t ∧ ∀ (l : List UInt8) (a : Nat) (C : Nat → Nat → Nat) (g : Nat), l.length ≤ 4096 → Cost (bA l) C → a ≤ l.length → l.drop a = t → C a m ≤ g →
    C a m ≤ b.length ∧ (C a m = b.length → LexOK (encF (bA l) (stepF C (bA l)) g a m) b) := by
  intro f
  induction f with
  | zero => intro m b out _ h; omega
  | succ f ih =>
    intro m b out hm hb hd
    cases he : endB b with
    | true =>
      rw [decF_end he]
      refine ⟨[], (List.append_nil _).symm, fun l a C g hl hC ha ht hg => ?_⟩
      have haz : a = l.length := by
        have := congrArg List.length ht
        rw [List.length_drop] at this
        simp only [List.length_nil] at this
        omega
      have hs := bA_size l
      refine ⟨by rw [hC.zero a m (by omega)]; exact Nat.zero_le _, fun _ => ?_⟩
      rw [encF_end (by omega)]; exact LexOK.nil_ _
    | false =>
      by_cases hr : (stRes m b out).1 = 0
      · rw [decF_good he hr] at hd ⊢
        obtain ⟨u, hu, hat⟩ := dec_atom hm hr
        obtain ⟨s1, s2, s3, s4⟩ := stRes_sf (b0 := b) (b := b) (out := out) hm (by rw [Nat.sub_self]; rfl) (Nat.le_refl _) hr
        generalize stRes m b out = r at *
        obtain ⟨t, ht, hL⟩ := ih r.2.2.2 r.2.1 r.2.2.1 s4 (by omega) hd
        refine ⟨u ++ t, by rw [ht, hu, List.append_assoc], fun l a C g hl hC ha hdr hg => ?_⟩
        have hs := bA_size l
        have hpre : u <+: l.drop a := by rw [hdr]; exact List.prefix_append _ _
        obtain ⟨o, ho, h1, h2, h3⟩ := hat l a hpre ha
        have hlen := hpre.length_le
        rw [List.length_drop] at hlen
        by_cases hal : a < l.length
        · have has : a < (bA l).size := by omega
          have hps : (bA l).size ≤ 4096 := by omega
          obtain ⟨o0, g1, g2, g3, g4⟩ := hC.stepA hps a m has hm
          have hsz0 := g2.size_pos
          have hdr2 : l.drop o.at_ = t := by
            rw [h1, ← List.drop_drop, hdr, List.drop_left]
          have hle := (hC.ac hps).le a m has hm o ho
          have hol := ho.len hm
          have hbl := congrArg List.length h3
          rw [List.length_append, hol] at hbl
          obtain ⟨i1, i2⟩ := hL l o.at_ C (C o.at_ o.mode) hl hC (by omega) hdr2 (by rw [h2]; exact Nat.le_refl _)
          rw [← h2] at i1 i2
          unfold Opt.tot at hle g3
          refine ⟨by omega, fun heq => ?_⟩
          have e1 : C o.at_ o.mode = r.2.1.length := by omega
          obtain ⟨g', rfl⟩ : ∃ g', g = g' + 1 := ⟨g - 1, by omega⟩
          rw [encF_succ has g1]
          rcases step_first hps hC has hm g1 ho (by unfold Opt.tot; omega) with hf | hf
          · rw [h3, hf]
            refine LexOK.pre ?_ _
            obtain ⟨_, i3⟩ := hL l o.at_ C g' hl hC (by omega) hdr2 (by rw [← h2]; rw [hf] at g3; omega)
            rw [← h2] at i3
            exact i3 e1
          · rw [h3]
            exact (hf.app _ _).lex
        · refine ⟨by rw [hC.zero a m (by omega)]; exact Nat.zero_le _, fun _ => ?_⟩
          rw [encF_end (by omega)]; exact LexOK.nil_ _
      · rw [decF_bad he hr] at hd
        exact absurd hd hr
theorem dec_min {b : List Bool} {l : List UInt8} {C : Nat → Nat → Nat} (hb : b.length ≤ 1048576) (hd : decRes b = (l, 0)) (hl : l.length ≤ 4096) (hC : Cost (bA l) C) : C 0 0 ≤ b.length ∧ (C 0 0 = b.length → LexOK (encP (bA l) C) b) := by
  unfold decRes at hd
  rw [if_neg (by omega)] at hd
  obtain ⟨t, h1, h2⟩ := dec_lex (b.length + 1) 0 b [] (by omega) (by omega) (by rw [hd])
  rw [hd] at h1
  exact h2 l 0 C (C 0 0) hl hC (Nat.zero_le _) (by rw [List.drop_zero]; simpa using h1) (Nat.le_refl _)
end Go.Proofs.YtplppbfnlfehnaaDoor
