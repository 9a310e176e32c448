/- For every input, the law AztecGeometry of layer 28 (aztec) answers true and leaves its arguments as they were, whatever the listed tables of Go's library hold when it begins: the row and its tied card. No condition beyond the listed tables. -/
import Derived.Test.YtmnlkganmgcpbaaGreatDoorQa40
import Derived.Test.YtmnlkganmgcpbaaGreatDoorQa13
import Derived.Lib.SmallJoins
import Derived.Test.YtmnlkganmgcpbaaGreatDoorCards
namespace Go.Proofs.YtmnlkganmgcpbaaGreatDoor.aztecGeometry
open Go.RowKit
set_option linter.unusedVariables false
set_option linter.unusedSimpArgs false
theorem flat_cells {w : World} {A : Option Addr} {xs : List Pt} (h : RP2 w A xs) (hn : 0 < xs.length) : ∃ g o, A = some ⟨g, o, none⟩ ∧ g < w.heap.size ∧ ∀ j u, (xs.flatMap ptV)[j]? = some u → w.cell? ((⟨g, o, none⟩ : Addr).add j) = some u := by
  obtain ⟨g, o, e, hg, hc⟩ := h hn
  refine ⟨g, o, e, hg, fun j u hu => ?_⟩
  have hj : j < (xs.flatMap ptV).length := by
    rcases Nat.lt_or_ge j (xs.flatMap ptV).length with h | h
    · exact h
    · rw [List.getElem?_eq_none h] at hu; cases hu
  rw [ptsV_length] at hj
  have h1 := ptsV_get xs (j / 2) (by omega)
  have h2 := hc (j / 2) (by omega)
  rw [add_plain]
  rcases Nat.mod_two_eq_zero_or_one j with hm | hm
  · have e1 : j = 2 * (j / 2) := by omega
    have e2 : o + j = o + j / 2 * 2 := by omega
    rw [e2, h2.1]
    rw [e1] at hu
    exact (h1.1.symm.trans hu)
  · have e1 : j = 2 * (j / 2) + 1 := by omega
    have e2 : o + j = o + j / 2 * 2 + 1 := by omega
    rw [e2, h2.2]
    rw [e1] at hu
    exact (h1.2.symm.trans hu)
theorem own_empty (W : World) : (W.alloc (.cells #[] 47)).ownsRow W.heap.size 47 2 (.slice (some ⟨W.heap.size, 0, none⟩) 0 0) 0 (([] : List Pt).flatMap ptV) :=
  ⟨rfl, .inr ⟨W.heap.size, 0, #[], rfl, Nat.le_refl _, heap_alloc_new _ _, Nat.le_refl _, Nat.zero_le _, rfl, rfl⟩⟩
def seenL (n N : Nat) (ps : List Pt) (j : Nat) : List Bool := wrL n (List.replicate N false) (ps.take j) (List.replicate j true)
theorem seen_step {n N : Nat} {ps : List Pt} {j : Nat} (h : j < ps.length) : seenL n N ps (j + 1) = (seenL n N ps j).set (ixN n (ps.getD j (0, 0))) true := by
  unfold seenL
  have h2 := wrL_take n (List.replicate N false) ps (List.replicate ps.length true) (i := j) h (by simpa using h)
  rw [List.take_replicate, List.take_replicate, show min (j + 1) ps.length = j + 1 from by omega, show min j ps.length = j from by omega] at h2
  have e : (List.replicate ps.length true).getD j false = true := by simp [List.getD, h]
  rw [e] at h2
  exact h2
theorem seen_not {n N : Nat} {ps : List Pt} {j : Nat} (h : j < ps.length) (hp : ps.Pairwise fun p q => ixN n p ≠ ixN n q) : (seenL n N ps j).getD (ixN n (ps.getD j (0, 0))) false = false := by
  unfold seenL
  rw [wrL_other]
  · simp only [List.getD, List.getElem?_replicate]; split <;> rfl
  · intro p hm e
    obtain ⟨i, hi, rfl⟩ := List.getElem_of_mem hm
    rw [List.length_take] at hi
    rw [List.getElem_take] at e
    have e2 : ps.getD j (0, 0) = ps[j] := by simp [List.getD, h]
    rw [e2] at e
    exact List.pairwise_iff_getElem.1 hp i j (by omega) h (by omega) e
theorem all_ix {L : Nat} {c : Bool} (h1 : 1 ≤ L) (hL : L ≤ 32) : (dataL L c ++ modeL (cenN L c) c).Pairwise fun p q => ixN (sideN L c) p ≠ ixN (sideN L c) q := by
  have hs := cen_le (c := c) h1 hL
  rw [List.pairwise_append]
  refine ⟨nodup_ix (data_nodup hL) fun p hp => (data_in hL hp).1, nodup_ix (mode_nodup (by omega)) fun p hp => ?_, fun p hp q hq => ?_⟩
  · have := mode_in (c := c) (C := cenN L c) (by omega) hp; omega
  · exact (mode_data h1 hL hq hp).symm
theorem all_in {L : Nat} {c : Bool} (h1 : 1 ≤ L) (hL : L ≤ 32) {p : Pt} (h : p ∈ dataL L c ++ modeL (cenN L c) c) : p.1 < sideN L c ∧ p.2 < sideN L c := by
  have hs := cen_le (c := c) h1 hL
  rcases List.mem_append.1 h with h | h
  · exact data_in hL h
  · have := mode_in (c := c) (C := cenN L c) (by omega) h
    omega
set_option maxRecDepth 100000 in
set_option maxHeartbeats 4000000 in
theorem walk_no (L : Int) (c : Bool) (w : World) (hx : exB L c = false) : Calls Tryz.prog 7 #[.int .i64 L, .bool c] w fun e w' => e = .returned (.bool true) ∧ Below w.heap.size w w' := by
  have HS1 : Hid (∀ W, Calls Tryz.prog 13 #[.int .i64 L, .bool c] W fun e w' => e = .returned (.tuple #[.int .i64 0, .int .i64 14]) ∧ Below W.heap.size W w') := fun W => by have h := Side_any L c W; unfold sideR at h; rw [if_neg (by rw [hx]; decide)] at h; exact h
  have HW1 : Hid (∀ W, Calls Tryz.prog 16 #[.int .i64 L, .bool c] W fun e w' => e = .returned (.tuple #[.int .i64 0, .int .i64 0, .int .i64 14]) ∧ Below W.heap.size W w') := fun W => by have h := WordSize_any L c W; unfold wsR at h; rw [if_neg (by rw [hx]; decide)] at h; exact h
  have HP1 : Hid (∀ W, Calls Tryz.prog 15 #[.int .i64 L, .bool c] W fun e w' => ∃ A k A' k', e = .returned (.tuple #[.slice A 0 k, .slice A' 0 k', .int .i64 14]) ∧ Below W.heap.size W w') := fun W => by
    refine (Path_any L c W).mono ?_
    unfold PathR pathD pathM pathE
    rw [if_neg (by rw [hx]; decide), if_neg (by rw [hx]; decide), if_neg (by rw [hx]; decide)]
    rintro e w' ⟨v, u, rfl, ⟨A, k, rfl, -⟩, ⟨A', k', rfl, -⟩, hb⟩
    exact ⟨A, k, A', k', rfl, hb⟩
  have HEX : Hid (∀ W, Calls Tryz.prog 11 #[] W fun e w' => e = .returned (.bool true) ∧ Below W.heap.size W w') := fun W => examples_any W
  clear hx
  go_enter Tryz.func7, Tryz.ntmps7
  go_wp2_with (first
    | (go_at_call 13; refine (HS1.out _).mono ?_; rintro e w1 ⟨rfl, hb1⟩; have HB1 : Hid (Below w.heap.size w w1) := hb1; clear hb1)
    | (go_at_call 15; refine (HP1.out _).mono ?_; rintro e w2 ⟨A, k, A', k', rfl, hb2⟩; have HB2 : Hid (Below w.heap.size w w2) := bwStep HB1.out hb2; clear hb2)
    | (go_at_call 16; refine (HW1.out _).mono ?_; rintro e w3 ⟨rfl, hb3⟩; have HB3 : Hid (Below w.heap.size w w3) := bwStep HB2.out hb3; clear hb3)
    | (go_at_call 11; refine (HEX.out _).mono ?_; rintro e w9 ⟨rfl, hb9⟩; have HB9 : Hid (Below w.heap.size w w9) := bwStep HB3.out hb9; clear hb9))
  go_ret
  exact ⟨rfl, HB9.out⟩
theorem carry2 {w2 w3 w4 : World} {g o g' o' : Nat} {xs ys : List Value} (h : (g < w2.heap.size ∧ ∀ j u, xs[j]? = some u → w2.cell? ((⟨g, o, none⟩ : Addr).add j) = some u) ∧ g' < w2.heap.size ∧ ∀ j u, ys[j]? = some u → w2.cell? ((⟨g', o', none⟩ : Addr).add j) = some u) (h23 : Below w2.heap.size w2 w3) (h34 : Below w3.heap.size w3 w4) :
    (∀ j u, xs[j]? = some u → w4.cell? ((⟨g, o, none⟩ : Addr).add j) = some u) ∧ g' < w3.heap.size + 1 ∧ ∀ j u, ys[j]? = some u → w4.cell? ((⟨g', o', none⟩ : Addr).add j) = some u := by
  have h24 := bwStep h23 h34
  have hs := h23.size
  refine ⟨fun j u hu => ?_, by have := h.2.1; omega, fun j u hu => ?_⟩
  · exact (h24.cell (p := (⟨g, o, none⟩ : Addr).add j) (by rw [block_of_add]; exact h.1.1)).trans (h.1.2 j u hu)
  · exact (h24.cell (p := (⟨g', o', none⟩ : Addr).add j) (by rw [block_of_add]; exact h.2.1)).trans (h.2.2 j u hu)
theorem carryB {w4 w5 : World} {b g o : Nat} {ys : List Value} (h : g < b ∧ ∀ j u, ys[j]? = some u → w4.cell? ((⟨g, o, none⟩ : Addr).add j) = some u) (hb : Below b w4 w5) : ∀ j u, ys[j]? = some u → w5.cell? ((⟨g, o, none⟩ : Addr).add j) = some u := fun j u hu =>
  (hb.cell (p := (⟨g, o, none⟩ : Addr).add j) (by rw [block_of_add]; exact h.1)).trans (h.2 j u hu)
theorem made4 (N : Nat) (W : World) : ((W.alloc (Obj.cells (Array.replicate N (vB false)) 4)).alloc (Obj.cells #[] 47)).ownsRow (W.heap.size + 1) 47 2 (.slice (some ⟨W.heap.size + 1, 0, none⟩) 0 0) 0 (([] : List Pt).flatMap ptV) ∧ RowB ((W.alloc (Obj.cells (Array.replicate N (vB false)) 4)).alloc (Obj.cells #[] 47)) W.heap.size (List.replicate N false) ∧ Below W.heap.size W ((W.alloc (Obj.cells (Array.replicate N (vB false)) 4)).alloc (Obj.cells #[] 47)) ∧ ((W.alloc (Obj.cells (Array.replicate N (vB false)) 4)).alloc (Obj.cells #[] 47)).heap.size = W.heap.size + 1 + 1 := by
  have e : (Array.replicate N (vB false)) = ((List.replicate N false).map vB).toArray := by rw [List.map_replicate]; simp
  refine ⟨?_, ?_, bwAlloc (bwA _ _) _, by simp⟩
  · have h := own_empty (W.alloc (Obj.cells (Array.replicate N (vB false)) 4))
    simpa using h
  · rw [e]
    exact (RowB.new W (List.replicate N false)).below (bwA _ _)
theorem own_name {b : Nat} {W : World} {v : Value} {nd : Nat} {dp : List Pt} (h : W.ownsRow b 47 2 v (0 + nd) (([] ++ dp).flatMap ptV)) : W.ownsRow b 47 2 v nd (dp.flatMap ptV) := by
  rw [Nat.zero_add, List.nil_append] at h
  exact h
theorem own_len {b n m : Nat} {W : World} {v : Value} {xs : List Value} (h : W.ownsRow b 47 2 v n xs) (e : n = m) : W.ownsRow b 47 2 v m xs := e ▸ h
set_option maxRecDepth 100000 in
set_option maxHeartbeats 4000000 in
theorem walk_yes (L : Nat) (c : Bool) (w : World) (h1 : 1 ≤ L) (hL : L ≤ 32) (hc : c = true → L ≤ 4) : Calls Tryz.prog 7 #[.int .i64 (L : Int), .bool c] w fun e w' => e = .returned (.bool true) ∧ Below w.heap.size w w' := by
  have hx := exB_of h1 hL hc
  have hsl := side_big L c h1 hL
  have HS1 : Hid (∀ W, Calls Tryz.prog 13 #[.int .i64 (L : Int), .bool c] W fun e w' => e = .returned (.tuple #[.int .i64 ((sideN L c : Nat) : Int), .int .i64 0]) ∧ Below W.heap.size W w') := fun W => by have h := Side_any L c W; unfold sideR at h; rw [if_pos hx] at h; exact h
  have HW1 : Hid (∀ W, Calls Tryz.prog 16 #[.int .i64 (L : Int), .bool c] W fun e w' => e = .returned (.tuple #[.int .i64 ((sizeN L : Nat) : Int), .int .i64 ((wordsN L c : Nat) : Int), .int .i64 0]) ∧ Below W.heap.size W w') := fun W => by have h := WordSize_any L c W; unfold wsR at h; rw [if_pos hx] at h; exact h
  have HP1 : Hid (∀ W, Calls Tryz.prog 15 #[.int .i64 (L : Int), .bool c] W fun e w' => ∃ g o k g' o' k', e = .returned (.tuple #[.slice (some ⟨g, o, none⟩) (dataL L c).length k, .slice (some ⟨g', o', none⟩) (modeL (cenN L c) c).length k', .int .i64 0]) ∧ Below W.heap.size W w' ∧ Hid ((g < w'.heap.size ∧ ∀ j u, ((dataL L c).flatMap ptV)[j]? = some u → w'.cell? ((⟨g, o, none⟩ : Addr).add j) = some u) ∧ g' < w'.heap.size ∧ ∀ j u, ((modeL (cenN L c) c).flatMap ptV)[j]? = some u → w'.cell? ((⟨g', o', none⟩ : Addr).add j) = some u)) := fun W => by
    refine (Path_any L c W).mono ?_
    unfold PathR pathD pathM pathE
    rw [if_pos hx, if_pos hx, if_pos hx]
    rintro e w' ⟨v, u, rfl, ⟨A, k, rfl, -, -, r1⟩, ⟨A', k', rfl, -, -, r2⟩, hb⟩
    have hd : 0 < (dataL L c).length := by rw [data_length]; unfold roomN; split <;> exact Nat.mul_pos (by omega) (by omega)
    obtain ⟨g, o, rfl, e2, e3⟩ := flat_cells r1 hd
    obtain ⟨g', o', rfl, e5, e6⟩ := flat_cells r2 (by show 0 < (modeL (cenN L c) c).length; rw [mode_length]; split <;> omega)
    exact ⟨g, o, k, g', o', k', rfl, hb, ⟨e2, e3⟩, e5, e6⟩
  have HEX : Hid (∀ W, Calls Tryz.prog 11 #[] W fun e w' => e = .returned (.bool true) ∧ Below W.heap.size W w') := fun W => examples_any W
  have hz := size_cases L
  have hroom := room_le (c := c) hL
  obtain ⟨nd, hnd⟩ : ∃ nd, nd = (dataL L c).length := ⟨_, rfl⟩
  obtain ⟨nm, hnm⟩ : ∃ nm, nm = (modeL (cenN L c) c).length := ⟨_, rfl⟩
  have hndr : nd = roomN L c := by rw [hnd, data_length]
  have hquo : nd / sizeN L = wordsN L c := by rw [hndr]; rfl
  have hnm9 : nm ≤ 40 := by rw [hnm, mode_length]; split <;> omega
  have HPW := Lib.hid (all_ix (c := c) h1 hL)
  have HIN : Hid (∀ p ∈ dataL L c ++ modeL (cenN L c) c, p.1 < sideN L c ∧ p.2 < sideN L c) := fun p hp => all_in h1 hL hp
  rw [← hnd, ← hnm] at HP1
  have HLEN : Hid ((dataL L c ++ modeL (cenN L c) c).length = nd + nm) := by show _ = _; rw [List.length_append, hnd, hnm]
  have HND := Lib.hid hnd
  have HNM := Lib.hid hnm
  have hnd9 : nd ≤ 20000 := by omega
  have gq : (nd : Int) / ((sizeN L : Nat) : Int) = ((wordsN L c : Nat) : Int) := by rw [← hquo]; simp
  have gq2 : (nd : Int).tdiv ((sizeN L : Nat) : Int) = ((wordsN L c : Nat) : Int) := by rw [Int.tdiv_eq_ediv_of_nonneg (by omega)]; exact gq
  have hww := words_le (c := c) hL
  clear hnd hnm hndr hx hroom hquo h1 hL hc
  generalize dataL L c = dp at *
  generalize modeL (cenN L c) c = mp at *
  generalize sideN L c = n at *
  generalize sizeN L = z at *
  generalize wordsN L c = wn at *
  have hz1 : 1 ≤ z := by omega
  have hz0 : ¬ z = 0 := by omega
  have hz2 : ¬ (z : Int) < 1 := by omega
  have hz3 : z ≤ 12 := by omega
  have hn1 : ¬ (n : Int) < 1 := by omega
  have hn2 : ¬ (1000 : Int) < (n : Int) := by omega
  have hn3 : decide (n < 1) = false := by simp; omega
  have hn4 : decide (1000 < n) = false := by simp; omega
  have hz4 : decide (z < 1) = false := by simp; omega
  have gw : IntKind.i64.wrap (wn : Int) = (wn : Int) := wr64 _ (by omega) (by omega)
  have hn9 : n ≤ 161 := hsl.2
  have hn15 : 15 ≤ n := hsl.1
  obtain ⟨N, hN⟩ : ∃ N, N = n * n := ⟨_, rfl⟩
  have hN9 : N ≤ 25921 := by rw [hN]; exact Nat.mul_le_mul hn9 hn9
  have gN0 : (n : Int) * (n : Int) = (N : Int) := by rw [hN]; simp
  have gN : IntKind.i64.wrap (N : Int) = (N : Int) := wr64 _ (by omega) (by omega)
  have HN := Lib.hid hN
  have hmk := fun W => make_bools N (by omega) W
  obtain ⟨na, hna⟩ : ∃ na, na = nd + nm := ⟨_, rfl⟩
  have HNA : Hid (nd + nm = na) := hna.symm
  rw [← hna] at HLEN
  have hna9 : na ≤ 21000 := by omega
  clear hna
  clear hz hN hsl
  go_enter Tryz.func7, Tryz.ntmps7
  go_wp2_with (first
    | (go_at_call 13; refine (HS1.out _).mono ?_; rintro e w1 ⟨rfl, hb1⟩; have HB1 : Hid (Below w.heap.size w w1) := hb1; clear hb1)
    | (go_at_call 15; refine (HP1.out _).mono ?_; rintro e w2 ⟨g, o, k, g', o', k', rfl, hb2, HPP⟩; have HB2 : Hid (Below w.heap.size w w2) := bwStep HB1.out hb2; clear hb2)
    | (go_at_call 16; refine (HW1.out _).mono ?_; rintro e w3 ⟨rfl, hb3⟩; have HB3 : Hid (Below w.heap.size w w3) := bwStep HB2.out hb3; have HB23 := Lib.hid hb3; clear hb3)
    | ((with_reducible show wpList _ _ _ (⟨some 94, Op.call ⟨Callee.builtin Builtin.append, _, _⟩, _, _, _, _⟩ :: _) _ _); have HF4 := Lib.hid (made4 N w3); have HPD := Lib.hid (carry2 HPP.out HB23.out HF4.out.2.2.1); generalize ((w3.alloc (Obj.cells (Array.replicate N (vB false)) 4)).alloc (Obj.cells #[] 47)) = w4 at HF4 HPD ⊢; (refine wpList_append_pts (base := w3.heap.size + 1) (l := []) HF4.out.1 (Nat.le_trans (Nat.le_succ _) (Nat.le_of_eq HF4.out.2.2.2.symm)) rfl _ _ rfl rfl ⟨g, o, none⟩ nd k dp rfl HND.out HPD.out.1 (by omega) ?_); intro v5 w5 hown hg _; have HB5 : Hid (Below (w3.heap.size + 1) w4 w5) := (Below.refl _ _).grown hg (Nat.le_trans (Nat.le_succ _) (Nat.le_of_eq HF4.out.2.2.2.symm)) (fun q hq => (HF4.out.1.lt q hq).1); have HO5 := Lib.hid (own_name hown); clear hown hg)
    | ((with_reducible show wpList _ _ _ (⟨some 97, Op.call ⟨Callee.builtin Builtin.append, _, _⟩, _, _, _, _⟩ :: _) _ _); (refine wpList_append_pts (base := w3.heap.size + 1) (l := dp) HO5.out (Nat.le_trans (Nat.le_trans (Nat.le_succ _) (Nat.le_of_eq HF4.out.2.2.2.symm)) HB5.out.size) rfl _ _ rfl rfl ⟨g', o', none⟩ nm k' mp rfl HNM.out (carryB HPD.out.2 HB5.out) (by omega) ?_); intro v6 w6 hown hg _; have HB6 : Hid (Below (w3.heap.size + 1) w4 w6) := HB5.out.grown hg (Nat.le_trans (Nat.le_trans (Nat.le_succ _) (Nat.le_of_eq HF4.out.2.2.2.symm)) HB5.out.size) (fun q hq => (HO5.out.lt q hq).1); have hown2 := own_len hown HNA.out; clear hown; obtain ⟨A6, c6, rfl⟩ := ownsRow_shape hown2; have HO6 := Lib.hid hown2; clear hown2 hg))
  obtain ⟨db, hdb⟩ : ∃ db, db = w3.heap.size := ⟨_, rfl⟩
  rw [← hdb]
  have HRP : Hid (RP2 w6 A6 (dp ++ mp) ∧ ∀ ad, A6 = some ad → db < ad.block) := by
    show _ ∧ _
    refine ⟨RP2.of_own HO6.out, fun ad e => ?_⟩
    subst e
    rcases HO6.out.2 with ⟨h, -⟩ | ⟨g6, cap, cur, h, hb, -⟩
    · cases h
    · injection h with h _ _
      injection h with h
      rw [h]
      show db < g6
      omega
  have HR6 : Hid (RowB w6 db (seenL n N (dp ++ mp) 0) ∧ KeepX db w6 w6) := by
    show _ ∧ _
    unfold seenL
    rw [List.take_zero, wrL_nil, hdb]
    exact ⟨RowIs.lower HF4.out.2.1 HB6.out (by omega), KeepX.refl _ _⟩
  have HBW : Hid (Below w.heap.size w w6) := by
    show Below _ _ _
    have h1 := HB3.out.size
    exact (bwStep HB3.out HF4.out.2.2.1).trans (HB6.out.mono (by omega))
  have HDB : Hid (w.heap.size ≤ db ∧ w.heap.size ≤ w6.heap.size) := by show _ ∧ _; have := HB3.out.size; have := HBW.out.size; omega
  clear hdb hmk
  go_loopw [100] (fun iv wr => ∃ j : Nat, j ≤ na ∧ iv = .int .i64 j ∧ Hid (RowB wr db (seenL n N (dp ++ mp) j) ∧ KeepX db w6 wr)) (fun iv _ => na - (intOf iv).toNat)
  case atStart => exact ⟨0, Nat.zero_le _, rfl, HR6.out⟩
  case round =>
    clear HR6
    obtain ⟨j, hj, rfl, hO⟩ := hrel
    by_cases hlt : j < na
    · obtain ⟨g6, o6, rfl, hgw, hcg⟩ := HRP.out.1 (by rw [HLEN.out]; omega)
      have hxy := hcg j (by rw [HLEN.out]; exact hlt)
      have hpm : (dp ++ mp).getD j (0, 0) ∈ dp ++ mp := by
        have : j < (dp ++ mp).length := by rw [HLEN.out]; exact hlt
        simp only [List.getD, List.getElem?_eq_getElem this, Option.getD_some]; exact List.getElem_mem this
      obtain ⟨hp1, hp2⟩ := HIN.out _ hpm
      have hgdb : g6 ≠ db := by have := HRP.out.2 _ rfl; show g6 ≠ db; have h : db < g6 := this; omega
      have e1 : wr.cell? ⟨g6, o6 + j * 2, none⟩ = some (.int .i64 (((dp ++ mp).getD j (0, 0)).1 : Int)) := (hO.out.2.cell (a := ⟨g6, o6 + j * 2, none⟩) hgw hgdb).trans hxy.1
      have e2 : wr.cell? ⟨g6, o6 + j * 2 + 1, none⟩ = some (.int .i64 (((dp ++ mp).getD j (0, 0)).2 : Int)) := (hO.out.2.cell (a := ⟨g6, o6 + j * 2 + 1, none⟩) hgw hgdb).trans hxy.2
      have HST : Hid (seenL n N (dp ++ mp) (j + 1) = (seenL n N (dp ++ mp) j).set (ixN n ((dp ++ mp).getD j (0, 0))) true) := seen_step (by rw [HLEN.out]; exact hlt)
      have HSN : Hid ((seenL n N (dp ++ mp) j).getD (ixN n ((dp ++ mp).getD j (0, 0))) false = false) := seen_not (by rw [HLEN.out]; exact hlt) HPW.out
      have HLL : Hid ((seenL n N (dp ++ mp) j).length = N) := by show _ = _; unfold seenL; rw [wrL_length]; simp
      have hixj : ixN n ((dp ++ mp).getD j (0, 0)) < N := by rw [HN.out]; exact ix_lt hp1 hp2
      generalize (dp ++ mp).getD j (0, 0) = p at *
      generalize seenL n N (dp ++ mp) j = ll at *
      obtain ⟨q, hq⟩ : ∃ q, q = p.2 * n := ⟨_, rfl⟩
      obtain ⟨ix, hixe⟩ : ∃ ix, ix = ixN n p := ⟨_, rfl⟩
      have hiq : ix = q + p.1 := by rw [hixe, hq]; rfl
      rw [← hixe] at hixj HST HSN
      have hq9 : q ≤ 25921 := by omega
      have gq0 : (p.2 : Int) * (n : Int) = (q : Int) := by rw [hq]; simp
      have gq1 : IntKind.i64.wrap (q : Int) = (q : Int) := wr64 _ (by omega) (by omega)
      have gi : (q : Int) + (p.1 : Int) = (ix : Int) := by omega
      have hix2 : (ix : Int) < (N : Int) := by omega
      have hp3 : ¬ (n : Int) ≤ (p.1 : Int) := by omega
      have hp4 : ¬ (n : Int) ≤ (p.2 : Int) := by omega
      have hp5 : decide (n ≤ p.1) = false := by simp; omega
      have hp6 : decide (n ≤ p.2) = false := by simp; omega
      have hp7 : decide ((p.1 : Int) < 0) = false := by simp
      have hp8 : decide ((p.2 : Int) < 0) = false := by simp
      obtain ⟨wP, hwP⟩ : ∃ wP, wP = wr.alloc (.cells #[.int .i64 (p.1 : Int), .int .i64 (p.2 : Int)] 47) := ⟨_, rfl⟩
      have HWP : Hid (Below wr.heap.size wr wP) := by show Below _ _ _; rw [hwP]; exact bwA _ _
      have HRB : Hid (RowB wP db ll) := hO.out.1.below HWP.out
      have HKP : Hid (KeepX db w6 wP) := hO.out.2.trans (KeepX.below HWP.out)
      have hcx : wP.cell? ⟨db, ix, none⟩ = some (.bool false) := by
        have := HRB.out.cell (i := ix) (by rw [HLL.out]; exact hixj)
        rw [HSN.out] at this; exact this
      have hfx : wP.frozen? ⟨db, ix, none⟩ = false := frozen_of_row _ _ _ _ _ HRB.out
      have HFIN : Hid (RowB (wP.setCell ⟨db, ix, none⟩ (.bool true)) db (seenL n N (dp ++ mp) (j + 1)) ∧ KeepX db w6 (wP.setCell ⟨db, ix, none⟩ (.bool true))) := by
        show _ ∧ _
        rw [HST.out]
        exact ⟨HRB.out.set _ _, HKP.out.trans (KeepX.setc _)⟩
      have hjn : (j : Int) < (na : Int) := by omega
      rw [hwP] at hcx hfx HFIN
      clear hq hixe hiq hpm HLL hcg hxy hgdb hgw hwP
      go_wp2
      exact ⟨⟨j + 1, by omega, by go_num, HFIN.out⟩, by simp [intOf]; omega⟩
    · obtain rfl : na = j := by omega
      have HBF : Hid (Below w.heap.size w wr) := HBW.out.trans (hO.out.2.to HDB.out.1 HDB.out.2)
      go_wp2_with (go_at_call 11; refine (HEX.out _).mono ?_; rintro e w9 ⟨rfl, hb9⟩; have HB9 : Hid (Below w.heap.size w w9) := bwStep HBF.out hb9; clear hb9)
      go_ret
      exact ⟨rfl, HB9.out⟩
theorem law_walk (L : Int) (c : Bool) (w : World) : Calls Tryz.prog 7 #[.int .i64 L, .bool c] w fun e w' => e = .returned (.bool true) ∧ Below w.heap.size w w' := by
  cases hx : exB L c with
  | false => exact walk_no L c w hx
  | true =>
    obtain ⟨k, rfl, h1, h2, h3⟩ := exB_nat hx
    exact walk_yes k c w h1 h2 h3
end Go.Proofs.YtmnlkganmgcpbaaGreatDoor.aztecGeometry
namespace Go.Proofs.YtmnlkganmgcpbaaGreatDoor.aztecGeometry
open Go.ChangeShapes Go.WideShapes Go.ChangeAt Go.RowKit
set_option linter.unusedVariables false
theorem k0 : Rows.aztecGeometryRow.wf (OpenSpec.ofChange Rows.aztecGeometrySpec) = true := by kernel_rfl
theorem k3 : Tryz.f7.params.all (Tryz.prog.readableRec ·) = true := by kernel_rfl
theorem k4 : namedTie Tryz.prog Rows.aztecGeometryRow.named Rows.aztecGeometrySpec.vars = true := by kernel_rfl
theorem k5 : (Rows.aztecGeometryRow.stops == []) = true := by kernel_rfl
theorem k7 : (Rows.aztecGeometryRow.knobs == []) = true := by kernel_rfl
theorem k9 : (Rows.aztecGeometryRow.inPlace == Tryz.prog.inPlace 7) = true := by kernel_rfl
theorem k10 : (Rows.aztecGeometryRow.unfollowed == Tryz.prog.unfollowed 7) = true := by kernel_rfl
theorem k11 : (Rows.aztecGeometryRow.recurses == Tryz.prog.recurses 7) = true := by kernel_rfl
theorem k12 : (Rows.aztecGeometryRow.named == Tryz.prog.varsNamed 7) = true := by kernel_rfl
theorem k13 : (Rows.aztecGeometryRow.maps == (Tryz.f7.params.toList ++ Rows.aztecGeometrySpec.plain.varTypes Tryz.prog).any (Tryz.prog.mapsRec ·)) = true := by kernel_rfl
theorem k14 : (Rows.aztecGeometryRow.ifaces == (Tryz.f7.params.toList ++ Rows.aztecGeometrySpec.plain.varTypes Tryz.prog).any (Tryz.prog.ifacesRec ·)) = true := by kernel_rfl
theorem k15 : (Rows.aztecGeometryRow.mapsOut == Tryz.prog.mapsAmong Tryz.f7.resultTypes.toList) = true := by kernel_rfl
theorem k16 : (Rows.aztecGeometryRow.loops == (Tryz.f7.params.toList ++ Rows.aztecGeometrySpec.plain.varTypes Tryz.prog).any (Tryz.prog.loopsFrom ·)) = true := by kernel_rfl
theorem k17 : (Rows.aztecGeometryRow.wideKeys == (Tryz.f7.params.toList ++ Rows.aztecGeometrySpec.plain.varTypes Tryz.prog ++ Tryz.f7.resultTypes.toList).any (Tryz.prog.wideKeysFrom ·)) = true := by kernel_rfl
theorem k18 : Rows.aztecGeometrySpec.vars.all (Tryz.prog.varReadable ·) = true := by kernel_rfl
theorem k19 : Tryz.f7.resultTypes.all (fun t => Tryz.prog.readableRec t && decide (t < Tryz.prog.types.size)) = true := by kernel_rfl
theorem k20 : (Rows.aztecGeometryRow.ifacesOut == Tryz.f7.resultTypes.toList.any (Tryz.prog.ifacesRec ·)) = true := by kernel_rfl
theorem k21 : (Rows.aztecGeometryRow.loopsOut == Tryz.f7.resultTypes.toList.any (Tryz.prog.loopsFrom ·)) = true := by kernel_rfl
theorem k22 : (Rows.aztecGeometryRow.plainKeys == Tryz.prog.plainKeys) = true := by kernel_rfl
theorem k23 : Rows.aztecGeometryRow.shortTexts.isNone = true := by kernel_rfl
theorem k26 : (Rows.aztecGeometryRow.lifted == Tryz.prog.liftsFinal) = true := by kernel_rfl
theorem k27 : (Tryz.prog.make == some Rows.aztecGeometryRow.make) = true := by kernel_rfl
theorem k28 : (Rows.aztecGeometryRow.kinds == (if Rows.aztecGeometryRow.domain.isEmpty then [] else Tryz.f7.params.toList.map fun t => match Tryz.prog.underlying t with | some (.int k) => some k | _ => none)) = true := by kernel_rfl
theorem k29 : (Rows.aztecGeometryRow.pinned == Rows.aztecGeometryRow.pinnedBy) = true := by kernel_rfl
theorem k30 : (Rows.aztecGeometryRow.veiled == (Tryz.f7.params.toList ++ Rows.aztecGeometrySpec.plain.varTypes Tryz.prog ++ Tryz.f7.resultTypes.toList).any (Tryz.prog.veiledRec ·)) = true := by kernel_rfl
theorem k31 : Rows.aztecGeometryRow.veiledFits Tryz.prog Tryz.f7.params.toList (Tryz.f7.params.toList ++ Rows.aztecGeometrySpec.plain.varTypes Tryz.prog ++ Tryz.f7.resultTypes.toList) = true := by kernel_rfl
set_option maxRecDepth 100000 in
theorem closedK : joinedFacts Tryz.prog 7 Tryz.f7 Rows.aztecGeometrySpec Rows.aztecGeometryRow = true := and_tt (and_tt (and_tt (and_tt (and_tt (and_tt (and_tt (and_tt (and_tt (and_tt (and_tt (and_tt (and_tt (and_tt (and_tt (and_tt (and_tt (and_tt (and_tt (and_tt (and_tt (and_tt (and_tt (and_tt (and_tt (and_tt (and_tt (and_tt (and_tt (and_tt (and_tt k0 fp_laid) fp_mapsRowed) k3) k4) k5) fp_stops) k7) fp_stopKnobs) k9) k10) k11) k12) k13) k14) k15) k16) k17) k18) k19) k20) k21) k22) k23) fp_stopsHeard) fp_mayEnter) k26) k27) k28) k29) k30) k31
abbrev L : List (String × DataW Unit) := [("unicode/utf8.acceptRanges", Rows.laid_unicode_utf8_acceptRanges), ("unicode/utf8.first", Rows.laid_unicode_utf8_first)]
set_option maxRecDepth 100000 in
theorem lifted (os : Os) (started : os.Started) (H : Type) (enc : TypeId × Value → H) :
    ReturnsInHanded {} Tryz.checked os 7 .any (fun w args => (Rows.aztecGeometrySpec.pre enc Tryz.prog Tryz.f7 [] false w args ∧ laidMetH Tryz.prog L w) ∧ sizedMet enc Tryz.prog Tryz.f7 (OpenSpec.ofChange Rows.aztecGeometrySpec) false w args)
      (Rows.aztecGeometrySpec.post enc Tryz.prog Tryz.f7 false true false false) := by
  refine returnsInHanded_of_change_and (C := Tryz.checked) (X := fun w _ => laidMetH Tryz.prog L w) (fun _ _ _ hh h => h.of_heap hh) ownK started (by kernel_rfl) Tryz.func7
    (ChangeSpec.witness_shaped (enc := enc) (C := Tryz.checked) (os := os) (X := fun w _ => laidMetH Tryz.prog L w) false (World.laidAll Tryz.prog os L) #[.int .i64 0, .bool false] 8 (World.laidAll_os _ _ _)
      (World.shaped_of_ZipB (by kernel_rfl) (by kernel_rfl)) (by kernel_rfl) (by kernel_rfl) (by kernel_rfl)
      (by rw [MakeChecks.laidMetH_plain _ _ _ (by kernel_rfl)]; exact laidMet_laidAll _ (by kernel_rfl) (by kernel_rfl))) ?_
  intro W base args ds gs before hval0 hW _ _ hL _
  have hval : ∀ (j : Nat) t v, Tryz.f7.params[j]? = some t → args[j]? = some v → Value.okWide Tryz.prog W .any base t v := hval0
  have hW' := hW
  obtain ⟨p, q, hA0, hV, rfl, hfz, hnd⟩ := hW
  have hA : DataW.TrodAll enc Tryz.prog W 0 (fun _ => true) true Tryz.f7.params.toList args.toList ds p := hA0
  rw [Tryz.params7] at hA hval
  obtain ⟨v0, vs0, d0, ds0, p0, q0, hargs, rfl, rfl, h0, r0⟩ := trodAll_cons hA
  obtain ⟨v1, vs1, d1, ds1, p1, q1, rfl, rfl, rfl, h1, r1⟩ := trodAll_cons r0
  obtain ⟨rfl, rfl, rfl⟩ := trodAll_nil r1
  obtain rfl : args = #[v0, v1] := by cases args; simp_all
  obtain ⟨rfl, rfl⟩ := trodVars_none hV
  have hrd : ∀ t ∈ Tryz.f7.params.toList, Tryz.prog.readableRec t = true ∧ t < Tryz.prog.types.size := by
    rw [Tryz.params7]
    intro t ht
    simp only [List.mem_cons, List.not_mem_nil, or_false] at ht
    rcases ht with rfl | rfl <;> exact ⟨by kernel_rfl, of_decide_eq_true (by kernel_rfl)⟩
  obtain ⟨x0, rfl, rfl, rfl, w0⟩ := open_int Tryz.underlying3 (hval 0 3 v0 rfl rfl) h0
  obtain ⟨x1, rfl, rfl, rfl⟩ := open_bool Tryz.underlying4 (hval 1 4 v1 rfl rfl) h1
  refine (law_walk x0 x1 W ).mono fun e W' ⟨he, hb⟩ => ?_
  subst he
  exact ⟨_, rfl, law_post laidK Tryz.underlying4 rfl rfl hrd hW' rfl hb⟩
theorem over : Rows.aztecGeometryRow.holds Tryz.pinned (OpenSpec.ofChange Rows.aztecGeometrySpec) :=
  OpenClaim.holds_of_wide 7 Tryz.f7 rfl rfl rfl rfl rfl rfl rfl ⟨rfl, rfl, rfl, rfl, rfl⟩ rfl rfl rfl rfl rfl (by kernel_rfl) Tryz.func7 closedK
    (of_decide_eq_true (by kernel_rfl)) (by unfold Func.isWrapper; first | (rw [if_pos (by decide +kernel)]; kernel_rfl) | (rw [if_neg (by decide +kernel)]; exact ⟨rfl, rfl⟩))
    (fun os started H enc _ => lifted os started H enc)
theorem named : Tryz.prog.funcNamed "barscan/barscanlaw28.AztecGeometry" = some 7 := by kernel_rfl
theorem noStand : ([4, 3].all fun u => !Tryz.prog.wantsStandIn u) = true := by kernel_rfl
theorem proved : Rows.AztecGeometryCardSaid :=
  Claim7.holds_tied_plain_at .later [] [.data, .pinned] true (true, "65e349eac71c602cf550908973254ebb7b14ef88971fe42e5ec397cea621a45b") false
    over (fun _ h => by cases h) (by kernel_rfl) (fun _ h => by cases h) aztecGeometry_row_tie rfl ⟨rfl, rfl⟩ (by kernel_rfl) rfl
    (fun f fn hf hfn => by
      obtain rfl : f = 7 := Option.some.inj (named.symm.trans hf) |>.symm
      obtain rfl : fn = Tryz.f7 := (Option.some.inj (Tryz.func7.symm.trans hfn)).symm
      exact ⟨by kernel_rfl, fun j t ht => by
        rw [Tryz.params7] at ht
        have hm : t ∈ [4, 3] := by
          have h := Array.mem_of_getElem? ht
          simp only [List.mem_toArray, List.mem_cons, List.not_mem_nil, or_false] at h
          rcases h with rfl | rfl <;> simp
        exact (show Tryz.prog.wantsStandIn t = false by simpa using List.all_eq_true.1 noStand t hm)⟩)
    (by kernel_rfl)
end Go.Proofs.YtmnlkganmgcpbaaGreatDoor.aztecGeometry
