import Derived.Test.YtmnlkganmgcpbaaGreatDoorQa31
namespace Go.Proofs.YtmnlkganmgcpbaaGreatDoor
open Go.RowKit
set_option linter.unusedVariables false
set_option linter.unusedSectionVars false
set_option linter.unusedSimpArgs false
def mp0 (C : Nat) (c : Bool) : List Pt := (offN c).map fun o => (atI C o, C - mkN c)
def mp1 (C : Nat) (c : Bool) : List Pt := (offN c).map fun o => (C + mkN c, atI C o)
def mp2 (C : Nat) (c : Bool) : List Pt := (offN c).reverse.map fun o => (atI C o, C + mkN c)
def mp3 (C : Nat) (c : Bool) : List Pt := (offN c).reverse.map fun o => (C - mkN c, atI C o)
theorem modeL_parts (C : Nat) (c : Bool) : modeL C c = mp0 C c ++ mp1 C c ++ mp2 C c ++ mp3 C c := rfl
theorem map_getD_lt {α β : Type} (f : α → β) (l : List α) (d : α) (e : β) {j : Nat} (hj : j < l.length) : (l.map f).getD j e = f (l.getD j d) := by simp [List.getD, hj]
theorem rev_getD {α : Type} (l : List α) (d : α) {j : Nat} (hj : j < l.length) : l.reverse.getD j d = l.getD (l.length - 1 - j) d := by
  simp [List.getD, List.getElem?_reverse hj]
theorem take_snoc {α : Type} (l : List α) (d : α) {j : Nat} (hj : j < l.length) : l.take (j + 1) = l.take j ++ [l.getD j d] := by
  rw [List.take_succ_eq_append_getElem hj]; simp [List.getD, hj]
theorem off_get {c : Bool} {j : Nat} (hj : j < (offN c).length) : -((mkN c : Nat) : Int) + 2 ≤ (offN c).getD j 0 ∧ (offN c).getD j 0 + 2 ≤ ((mkN c : Nat) : Int) := by
  refine off_mem ?_
  simp only [List.getD, List.getElem?_eq_getElem hj, Option.getD_some]
  exact List.getElem_mem hj
theorem mp_length (C : Nat) (c : Bool) : (mp0 C c).length = (offN c).length ∧ (mp1 C c).length = (offN c).length ∧ (mp2 C c).length = (offN c).length ∧ (mp3 C c).length = (offN c).length := by
  simp [mp0, mp1, mp2, mp3]
abbrev gridV (n : Nat) (c : Bool) (C m : Nat) : Value := .agg #[.int .i64 (n : Int), .bool c, .int .i64 (C : Int), .int .i64 (m : Int)]
theorem mp_get (C : Nat) (c : Bool) (hC : mkN c ≤ C) (k j : Nat) (hk : k < 4) (hj : j < (offN c).length) : ∃ x y : Nat, (match k with | 0 => mp0 C c | 1 => mp1 C c | 2 => mp2 C c | _ => mp3 C c).getD j (0, 0) = (x, y) ∧
    (k = 0 → ((C : Int) + (offN c).getD j 0 = (x : Int) ∧ (C : Int) - ((mkN c : Nat) : Int) = (y : Int))) ∧ (k = 1 → ((C : Int) + ((mkN c : Nat) : Int) = (x : Int) ∧ (C : Int) + (offN c).getD j 0 = (y : Int))) ∧
    (k = 2 → ((C : Int) + (offN c).getD ((offN c).length - 1 - j) 0 = (x : Int) ∧ (C : Int) + ((mkN c : Nat) : Int) = (y : Int))) ∧ (k = 3 → ((C : Int) - ((mkN c : Nat) : Int) = (x : Int) ∧ (C : Int) + (offN c).getD ((offN c).length - 1 - j) 0 = (y : Int))) ∧ x ≤ 2 * C ∧ y ≤ 2 * C := by
  have h1 := off_get hj
  have hj' : (offN c).length - 1 - j < (offN c).length := by omega
  have h2 := off_get hj'
  have hjr : j < (offN c).reverse.length := by simpa using hj
  obtain rfl | rfl | rfl | rfl : k = 0 ∨ k = 1 ∨ k = 2 ∨ k = 3 := by omega
  · refine ⟨_, _, map_getD_lt _ _ 0 _ hj, fun _ => ?_, fun h => by omega, fun h => by omega, fun h => by omega, ?_, ?_⟩ <;> (try unfold atI) <;> omega
  · refine ⟨_, _, map_getD_lt _ _ 0 _ hj, fun h => by omega, fun _ => ?_, fun h => by omega, fun h => by omega, ?_, ?_⟩ <;> (try unfold atI) <;> omega
  · refine ⟨_, _, (map_getD_lt _ _ 0 _ hjr).trans (by rw [rev_getD _ _ hj]), fun h => by omega, fun h => by omega, fun _ => ?_, fun h => by omega, ?_, ?_⟩ <;> (try unfold atI) <;> omega
  · refine ⟨_, _, (map_getD_lt _ _ 0 _ hjr).trans (by rw [rev_getD _ _ hj]), fun h => by omega, fun h => by omega, fun h => by omega, fun _ => ?_, ?_, ?_⟩ <;> (try unfold atI) <;> omega
set_option maxHeartbeats 1000000 in
theorem newGrid_true (n : Nat) (w : World) (h1 : 1 ≤ n) (hn : n ≤ 100000000) : Calls Tryz.prog 39 #[.int .i64 n, .bool true] w fun e w' => e = .returned (gridV n true ((n - 1) / 2) 5) ∧ Below w.heap.size w w' := by
  obtain ⟨t, ht⟩ : ∃ t, t = (n - 1) / 2 := ⟨_, rfl⟩
  have e1 : ((n : Int) - 1) / 2 = (t : Int) := by omega
  have ht9 : t ≤ 100000000 := by omega
  rw [← ht]
  clear ht
  go_enter Tryz.func39, Tryz.ntmps39
  go_wp2
  exact bodyPost_ret (v := gridV n true t 5) (by simp [results, Tryz.results39, go_sem]) rfl ⟨rfl, bwAlloc (bwA _ _) _⟩
set_option maxHeartbeats 1000000 in
theorem newGrid_false (n : Nat) (w : World) (h1 : 1 ≤ n) (hn : n ≤ 100000000) : Calls Tryz.prog 39 #[.int .i64 n, .bool false] w fun e w' => e = .returned (gridV n false ((n - 1) / 2) 7) ∧ Below w.heap.size w w' := by
  obtain ⟨t, ht⟩ : ∃ t, t = (n - 1) / 2 := ⟨_, rfl⟩
  have e1 : ((n : Int) - 1) / 2 = (t : Int) := by omega
  have ht9 : t ≤ 100000000 := by omega
  rw [← ht]
  clear ht
  go_enter Tryz.func39, Tryz.ntmps39
  go_wp2
  exact bodyPost_ret (v := gridV n false t 7) (by simp [results, Tryz.results39, go_sem]) rfl ⟨rfl, bwAlloc (bwA _ _) _⟩
theorem newGrid_any (n : Nat) (c : Bool) (w : World) (h1 : 1 ≤ n) (hn : n ≤ 100000000) : Calls Tryz.prog 39 #[.int .i64 n, .bool c] w fun e w' => e = .returned (gridV n c ((n - 1) / 2) (mkN c)) ∧ Below w.heap.size w w' := by
  cases c with
  | true => exact newGrid_true n w h1 hn
  | false => exact newGrid_false n w h1 hn
def ofT (c : Bool) (t : Nat) : List Int := ((List.range t).map fun i : Nat => (2 : Int) - ((mkN c : Nat) : Int) + (i : Int)).filter fun o => !(o == 0) || c
theorem ofT_succ (c : Bool) (t : Nat) : ofT c (t + 1) = if (!((2 : Int) - ((mkN c : Nat) : Int) + (t : Int) == 0) || c) = true then ofT c t ++ [(2 : Int) - ((mkN c : Nat) : Int) + (t : Int)] else ofT c t := by
  unfold ofT
  rw [List.range_succ, List.map_append, List.filter_append]
  simp only [List.map_cons, List.map_nil, List.filter_cons, List.filter_nil]
  split <;> simp
theorem ofT_end (c : Bool) : ofT c (2 * mkN c - 3) = offN c := by cases c <;> decide
theorem ofT_length (c : Bool) (t : Nat) : (ofT c t).length ≤ t := by
  unfold ofT
  exact Nat.le_trans (List.length_filter_le _ _) (by simp)
set_option maxRecDepth 100000 in
set_option maxHeartbeats 2000000 in
theorem modePath_true (s C : Nat) (w : World) (hC : 5 ≤ C) (hC2 : C ≤ 100000000) : Calls Tryz.prog 43 #[gridV s true C 5] w fun e w' => ∃ v, e = .returned v ∧ SPf w.heap.size w' v (modeL C true) ∧ Below w.heap.size w w' := by
  obtain ⟨i0, hi, hz0, hz1, hz2⟩ := info_parts ptInfo
  obtain ⟨j0, hj, hy0, hy1, hy2⟩ := info_parts intInfo
  obtain ⟨wS, hwS⟩ : ∃ wS, wS = w.alloc (.cells #[.int .i64 (s : Int), .bool true, .int .i64 (C : Int), .int .i64 5] 71) := ⟨_, rfl⟩
  have HWS : Hid (Below w.heap.size w wS) := by show Below _ _ _; rw [hwS]; exact bwA _ _
  have HGR : Hid (RowIs wS w.heap.size #[.int .i64 (s : Int), .bool true, .int .i64 (C : Int), .int .i64 5] 71) := by show RowIs _ _ _ _; rw [hwS]; exact RowIs.new _ _ _ _ (by simp)
  have CF : Hid (∀ W, Abv wS W → W.cell? ⟨w.heap.size, 1, none⟩ = some (.bool true) ∧ W.cell? ⟨w.heap.size, 2, none⟩ = some (.int .i64 (C : Int)) ∧ W.cell? ⟨w.heap.size, 3, none⟩ = some (.int .i64 5)) := fun W hW => ⟨(HGR.out.below hW).cell 1 _ rfl, (HGR.out.below hW).cell 2 _ rfl, (HGR.out.below hW).cell 3 _ rfl⟩
  have HT0 : Hid (OG vI 3 wS wS (.slice none 0 0) (ofT true 0)) := OG.start _ _
  obtain ⟨f1, f2, f3⟩ := CF.out _ (Below.refl _ _)
  rw [hwS] at f1 f2 f3
  go_enter Tryz.func43, Tryz.ntmps43
  go_wp2
  rw [← hwS]
  clear f1 f2 f3 hwS
  go_loopw [3, 4] (fun ov iv wr => ∃ t : Nat, t ≤ 7 ∧ iv = .int .i64 (-3 + (t : Int)) ∧ Hid (OG vI 3 wS wr ov (ofT true t))) (fun _ iv _ => 10 - (intOf iv + 5).toNat)
  case atStart => exact ⟨0, by omega, rfl, HT0.out⟩
  case round =>
    clear HT0
    obtain ⟨t, ht, rfl, hO⟩ := hrel
    obtain ⟨f1, f2, f3⟩ := CF.out _ hO.out.B
    have HS := Lib.hid (ofT_succ true t)
    by_cases hlt : t < 7
    · have hle : (-3 : Int) + (t : Int) ≤ 3 := by omega
      have HLE : Hid ((ofT true t).length ≤ 100) := by show _ ≤ _; have := ofT_length true t; omega
      by_cases h0 : t = 3
      · have HE : Hid (ofT true (t + 1) = ofT true t ++ [0]) := by show _ = _; rw [HS.out, h0, if_pos (by simp)]; rfl
        have z3 : (-3 : Int) + (t : Int) = 0 := by omega
        go_wp2_with (at_builtin; refine wpList_append_G (f := vI) (d := 0) oneI rfl _ _ _ rfl wS.heap.size 3 j0 _ 8 Tryz.underlying64 hj hy0 hy1 hy2 rfl _ (ofT true t).length (ofT true t) rfl (ownsRow_below hO.out.O (bwA _ _)) (some ⟨wr.heap.size, 0, none⟩) 1 1 [0] rfl rfl (RG.one _ _ _ _ rfl) (by have := HLE.out; unfold maxLen; omega) (by have := HLE.out; omega) (by have := hO.out.B.size; simp; omega) ?_; intro v5 w5 hown hg; have HP := Lib.hid (hO.out.grow (bwA _ _) hown hg); clear hown hg)
        exact ⟨⟨t + 1, by omega, by go_num, by show OG _ _ _ _ _ _; rw [HE.out]; exact HP.out⟩, by simp [intOf]; omega⟩
      · have HE : Hid (ofT true (t + 1) = ofT true t ++ [-3 + (t : Int)]) := by show _ = _; rw [HS.out, if_pos (by simp)]; rfl
        have z : ((-3 : Int) + (t : Int) == 0) = false := by rw [beq_eq_false_iff_ne]; omega
        have z2 : ((-3 : Int) + (t : Int) != 0) = true := by rw [bne, z]; rfl
        have z3 : ¬ ((-3 : Int) + (t : Int) = 0) := by omega
        go_wp2_with (at_builtin; refine wpList_append_G (f := vI) (d := 0) oneI rfl _ _ _ rfl wS.heap.size 3 j0 _ 8 Tryz.underlying64 hj hy0 hy1 hy2 rfl _ (ofT true t).length (ofT true t) rfl (ownsRow_below hO.out.O (bwA _ _)) (some ⟨wr.heap.size, 0, none⟩) 1 1 [-3 + (t : Int)] rfl rfl (RG.one _ _ _ _ rfl) (by have := HLE.out; unfold maxLen; omega) (by have := HLE.out; omega) (by have := hO.out.B.size; simp; omega) ?_; intro v5 w5 hown hg; have HP := Lib.hid (hO.out.grow (bwA _ _) hown hg); clear hown hg)
        exact ⟨⟨t + 1, by omega, by go_num, by show OG _ _ _ _ _ _; rw [HE.out]; exact HP.out⟩, by simp [intOf]; omega⟩
    · obtain rfl : t = 7 := by omega
      have hgt : ¬ ((-3 : Int) + ((7 : Nat) : Int) ≤ 3) := by omega
      have hsg := SG.of_own (d := 0) hO.out.O
      rw [show ofT true 7 = offN true from ofT_end true] at hsg
      have HOF := Lib.hid hsg
      clear hsg
      have HWR := Lib.hid hO.out.B
      clear hO HS ht hlt
      obtain ⟨wo, rfl⟩ : ∃ wo : World, wo = wr := ⟨_, rfl⟩
      obtain ⟨A, n, cp, rfl, hr⟩ := HOF.out.parts
      have HSR := Lib.hid hr
      have hn : n = 7 := hr.hn
      subst hn
      clear hr HOF
      obtain ⟨ad, rfl, hadw, hca⟩ := HSR.out.rd (by decide)
      have CFO : Hid (∀ W, Abv wo W → ∀ j : Nat, j < 7 → W.cell? (ad.add j) = some (.int .i64 ((offN true).getD j 0))) := fun W hW j hj => (hW.cell (by rw [block_of_add]; exact hadw)).trans (hca j (by show j < (offN true).length; exact hj))
      have CFG : Hid (∀ W, Abv wo W → W.cell? ⟨w.heap.size, 1, none⟩ = some (.bool true) ∧ W.cell? ⟨w.heap.size, 2, none⟩ = some (.int .i64 (C : Int)) ∧ W.cell? ⟨w.heap.size, 3, none⟩ = some (.int .i64 5)) := fun W hW => CF.out W (bwStep HWR.out hW)
      clear hadw hca HSR
      go_wp2_with (at_make; refine wpList_make_own _ rfl _ _ _ rfl wo.heap.size 47 i0 _ 2 Tryz.underlying40 hi hz0 hz1 .i64 .i64 _ 28 rfl rfl (by first | rfl | omega) (by rw [hz2]; omega) (by unfold maxLen; omega) (Nat.le_refl _) ?_; intro w4 hown hg; have HB4 : Hid (Below wo.heap.size wo w4) := (Below.refl _ _).grown hg (Nat.le_refl _) (fun q hq => by cases hq); have HP0 : Hid (OGP wo w4 (.slice (some ⟨wo.heap.size, 0, none⟩) 0 28) ([] ++ (mp0 C true).take 0)) := ⟨HB4.out, hown⟩; clear hown hg f1 f2 f3)
      clear HB4
      go_loopw [7, 43] (fun ov iv wr => ∃ j : Nat, j ≤ 7 ∧ iv = .int .i64 (j : Int) ∧ Hid (OGP wo wr ov ([] ++ (mp0 C true).take j))) (fun _ iv _ => 7 - (intOf iv).toNat)
      case atStart => exact ⟨0, by omega, rfl, HP0.out⟩
      case round =>
        clear HP0
        obtain ⟨j, hj, rfl, hO⟩ := hrel
        by_cases hlt : j < 7
        · obtain ⟨x, y, hxy, h0, h1, h2, h3, hx9, hy9⟩ := mp_get C true hC 0 j (by omega) hlt
          have HNX : Hid ([] ++ (mp0 C true).take (j + 1) = ([] ++ (mp0 C true).take j) ++ [(x, y)]) := by show _ = _; rw [take_snoc _ (0, 0) (by rw [(mp_length C true).1]; exact hlt), ← List.append_assoc]; exact congrArg (fun p => _ ++ [p]) hxy
          have HLE : Hid (([] ++ (mp0 C true).take j).length ≤ 100) := by
            show _ ≤ _
            have := mp_length C true
            have hn : (offN true).length = 7 := rfl
            simp only [List.length_append, List.length_take, List.length_nil, this.1, this.2.1, this.2.2.1, this.2.2.2, hn]
            omega
          have he := h0 rfl
          have hx := he.1
          have hy := he.2
          have hcj : (offN true).getD j 0 = (offN true).getD (j) 0 := by rfl
          rw [← hcj] at hx
          have ho := off_get (c := true) (j := j) hlt
          have CFJ : Hid (∀ W, Abv wo W → W.cell? (ad.add j) = some (.int .i64 ((offN true).getD j 0))) := fun W hW => CFO.out W hW _ hlt
          simp only [mkN, Bool.false_eq_true, if_false, if_true] at hx hy ho
          generalize (offN true).getD j 0 = oo at *
          have ho1 : -5 ≤ oo := by omega
          have ho2 : oo ≤ 5 := by omega
          have hmm : (C : Int) - 5 = (y : Int) := by omega
          clear hy
          clear h0 h1 h2 h3 he hxy hcj ho 
          have fo := CFJ.out _ hO.out.B
          obtain ⟨f1, f2, f3⟩ := CFG.out _ hO.out.B
          generalize [] ++ (mp0 C true).take j = ls at *
          go_wp2_with (at_builtin; refine wpList_append_pts (ownsRow_below hO.out.O (bwA _ _)) (Nat.le_trans hO.out.B.size (by simp)) rfl _ _ rfl rfl ⟨wr.heap.size, 0, none⟩ 1 1 [(x, y)] rfl rfl (lit_pts wr [(x, y)] _) (by have := HLE.out; omega) ?_; intro v6 w6 hown hg hat; have HP := Lib.hid (hO.out.grow (bwA _ _) hown hg); clear hown hg hat)
          first | exact ⟨⟨j + 1, by omega, by go_num, by show OGP _ _ _ _; rw [HNX.out]; exact HP.out⟩, by simp [intOf]; omega⟩ | exact ⟨⟨_, _, _, _, _, _, _, _, _, _, _, _, _, _, _, _, _, _, _, _, _, _, _, ⟨j + 1, by omega, by go_num, by show OGP _ _ _ _; rw [HNX.out]; exact HP.out⟩, rfl⟩, by show 7 - (intOf (.int .i64 ((j : Int) + 1))).toNat < 7 - (intOf (.int .i64 (j : Int))).toNat; simp [intOf]; omega⟩
        · obtain rfl : j = 7 := by omega
          have HP1 : ∀ ov W, Hid (OGP wo W ov ([] ++ (mp0 C true).take 7)) → Hid (OGP wo W ov (mp0 C true ++ (mp1 C true).take 0)) := fun ov W h => by show OGP _ _ _ _; have h2 := h.out; rw [List.take_of_length_le (by simp [mp0]; decide)] at h2; simpa using h2
          have HP1 := HP1 _ _ hO
          clear hO
          go_wp2
          go_loopw [7, 61] (fun ov iv wr => ∃ j : Nat, j ≤ 7 ∧ iv = .int .i64 (j : Int) ∧ Hid (OGP wo wr ov (mp0 C true ++ (mp1 C true).take j))) (fun _ iv _ => 7 - (intOf iv).toNat)
          case atStart => exact ⟨0, by omega, rfl, HP1.out⟩
          case round =>
            clear HP1
            obtain ⟨j, hj, rfl, hO⟩ := hrel
            by_cases hlt : j < 7
            · obtain ⟨x, y, hxy, h0, h1, h2, h3, hx9, hy9⟩ := mp_get C true hC 1 j (by omega) hlt
              have HNX : Hid (mp0 C true ++ (mp1 C true).take (j + 1) = (mp0 C true ++ (mp1 C true).take j) ++ [(x, y)]) := by show _ = _; rw [take_snoc _ (0, 0) (by rw [(mp_length C true).2.1]; exact hlt), ← List.append_assoc]; exact congrArg (fun p => _ ++ [p]) hxy
              have HLE : Hid ((mp0 C true ++ (mp1 C true).take j).length ≤ 100) := by
                show _ ≤ _
                have := mp_length C true
                have hn : (offN true).length = 7 := rfl
                simp only [List.length_append, List.length_take, List.length_nil, this.1, this.2.1, this.2.2.1, this.2.2.2, hn]
                omega
              have he := h1 rfl
              have hx := he.1
              have hy := he.2
              have hcj : (offN true).getD j 0 = (offN true).getD (j) 0 := by rfl
              rw [← hcj] at hy
              have ho := off_get (c := true) (j := j) hlt
              have CFJ : Hid (∀ W, Abv wo W → W.cell? (ad.add j) = some (.int .i64 ((offN true).getD j 0))) := fun W hW => CFO.out W hW _ hlt
              simp only [mkN, Bool.false_eq_true, if_false, if_true] at hx hy ho
              generalize (offN true).getD j 0 = oo at *
              have ho1 : -5 ≤ oo := by omega
              have ho2 : oo ≤ 5 := by omega
              have hmm : (C : Int) + 5 = (x : Int) := by omega
              clear hx
              clear h0 h1 h2 h3 he hxy hcj ho 
              have fo := CFJ.out _ hO.out.B
              obtain ⟨f1, f2, f3⟩ := CFG.out _ hO.out.B
              generalize mp0 C true ++ (mp1 C true).take j = ls at *
              go_wp2_with (at_builtin; refine wpList_append_pts (ownsRow_below hO.out.O (bwA _ _)) (Nat.le_trans hO.out.B.size (by simp)) rfl _ _ rfl rfl ⟨wr.heap.size, 0, none⟩ 1 1 [(x, y)] rfl rfl (lit_pts wr [(x, y)] _) (by have := HLE.out; omega) ?_; intro v6 w6 hown hg hat; have HP := Lib.hid (hO.out.grow (bwA _ _) hown hg); clear hown hg hat)
              first | exact ⟨⟨j + 1, by omega, by go_num, by show OGP _ _ _ _; rw [HNX.out]; exact HP.out⟩, by simp [intOf]; omega⟩ | exact ⟨⟨_, _, _, _, _, _, _, _, _, _, _, _, _, _, _, _, _, _, ⟨j + 1, by omega, by go_num, by show OGP _ _ _ _; rw [HNX.out]; exact HP.out⟩, rfl⟩, by show 7 - (intOf (.int .i64 ((j : Int) + 1))).toNat < 7 - (intOf (.int .i64 (j : Int))).toNat; simp [intOf]; omega⟩
            · obtain rfl : j = 7 := by omega
              have HP2 : ∀ ov W, Hid (OGP wo W ov (mp0 C true ++ (mp1 C true).take 7)) → Hid (OGP wo W ov (mp0 C true ++ mp1 C true ++ (mp2 C true).take 0)) := fun ov W h => by show OGP _ _ _ _; have h2 := h.out; rw [List.take_of_length_le (by simp [mp1]; decide)] at h2; simpa using h2
              have HP2 := HP2 _ _ hO
              clear hO
              go_wp2
              go_loopw [7, 78] (fun ov iv wr => ∃ j : Nat, j ≤ 7 ∧ iv = .int .i64 (j : Int) ∧ Hid (OGP wo wr ov (mp0 C true ++ mp1 C true ++ (mp2 C true).take j))) (fun _ iv _ => 7 - (intOf iv).toNat)
              case atStart => exact ⟨0, by omega, rfl, HP2.out⟩
              case round =>
                clear HP2
                obtain ⟨j, hj, rfl, hO⟩ := hrel
                by_cases hlt : j < 7
                · obtain ⟨x, y, hxy, h0, h1, h2, h3, hx9, hy9⟩ := mp_get C true hC 2 j (by omega) hlt
                  have HNX : Hid (mp0 C true ++ mp1 C true ++ (mp2 C true).take (j + 1) = (mp0 C true ++ mp1 C true ++ (mp2 C true).take j) ++ [(x, y)]) := by show _ = _; rw [take_snoc _ (0, 0) (by rw [(mp_length C true).2.2.1]; exact hlt), ← List.append_assoc]; exact congrArg (fun p => _ ++ [p]) hxy
                  have HLE : Hid ((mp0 C true ++ mp1 C true ++ (mp2 C true).take j).length ≤ 100) := by
                    show _ ≤ _
                    have := mp_length C true
                    have hn : (offN true).length = 7 := rfl
                    simp only [List.length_append, List.length_take, List.length_nil, this.1, this.2.1, this.2.2.1, this.2.2.2, hn]
                    omega
                  have he := h2 rfl
                  have hx := he.1
                  have hy := he.2
                  obtain ⟨jr, hjr⟩ : ∃ jr, jr = 7 - 1 - j := ⟨_, rfl⟩
                  have hjr2 : (6 : Int) - (j : Int) = (jr : Int) := by omega
                  have hjr9 : jr < 7 := by omega
                  have hjr10 : (jr : Int) < 7 := by omega
                  have hwn : IntKind.i64.wrap 6 = 6 := wr64 _ (by omega) (by omega)
                  have hjw : IntKind.i64.wrap (6 - (j : Int)) = (jr : Int) := by rw [wr64 _ (by omega) (by omega)]; omega
                  have hcj : (offN true).getD jr 0 = (offN true).getD ((offN true).length - 1 - j) 0 := by rw [hjr]; rfl
                  rw [← hcj] at hx
                  have ho := off_get (c := true) (j := jr) hjr9
                  have CFJ : Hid (∀ W, Abv wo W → W.cell? (ad.add jr) = some (.int .i64 ((offN true).getD jr 0))) := fun W hW => CFO.out W hW _ hjr9
                  simp only [mkN, Bool.false_eq_true, if_false, if_true] at hx hy ho
                  generalize (offN true).getD jr 0 = oo at *
                  have ho1 : -5 ≤ oo := by omega
                  have ho2 : oo ≤ 5 := by omega
                  have hmm : (C : Int) + 5 = (y : Int) := by omega
                  clear hy
                  clear h0 h1 h2 h3 he hxy hcj ho hjr hjr2
                  have CFX : Hid (∀ W, Abv wo W → (W.cell? ⟨w.heap.size, 1, none⟩ = some (.bool true) ∧ W.cell? ⟨w.heap.size, 2, none⟩ = some (.int .i64 (C : Int)) ∧ W.cell? ⟨w.heap.size, 3, none⟩ = some (.int .i64 5)) ∧ W.cell? (ad.add jr) = some (.int .i64 oo)) := fun W hW => ⟨CFG.out W hW, CFJ.out W hW⟩
                  have wx : IntKind.i64.wrap (x : Int) = (x : Int) := wr64 _ (by omega) (by omega)
                  have wy : IntKind.i64.wrap (y : Int) = (y : Int) := wr64 _ (by omega) (by omega)
                  have gx : IntKind.i64.wrap ((C : Int) + oo) = (x : Int) := by rw [wr64 _ (by omega) (by omega)]; omega
                  have gy : IntKind.i64.wrap ((C : Int) + 5) = (y : Int) := by rw [wr64 _ (by omega) (by omega)]; omega
                  obtain ⟨A5, c5, e5⟩ := ownsRow_shape hO.out.O
                  subst e5
                  generalize mp0 C true ++ mp1 C true ++ (mp2 C true).take j = ls at *
                  have HD5 : Hid (Abv wo wr.drew) := bwDrew hO.out.B
                  go_wp2
                  refine wp_region_W (S := (fun W => Abv wo W)) [(false, 0), (false, 1), (false, 2), (false, 3), (false, 4), (false, 5), (false, 6), (false, 7), (false, 8), (false, 9), (false, 10), (false, 11), (false, 12), (false, 13), (false, 14), (true, 15), (true, 16), (false, 17)] (by kernel_rfl) (by kernel_rfl) HD5.out ?_
                  simp only [attachW, List.getElem?_cons_zero, List.getElem?_cons_succ]
                  repeat
                    refine' wpHX_val rfl (fun W hW => ?_) ?_
                    rotate_left
                    · have hcf := CFX.out W hW; go_simp; rfl
                    simp only [Act.put, List.setIfInBounds_toArray, List.set_cons_zero, List.set_cons_succ]
                  obtain ⟨w6, hw6⟩ : ∃ w6, w6 = wr.drew.alloc (.cells #[.int .i64 (x : Int), .int .i64 (y : Int)] 47) := ⟨_, rfl⟩
                  have HB6 : Hid (Below wr.heap.size wr w6) := by show Below _ _ _; rw [hw6]; exact bwAlloc (bwDrew (Below.refl _ _)) _
                  obtain ⟨lb, hlb⟩ : ∃ lb, lb = wr.heap.size := ⟨_, rfl⟩
                  have HL6 : Hid (∀ j u, (([(x, y)] : List Pt).flatMap ptV)[j]? = some u → w6.cell? ((⟨lb, 0, none⟩ : Addr).add j) = some u) := by show ∀ _ _, _; rw [hw6, hlb]; exact lit_pts wr.drew [(x, y)] _
                  refine' wpHX_aval (v := .slice (some ⟨lb, 0, none⟩) 1 1) (w' := w6) rfl (by rw [hw6, hlb]; go_simp) (bwStep hO.out.B HB6.out) ?_
                  simp only [Act.put, List.setIfInBounds_toArray, List.set_cons_zero, List.set_cons_succ]
                  clear hw6 hlb
                  refine' wpHX_appendP (ys := [(x, y)]) (ownsRow_below hO.out.O HB6.out) (Nat.le_trans hO.out.B.size HB6.out.size) rfl _ _ rfl rfl rfl rfl HL6.out (by have := HLE.out; omega) ?_
                  intro A7 c7 w7 hown hg
                  have HP : Hid (OGP wo w7 (.slice A7 (ls.length + 1) c7) (ls ++ [(x, y)])) := hO.out.grow HB6.out hown hg
                  clear hown hg
                  refine ⟨HP.out.B, ?_⟩
                  simp only [Act.put, List.setIfInBounds_toArray, List.set_cons_zero, List.set_cons_succ]
                  repeat
                    refine' wpHX_val rfl (fun W hW => ?_) ?_
                    rotate_left
                    · have hcf := CFX.out W hW; go_simp; rfl
                    simp only [Act.put, List.setIfInBounds_toArray, List.set_cons_zero, List.set_cons_succ]
                  refine wpHX_nil ?_
                  go_wp2
                  first | exact ⟨⟨j + 1, by omega, by go_num, by show OGP _ _ _ _; rw [HNX.out]; exact HP.out⟩, by simp [intOf]; omega⟩ | exact ⟨⟨_, _, _, _, _, _, _, _, _, _, _, _, _, _, _, _, _, _, _, _, _, _, _, ⟨j + 1, by omega, by go_num, by show OGP _ _ _ _; rw [HNX.out]; exact HP.out⟩, rfl⟩, by show 7 - (intOf (.int .i64 ((j : Int) + 1))).toNat < 7 - (intOf (.int .i64 (j : Int))).toNat; simp [intOf]; omega⟩
                · obtain rfl : j = 7 := by omega
                  have HP3 : ∀ ov W, Hid (OGP wo W ov (mp0 C true ++ mp1 C true ++ (mp2 C true).take 7)) → Hid (OGP wo W ov (mp0 C true ++ mp1 C true ++ mp2 C true ++ (mp3 C true).take 0)) := fun ov W h => by show OGP _ _ _ _; have h2 := h.out; rw [List.take_of_length_le (by simp [mp2]; decide)] at h2; simpa using h2
                  have HP3 := HP3 _ _ hO
                  clear hO
                  go_wp2
                  go_loopw [7, 100] (fun ov iv wr => ∃ j : Nat, j ≤ 7 ∧ iv = .int .i64 (j : Int) ∧ Hid (OGP wo wr ov (mp0 C true ++ mp1 C true ++ mp2 C true ++ (mp3 C true).take j))) (fun _ iv _ => 7 - (intOf iv).toNat)
                  case atStart => exact ⟨0, by omega, rfl, HP3.out⟩
                  case round =>
                    clear HP3
                    obtain ⟨j, hj, rfl, hO⟩ := hrel
                    by_cases hlt : j < 7
                    · obtain ⟨x, y, hxy, h0, h1, h2, h3, hx9, hy9⟩ := mp_get C true hC 3 j (by omega) hlt
                      have HNX : Hid (mp0 C true ++ mp1 C true ++ mp2 C true ++ (mp3 C true).take (j + 1) = (mp0 C true ++ mp1 C true ++ mp2 C true ++ (mp3 C true).take j) ++ [(x, y)]) := by show _ = _; rw [take_snoc _ (0, 0) (by rw [(mp_length C true).2.2.2]; exact hlt), ← List.append_assoc]; exact congrArg (fun p => _ ++ [p]) hxy
                      have HLE : Hid ((mp0 C true ++ mp1 C true ++ mp2 C true ++ (mp3 C true).take j).length ≤ 100) := by
                        show _ ≤ _
                        have := mp_length C true
                        have hn : (offN true).length = 7 := rfl
                        simp only [List.length_append, List.length_take, List.length_nil, this.1, this.2.1, this.2.2.1, this.2.2.2, hn]
                        omega
                      have he := h3 rfl
                      have hx := he.1
                      have hy := he.2
                      obtain ⟨jr, hjr⟩ : ∃ jr, jr = 7 - 1 - j := ⟨_, rfl⟩
                      have hjr2 : (6 : Int) - (j : Int) = (jr : Int) := by omega
                      have hjr9 : jr < 7 := by omega
                      have hjr10 : (jr : Int) < 7 := by omega
                      have hwn : IntKind.i64.wrap 6 = 6 := wr64 _ (by omega) (by omega)
                      have hjw : IntKind.i64.wrap (6 - (j : Int)) = (jr : Int) := by rw [wr64 _ (by omega) (by omega)]; omega
                      have hcj : (offN true).getD jr 0 = (offN true).getD ((offN true).length - 1 - j) 0 := by rw [hjr]; rfl
                      rw [← hcj] at hy
                      have ho := off_get (c := true) (j := jr) hjr9
                      have CFJ : Hid (∀ W, Abv wo W → W.cell? (ad.add jr) = some (.int .i64 ((offN true).getD jr 0))) := fun W hW => CFO.out W hW _ hjr9
                      simp only [mkN, Bool.false_eq_true, if_false, if_true] at hx hy ho
                      generalize (offN true).getD jr 0 = oo at *
                      have ho1 : -5 ≤ oo := by omega
                      have ho2 : oo ≤ 5 := by omega
                      have hmm : (C : Int) - 5 = (x : Int) := by omega
                      clear hx
                      clear h0 h1 h2 h3 he hxy hcj ho hjr hjr2
                      have CFX : Hid (∀ W, Abv wo W → (W.cell? ⟨w.heap.size, 1, none⟩ = some (.bool true) ∧ W.cell? ⟨w.heap.size, 2, none⟩ = some (.int .i64 (C : Int)) ∧ W.cell? ⟨w.heap.size, 3, none⟩ = some (.int .i64 5)) ∧ W.cell? (ad.add jr) = some (.int .i64 oo)) := fun W hW => ⟨CFG.out W hW, CFJ.out W hW⟩
                      have wx : IntKind.i64.wrap (x : Int) = (x : Int) := wr64 _ (by omega) (by omega)
                      have wy : IntKind.i64.wrap (y : Int) = (y : Int) := wr64 _ (by omega) (by omega)
                      have gx : IntKind.i64.wrap ((C : Int) - 5) = (x : Int) := by rw [wr64 _ (by omega) (by omega)]; omega
                      have gy : IntKind.i64.wrap ((C : Int) + oo) = (y : Int) := by rw [wr64 _ (by omega) (by omega)]; omega
                      obtain ⟨A5, c5, e5⟩ := ownsRow_shape hO.out.O
                      subst e5
                      generalize mp0 C true ++ mp1 C true ++ mp2 C true ++ (mp3 C true).take j = ls at *
                      have HD5 : Hid (Abv wo wr.drew) := bwDrew hO.out.B
                      go_wp2
                      refine wp_region_W (S := (fun W => Abv wo W)) [(false, 0), (false, 1), (false, 2), (false, 3), (false, 4), (false, 5), (false, 6), (false, 7), (false, 8), (false, 9), (false, 10), (false, 11), (false, 12), (false, 13), (false, 14), (true, 15), (true, 16), (false, 17)] (by kernel_rfl) (by kernel_rfl) HD5.out ?_
                      simp only [attachW, List.getElem?_cons_zero, List.getElem?_cons_succ]
                      repeat
                        refine' wpHX_val rfl (fun W hW => ?_) ?_
                        rotate_left
                        · have hcf := CFX.out W hW; go_simp; rfl
                        simp only [Act.put, List.setIfInBounds_toArray, List.set_cons_zero, List.set_cons_succ]
                      obtain ⟨w6, hw6⟩ : ∃ w6, w6 = wr.drew.alloc (.cells #[.int .i64 (x : Int), .int .i64 (y : Int)] 47) := ⟨_, rfl⟩
                      have HB6 : Hid (Below wr.heap.size wr w6) := by show Below _ _ _; rw [hw6]; exact bwAlloc (bwDrew (Below.refl _ _)) _
                      obtain ⟨lb, hlb⟩ : ∃ lb, lb = wr.heap.size := ⟨_, rfl⟩
                      have HL6 : Hid (∀ j u, (([(x, y)] : List Pt).flatMap ptV)[j]? = some u → w6.cell? ((⟨lb, 0, none⟩ : Addr).add j) = some u) := by show ∀ _ _, _; rw [hw6, hlb]; exact lit_pts wr.drew [(x, y)] _
                      refine' wpHX_aval (v := .slice (some ⟨lb, 0, none⟩) 1 1) (w' := w6) rfl (by rw [hw6, hlb]; go_simp) (bwStep hO.out.B HB6.out) ?_
                      simp only [Act.put, List.setIfInBounds_toArray, List.set_cons_zero, List.set_cons_succ]
                      clear hw6 hlb
                      refine' wpHX_appendP (ys := [(x, y)]) (ownsRow_below hO.out.O HB6.out) (Nat.le_trans hO.out.B.size HB6.out.size) rfl _ _ rfl rfl rfl rfl HL6.out (by have := HLE.out; omega) ?_
                      intro A7 c7 w7 hown hg
                      have HP : Hid (OGP wo w7 (.slice A7 (ls.length + 1) c7) (ls ++ [(x, y)])) := hO.out.grow HB6.out hown hg
                      clear hown hg
                      refine ⟨HP.out.B, ?_⟩
                      simp only [Act.put, List.setIfInBounds_toArray, List.set_cons_zero, List.set_cons_succ]
                      repeat
                        refine' wpHX_val rfl (fun W hW => ?_) ?_
                        rotate_left
                        · have hcf := CFX.out W hW; go_simp; rfl
                        simp only [Act.put, List.setIfInBounds_toArray, List.set_cons_zero, List.set_cons_succ]
                      refine wpHX_nil ?_
                      go_wp2
                      first | exact ⟨⟨j + 1, by omega, by go_num, by show OGP _ _ _ _; rw [HNX.out]; exact HP.out⟩, by simp [intOf]; omega⟩ | exact ⟨⟨_, _, _, _, _, _, _, _, _, _, _, _, _, _, _, _, _, _, _, _, _, _, _, ⟨j + 1, by omega, by go_num, by show OGP _ _ _ _; rw [HNX.out]; exact HP.out⟩, rfl⟩, by show 7 - (intOf (.int .i64 ((j : Int) + 1))).toNat < 7 - (intOf (.int .i64 (j : Int))).toNat; simp [intOf]; omega⟩
                    · obtain rfl : j = 7 := by omega
                      have HEND : ∀ ov W, Hid (OGP wo W ov (mp0 C true ++ mp1 C true ++ mp2 C true ++ (mp3 C true).take 7)) → Hid (OGP wo W ov (modeL C true)) := fun ov W h => by show OGP _ _ _ _; have h2 := h.out; rw [List.take_of_length_le (by simp [mp3]; decide)] at h2; rw [modeL_parts]; exact h2
                      have HEND := HEND _ _ hO
                      clear hO
                      go_wp2
                      go_ret
                      exact ⟨_, rfl, (SPf.of_own HEND.out.O).mono (bwStep HWS.out HWR.out).size, bwStep (bwStep HWS.out HWR.out) HEND.out.B⟩
set_option maxRecDepth 100000 in
set_option maxHeartbeats 2000000 in
theorem modePath_false (s C : Nat) (w : World) (hC : 7 ≤ C) (hC2 : C ≤ 100000000) : Calls Tryz.prog 43 #[gridV s false C 7] w fun e w' => ∃ v, e = .returned v ∧ SPf w.heap.size w' v (modeL C false) ∧ Below w.heap.size w w' := by
  obtain ⟨i0, hi, hz0, hz1, hz2⟩ := info_parts ptInfo
  obtain ⟨j0, hj, hy0, hy1, hy2⟩ := info_parts intInfo
  obtain ⟨wS, hwS⟩ : ∃ wS, wS = w.alloc (.cells #[.int .i64 (s : Int), .bool false, .int .i64 (C : Int), .int .i64 7] 71) := ⟨_, rfl⟩
  have HWS : Hid (Below w.heap.size w wS) := by show Below _ _ _; rw [hwS]; exact bwA _ _
  have HGR : Hid (RowIs wS w.heap.size #[.int .i64 (s : Int), .bool false, .int .i64 (C : Int), .int .i64 7] 71) := by show RowIs _ _ _ _; rw [hwS]; exact RowIs.new _ _ _ _ (by simp)
  have CF : Hid (∀ W, Abv wS W → W.cell? ⟨w.heap.size, 1, none⟩ = some (.bool false) ∧ W.cell? ⟨w.heap.size, 2, none⟩ = some (.int .i64 (C : Int)) ∧ W.cell? ⟨w.heap.size, 3, none⟩ = some (.int .i64 7)) := fun W hW => ⟨(HGR.out.below hW).cell 1 _ rfl, (HGR.out.below hW).cell 2 _ rfl, (HGR.out.below hW).cell 3 _ rfl⟩
  have HT0 : Hid (OG vI 3 wS wS (.slice none 0 0) (ofT false 0)) := OG.start _ _
  obtain ⟨f1, f2, f3⟩ := CF.out _ (Below.refl _ _)
  rw [hwS] at f1 f2 f3
  go_enter Tryz.func43, Tryz.ntmps43
  go_wp2
  rw [← hwS]
  clear f1 f2 f3 hwS
  go_loopw [3, 4] (fun ov iv wr => ∃ t : Nat, t ≤ 11 ∧ iv = .int .i64 (-5 + (t : Int)) ∧ Hid (OG vI 3 wS wr ov (ofT false t))) (fun _ iv _ => 14 - (intOf iv + 7).toNat)
  case atStart => exact ⟨0, by omega, rfl, HT0.out⟩
  case round =>
    clear HT0
    obtain ⟨t, ht, rfl, hO⟩ := hrel
    obtain ⟨f1, f2, f3⟩ := CF.out _ hO.out.B
    have HS := Lib.hid (ofT_succ false t)
    by_cases hlt : t < 11
    · have hle : (-5 : Int) + (t : Int) ≤ 5 := by omega
      have HLE : Hid ((ofT false t).length ≤ 100) := by show _ ≤ _; have := ofT_length false t; omega
      by_cases h0 : t = 5
      · have HE : Hid (ofT false (t + 1) = ofT false t) := by show _ = _; rw [HS.out, h0]; decide
        have z : ((-5 : Int) + (t : Int) == 0) = true := by rw [beq_iff_eq]; omega
        have z2 : ((-5 : Int) + (t : Int) != 0) = false := by rw [bne, z]; rfl
        have z3 : (-5 : Int) + (t : Int) = 0 := by omega
        go_wp2
        exact ⟨⟨t + 1, by omega, by go_num, by show OG _ _ _ _ _ _; rw [HE.out]; exact hO.out⟩, by simp [intOf]; omega⟩
      · have HE : Hid (ofT false (t + 1) = ofT false t ++ [-5 + (t : Int)]) := by show _ = _; rw [HS.out, if_pos (by simp [mkN]; omega)]; rfl
        have z : ((-5 : Int) + (t : Int) == 0) = false := by rw [beq_eq_false_iff_ne]; omega
        have z2 : ((-5 : Int) + (t : Int) != 0) = true := by rw [bne, z]; rfl
        have z3 : ¬ ((-5 : Int) + (t : Int) = 0) := by omega
        go_wp2_with (at_builtin; refine wpList_append_G (f := vI) (d := 0) oneI rfl _ _ _ rfl wS.heap.size 3 j0 _ 8 Tryz.underlying64 hj hy0 hy1 hy2 rfl _ (ofT false t).length (ofT false t) rfl (ownsRow_below hO.out.O (bwA _ _)) (some ⟨wr.heap.size, 0, none⟩) 1 1 [-5 + (t : Int)] rfl rfl (RG.one _ _ _ _ rfl) (by have := HLE.out; unfold maxLen; omega) (by have := HLE.out; omega) (by have := hO.out.B.size; simp; omega) ?_; intro v5 w5 hown hg; have HP := Lib.hid (hO.out.grow (bwA _ _) hown hg); clear hown hg)
        exact ⟨⟨t + 1, by omega, by go_num, by show OG _ _ _ _ _ _; rw [HE.out]; exact HP.out⟩, by simp [intOf]; omega⟩
    · obtain rfl : t = 11 := by omega
      have hgt : ¬ ((-5 : Int) + ((11 : Nat) : Int) ≤ 5) := by omega
      have hsg := SG.of_own (d := 0) hO.out.O
      rw [show ofT false 11 = offN false from ofT_end false] at hsg
      have HOF := Lib.hid hsg
      clear hsg
      have HWR := Lib.hid hO.out.B
      clear hO HS ht hlt
      obtain ⟨wo, rfl⟩ : ∃ wo : World, wo = wr := ⟨_, rfl⟩
      obtain ⟨A, n, cp, rfl, hr⟩ := HOF.out.parts
      have HSR := Lib.hid hr
      have hn : n = 10 := hr.hn
      subst hn
      clear hr HOF
      obtain ⟨ad, rfl, hadw, hca⟩ := HSR.out.rd (by decide)
      have CFO : Hid (∀ W, Abv wo W → ∀ j : Nat, j < 10 → W.cell? (ad.add j) = some (.int .i64 ((offN false).getD j 0))) := fun W hW j hj => (hW.cell (by rw [block_of_add]; exact hadw)).trans (hca j (by show j < (offN false).length; exact hj))
      have CFG : Hid (∀ W, Abv wo W → W.cell? ⟨w.heap.size, 1, none⟩ = some (.bool false) ∧ W.cell? ⟨w.heap.size, 2, none⟩ = some (.int .i64 (C : Int)) ∧ W.cell? ⟨w.heap.size, 3, none⟩ = some (.int .i64 7)) := fun W hW => CF.out W (bwStep HWR.out hW)
      clear hadw hca HSR
      go_wp2_with (at_make; refine wpList_make_own _ rfl _ _ _ rfl wo.heap.size 47 i0 _ 2 Tryz.underlying40 hi hz0 hz1 .i64 .i64 _ 40 rfl rfl (by first | rfl | omega) (by rw [hz2]; omega) (by unfold maxLen; omega) (Nat.le_refl _) ?_; intro w4 hown hg; have HB4 : Hid (Below wo.heap.size wo w4) := (Below.refl _ _).grown hg (Nat.le_refl _) (fun q hq => by cases hq); have HP0 : Hid (OGP wo w4 (.slice (some ⟨wo.heap.size, 0, none⟩) 0 40) ([] ++ (mp0 C false).take 0)) := ⟨HB4.out, hown⟩; clear hown hg f1 f2 f3)
      clear HB4
      go_loopw [7, 43] (fun ov iv wr => ∃ j : Nat, j ≤ 10 ∧ iv = .int .i64 (j : Int) ∧ Hid (OGP wo wr ov ([] ++ (mp0 C false).take j))) (fun _ iv _ => 10 - (intOf iv).toNat)
      case atStart => exact ⟨0, by omega, rfl, HP0.out⟩
      case round =>
        clear HP0
        obtain ⟨j, hj, rfl, hO⟩ := hrel
        by_cases hlt : j < 10
        · obtain ⟨x, y, hxy, h0, h1, h2, h3, hx9, hy9⟩ := mp_get C false hC 0 j (by omega) hlt
          have HNX : Hid ([] ++ (mp0 C false).take (j + 1) = ([] ++ (mp0 C false).take j) ++ [(x, y)]) := by show _ = _; rw [take_snoc _ (0, 0) (by rw [(mp_length C false).1]; exact hlt), ← List.append_assoc]; exact congrArg (fun p => _ ++ [p]) hxy
          have HLE : Hid (([] ++ (mp0 C false).take j).length ≤ 100) := by
            show _ ≤ _
            have := mp_length C false
            have hn : (offN false).length = 10 := rfl
            simp only [List.length_append, List.length_take, List.length_nil, this.1, this.2.1, this.2.2.1, this.2.2.2, hn]
            omega
          have he := h0 rfl
          have hx := he.1
          have hy := he.2
          have hcj : (offN false).getD j 0 = (offN false).getD (j) 0 := by rfl
          rw [← hcj] at hx
          have ho := off_get (c := false) (j := j) hlt
          have CFJ : Hid (∀ W, Abv wo W → W.cell? (ad.add j) = some (.int .i64 ((offN false).getD j 0))) := fun W hW => CFO.out W hW _ hlt
          simp only [mkN, Bool.false_eq_true, if_false, if_true] at hx hy ho
          generalize (offN false).getD j 0 = oo at *
          have ho1 : -7 ≤ oo := by omega
          have ho2 : oo ≤ 7 := by omega
          have hmm : (C : Int) - 7 = (y : Int) := by omega
          clear hy
          clear h0 h1 h2 h3 he hxy hcj ho 
          have fo := CFJ.out _ hO.out.B
          obtain ⟨f1, f2, f3⟩ := CFG.out _ hO.out.B
          generalize [] ++ (mp0 C false).take j = ls at *
          go_wp2_with (at_builtin; refine wpList_append_pts (ownsRow_below hO.out.O (bwA _ _)) (Nat.le_trans hO.out.B.size (by simp)) rfl _ _ rfl rfl ⟨wr.heap.size, 0, none⟩ 1 1 [(x, y)] rfl rfl (lit_pts wr [(x, y)] _) (by have := HLE.out; omega) ?_; intro v6 w6 hown hg hat; have HP := Lib.hid (hO.out.grow (bwA _ _) hown hg); clear hown hg hat)
          first | exact ⟨⟨j + 1, by omega, by go_num, by show OGP _ _ _ _; rw [HNX.out]; exact HP.out⟩, by simp [intOf]; omega⟩ | exact ⟨⟨_, _, _, _, _, _, _, _, _, _, _, _, _, _, _, _, _, _, _, _, _, _, _, ⟨j + 1, by omega, by go_num, by show OGP _ _ _ _; rw [HNX.out]; exact HP.out⟩, rfl⟩, by show 10 - (intOf (.int .i64 ((j : Int) + 1))).toNat < 10 - (intOf (.int .i64 (j : Int))).toNat; simp [intOf]; omega⟩
        · obtain rfl : j = 10 := by omega
          have HP1 : ∀ ov W, Hid (OGP wo W ov ([] ++ (mp0 C false).take 10)) → Hid (OGP wo W ov (mp0 C false ++ (mp1 C false).take 0)) := fun ov W h => by show OGP _ _ _ _; have h2 := h.out; rw [List.take_of_length_le (by simp [mp0]; decide)] at h2; simpa using h2
          have HP1 := HP1 _ _ hO
          clear hO
          go_wp2
          go_loopw [7, 61] (fun ov iv wr => ∃ j : Nat, j ≤ 10 ∧ iv = .int .i64 (j : Int) ∧ Hid (OGP wo wr ov (mp0 C false ++ (mp1 C false).take j))) (fun _ iv _ => 10 - (intOf iv).toNat)
          case atStart => exact ⟨0, by omega, rfl, HP1.out⟩
          case round =>
            clear HP1
            obtain ⟨j, hj, rfl, hO⟩ := hrel
            by_cases hlt : j < 10
            · obtain ⟨x, y, hxy, h0, h1, h2, h3, hx9, hy9⟩ := mp_get C false hC 1 j (by omega) hlt
              have HNX : Hid (mp0 C false ++ (mp1 C false).take (j + 1) = (mp0 C false ++ (mp1 C false).take j) ++ [(x, y)]) := by show _ = _; rw [take_snoc _ (0, 0) (by rw [(mp_length C false).2.1]; exact hlt), ← List.append_assoc]; exact congrArg (fun p => _ ++ [p]) hxy
              have HLE : Hid ((mp0 C false ++ (mp1 C false).take j).length ≤ 100) := by
                show _ ≤ _
                have := mp_length C false
                have hn : (offN false).length = 10 := rfl
                simp only [List.length_append, List.length_take, List.length_nil, this.1, this.2.1, this.2.2.1, this.2.2.2, hn]
                omega
              have he := h1 rfl
              have hx := he.1
              have hy := he.2
              have hcj : (offN false).getD j 0 = (offN false).getD (j) 0 := by rfl
              rw [← hcj] at hy
              have ho := off_get (c := false) (j := j) hlt
              have CFJ : Hid (∀ W, Abv wo W → W.cell? (ad.add j) = some (.int .i64 ((offN false).getD j 0))) := fun W hW => CFO.out W hW _ hlt
              simp only [mkN, Bool.false_eq_true, if_false, if_true] at hx hy ho
              generalize (offN false).getD j 0 = oo at *
              have ho1 : -7 ≤ oo := by omega
              have ho2 : oo ≤ 7 := by omega
              have hmm : (C : Int) + 7 = (x : Int) := by omega
              clear hx
              clear h0 h1 h2 h3 he hxy hcj ho 
              have fo := CFJ.out _ hO.out.B
              obtain ⟨f1, f2, f3⟩ := CFG.out _ hO.out.B
              generalize mp0 C false ++ (mp1 C false).take j = ls at *
              go_wp2_with (at_builtin; refine wpList_append_pts (ownsRow_below hO.out.O (bwA _ _)) (Nat.le_trans hO.out.B.size (by simp)) rfl _ _ rfl rfl ⟨wr.heap.size, 0, none⟩ 1 1 [(x, y)] rfl rfl (lit_pts wr [(x, y)] _) (by have := HLE.out; omega) ?_; intro v6 w6 hown hg hat; have HP := Lib.hid (hO.out.grow (bwA _ _) hown hg); clear hown hg hat)
              first | exact ⟨⟨j + 1, by omega, by go_num, by show OGP _ _ _ _; rw [HNX.out]; exact HP.out⟩, by simp [intOf]; omega⟩ | exact ⟨⟨_, _, _, _, _, _, _, _, _, _, _, _, _, _, _, _, _, _, ⟨j + 1, by omega, by go_num, by show OGP _ _ _ _; rw [HNX.out]; exact HP.out⟩, rfl⟩, by show 10 - (intOf (.int .i64 ((j : Int) + 1))).toNat < 10 - (intOf (.int .i64 (j : Int))).toNat; simp [intOf]; omega⟩
            · obtain rfl : j = 10 := by omega
              have HP2 : ∀ ov W, Hid (OGP wo W ov (mp0 C false ++ (mp1 C false).take 10)) → Hid (OGP wo W ov (mp0 C false ++ mp1 C false ++ (mp2 C false).take 0)) := fun ov W h => by show OGP _ _ _ _; have h2 := h.out; rw [List.take_of_length_le (by simp [mp1]; decide)] at h2; simpa using h2
              have HP2 := HP2 _ _ hO
              clear hO
              go_wp2
              go_loopw [7, 78] (fun ov iv wr => ∃ j : Nat, j ≤ 10 ∧ iv = .int .i64 (j : Int) ∧ Hid (OGP wo wr ov (mp0 C false ++ mp1 C false ++ (mp2 C false).take j))) (fun _ iv _ => 10 - (intOf iv).toNat)
              case atStart => exact ⟨0, by omega, rfl, HP2.out⟩
              case round =>
                clear HP2
                obtain ⟨j, hj, rfl, hO⟩ := hrel
                by_cases hlt : j < 10
                · obtain ⟨x, y, hxy, h0, h1, h2, h3, hx9, hy9⟩ := mp_get C false hC 2 j (by omega) hlt
                  have HNX : Hid (mp0 C false ++ mp1 C false ++ (mp2 C false).take (j + 1) = (mp0 C false ++ mp1 C false ++ (mp2 C false).take j) ++ [(x, y)]) := by show _ = _; rw [take_snoc _ (0, 0) (by rw [(mp_length C false).2.2.1]; exact hlt), ← List.append_assoc]; exact congrArg (fun p => _ ++ [p]) hxy
                  have HLE : Hid ((mp0 C false ++ mp1 C false ++ (mp2 C false).take j).length ≤ 100) := by
                    show _ ≤ _
                    have := mp_length C false
                    have hn : (offN false).length = 10 := rfl
                    simp only [List.length_append, List.length_take, List.length_nil, this.1, this.2.1, this.2.2.1, this.2.2.2, hn]
                    omega
                  have he := h2 rfl
                  have hx := he.1
                  have hy := he.2
                  obtain ⟨jr, hjr⟩ : ∃ jr, jr = 10 - 1 - j := ⟨_, rfl⟩
                  have hjr2 : (9 : Int) - (j : Int) = (jr : Int) := by omega
                  have hjr9 : jr < 10 := by omega
                  have hjr10 : (jr : Int) < 10 := by omega
                  have hwn : IntKind.i64.wrap 9 = 9 := wr64 _ (by omega) (by omega)
                  have hjw : IntKind.i64.wrap (9 - (j : Int)) = (jr : Int) := by rw [wr64 _ (by omega) (by omega)]; omega
                  have hcj : (offN false).getD jr 0 = (offN false).getD ((offN false).length - 1 - j) 0 := by rw [hjr]; rfl
                  rw [← hcj] at hx
                  have ho := off_get (c := false) (j := jr) hjr9
                  have CFJ : Hid (∀ W, Abv wo W → W.cell? (ad.add jr) = some (.int .i64 ((offN false).getD jr 0))) := fun W hW => CFO.out W hW _ hjr9
                  simp only [mkN, Bool.false_eq_true, if_false, if_true] at hx hy ho
                  generalize (offN false).getD jr 0 = oo at *
                  have ho1 : -7 ≤ oo := by omega
                  have ho2 : oo ≤ 7 := by omega
                  have hmm : (C : Int) + 7 = (y : Int) := by omega
                  clear hy
                  clear h0 h1 h2 h3 he hxy hcj ho hjr hjr2
                  have CFX : Hid (∀ W, Abv wo W → (W.cell? ⟨w.heap.size, 1, none⟩ = some (.bool false) ∧ W.cell? ⟨w.heap.size, 2, none⟩ = some (.int .i64 (C : Int)) ∧ W.cell? ⟨w.heap.size, 3, none⟩ = some (.int .i64 7)) ∧ W.cell? (ad.add jr) = some (.int .i64 oo)) := fun W hW => ⟨CFG.out W hW, CFJ.out W hW⟩
                  have wx : IntKind.i64.wrap (x : Int) = (x : Int) := wr64 _ (by omega) (by omega)
                  have wy : IntKind.i64.wrap (y : Int) = (y : Int) := wr64 _ (by omega) (by omega)
                  have gx : IntKind.i64.wrap ((C : Int) + oo) = (x : Int) := by rw [wr64 _ (by omega) (by omega)]; omega
                  have gy : IntKind.i64.wrap ((C : Int) + 7) = (y : Int) := by rw [wr64 _ (by omega) (by omega)]; omega
                  obtain ⟨A5, c5, e5⟩ := ownsRow_shape hO.out.O
                  subst e5
                  generalize mp0 C false ++ mp1 C false ++ (mp2 C false).take j = ls at *
                  have HD5 : Hid (Abv wo wr.drew) := bwDrew hO.out.B
                  go_wp2
                  refine wp_region_W (S := (fun W => Abv wo W)) [(false, 0), (false, 1), (false, 2), (false, 3), (false, 4), (false, 5), (false, 6), (false, 7), (false, 8), (false, 9), (false, 10), (false, 11), (false, 12), (false, 13), (false, 14), (true, 15), (true, 16), (false, 17)] (by kernel_rfl) (by kernel_rfl) HD5.out ?_
                  simp only [attachW, List.getElem?_cons_zero, List.getElem?_cons_succ]
                  repeat
                    refine' wpHX_val rfl (fun W hW => ?_) ?_
                    rotate_left
                    · have hcf := CFX.out W hW; go_simp; rfl
                    simp only [Act.put, List.setIfInBounds_toArray, List.set_cons_zero, List.set_cons_succ]
                  obtain ⟨w6, hw6⟩ : ∃ w6, w6 = wr.drew.alloc (.cells #[.int .i64 (x : Int), .int .i64 (y : Int)] 47) := ⟨_, rfl⟩
                  have HB6 : Hid (Below wr.heap.size wr w6) := by show Below _ _ _; rw [hw6]; exact bwAlloc (bwDrew (Below.refl _ _)) _
                  obtain ⟨lb, hlb⟩ : ∃ lb, lb = wr.heap.size := ⟨_, rfl⟩
                  have HL6 : Hid (∀ j u, (([(x, y)] : List Pt).flatMap ptV)[j]? = some u → w6.cell? ((⟨lb, 0, none⟩ : Addr).add j) = some u) := by show ∀ _ _, _; rw [hw6, hlb]; exact lit_pts wr.drew [(x, y)] _
                  refine' wpHX_aval (v := .slice (some ⟨lb, 0, none⟩) 1 1) (w' := w6) rfl (by rw [hw6, hlb]; go_simp) (bwStep hO.out.B HB6.out) ?_
                  simp only [Act.put, List.setIfInBounds_toArray, List.set_cons_zero, List.set_cons_succ]
                  clear hw6 hlb
                  refine' wpHX_appendP (ys := [(x, y)]) (ownsRow_below hO.out.O HB6.out) (Nat.le_trans hO.out.B.size HB6.out.size) rfl _ _ rfl rfl rfl rfl HL6.out (by have := HLE.out; omega) ?_
                  intro A7 c7 w7 hown hg
                  have HP : Hid (OGP wo w7 (.slice A7 (ls.length + 1) c7) (ls ++ [(x, y)])) := hO.out.grow HB6.out hown hg
                  clear hown hg
                  refine ⟨HP.out.B, ?_⟩
                  simp only [Act.put, List.setIfInBounds_toArray, List.set_cons_zero, List.set_cons_succ]
                  repeat
                    refine' wpHX_val rfl (fun W hW => ?_) ?_
                    rotate_left
                    · have hcf := CFX.out W hW; go_simp; rfl
                    simp only [Act.put, List.setIfInBounds_toArray, List.set_cons_zero, List.set_cons_succ]
                  refine wpHX_nil ?_
                  go_wp2
                  first | exact ⟨⟨j + 1, by omega, by go_num, by show OGP _ _ _ _; rw [HNX.out]; exact HP.out⟩, by simp [intOf]; omega⟩ | exact ⟨⟨_, _, _, _, _, _, _, _, _, _, _, _, _, _, _, _, _, _, _, _, _, _, _, ⟨j + 1, by omega, by go_num, by show OGP _ _ _ _; rw [HNX.out]; exact HP.out⟩, rfl⟩, by show 10 - (intOf (.int .i64 ((j : Int) + 1))).toNat < 10 - (intOf (.int .i64 (j : Int))).toNat; simp [intOf]; omega⟩
                · obtain rfl : j = 10 := by omega
                  have HP3 : ∀ ov W, Hid (OGP wo W ov (mp0 C false ++ mp1 C false ++ (mp2 C false).take 10)) → Hid (OGP wo W ov (mp0 C false ++ mp1 C false ++ mp2 C false ++ (mp3 C false).take 0)) := fun ov W h => by show OGP _ _ _ _; have h2 := h.out; rw [List.take_of_length_le (by simp [mp2]; decide)] at h2; simpa using h2
                  have HP3 := HP3 _ _ hO
                  clear hO
                  go_wp2
                  go_loopw [7, 100] (fun ov iv wr => ∃ j : Nat, j ≤ 10 ∧ iv = .int .i64 (j : Int) ∧ Hid (OGP wo wr ov (mp0 C false ++ mp1 C false ++ mp2 C false ++ (mp3 C false).take j))) (fun _ iv _ => 10 - (intOf iv).toNat)
                  case atStart => exact ⟨0, by omega, rfl, HP3.out⟩
                  case round =>
                    clear HP3
                    obtain ⟨j, hj, rfl, hO⟩ := hrel
                    by_cases hlt : j < 10
                    · obtain ⟨x, y, hxy, h0, h1, h2, h3, hx9, hy9⟩ := mp_get C false hC 3 j (by omega) hlt
                      have HNX : Hid (mp0 C false ++ mp1 C false ++ mp2 C false ++ (mp3 C false).take (j + 1) = (mp0 C false ++ mp1 C false ++ mp2 C false ++ (mp3 C false).take j) ++ [(x, y)]) := by show _ = _; rw [take_snoc _ (0, 0) (by rw [(mp_length C false).2.2.2]; exact hlt), ← List.append_assoc]; exact congrArg (fun p => _ ++ [p]) hxy
                      have HLE : Hid ((mp0 C false ++ mp1 C false ++ mp2 C false ++ (mp3 C false).take j).length ≤ 100) := by
                        show _ ≤ _
                        have := mp_length C false
                        have hn : (offN false).length = 10 := rfl
                        simp only [List.length_append, List.length_take, List.length_nil, this.1, this.2.1, this.2.2.1, this.2.2.2, hn]
                        omega
                      have he := h3 rfl
                      have hx := he.1
                      have hy := he.2
                      obtain ⟨jr, hjr⟩ : ∃ jr, jr = 10 - 1 - j := ⟨_, rfl⟩
                      have hjr2 : (9 : Int) - (j : Int) = (jr : Int) := by omega
                      have hjr9 : jr < 10 := by omega
                      have hjr10 : (jr : Int) < 10 := by omega
                      have hwn : IntKind.i64.wrap 9 = 9 := wr64 _ (by omega) (by omega)
                      have hjw : IntKind.i64.wrap (9 - (j : Int)) = (jr : Int) := by rw [wr64 _ (by omega) (by omega)]; omega
                      have hcj : (offN false).getD jr 0 = (offN false).getD ((offN false).length - 1 - j) 0 := by rw [hjr]; rfl
                      rw [← hcj] at hy
                      have ho := off_get (c := false) (j := jr) hjr9
                      have CFJ : Hid (∀ W, Abv wo W → W.cell? (ad.add jr) = some (.int .i64 ((offN false).getD jr 0))) := fun W hW => CFO.out W hW _ hjr9
                      simp only [mkN, Bool.false_eq_true, if_false, if_true] at hx hy ho
                      generalize (offN false).getD jr 0 = oo at *
                      have ho1 : -7 ≤ oo := by omega
                      have ho2 : oo ≤ 7 := by omega
                      have hmm : (C : Int) - 7 = (x : Int) := by omega
                      clear hx
                      clear h0 h1 h2 h3 he hxy hcj ho hjr hjr2
                      have CFX : Hid (∀ W, Abv wo W → (W.cell? ⟨w.heap.size, 1, none⟩ = some (.bool false) ∧ W.cell? ⟨w.heap.size, 2, none⟩ = some (.int .i64 (C : Int)) ∧ W.cell? ⟨w.heap.size, 3, none⟩ = some (.int .i64 7)) ∧ W.cell? (ad.add jr) = some (.int .i64 oo)) := fun W hW => ⟨CFG.out W hW, CFJ.out W hW⟩
                      have wx : IntKind.i64.wrap (x : Int) = (x : Int) := wr64 _ (by omega) (by omega)
                      have wy : IntKind.i64.wrap (y : Int) = (y : Int) := wr64 _ (by omega) (by omega)
                      have gx : IntKind.i64.wrap ((C : Int) - 7) = (x : Int) := by rw [wr64 _ (by omega) (by omega)]; omega
                      have gy : IntKind.i64.wrap ((C : Int) + oo) = (y : Int) := by rw [wr64 _ (by omega) (by omega)]; omega
                      obtain ⟨A5, c5, e5⟩ := ownsRow_shape hO.out.O
                      subst e5
                      generalize mp0 C false ++ mp1 C false ++ mp2 C false ++ (mp3 C false).take j = ls at *
                      have HD5 : Hid (Abv wo wr.drew) := bwDrew hO.out.B
                      go_wp2
                      refine wp_region_W (S := (fun W => Abv wo W)) [(false, 0), (false, 1), (false, 2), (false, 3), (false, 4), (false, 5), (false, 6), (false, 7), (false, 8), (false, 9), (false, 10), (false, 11), (false, 12), (false, 13), (false, 14), (true, 15), (true, 16), (false, 17)] (by kernel_rfl) (by kernel_rfl) HD5.out ?_
                      simp only [attachW, List.getElem?_cons_zero, List.getElem?_cons_succ]
                      repeat
                        refine' wpHX_val rfl (fun W hW => ?_) ?_
                        rotate_left
                        · have hcf := CFX.out W hW; go_simp; rfl
                        simp only [Act.put, List.setIfInBounds_toArray, List.set_cons_zero, List.set_cons_succ]
                      obtain ⟨w6, hw6⟩ : ∃ w6, w6 = wr.drew.alloc (.cells #[.int .i64 (x : Int), .int .i64 (y : Int)] 47) := ⟨_, rfl⟩
                      have HB6 : Hid (Below wr.heap.size wr w6) := by show Below _ _ _; rw [hw6]; exact bwAlloc (bwDrew (Below.refl _ _)) _
                      obtain ⟨lb, hlb⟩ : ∃ lb, lb = wr.heap.size := ⟨_, rfl⟩
                      have HL6 : Hid (∀ j u, (([(x, y)] : List Pt).flatMap ptV)[j]? = some u → w6.cell? ((⟨lb, 0, none⟩ : Addr).add j) = some u) := by show ∀ _ _, _; rw [hw6, hlb]; exact lit_pts wr.drew [(x, y)] _
                      refine' wpHX_aval (v := .slice (some ⟨lb, 0, none⟩) 1 1) (w' := w6) rfl (by rw [hw6, hlb]; go_simp) (bwStep hO.out.B HB6.out) ?_
                      simp only [Act.put, List.setIfInBounds_toArray, List.set_cons_zero, List.set_cons_succ]
                      clear hw6 hlb
                      refine' wpHX_appendP (ys := [(x, y)]) (ownsRow_below hO.out.O HB6.out) (Nat.le_trans hO.out.B.size HB6.out.size) rfl _ _ rfl rfl rfl rfl HL6.out (by have := HLE.out; omega) ?_
                      intro A7 c7 w7 hown hg
                      have HP : Hid (OGP wo w7 (.slice A7 (ls.length + 1) c7) (ls ++ [(x, y)])) := hO.out.grow HB6.out hown hg
                      clear hown hg
                      refine ⟨HP.out.B, ?_⟩
                      simp only [Act.put, List.setIfInBounds_toArray, List.set_cons_zero, List.set_cons_succ]
                      repeat
                        refine' wpHX_val rfl (fun W hW => ?_) ?_
                        rotate_left
                        · have hcf := CFX.out W hW; go_simp; rfl
                        simp only [Act.put, List.setIfInBounds_toArray, List.set_cons_zero, List.set_cons_succ]
                      refine wpHX_nil ?_
                      go_wp2
                      first | exact ⟨⟨j + 1, by omega, by go_num, by show OGP _ _ _ _; rw [HNX.out]; exact HP.out⟩, by simp [intOf]; omega⟩ | exact ⟨⟨_, _, _, _, _, _, _, _, _, _, _, _, _, _, _, _, _, _, _, _, _, _, _, ⟨j + 1, by omega, by go_num, by show OGP _ _ _ _; rw [HNX.out]; exact HP.out⟩, rfl⟩, by show 10 - (intOf (.int .i64 ((j : Int) + 1))).toNat < 10 - (intOf (.int .i64 (j : Int))).toNat; simp [intOf]; omega⟩
                    · obtain rfl : j = 10 := by omega
                      have HEND : ∀ ov W, Hid (OGP wo W ov (mp0 C false ++ mp1 C false ++ mp2 C false ++ (mp3 C false).take 10)) → Hid (OGP wo W ov (modeL C false)) := fun ov W h => by show OGP _ _ _ _; have h2 := h.out; rw [List.take_of_length_le (by simp [mp3]; decide)] at h2; rw [modeL_parts]; exact h2
                      have HEND := HEND _ _ hO
                      clear hO
                      go_wp2
                      go_ret
                      exact ⟨_, rfl, (SPf.of_own HEND.out.O).mono (bwStep HWS.out HWR.out).size, bwStep (bwStep HWS.out HWR.out) HEND.out.B⟩
end Go.Proofs.YtmnlkganmgcpbaaGreatDoor
