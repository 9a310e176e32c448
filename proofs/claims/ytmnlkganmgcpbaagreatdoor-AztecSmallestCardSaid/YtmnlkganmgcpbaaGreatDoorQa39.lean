import Derived.Test.YtmnlkganmgcpbaaGreatDoorQa38
namespace Go.Proofs.YtmnlkganmgcpbaaGreatDoor
open Go.RowKit
set_option linter.unusedVariables false
set_option linter.unusedSectionVars false
set_option linter.unusedSimpArgs false
theorem txtL_pos {l : List UInt8} {C : Nat → Nat → Nat} (hl : l.length ≤ 2078) (h1 : 1 ≤ l.length) (h : Cost (bA l) C) : 1 ≤ (txtL l).length := by
  have hs : (bA l).size ≤ 4096 := by rw [bA_size]; omega
  rw [txtL_eq (by omega) h, encP_len hs h]
  obtain ⟨o, -, ha, ht, -⟩ := h.stepA hs 0 0 (by rw [bA_size]; omega) (by omega)
  have := ha.size_pos
  rw [← ht]
  unfold Opt.tot
  omega
theorem fit_words {t : List Bool} {per L : Nat} {c : Bool} (h : okS t per (L, c) = true) (h1 : 1 ≤ L) (hL : L ≤ 32) (h3 : 1 ≤ (stuffL t (sizeN L)).length) : (stuffL t (sizeN L)).length ≤ mostN c ∧ (stuffL t (sizeN L)).length < wordsN L c := by
  unfold okS fitB at h
  simp only [Bool.and_eq_true, decide_eq_true_eq] at h
  refine ⟨h.1, ?_⟩
  have hz : 1 ≤ sizeN L := by rcases size_cases L with h | h | h | h <;> omega
  apply Classical.byContradiction
  intro hn
  have : sizeN L * wordsN L c ≤ sizeN L * (stuffL t (sizeN L)).length := Nat.mul_le_mul_left _ (by omega)
  omega
set_option maxRecDepth 100000 in
set_option maxHeartbeats 4000000 in
theorem Encode_zero (A : Option Addr) (n ca : Nat) (l : List UInt8) (Co : Bool) (per : Nat) (w : World) (hs : SR vU 0 w A n ca l) (n1 : 1 ≤ n) (n2 : n ≤ 60) (p1 : 5 ≤ per) (p2 : per ≤ 90) :
    Calls Tryz.prog 12 #[.slice A n ca, .agg #[.int .i64 0, .bool Co, .int .i64 (per : Int)]] w fun e w' => (∃ C, Cost (bA l) C) ∧ ∀ R, (∀ p, pickS (txtL l) per 0 Co = some p → R = (some p, 0)) → (pickS (txtL l) per 0 Co = none → R = (none, 16)) → EncR w l R e w' := by
  obtain ⟨wG, hwG⟩ : ∃ wG, wG = (((w.alloc (.cells #[.int .i64 0, .bool Co, .int .i64 (per : Int)] 24)).alloc (.cells zero6 30)).alloc (symB 0 Co)) := ⟨_, rfl⟩
  have HWG : Hid (Below w.heap.size w wG) := by show Below _ _ _; rw [hwG]; exact bwAlloc (bwAlloc (bwA _ _) _) _
  have HOR : Hid (RowIs wG w.heap.size #[.int .i64 0, .bool Co, .int .i64 (per : Int)] 24) := by
    show RowIs _ _ _ _
    rw [hwG]
    have h1 : RowIs (w.alloc (.cells #[.int .i64 0, .bool Co, .int .i64 (per : Int)] 24)) w.heap.size #[.int .i64 0, .bool Co, .int .i64 (per : Int)] 24 := RowIs.new _ _ _ _ rfl
    exact (h1.below (bwA _ _)).below (bwA _ _)
  have HRR : Hid (RowIs wG (w.heap.size + 1) zero6 30) := by
    show RowIs _ _ _ _
    rw [hwG]
    have h1 : RowIs ((w.alloc (.cells #[.int .i64 0, .bool Co, .int .i64 (per : Int)] 24)).alloc (.cells zero6 30)) (w.heap.size + 1) zero6 30 := RowIs.new _ _ _ _ (by simp)
    exact h1.below (bwA _ _)
  have HGR : Hid (RowIs wG (w.heap.size + 1 + 1) #[.int .i64 0, .bool Co] 60) := by show RowIs _ _ _ _; rw [hwG]; exact RowIs.new _ _ _ _ (by simp)
  have HRB : Hid (w.heap.size ≤ w.heap.size + 1 ∧ w.heap.size + 1 < wG.heap.size ∧ w.heap.size ≤ wG.heap.size) := by show _ ∧ _; rw [hwG]; simp; omega
  have CFG : Hid (∀ W, Abv wG W → (W.cell? ⟨w.heap.size, 0, none⟩ = some (.int .i64 0) ∧ W.cell? ⟨w.heap.size, 1, none⟩ = some (.bool Co) ∧ W.cell? ⟨w.heap.size, 2, none⟩ = some (.int .i64 (per : Int))) ∧ W.cell? ⟨w.heap.size + 1 + 1, 0, none⟩ = some (.int .i64 0) ∧ W.cell? ⟨w.heap.size + 1 + 1, 1, none⟩ = some (.bool Co)) := by
    show ∀ W, _
    intro W hW
    have h1 := HOR.out.below hW
    have h2 := HGR.out.below hW
    exact ⟨⟨h1.cell 0 _ rfl, h1.cell 1 _ rfl, h1.cell 2 _ rfl⟩, h2.cell 0 _ rfl, h2.cell 1 _ rfl⟩
  have HRW : Hid (∀ W, Abv wG W → RowIs W (w.heap.size + 1) zero6 30) := fun W hW => HRR.out.below hW
  have HCV : Hid (∀ W, Below (((w.alloc (.cells #[.int .i64 0, .bool Co, .int .i64 (per : Int)] 24)).alloc (.cells zero6 30)).alloc (symB 0 Co)).heap.size (((w.alloc (.cells #[.int .i64 0, .bool Co, .int .i64 (per : Int)] 24)).alloc (.cells zero6 30)).alloc (symB 0 Co)) W → Below wG.heap.size wG W) := by show ∀ W, _ → _; rw [← hwG]; exact fun W h => h
  have HWE := Lib.hid hwG
  have HN : Hid (n = l.length) := hs.hn
  have HTX : Hid (∀ W, Abv w W → Calls Tryz.prog 30 #[.slice A n ca] W fun e w' => (∃ C, Cost (bA l) C) ∧ RT vB false W (txtL l, 0) e w') := by
    show ∀ W, _ → _
    intro W hW
    refine (Encode_any A n ca l W (hs.below hW) (by omega)).mono ?_
    rintro e w' ⟨C, hC, hr⟩
    refine ⟨⟨C, hC⟩, ?_⟩
    rw [txtL_eq (by rw [← hs.hn]; omega) hC]
    exact hr
  have HTL : Hid ((∃ C, Cost (bA l) C) → (txtL l).length ≤ 501 ∧ 1 ≤ (txtL l).length ∧ ∀ L, LtAll (2 ^ sizeN L) (stuffL (txtL l) (sizeN L)) ∧ (stuffL (txtL l) (sizeN L)).length ≤ 501 ∧ 1 ≤ (stuffL (txtL l) (sizeN L)).length) := by
    show _ → _
    rintro ⟨C, hC⟩
    have h1 := txtL_len (l := l) (by rw [← hs.hn]; omega) hC
    rw [← hs.hn] at h1
    have h2 := txtL_pos (by rw [← hs.hn]; omega) (by rw [← hs.hn]; exact n1) hC
    refine ⟨by omega, h2, fun L => ?_⟩
    obtain ⟨g1, g2, g3, g4⟩ := stuff_facts (l := l) (by rw [← hs.hn]; omega) hC L rfl
    refine ⟨g1, by omega, ?_⟩
    rcases Nat.eq_zero_or_pos (stuffL (txtL l) (sizeN L)).length with h5 | h5
    · rw [h5] at g3; omega
    · exact h5
  have b1 : ¬ (4096 : Int) < (n : Int) := by omega
  have b2 : ((n : Int) == 0) = false := by rw [beq_eq_false_iff_ne]; omega
  have b3 : ¬ n = 0 := by omega
  have b4 : ¬ (per : Int) < 5 := by omega
  have b5 : ¬ (90 : Int) < (per : Int) := by omega
  have b6 : decide (per < 5) = false := by simp; omega
  have b7 : decide (90 < per) = false := by simp; omega
  have hn4096 : n ≤ 4096 := by omega
  obtain ⟨cand, hcand⟩ : ∃ cand, cand = choiL Co := ⟨_, rfl⟩
  have HPK : Hid (∀ t, pickS t per 0 Co = cand.find? (okS t per)) := by show ∀ t, _; intro t; unfold pickS candL; rw [hcand]; rfl
  have HSO : Hid (∀ p ∈ cand, symOk p) := by
    show ∀ p ∈ _, _
    rw [hcand]
    exact choi_ok Co
  have HCL : Hid (cand.length ≤ 33) := by show _ ≤ _; rw [hcand]; exact choi_len Co
  have HCD := Lib.hid hcand
  obtain ⟨⟨f0, f1, f2⟩, g0, g1⟩ := CFG.out wG (Below.refl _ _)
  rw [HWE.out] at f0 f1 f2 g0 g1
  have HS := Lib.hid hs
  clear hs hcand n1 hwG
  have HC0 : Hid (Abv w (((w.alloc (.cells #[.int .i64 0, .bool Co, .int .i64 (per : Int)] 24)).alloc (.cells zero6 30)).alloc (symB 0 Co))) := by show Below _ _ _; rw [← HWE.out]; exact HWG.out
  have HCH : Hid (∀ W, Calls Tryz.prog 31 #[.bool Co] W fun e w' => ∃ A9 nc c9, e = .returned (.slice A9 nc c9) ∧ Hid (cand.length = nc) ∧ Hid (RY2 w' A9 cand) ∧ Below W.heap.size W w') := fun W => by
    refine (choices_any Co W).mono ?_
    rintro e w' ⟨v, rfl, ⟨A', c', rfl, -, -, h⟩, hb⟩
    rw [← HCD.out] at h
    exact ⟨A', cand.length, c', by rw [HCD.out], rfl, h, hb⟩
  go_enter Tryz.func12, Tryz.ntmps12
  go_wp2_with (first
    | (go_at_call 30; refine (HTX.out _ HC0.out).mono ?_; rintro e w2 ⟨hC, v2, rfl, hs2, hb2⟩; obtain ⟨A7, n7, c7, rfl, hp2⟩ := hs2.parts; have HC := Lib.hid (HTL.out hC); have HCC := Lib.hid hC; have HS7 := Lib.hid hp2; have HB2 : Hid (Below wG.heap.size wG w2) := HCV.out _ hb2; clear hC hs2 hb2 f0 f1 f2 g0 g1; obtain ⟨⟨f0, f1, f2⟩, g0, g1⟩ := CFG.out _ HB2.out; obtain ⟨⟨k0, k1, k2⟩, -, -⟩ := CFG.out _ (bwAlloc HB2.out (.cells #[.int .i64 0, .bool Co] 60)))
    | (go_at_call 31; refine (HCH.out _).mono ?_; rintro e wL ⟨A9, nc, c9, rfl, HNC, HLL, hb4⟩; have HBL : Hid (Below wG.heap.size wG wL) := bwStep (bwAlloc HB2.out _) hb4; have HSL := Lib.hid (HS7.out.below (bwStep (bwA _ _) hb4)); clear hb4 f0 f1 f2 g0 g1 k0 k1 k2))
  have hnc9 : nc ≤ 33 := by have := HCL.out; rw [HNC.out] at this; exact this
  have HF0 : Hid (∀ t, (cand.take 0).find? (okS t per) = none) := fun t => rfl
  obtain ⟨h501, ht1, hST⟩ := HC.out
  have HST := Lib.hid hST
  have HN7 : Hid (n7 = (txtL l).length) := HSL.out.hn
  have h7 : n7 ≤ 501 := by rw [HN7.out]; exact h501
  clear hST ht1 h501
  obtain ⟨t, HTT⟩ : ∃ t, Hid (txtL l = t) := ⟨_, rfl⟩
  rw [HTT.out] at HSL HN7 HST
  go_loopw [64] (fun iv wr => ∃ j : Nat, j ≤ nc ∧ iv = .int .i64 j ∧ Hid ((cand.take j).find? (okS t per) = none) ∧ Hid (Abv wL wr)) (fun iv _ => nc - (intOf iv).toNat)
  case atStart => exact ⟨0, Nat.zero_le _, rfl, HF0.out t, Below.refl _ _⟩
  case round =>
    clear HF0
    obtain ⟨j, hj, rfl, hFJ, hB⟩ := hrel
    by_cases hlt : j < nc
    · have hltc : j < cand.length := by rw [HNC.out]; exact hlt
      obtain ⟨gg, oo, rfl, hgw, hcg⟩ := HLL.out (by omega)
      have hxy := hcg j hltc
      have hpm : cand.getD j (0, false) ∈ cand := by
        simp only [List.getD, List.getElem?_eq_getElem hltc, Option.getD_some]; exact List.getElem_mem hltc
      have hok := HSO.out _ hpm
      have HFS := Lib.hid (find_step (okS t per) cand (0, false) j hltc hFJ.out)
      have e1 : wr.cell? ⟨gg, oo + j * 2, none⟩ = some (.int .i64 ((cand.getD j (0, false)).1 : Int)) := (hB.out.cell (p := ⟨gg, oo + j * 2, none⟩) hgw).trans hxy.1
      have e2 : wr.cell? ⟨gg, oo + j * 2 + 1, none⟩ = some (.bool (cand.getD j (0, false)).2) := (hB.out.cell (p := ⟨gg, oo + j * 2 + 1, none⟩) hgw).trans hxy.2
      generalize cand.getD j (0, false) = p at *
      obtain ⟨L, c⟩ := p
      obtain ⟨o1, o2, o3⟩ := hok
      have o1 : 1 ≤ L := o1
      have o2 : L ≤ 32 := o2
      have e1 : wr.cell? ⟨gg, oo + j * 2, none⟩ = some (.int .i64 (L : Int)) := e1
      have e2 : wr.cell? ⟨gg, oo + j * 2 + 1, none⟩ = some (.bool c) := e2
      have HO3 : Hid (c = true → L ≤ 4) := o3
      clear o3 hxy hcg hpm
      have CFP := sym_cells wr L c
      have HBW : Hid (Below wG.heap.size wG wr) := bwStep HBL.out hB.out
      have HSZ : Hid (∀ W, Calls Tryz.prog 33 #[symv L c] W fun e w' => e = .returned (.int .i64 ((sizeN L : Nat) : Int)) ∧ Below W.heap.size W w') := fun W => size_any L c W o2
      have HSTU : Hid (∀ W A m c', SR vB false W A m c' t → Calls Tryz.prog 32 #[.slice A m c', .int .i64 ((sizeN L : Nat) : Int)] W (RT vN 0 W (stuffL t (sizeN L), 0))) := by
        show ∀ W A m c', _ → _
        intro W A m c' h9
        have h := Stuff_any A m c' ((sizeN L : Nat) : Int) t W h9
        rw [stuffRes_ok (by rw [← HN7.out]; omega)] at h
        exact h
      obtain ⟨st1, st2, st3⟩ := HST.out L
      have HFI : Hid (∀ W, Calls Tryz.prog 34 #[symv L c, .int .i64 ((stuffL t (sizeN L)).length : Int), .int .i64 (n7 : Int), .int .i64 (per : Int)] W fun e w' => e = .returned (.bool (okS t per (L, c))) ∧ Below W.heap.size W w') := fun W => by
        have h := fits_any L c (stuffL t (sizeN L)).length n7 per W o2 (by omega) (by omega) (by omega)
        rw [HN7.out] at h ⊢
        exact h
      have HOK : Hid (okS t per (L, c) = true → (stuffL t (sizeN L)).length ≤ mostN c ∧ (stuffL t (sizeN L)).length < wordsN L c) := by
        show _ → _
        intro h
        exact fit_words h o1 o2 st3
      have HENC : Hid (okS t per (L, c) = true → ∀ W A m c', SR vN 0 W A m c' (stuffL t (sizeN L)) → Calls Tryz.prog 35 #[symv L c, .slice A m c'] W fun e w' => ∃ db N, N = sideN L c * sideN L c ∧ e = .returned (.tuple #[codeV L c m (sideN L c) db N, .int .i64 0]) ∧ RowB w' db (drawL L c (stuffL t (sizeN L))) ∧ W.heap.size ≤ db ∧ Below W.heap.size W w') := fun h W A m c' h9 =>
        encode_any L c _ A m c' W o1 o2 HO3.out st1 st3 (HOK.out h).1 (HOK.out h).2 h9
      have hs9 : (sideN L c) * (sideN L c) ≤ 161 * 161 := by have := (side_big L c o1 o2).2; exact Nat.mul_le_mul this this
      have HDLL : Hid ((drawL L c (stuffL t (sizeN L))).length = sideN L c * sideN L c) := matL_length _ _ _ _
      have HFIN : Hid (∀ (R : Option (Nat × Bool) × Int) (W : World) (db N k : Nat), (∀ p, pickS t per 0 Co = some p → R = (some p, 0)) → okS t per (L, c) = true → N = sideN L c * sideN L c → k = (stuffL t (sizeN L)).length → RowB W db (drawL L c (stuffL t (sizeN L))) → R = (some (L, c), 0) ∧ CodeV W (codeV L c k (sideN L c) db N) t (some (L, c))) := by
        show ∀ (R : Option (Nat × Bool) × Int) (W : World) (db N k : Nat), _ → _ → _ → _ → _ → _
        intro R W db N k h1 h2 h3 h4 h5
        refine ⟨h1 _ (by rw [HPK.out]; exact HFS.out.1 h2), ⟨some ⟨db, 0, none⟩, N, N, h3, by rw [h4], ?_⟩⟩
        exact h5.sr (by rw [h3, HDLL.out]) (by rw [h3]; unfold maxLen; omega)
      clear st1 st2 st3
      generalize sideN L c = S at *
      generalize drawL L c (stuffL t (sizeN L)) = dl at *
      generalize hws : stuffL t (sizeN L) = ws at *
      generalize sizeN L = z at *
      clear hws hs9
      have HDB : Hid (∀ (W : World) (db : Nat), Abv (wr.alloc (symB L c)) W → W.heap.size ≤ db → w.heap.size + 1 < db) := by
        show ∀ (W : World) (db : Nat), _ → _ → _
        intro W db h1 h2
        have y1 := h1.size
        have y2 := HBW.out.size
        have y3 := HRB.out.2.1
        simp at y1
        omega
      obtain ⟨⟨f0, f1, f2⟩, g0, g1⟩ := CFG.out wr HBW.out
      cases hb : okS t per (L, c) with
      | true =>
        rw [hb] at HFI
        have HENC2 := Lib.hid (HENC.out hb)
        have HFIN2 := Lib.hid (fun R W db N k h1 => HFIN.out R W db N k h1 hb)
        clear HENC HFIN hb
        go_wp2_with (first
          | (go_at_call 33; refine (HSZ.out _).mono ?_; rintro e x1 ⟨rfl, hb1⟩; have HX1 : Hid (Abv (wr.alloc (symB L c)) x1) := hb1; have HS1 := Lib.hid ((HSL.out.below hB.out).below (bw1 HX1.out)); clear hb1 f0 f1 f2 g0 g1 e1 e2)
          | (go_at_call 32; refine (HSTU.out _ _ _ _ HS1.out).mono ?_; rintro e x2 ⟨v8, rfl, hs8, hb2⟩; obtain ⟨A8, n8, c8, rfl, hp8⟩ := hs8.parts; have HS8 := Lib.hid hp8; have HX2 : Hid (Abv (wr.alloc (symB L c)) x2) := bwStep HX1.out hb2; have HN8 : Hid (n8 = ws.length) := hp8.hn; have HBX2 : Hid (Below wG.heap.size wG x2) := bwStep HBW.out (bw1 HX2.out); clear hs8 hb2 hp8; obtain ⟨q0, q1⟩ := CFP.out _ HX2.out; obtain ⟨⟨f0, f1, f2⟩, g0, g1⟩ := CFG.out _ HBX2.out)
          | (go_at_call 34; rw [HN8.out]; refine (HFI.out _).mono ?_; rw [← HN8.out]; rintro e x3 ⟨rfl, hb3⟩; have HX3 : Hid (Abv (wr.alloc (symB L c)) x3) := bwStep HX2.out hb3; have HS9 := Lib.hid (HS8.out.below hb3); clear hb3 q0 q1 f0 f1 f2 g0 g1; obtain ⟨q0, q1⟩ := CFP.out _ HX3.out)
          | (go_at_call 35; refine (HENC2.out _ _ _ _ HS9.out).mono ?_; rintro e x4 ⟨db, N, hN, rfl, hr4, hd4, hb4⟩; have HX4 : Hid (Abv (wr.alloc (symB L c)) x4) := bwStep HX3.out hb4; have HR4 := Lib.hid hr4; have HNN := Lib.hid hN; have HD4 := Lib.hid (HDB.out _ _ HX3.out hd4); clear hr4 hd4 hb4 hN q0 q1; have HBX4 : Hid (Below wG.heap.size wG x4) := bwStep HBW.out (bw1 HX4.out); have c0 : (x4).cell? ⟨w.heap.size + 1, 0, none⟩ = some (.int .i64 0) := (HRW.out x4 HBX4.out).cell 0 _ rfl; have c1 : (x4).cell? ⟨w.heap.size + 1, 1, none⟩ = some (.bool false) := (HRW.out x4 HBX4.out).cell 1 _ rfl; have c2 : (x4).cell? ⟨w.heap.size + 1, 2, none⟩ = some (.int .i64 0) := (HRW.out x4 HBX4.out).cell 2 _ rfl; have c3 : (x4).cell? ⟨w.heap.size + 1, 3, none⟩ = some (.int .i64 0) := (HRW.out x4 HBX4.out).cell 3 _ rfl; have c4 : (x4).cell? ⟨w.heap.size + 1, 4, none⟩ = some (.int .i64 0) := (HRW.out x4 HBX4.out).cell 4 _ rfl; have c5 : (x4).cell? ⟨w.heap.size + 1, 5, none⟩ = some (.slice none 0 0) := (HRW.out x4 HBX4.out).cell 5 _ rfl; have d0 : (x4).frozen? ⟨w.heap.size + 1, 0, none⟩ = false := frozen_of_row _ _ _ _ _ ((HRW.out x4 HBX4.out)); have d1 : (x4).frozen? ⟨w.heap.size + 1, 1, none⟩ = false := frozen_of_row _ _ _ _ _ ((HRW.out x4 HBX4.out)); have d2 : (x4).frozen? ⟨w.heap.size + 1, 2, none⟩ = false := frozen_of_row _ _ _ _ _ ((HRW.out x4 HBX4.out)); have d3 : (x4).frozen? ⟨w.heap.size + 1, 3, none⟩ = false := frozen_of_row _ _ _ _ _ ((HRW.out x4 HBX4.out)); have d4 : (x4).frozen? ⟨w.heap.size + 1, 4, none⟩ = false := frozen_of_row _ _ _ _ _ ((HRW.out x4 HBX4.out)); have d5 : (x4).frozen? ⟨w.heap.size + 1, 5, none⟩ = false := frozen_of_row _ _ _ _ _ ((HRW.out x4 HBX4.out))))
        refine bodyPost_ret (v := .tuple #[codeV L c n8 S db N, .int .i64 0]) (by simp [results, Tryz.results12, go_sem, c0, c1, c2, c3, c4, c5, d0, d1, d2, d3, d4, d5]) rfl ⟨HCC.out, fun R hR1 hR2 => ?_⟩
        have hne : db ≠ w.heap.size + 1 := by have := HD4.out; omega
        rw [HTT.out] at hR1 hR2
        obtain rfl := (HFIN2.out R x4 db N n8 hR1 HNN.out HN8.out HR4.out).1
        refine ⟨_, rfl, ?_, ?_⟩
        · rw [HTT.out]
          refine (HFIN2.out _ _ db N n8 hR1 HNN.out HN8.out ?_).2
          exact RowIs.setcO (RowIs.setcO (RowIs.setcO (RowIs.setcO (RowIs.setcO (RowIs.setcO HR4.out _ _ hne) _ _ hne) _ _ hne) _ _ hne) _ _ hne) _ _ hne
        · have HBF : Hid (Below w.heap.size w x4) := HWG.out.trans (HBX4.out.mono HRB.out.2.2)
          exact ((((((HBF.out).setCell HRB.out.1 _).setCell HRB.out.1 _).setCell HRB.out.1 _).setCell HRB.out.1 _).setCell HRB.out.1 _).setCell HRB.out.1 _
      | false =>
        rw [hb] at HFI
        have HFN := Lib.hid (HFS.out.2 hb)
        clear HENC HFIN hb HOK
        go_wp2_with (first
          | (go_at_call 33; refine (HSZ.out _).mono ?_; rintro e x1 ⟨rfl, hb1⟩; have HX1 : Hid (Abv (wr.alloc (symB L c)) x1) := hb1; have HS1 := Lib.hid ((HSL.out.below hB.out).below (bw1 HX1.out)); clear hb1 f0 f1 f2 g0 g1 e1 e2)
          | (go_at_call 32; refine (HSTU.out _ _ _ _ HS1.out).mono ?_; rintro e x2 ⟨v8, rfl, hs8, hb2⟩; obtain ⟨A8, n8, c8, rfl, hp8⟩ := hs8.parts; have HX2 : Hid (Abv (wr.alloc (symB L c)) x2) := bwStep HX1.out hb2; have HN8 : Hid (n8 = ws.length) := hp8.hn; have HBX2 : Hid (Below wG.heap.size wG x2) := bwStep HBW.out (bw1 HX2.out); clear hs8 hb2 hp8; obtain ⟨q0, q1⟩ := CFP.out _ HX2.out; obtain ⟨⟨f0, f1, f2⟩, g0, g1⟩ := CFG.out _ HBX2.out)
          | (go_at_call 34; rw [HN8.out]; refine (HFI.out _).mono ?_; rw [← HN8.out]; rintro e x3 ⟨rfl, hb3⟩; have HX3 : Hid (Abv (wr.alloc (symB L c)) x3) := bwStep HX2.out hb3; clear hb3 q0 q1 f0 f1 f2 g0 g1))
        exact ⟨⟨j + 1, by omega, by go_num, HFN.out, bwStep hB.out (bw1 HX3.out)⟩, by simp [intOf]; omega⟩
    · have HJ : Hid (j = nc) := by show _ = _; omega
      have hjf : decide (j < nc) = false := by simp; omega
      have HPN : Hid (pickS t per 0 Co = none) := by show _ = _; rw [HPK.out]; have := hFJ.out; rw [HJ.out, ← HNC.out, List.take_length] at this; exact this
      have hjn : ¬ j < nc := by omega
      have HBW : Hid (Below wG.heap.size wG wr) := bwStep HBL.out hB.out
      clear hlt hj
      have c0 : (wr).cell? ⟨w.heap.size + 1, 0, none⟩ = some (.int .i64 0) := (HRW.out wr HBW.out).cell 0 _ rfl
      have c1 : (wr).cell? ⟨w.heap.size + 1, 1, none⟩ = some (.bool false) := (HRW.out wr HBW.out).cell 1 _ rfl
      have c2 : (wr).cell? ⟨w.heap.size + 1, 2, none⟩ = some (.int .i64 0) := (HRW.out wr HBW.out).cell 2 _ rfl
      have c3 : (wr).cell? ⟨w.heap.size + 1, 3, none⟩ = some (.int .i64 0) := (HRW.out wr HBW.out).cell 3 _ rfl
      have c4 : (wr).cell? ⟨w.heap.size + 1, 4, none⟩ = some (.int .i64 0) := (HRW.out wr HBW.out).cell 4 _ rfl
      have c5 : (wr).cell? ⟨w.heap.size + 1, 5, none⟩ = some (.slice none 0 0) := (HRW.out wr HBW.out).cell 5 _ rfl
      have d0 : (wr).frozen? ⟨w.heap.size + 1, 0, none⟩ = false := frozen_of_row _ _ _ _ _ ((HRW.out wr HBW.out))
      have d1 : (wr).frozen? ⟨w.heap.size + 1, 1, none⟩ = false := frozen_of_row _ _ _ _ _ ((HRW.out wr HBW.out))
      have d2 : (wr).frozen? ⟨w.heap.size + 1, 2, none⟩ = false := frozen_of_row _ _ _ _ _ ((HRW.out wr HBW.out))
      have d3 : (wr).frozen? ⟨w.heap.size + 1, 3, none⟩ = false := frozen_of_row _ _ _ _ _ ((HRW.out wr HBW.out))
      have d4 : (wr).frozen? ⟨w.heap.size + 1, 4, none⟩ = false := frozen_of_row _ _ _ _ _ ((HRW.out wr HBW.out))
      have d5 : (wr).frozen? ⟨w.heap.size + 1, 5, none⟩ = false := frozen_of_row _ _ _ _ _ ((HRW.out wr HBW.out))
      go_wp2
      refine bodyPost_ret (v := .tuple #[.agg zero6, .int .i64 16]) (by simp [results, Tryz.results12, go_sem, c0, c1, c2, c3, c4, c5, d0, d1, d2, d3, d4, d5]) rfl ⟨HCC.out, fun R hR1 hR2 => ?_⟩
      rw [HTT.out] at hR1 hR2
      obtain rfl := hR2 HPN.out
      refine ⟨_, rfl, rfl, ?_⟩
      have HBF : Hid (Below w.heap.size w wr) := HWG.out.trans (HBW.out.mono HRB.out.2.2)
      exact ((((((HBF.out).setCell HRB.out.1 _).setCell HRB.out.1 _).setCell HRB.out.1 _).setCell HRB.out.1 _).setCell HRB.out.1 _).setCell HRB.out.1 _
set_option maxRecDepth 100000 in
set_option maxHeartbeats 4000000 in
theorem Encode_given (A : Option Addr) (n ca : Nat) (l : List UInt8) (Co : Bool) (Lo : Nat) (hL1 : 1 ≤ Lo) (hL2 : Lo ≤ 32) (hL3 : Co = true → Lo ≤ 4) (per : Nat) (w : World) (hs : SR vU 0 w A n ca l) (n1 : 1 ≤ n) (n2 : n ≤ 60) (p1 : 5 ≤ per) (p2 : per ≤ 90) :
    Calls Tryz.prog 12 #[.slice A n ca, .agg #[.int .i64 (Lo : Int), .bool Co, .int .i64 (per : Int)]] w fun e w' => (∃ C, Cost (bA l) C) ∧ ∀ R, (∀ p, pickS (txtL l) per Lo Co = some p → R = (some p, 0)) → (pickS (txtL l) per Lo Co = none → R = (none, 16)) → EncR w l R e w' := by
  obtain ⟨wG, hwG⟩ : ∃ wG, wG = (((w.alloc (.cells #[.int .i64 (Lo : Int), .bool Co, .int .i64 (per : Int)] 24)).alloc (.cells zero6 30)).alloc (symB Lo Co)) := ⟨_, rfl⟩
  have HWG : Hid (Below w.heap.size w wG) := by show Below _ _ _; rw [hwG]; exact bwAlloc (bwAlloc (bwA _ _) _) _
  have HOR : Hid (RowIs wG w.heap.size #[.int .i64 (Lo : Int), .bool Co, .int .i64 (per : Int)] 24) := by
    show RowIs _ _ _ _
    rw [hwG]
    have h1 : RowIs (w.alloc (.cells #[.int .i64 (Lo : Int), .bool Co, .int .i64 (per : Int)] 24)) w.heap.size #[.int .i64 (Lo : Int), .bool Co, .int .i64 (per : Int)] 24 := RowIs.new _ _ _ _ rfl
    exact (h1.below (bwA _ _)).below (bwA _ _)
  have HRR : Hid (RowIs wG (w.heap.size + 1) zero6 30) := by
    show RowIs _ _ _ _
    rw [hwG]
    have h1 : RowIs ((w.alloc (.cells #[.int .i64 (Lo : Int), .bool Co, .int .i64 (per : Int)] 24)).alloc (.cells zero6 30)) (w.heap.size + 1) zero6 30 := RowIs.new _ _ _ _ (by simp)
    exact h1.below (bwA _ _)
  have HGR : Hid (RowIs wG (w.heap.size + 1 + 1) #[.int .i64 (Lo : Int), .bool Co] 60) := by show RowIs _ _ _ _; rw [hwG]; exact RowIs.new _ _ _ _ (by simp)
  have HRB : Hid (w.heap.size ≤ w.heap.size + 1 ∧ w.heap.size + 1 < wG.heap.size ∧ w.heap.size ≤ wG.heap.size) := by show _ ∧ _; rw [hwG]; simp; omega
  have CFG : Hid (∀ W, Abv wG W → (W.cell? ⟨w.heap.size, 0, none⟩ = some (.int .i64 (Lo : Int)) ∧ W.cell? ⟨w.heap.size, 1, none⟩ = some (.bool Co) ∧ W.cell? ⟨w.heap.size, 2, none⟩ = some (.int .i64 (per : Int))) ∧ W.cell? ⟨w.heap.size + 1 + 1, 0, none⟩ = some (.int .i64 (Lo : Int)) ∧ W.cell? ⟨w.heap.size + 1 + 1, 1, none⟩ = some (.bool Co)) := by
    show ∀ W, _
    intro W hW
    have h1 := HOR.out.below hW
    have h2 := HGR.out.below hW
    exact ⟨⟨h1.cell 0 _ rfl, h1.cell 1 _ rfl, h1.cell 2 _ rfl⟩, h2.cell 0 _ rfl, h2.cell 1 _ rfl⟩
  have HRW : Hid (∀ W, Abv wG W → RowIs W (w.heap.size + 1) zero6 30) := fun W hW => HRR.out.below hW
  have HCV : Hid (∀ W, Below (((w.alloc (.cells #[.int .i64 (Lo : Int), .bool Co, .int .i64 (per : Int)] 24)).alloc (.cells zero6 30)).alloc (symB Lo Co)).heap.size (((w.alloc (.cells #[.int .i64 (Lo : Int), .bool Co, .int .i64 (per : Int)] 24)).alloc (.cells zero6 30)).alloc (symB Lo Co)) W → Below wG.heap.size wG W) := by show ∀ W, _ → _; rw [← hwG]; exact fun W h => h
  have HWE := Lib.hid hwG
  have HN : Hid (n = l.length) := hs.hn
  have HTX : Hid (∀ W, Abv w W → Calls Tryz.prog 30 #[.slice A n ca] W fun e w' => (∃ C, Cost (bA l) C) ∧ RT vB false W (txtL l, 0) e w') := by
    show ∀ W, _ → _
    intro W hW
    refine (Encode_any A n ca l W (hs.below hW) (by omega)).mono ?_
    rintro e w' ⟨C, hC, hr⟩
    refine ⟨⟨C, hC⟩, ?_⟩
    rw [txtL_eq (by rw [← hs.hn]; omega) hC]
    exact hr
  have HTL : Hid ((∃ C, Cost (bA l) C) → (txtL l).length ≤ 501 ∧ 1 ≤ (txtL l).length ∧ ∀ L, LtAll (2 ^ sizeN L) (stuffL (txtL l) (sizeN L)) ∧ (stuffL (txtL l) (sizeN L)).length ≤ 501 ∧ 1 ≤ (stuffL (txtL l) (sizeN L)).length) := by
    show _ → _
    rintro ⟨C, hC⟩
    have h1 := txtL_len (l := l) (by rw [← hs.hn]; omega) hC
    rw [← hs.hn] at h1
    have h2 := txtL_pos (by rw [← hs.hn]; omega) (by rw [← hs.hn]; exact n1) hC
    refine ⟨by omega, h2, fun L => ?_⟩
    obtain ⟨g1, g2, g3, g4⟩ := stuff_facts (l := l) (by rw [← hs.hn]; omega) hC L rfl
    refine ⟨g1, by omega, ?_⟩
    rcases Nat.eq_zero_or_pos (stuffL (txtL l) (sizeN L)).length with h5 | h5
    · rw [h5] at g3; omega
    · exact h5
  have b1 : ¬ (4096 : Int) < (n : Int) := by omega
  have b2 : ((n : Int) == 0) = false := by rw [beq_eq_false_iff_ne]; omega
  have b3 : ¬ n = 0 := by omega
  have b4 : ¬ (per : Int) < 5 := by omega
  have b5 : ¬ (90 : Int) < (per : Int) := by omega
  have b6 : decide (per < 5) = false := by simp; omega
  have b7 : decide (90 < per) = false := by simp; omega
  have hn4096 : n ≤ 4096 := by omega
  obtain ⟨cand, hcand⟩ : ∃ cand, cand = [(Lo, Co)] := ⟨_, rfl⟩
  have HPK : Hid (∀ t, pickS t per Lo Co = cand.find? (okS t per)) := by show ∀ t, _; intro t; unfold pickS candL; rw [hcand]; rw [if_neg (by omega)]
  have HSO : Hid (∀ p ∈ cand, symOk p) := by
    show ∀ p ∈ _, _
    rw [hcand]
    intro p hp
    rw [List.mem_singleton] at hp
    rw [hp]
    exact ⟨hL1, hL2, hL3⟩
  have HCL : Hid (cand.length ≤ 33) := by show _ ≤ _; rw [hcand]; show 1 ≤ 33; omega
  have HCD := Lib.hid hcand
  obtain ⟨⟨f0, f1, f2⟩, g0, g1⟩ := CFG.out wG (Below.refl _ _)
  rw [HWE.out] at f0 f1 f2 g0 g1
  have HS := Lib.hid hs
  clear hs hcand n1 hwG
  have a4' : ((Lo : Int) == 0) = false := by rw [beq_eq_false_iff_ne]; omega
  have a4'' : ¬ Lo = 0 := by omega
  have HEX : Hid (∀ W, Calls Tryz.prog 29 #[symv Lo Co] W fun e w' => e = .returned (.bool true) ∧ Below W.heap.size W w') := fun W => by rw [← exB_of hL1 hL2 hL3]; exact exists_any Lo Co W
  have HLT : Hid (∀ W : World, RY2 (W.alloc (.cells #[.int .i64 (Lo : Int), .bool Co] 60)) (some ⟨W.heap.size, 0, none⟩) cand) := by
    show ∀ W : World, _
    intro W
    obtain ⟨A', c', e, -, -, h⟩ := SY.lit W [(Lo, Co)] 60 W.heap.size 1 rfl rfl (by unfold maxLen; omega)
    injection e with e1 _ _
    rw [HCD.out, e1]; exact h
  clear hL3
  go_enter Tryz.func12, Tryz.ntmps12
  go_wp2_with (first
    | (go_at_call 29; refine (HEX.out _).mono ?_; rintro e w1 ⟨rfl, hb1⟩; have HB1 : Hid (Below wG.heap.size wG w1) := HCV.out _ hb1; clear hb1 f0 f1 f2 g0 g1; obtain ⟨⟨f0, f1, f2⟩, g0, g1⟩ := CFG.out _ HB1.out)
    | (go_at_call 30; refine (HTX.out _ (bwStep HWG.out HB1.out)).mono ?_; rintro e w2 ⟨hC, v2, rfl, hs2, hb2⟩; obtain ⟨A7, n7, c7, rfl, hp2⟩ := hs2.parts; have HC := Lib.hid (HTL.out hC); have HCC := Lib.hid hC; have HS7 := Lib.hid hp2; have HB2 : Hid (Below wG.heap.size wG w2) := bwStep HB1.out hb2; clear hC hs2 hb2 f0 f1 f2 g0 g1; obtain ⟨⟨f0, f1, f2⟩, g0, g1⟩ := CFG.out _ HB2.out; obtain ⟨⟨k0, k1, k2⟩, -, -⟩ := CFG.out _ (bwAlloc HB2.out (.cells #[.int .i64 (Lo : Int), .bool Co] 60))))
  have HLL := Lib.hid (HLT.out w2)
  have HBL : Hid (Below wG.heap.size wG (w2.alloc (.cells #[.int .i64 (Lo : Int), .bool Co] 60))) := bwAlloc HB2.out _
  have HSL := Lib.hid (HS7.out.below (bwA w2 (.cells #[.int .i64 (Lo : Int), .bool Co] 60)))
  have HNC : Hid (cand.length = 1) := by show _ = _; rw [HCD.out]; rfl
  generalize hwL : w2.alloc (.cells #[.int .i64 (Lo : Int), .bool Co] 60) = wL at *
  clear hwL f0 f1 f2 g0 g1 k0 k1 k2
  generalize h9 : (some ⟨w2.heap.size, 0, none⟩ : Option Addr) = A9 at *
  clear h9
  have HF0 : Hid (∀ t, (cand.take 0).find? (okS t per) = none) := fun t => rfl
  obtain ⟨h501, ht1, hST⟩ := HC.out
  have HST := Lib.hid hST
  have HN7 : Hid (n7 = (txtL l).length) := HSL.out.hn
  have h7 : n7 ≤ 501 := by rw [HN7.out]; exact h501
  clear hST ht1 h501
  obtain ⟨t, HTT⟩ : ∃ t, Hid (txtL l = t) := ⟨_, rfl⟩
  rw [HTT.out] at HSL HN7 HST
  go_loopw [64] (fun iv wr => ∃ j : Nat, j ≤ 1 ∧ iv = .int .i64 j ∧ Hid ((cand.take j).find? (okS t per) = none) ∧ Hid (Abv wL wr)) (fun iv _ => 1 - (intOf iv).toNat)
  case atStart => exact ⟨0, Nat.zero_le _, rfl, HF0.out t, Below.refl _ _⟩
  case round =>
    clear HF0
    obtain ⟨j, hj, rfl, hFJ, hB⟩ := hrel
    by_cases hlt : j < 1
    · have hltc : j < cand.length := by rw [HNC.out]; exact hlt
      obtain ⟨gg, oo, rfl, hgw, hcg⟩ := HLL.out (by omega)
      have hxy := hcg j hltc
      have hpm : cand.getD j (0, false) ∈ cand := by
        simp only [List.getD, List.getElem?_eq_getElem hltc, Option.getD_some]; exact List.getElem_mem hltc
      have hok := HSO.out _ hpm
      have HFS := Lib.hid (find_step (okS t per) cand (0, false) j hltc hFJ.out)
      have e1 : wr.cell? ⟨gg, oo + j * 2, none⟩ = some (.int .i64 ((cand.getD j (0, false)).1 : Int)) := (hB.out.cell (p := ⟨gg, oo + j * 2, none⟩) hgw).trans hxy.1
      have e2 : wr.cell? ⟨gg, oo + j * 2 + 1, none⟩ = some (.bool (cand.getD j (0, false)).2) := (hB.out.cell (p := ⟨gg, oo + j * 2 + 1, none⟩) hgw).trans hxy.2
      generalize cand.getD j (0, false) = p at *
      obtain ⟨L, c⟩ := p
      obtain ⟨o1, o2, o3⟩ := hok
      have o1 : 1 ≤ L := o1
      have o2 : L ≤ 32 := o2
      have e1 : wr.cell? ⟨gg, oo + j * 2, none⟩ = some (.int .i64 (L : Int)) := e1
      have e2 : wr.cell? ⟨gg, oo + j * 2 + 1, none⟩ = some (.bool c) := e2
      have HO3 : Hid (c = true → L ≤ 4) := o3
      clear o3 hxy hcg hpm
      have CFP := sym_cells wr L c
      have HBW : Hid (Below wG.heap.size wG wr) := bwStep HBL.out hB.out
      have HSZ : Hid (∀ W, Calls Tryz.prog 33 #[symv L c] W fun e w' => e = .returned (.int .i64 ((sizeN L : Nat) : Int)) ∧ Below W.heap.size W w') := fun W => size_any L c W o2
      have HSTU : Hid (∀ W A m c', SR vB false W A m c' t → Calls Tryz.prog 32 #[.slice A m c', .int .i64 ((sizeN L : Nat) : Int)] W (RT vN 0 W (stuffL t (sizeN L), 0))) := by
        show ∀ W A m c', _ → _
        intro W A m c' h9
        have h := Stuff_any A m c' ((sizeN L : Nat) : Int) t W h9
        rw [stuffRes_ok (by rw [← HN7.out]; omega)] at h
        exact h
      obtain ⟨st1, st2, st3⟩ := HST.out L
      have HFI : Hid (∀ W, Calls Tryz.prog 34 #[symv L c, .int .i64 ((stuffL t (sizeN L)).length : Int), .int .i64 (n7 : Int), .int .i64 (per : Int)] W fun e w' => e = .returned (.bool (okS t per (L, c))) ∧ Below W.heap.size W w') := fun W => by
        have h := fits_any L c (stuffL t (sizeN L)).length n7 per W o2 (by omega) (by omega) (by omega)
        rw [HN7.out] at h ⊢
        exact h
      have HOK : Hid (okS t per (L, c) = true → (stuffL t (sizeN L)).length ≤ mostN c ∧ (stuffL t (sizeN L)).length < wordsN L c) := by
        show _ → _
        intro h
        exact fit_words h o1 o2 st3
      have HENC : Hid (okS t per (L, c) = true → ∀ W A m c', SR vN 0 W A m c' (stuffL t (sizeN L)) → Calls Tryz.prog 35 #[symv L c, .slice A m c'] W fun e w' => ∃ db N, N = sideN L c * sideN L c ∧ e = .returned (.tuple #[codeV L c m (sideN L c) db N, .int .i64 0]) ∧ RowB w' db (drawL L c (stuffL t (sizeN L))) ∧ W.heap.size ≤ db ∧ Below W.heap.size W w') := fun h W A m c' h9 =>
        encode_any L c _ A m c' W o1 o2 HO3.out st1 st3 (HOK.out h).1 (HOK.out h).2 h9
      have hs9 : (sideN L c) * (sideN L c) ≤ 161 * 161 := by have := (side_big L c o1 o2).2; exact Nat.mul_le_mul this this
      have HDLL : Hid ((drawL L c (stuffL t (sizeN L))).length = sideN L c * sideN L c) := matL_length _ _ _ _
      have HFIN : Hid (∀ (R : Option (Nat × Bool) × Int) (W : World) (db N k : Nat), (∀ p, pickS t per Lo Co = some p → R = (some p, 0)) → okS t per (L, c) = true → N = sideN L c * sideN L c → k = (stuffL t (sizeN L)).length → RowB W db (drawL L c (stuffL t (sizeN L))) → R = (some (L, c), 0) ∧ CodeV W (codeV L c k (sideN L c) db N) t (some (L, c))) := by
        show ∀ (R : Option (Nat × Bool) × Int) (W : World) (db N k : Nat), _ → _ → _ → _ → _ → _
        intro R W db N k h1 h2 h3 h4 h5
        refine ⟨h1 _ (by rw [HPK.out]; exact HFS.out.1 h2), ⟨some ⟨db, 0, none⟩, N, N, h3, by rw [h4], ?_⟩⟩
        exact h5.sr (by rw [h3, HDLL.out]) (by rw [h3]; unfold maxLen; omega)
      clear st1 st2 st3
      generalize sideN L c = S at *
      generalize drawL L c (stuffL t (sizeN L)) = dl at *
      generalize hws : stuffL t (sizeN L) = ws at *
      generalize sizeN L = z at *
      clear hws hs9
      have HDB : Hid (∀ (W : World) (db : Nat), Abv (wr.alloc (symB L c)) W → W.heap.size ≤ db → w.heap.size + 1 < db) := by
        show ∀ (W : World) (db : Nat), _ → _ → _
        intro W db h1 h2
        have y1 := h1.size
        have y2 := HBW.out.size
        have y3 := HRB.out.2.1
        simp at y1
        omega
      obtain ⟨⟨f0, f1, f2⟩, g0, g1⟩ := CFG.out wr HBW.out
      cases hb : okS t per (L, c) with
      | true =>
        rw [hb] at HFI
        have HENC2 := Lib.hid (HENC.out hb)
        have HFIN2 := Lib.hid (fun R W db N k h1 => HFIN.out R W db N k h1 hb)
        clear HENC HFIN hb
        go_wp2_with (first
          | (go_at_call 33; refine (HSZ.out _).mono ?_; rintro e x1 ⟨rfl, hb1⟩; have HX1 : Hid (Abv (wr.alloc (symB L c)) x1) := hb1; have HS1 := Lib.hid ((HSL.out.below hB.out).below (bw1 HX1.out)); clear hb1 f0 f1 f2 g0 g1 e1 e2)
          | (go_at_call 32; refine (HSTU.out _ _ _ _ HS1.out).mono ?_; rintro e x2 ⟨v8, rfl, hs8, hb2⟩; obtain ⟨A8, n8, c8, rfl, hp8⟩ := hs8.parts; have HS8 := Lib.hid hp8; have HX2 : Hid (Abv (wr.alloc (symB L c)) x2) := bwStep HX1.out hb2; have HN8 : Hid (n8 = ws.length) := hp8.hn; have HBX2 : Hid (Below wG.heap.size wG x2) := bwStep HBW.out (bw1 HX2.out); clear hs8 hb2 hp8; obtain ⟨q0, q1⟩ := CFP.out _ HX2.out; obtain ⟨⟨f0, f1, f2⟩, g0, g1⟩ := CFG.out _ HBX2.out)
          | (go_at_call 34; rw [HN8.out]; refine (HFI.out _).mono ?_; rw [← HN8.out]; rintro e x3 ⟨rfl, hb3⟩; have HX3 : Hid (Abv (wr.alloc (symB L c)) x3) := bwStep HX2.out hb3; have HS9 := Lib.hid (HS8.out.below hb3); clear hb3 q0 q1 f0 f1 f2 g0 g1; obtain ⟨q0, q1⟩ := CFP.out _ HX3.out)
          | (go_at_call 35; refine (HENC2.out _ _ _ _ HS9.out).mono ?_; rintro e x4 ⟨db, N, hN, rfl, hr4, hd4, hb4⟩; have HX4 : Hid (Abv (wr.alloc (symB L c)) x4) := bwStep HX3.out hb4; have HR4 := Lib.hid hr4; have HNN := Lib.hid hN; have HD4 := Lib.hid (HDB.out _ _ HX3.out hd4); clear hr4 hd4 hb4 hN q0 q1; have HBX4 : Hid (Below wG.heap.size wG x4) := bwStep HBW.out (bw1 HX4.out); have c0 : (x4).cell? ⟨w.heap.size + 1, 0, none⟩ = some (.int .i64 0) := (HRW.out x4 HBX4.out).cell 0 _ rfl; have c1 : (x4).cell? ⟨w.heap.size + 1, 1, none⟩ = some (.bool false) := (HRW.out x4 HBX4.out).cell 1 _ rfl; have c2 : (x4).cell? ⟨w.heap.size + 1, 2, none⟩ = some (.int .i64 0) := (HRW.out x4 HBX4.out).cell 2 _ rfl; have c3 : (x4).cell? ⟨w.heap.size + 1, 3, none⟩ = some (.int .i64 0) := (HRW.out x4 HBX4.out).cell 3 _ rfl; have c4 : (x4).cell? ⟨w.heap.size + 1, 4, none⟩ = some (.int .i64 0) := (HRW.out x4 HBX4.out).cell 4 _ rfl; have c5 : (x4).cell? ⟨w.heap.size + 1, 5, none⟩ = some (.slice none 0 0) := (HRW.out x4 HBX4.out).cell 5 _ rfl; have d0 : (x4).frozen? ⟨w.heap.size + 1, 0, none⟩ = false := frozen_of_row _ _ _ _ _ ((HRW.out x4 HBX4.out)); have d1 : (x4).frozen? ⟨w.heap.size + 1, 1, none⟩ = false := frozen_of_row _ _ _ _ _ ((HRW.out x4 HBX4.out)); have d2 : (x4).frozen? ⟨w.heap.size + 1, 2, none⟩ = false := frozen_of_row _ _ _ _ _ ((HRW.out x4 HBX4.out)); have d3 : (x4).frozen? ⟨w.heap.size + 1, 3, none⟩ = false := frozen_of_row _ _ _ _ _ ((HRW.out x4 HBX4.out)); have d4 : (x4).frozen? ⟨w.heap.size + 1, 4, none⟩ = false := frozen_of_row _ _ _ _ _ ((HRW.out x4 HBX4.out)); have d5 : (x4).frozen? ⟨w.heap.size + 1, 5, none⟩ = false := frozen_of_row _ _ _ _ _ ((HRW.out x4 HBX4.out))))
        refine bodyPost_ret (v := .tuple #[codeV L c n8 S db N, .int .i64 0]) (by simp [results, Tryz.results12, go_sem, c0, c1, c2, c3, c4, c5, d0, d1, d2, d3, d4, d5]) rfl ⟨HCC.out, fun R hR1 hR2 => ?_⟩
        have hne : db ≠ w.heap.size + 1 := by have := HD4.out; omega
        rw [HTT.out] at hR1 hR2
        obtain rfl := (HFIN2.out R x4 db N n8 hR1 HNN.out HN8.out HR4.out).1
        refine ⟨_, rfl, ?_, ?_⟩
        · rw [HTT.out]
          refine (HFIN2.out _ _ db N n8 hR1 HNN.out HN8.out ?_).2
          exact RowIs.setcO (RowIs.setcO (RowIs.setcO (RowIs.setcO (RowIs.setcO (RowIs.setcO HR4.out _ _ hne) _ _ hne) _ _ hne) _ _ hne) _ _ hne) _ _ hne
        · have HBF : Hid (Below w.heap.size w x4) := HWG.out.trans (HBX4.out.mono HRB.out.2.2)
          exact ((((((HBF.out).setCell HRB.out.1 _).setCell HRB.out.1 _).setCell HRB.out.1 _).setCell HRB.out.1 _).setCell HRB.out.1 _).setCell HRB.out.1 _
      | false =>
        rw [hb] at HFI
        have HFN := Lib.hid (HFS.out.2 hb)
        clear HENC HFIN hb HOK
        go_wp2_with (first
          | (go_at_call 33; refine (HSZ.out _).mono ?_; rintro e x1 ⟨rfl, hb1⟩; have HX1 : Hid (Abv (wr.alloc (symB L c)) x1) := hb1; have HS1 := Lib.hid ((HSL.out.below hB.out).below (bw1 HX1.out)); clear hb1 f0 f1 f2 g0 g1 e1 e2)
          | (go_at_call 32; refine (HSTU.out _ _ _ _ HS1.out).mono ?_; rintro e x2 ⟨v8, rfl, hs8, hb2⟩; obtain ⟨A8, n8, c8, rfl, hp8⟩ := hs8.parts; have HX2 : Hid (Abv (wr.alloc (symB L c)) x2) := bwStep HX1.out hb2; have HN8 : Hid (n8 = ws.length) := hp8.hn; have HBX2 : Hid (Below wG.heap.size wG x2) := bwStep HBW.out (bw1 HX2.out); clear hs8 hb2 hp8; obtain ⟨q0, q1⟩ := CFP.out _ HX2.out; obtain ⟨⟨f0, f1, f2⟩, g0, g1⟩ := CFG.out _ HBX2.out)
          | (go_at_call 34; rw [HN8.out]; refine (HFI.out _).mono ?_; rw [← HN8.out]; rintro e x3 ⟨rfl, hb3⟩; have HX3 : Hid (Abv (wr.alloc (symB L c)) x3) := bwStep HX2.out hb3; clear hb3 q0 q1 f0 f1 f2 g0 g1))
        exact ⟨⟨j + 1, by omega, by go_num, HFN.out, bwStep hB.out (bw1 HX3.out)⟩, by simp [intOf]; omega⟩
    · have HJ : Hid (j = 1) := by show _ = _; omega
      have hjf : decide (j < 1) = false := by simp; omega
      have HPN : Hid (pickS t per Lo Co = none) := by show _ = _; rw [HPK.out]; have := hFJ.out; rw [HJ.out, ← HNC.out, List.take_length] at this; exact this
      have hjn : ¬ j < 1 := by omega
      have HBW : Hid (Below wG.heap.size wG wr) := bwStep HBL.out hB.out
      clear hlt hj
      have c0 : (wr).cell? ⟨w.heap.size + 1, 0, none⟩ = some (.int .i64 0) := (HRW.out wr HBW.out).cell 0 _ rfl
      have c1 : (wr).cell? ⟨w.heap.size + 1, 1, none⟩ = some (.bool false) := (HRW.out wr HBW.out).cell 1 _ rfl
      have c2 : (wr).cell? ⟨w.heap.size + 1, 2, none⟩ = some (.int .i64 0) := (HRW.out wr HBW.out).cell 2 _ rfl
      have c3 : (wr).cell? ⟨w.heap.size + 1, 3, none⟩ = some (.int .i64 0) := (HRW.out wr HBW.out).cell 3 _ rfl
      have c4 : (wr).cell? ⟨w.heap.size + 1, 4, none⟩ = some (.int .i64 0) := (HRW.out wr HBW.out).cell 4 _ rfl
      have c5 : (wr).cell? ⟨w.heap.size + 1, 5, none⟩ = some (.slice none 0 0) := (HRW.out wr HBW.out).cell 5 _ rfl
      have d0 : (wr).frozen? ⟨w.heap.size + 1, 0, none⟩ = false := frozen_of_row _ _ _ _ _ ((HRW.out wr HBW.out))
      have d1 : (wr).frozen? ⟨w.heap.size + 1, 1, none⟩ = false := frozen_of_row _ _ _ _ _ ((HRW.out wr HBW.out))
      have d2 : (wr).frozen? ⟨w.heap.size + 1, 2, none⟩ = false := frozen_of_row _ _ _ _ _ ((HRW.out wr HBW.out))
      have d3 : (wr).frozen? ⟨w.heap.size + 1, 3, none⟩ = false := frozen_of_row _ _ _ _ _ ((HRW.out wr HBW.out))
      have d4 : (wr).frozen? ⟨w.heap.size + 1, 4, none⟩ = false := frozen_of_row _ _ _ _ _ ((HRW.out wr HBW.out))
      have d5 : (wr).frozen? ⟨w.heap.size + 1, 5, none⟩ = false := frozen_of_row _ _ _ _ _ ((HRW.out wr HBW.out))
      go_wp2
      refine bodyPost_ret (v := .tuple #[.agg zero6, .int .i64 16]) (by simp [results, Tryz.results12, go_sem, c0, c1, c2, c3, c4, c5, d0, d1, d2, d3, d4, d5]) rfl ⟨HCC.out, fun R hR1 hR2 => ?_⟩
      rw [HTT.out] at hR1 hR2
      obtain rfl := hR2 HPN.out
      refine ⟨_, rfl, rfl, ?_⟩
      have HBF : Hid (Below w.heap.size w wr) := HWG.out.trans (HBW.out.mono HRB.out.2.2)
      exact ((((((HBF.out).setCell HRB.out.1 _).setCell HRB.out.1 _).setCell HRB.out.1 _).setCell HRB.out.1 _).setCell HRB.out.1 _).setCell HRB.out.1 _
theorem Encode_full (A : Option Addr) (n ca : Nat) (l : List UInt8) (Lo : Int) (Co : Bool) (per : Int) (w : World) (hs : SR vU 0 w A n ca l) (hl : l.length ≤ 60 ∨ 4096 < l.length) :
    Calls Tryz.prog 12 #[.slice A n ca, .agg #[.int .i64 Lo, .bool Co, .int .i64 per]] w fun e w' => (encErr l.length Lo Co per = 0 → ∃ C, Cost (bA l) C) ∧ EncR w l (encZ l Lo Co per) e w' := by
  have hn63 : n ≤ 9223372036854775807 := by have := hs.hm; have := hs.hc; unfold maxLen at *; omega
  have hn : n = l.length := hs.hn
  have hE : encErr l.length Lo Co per = if 4096 < l.length then 4 else if l.length = 0 then 5 else if Lo ≠ 0 ∧ exB Lo Co = false then 14 else if per < 5 ∨ 90 < per then 3 else 0 := rfl
  have herr : ∀ k : Int, encErr l.length Lo Co per = k → k ≠ 0 → Calls Tryz.prog 12 #[.slice A n ca, .agg #[.int .i64 Lo, .bool Co, .int .i64 per]] w (EncR w l (none, k)) → Calls Tryz.prog 12 #[.slice A n ca, .agg #[.int .i64 Lo, .bool Co, .int .i64 per]] w fun e w' => (encErr l.length Lo Co per = 0 → ∃ C, Cost (bA l) C) ∧ EncR w l (encZ l Lo Co per) e w' := by
    intro k h1 h2 h3
    refine h3.mono fun e w' h => ⟨fun h0 => absurd (h1.symm.trans h0) h2, ?_⟩
    unfold encZ
    rw [h1, if_pos h2]
    exact h
  by_cases a1 : 4096 < l.length
  · exact herr 4 (by rw [hE, if_pos a1]) (by decide) (Encode_e4 A n ca l Lo Co per w (by omega) hn63)
  by_cases a2 : l.length = 0
  · have : n = 0 := by omega
    subst this
    exact herr 5 (by rw [hE, if_neg a1, if_pos a2]) (by decide) (Encode_e5 A ca l Lo Co per w)
  by_cases a3 : Lo ≠ 0 ∧ exB Lo Co = false
  · exact herr 14 (by rw [hE, if_neg a1, if_neg a2, if_pos a3]) (by decide) (Encode_e14 A n ca l Lo Co per w (by omega) (by omega) a3.1 a3.2 hn63)
  have hx : Lo ≠ 0 → exB Lo Co = true := fun h => by
    cases hx : exB Lo Co with
    | true => rfl
    | false => exact absurd ⟨h, hx⟩ a3
  by_cases a4 : per < 5 ∨ 90 < per
  · refine herr 3 (by rw [hE, if_neg a1, if_neg a2, if_neg a3, if_pos a4]) (by decide) ?_
    by_cases h0 : Lo = 0
    · subst h0
      by_cases h5 : per < 5
      · exact Encode_e3c A n ca l Co per w (by omega) (by omega) h5 hn63
      · exact Encode_e3d A n ca l Co per w (by omega) (by omega) h5 (by omega) hn63
    · by_cases h5 : per < 5
      · exact Encode_e3a A n ca l Lo Co per w (by omega) (by omega) h0 (hx h0) h5 hn63
      · exact Encode_e3b A n ca l Lo Co per w (by omega) (by omega) h0 (hx h0) h5 (by omega) hn63
  have hz : encErr l.length Lo Co per = 0 := by rw [hE, if_neg a1, if_neg a2, if_neg a3, if_neg a4]
  obtain ⟨q, rfl⟩ : ∃ q : Nat, per = q := ⟨per.toNat, by omega⟩
  by_cases h0 : Lo = 0
  · subst h0
    refine (Encode_zero A n ca l Co q w hs (by omega) (by omega) (by omega) (by omega)).mono ?_
    rintro e w' ⟨h1, h2⟩
    refine ⟨fun _ => h1, h2 _ (fun p hp => ?_) (fun hp => ?_)⟩
    · unfold encZ
      rw [hz, if_neg (by decide)]
      show (match pickS (txtL l) q 0 Co with | some p => (some p, (0 : Int)) | none => (none, 16)) = _
      rw [hp]
    · unfold encZ
      rw [hz, if_neg (by decide)]
      show (match pickS (txtL l) q 0 Co with | some p => (some p, (0 : Int)) | none => (none, 16)) = _
      rw [hp]
  · obtain ⟨k, rfl, k1, k2, k3⟩ := exB_nat (hx h0)
    refine (Encode_given A n ca l Co k k1 k2 k3 q w hs (by omega) (by omega) (by omega) (by omega)).mono ?_
    rintro e w' ⟨h1, h2⟩
    refine ⟨fun _ => h1, h2 _ (fun p hp => ?_) (fun hp => ?_)⟩
    · unfold encZ
      rw [hz, if_neg (by decide)]
      show (match pickS (txtL l) q k Co with | some p => (some p, (0 : Int)) | none => (none, 16)) = _
      rw [hp]
    · unfold encZ
      rw [hz, if_neg (by decide)]
      show (match pickS (txtL l) q k Co with | some p => (some p, (0 : Int)) | none => (none, 16)) = _
      rw [hp]
end Go.Proofs.YtmnlkganmgcpbaaGreatDoor
