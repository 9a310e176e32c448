import Derived.Test.YtmnlkganmgcpbaaGreatDoorQa30
namespace Go.Proofs.YtmnlkganmgcpbaaGreatDoor
open Go.RowKit
set_option linter.unusedVariables false
set_option linter.unusedSectionVars false
set_option linter.unusedSimpArgs false
theorem rN_eq (L : Nat) (c : Bool) (i : Nat) : rN L c i = if c = true then 4 * (L - i) + 9 else 4 * (L - i) + 12 := rfl
def SPf (n : Nat) (w : World) (v : Value) (xs : List Pt) : Prop := SP w v xs ∧ ∀ A m k ad, v = .slice A m k → A = some ad → n ≤ ad.block
theorem SPf.of_own {W : World} {base : Nat} {e : TypeId} {n : Nat} {v : Value} {xs : List Pt} (h : W.ownsRow base e 2 v n (xs.flatMap ptV)) : SPf base W v xs := by
  refine ⟨SP.of_own h, fun A m k ad e1 e2 => ?_⟩
  subst e1 e2
  rcases h.2 with ⟨h1, -⟩ | ⟨g, cap, cur, h1, h2, -⟩
  · cases h1
  · injection h1 with h1 _ _
    injection h1 with h1
    rw [h1]; exact h2
theorem SPf.below {n : Nat} {W W' : World} {v : Value} {xs : List Pt} (h : SPf n W v xs) (hb : Below W.heap.size W W') : SPf n W' v xs := ⟨h.1.below hb, h.2⟩
theorem SPf.mono {n m : Nat} {W : World} {v : Value} {xs : List Pt} (h : SPf n W v xs) (hm : m ≤ n) : SPf m W v xs := ⟨h.1, fun A a k ad e1 e2 => Nat.le_trans hm (h.2 A a k ad e1 e2)⟩
theorem app22 (a b c d : Value) : (#[a, b] ++ #[c, d] : Array Value) = #[a, b, c, d] := by simp
theorem app23 (a b c d e : Value) : (#[a, b] ++ #[c, d, e] : Array Value) = #[a, b, c, d, e] := by simp
set_option maxRecDepth 100000 in
set_option maxHeartbeats 3000000 in
theorem path_true (L : Nat) (w : World) (hL : L ≤ 32) : Calls Tryz.prog 46 #[symv L true] w fun e w' => ∃ v, e = .returned v ∧ SPf w.heap.size w' v (dataL L true) ∧ Below w.heap.size w w' := by
  obtain ⟨i0, hi, hz0, hz1, hz2⟩ := info_parts ptInfo
  have CF := sym_cells w L true
  have HPO : Hid (∀ W, Calls Tryz.prog 92 #[symv L true] W fun e w' => ∃ hb cb, e = .returned (.func (Fn.func 137) #[] #[]) ∧ (true = false → HC L w' hb cb) ∧ Below W.heap.size W w') := fun W => positions_any L true W hL
  have HBA : Hid (∀ W, Calls Tryz.prog 85 #[symv L true] W fun e w' => e = .returned (.int .i64 ((baseN L true : Nat) : Int)) ∧ Below W.heap.size W w') := fun W => base_any L true W hL
  have HRM : Hid (∀ W, Calls Tryz.prog 89 #[symv L true] W fun e w' => e = .returned (.int .i64 ((roomN L true : Nat) : Int)) ∧ Below W.heap.size W w') := fun W => room_any L true W hL
  have HHL : Hid (L ≤ 32) := hL
  have HBL := Lib.hid (base_le (c := true) hL)
  have HRL := Lib.hid (room_le (c := true) hL)
  obtain ⟨b1, b2⟩ := HBL.out
  have hroom := HRL.out
  obtain ⟨la, hla⟩ : ∃ la, la = baseN L true - 1 := ⟨_, rfl⟩
  have hla2 : ((baseN L true : Nat) : Int) - 1 = (la : Int) := by omega
  have HLA := Lib.hid hla
  have hla9 : la ≤ 141 := by omega
  obtain ⟨R, hR⟩ : ∃ R, R = roomN L true := ⟨_, rfl⟩
  rw [← hR] at HRM hroom
  clear hla hR
  obtain ⟨B, hB⟩ : ∃ B, B = baseN L true := ⟨_, rfl⟩
  rw [← hB] at HBA b1 b2 hla2
  clear hB
  obtain ⟨wS, hwS⟩ : ∃ wS, wS = w.alloc (symB L true) := ⟨_, rfl⟩
  have HWS : Hid (Below w.heap.size w wS) := by show Below _ _ _; rw [hwS]; exact bwA _ _
  have HSR : Hid (RowIs wS w.heap.size #[.int .i64 L, .bool true] 60) := by show RowIs _ _ _ _; rw [hwS]; exact RowIs.new _ _ _ _ (by simp)
  rw [← hwS] at CF
  obtain ⟨f0, f1⟩ := CF.out _ (Below.refl _ _)
  rw [hwS] at f0 f1
  have hsf : ∀ (W : World) (a : Addr) (g : Fn) (b c : Array Value), (store a (.func g b c)).run Tryz.prog W = stored Tryz.prog W a (.func g b c) .plain := fun W a g b c => run_store _ W a _ _ rfl
  go_enter Tryz.func46, Tryz.ntmps46
  go_wp2_with (first
    | (go_at_call 92; refine (HPO.out _).mono ?_; rintro e w1 ⟨hb, cb, rfl, hc1, hb1⟩; rw [← hwS] at hb1; have HB1 := Lib.hid hb1; have HC1 := Lib.hid hc1; clear hb1 hc1 f0 f1; obtain ⟨f0, f1⟩ := CF.out _ HB1.out; have s1 : w.heap.size < w1.heap.size := lt_of_heap (HSR.out.below HB1.out))
    | (go_at_call 85; refine (HBA.out _).mono ?_; rintro e w2 ⟨rfl, hb2⟩; have HB2 := Lib.hid hb2; clear hb2 f0 f1; obtain ⟨f0, f1⟩ := CF.out _ (bwStep (bwAlloc HB1.out _) HB2.out); have s2 : w.heap.size < w2.heap.size := lt_of_heap (HSR.out.below (bwStep (bwAlloc HB1.out _) HB2.out)))
    | (go_at_call 89; refine (HRM.out _).mono ?_; rintro e w3 ⟨rfl, hb3⟩; have HB3 := Lib.hid hb3; clear hb3 f0 f1; obtain ⟨f0, f1⟩ := CF.out _ (bwStep (bwAlloc (bwStep (bwAlloc HB1.out _) HB2.out) _) HB3.out); have s3 : w.heap.size < w3.heap.size := lt_of_heap (HSR.out.below (bwStep (bwAlloc (bwStep (bwAlloc HB1.out _) HB2.out) _) HB3.out)))
    | (at_make; refine wpList_make_own _ rfl _ _ _ rfl w3.heap.size 47 i0 _ 2 Tryz.underlying40 hi hz0 hz1 .i64 .i64 _ R rfl rfl (by first | rfl | omega) (by rw [hz2]; omega) (by unfold maxLen; omega) (Nat.le_refl _) ?_; intro w4 hown hg; have HO4 := Lib.hid hown; have HG4 : Hid (Below w3.heap.size w3 w4) := (Below.refl _ _).grown hg (Nat.le_refl _) (fun q hq => by cases hq); clear hown hg f0 f1; obtain ⟨f0, f1⟩ := CF.out _ (bwStep (bwStep (bwAlloc (bwStep (bwAlloc HB1.out _) HB2.out) _) HB3.out) HG4.out); have s4 : w.heap.size < w4.heap.size := lt_of_heap (HSR.out.below (bwStep (bwStep (bwAlloc (bwStep (bwAlloc HB1.out _) HB2.out) _) HB3.out) HG4.out))))
  obtain ⟨w5, hw5⟩ : ∃ w5, w5 = w4.alloc (.cells #[.slice (some ⟨w3.heap.size, 0, none⟩) 0 R] 40) := ⟨_, rfl⟩
  obtain ⟨bb, hbb⟩ : ∃ bb, bb = w4.heap.size := ⟨_, rfl⟩
  have HB5 : Hid (Below w3.heap.size w3 w5) := by show Below _ _ _; rw [hw5]; exact bwAlloc HG4.out _
  obtain ⟨pb, hpb⟩ : ∃ pb, pb = w1.heap.size := ⟨_, rfl⟩
  obtain ⟨lb, hlb⟩ : ∃ lb, lb = w2.heap.size := ⟨_, rfl⟩
  have hpr : RowIs (w1.alloc (.cells #[.func (Fn.func 137) #[] #[]] 77)) w1.heap.size #[.func (Fn.func 137) #[] #[]] 77 := RowIs.new _ _ _ _ (by simp)
  have hlr : RowIs (w2.alloc (.cells #[.int .i64 (la : Int)] 3)) w2.heap.size #[.int .i64 (la : Int)] 3 := RowIs.new _ _ _ _ (by simp)
  have hst : Below w2.heap.size w2 w3 := bw1 HB3.out
  have HPE : Hid (PEnv L true pb lb hb cb w5) := by
    show PEnv _ _ _ _ _ _ _
    refine ⟨?_, ?_, fun e => ?_⟩
    · rw [hpb]; exact ((hpr.below HB2.out).below hst).below HB5.out
    · rw [hlb, ← HLA.out]; exact (hlr.below HB3.out).below HB5.out
    · have h9 : Below w1.heap.size w1 w5 := bwStep (bwStep (bw1 HB2.out) hst) HB5.out
      have h8 : HC L w1 hb cb := by first | exact HC1.out e | exact HC1.out trivial | cases e
      exact ⟨h8.1.below h9, h8.2.below h9⟩
  have HBW : Hid (Below w.heap.size w w3) := bwStep HWS.out (bwStep HB1.out (bwStep (bw1 HB2.out) hst))
  have HSY : Hid (RowIs w5 w.heap.size #[.int .i64 L, .bool true] 60) := ((((HSR.out.below HB1.out).below (bw1 HB2.out)).below hst)).below HB5.out
  have HBP : Hid (BP w3.heap.size w3 w5 bb (iL L true 0)) := by
    show BP _ _ _ _ _
    refine ⟨HB5.out, ⟨some ⟨w3.heap.size, 0, none⟩, R, ?_, ?_⟩, ?_, ?_⟩
    · show RowIs _ _ #[.slice (some ⟨w3.heap.size, 0, none⟩) 0 R] _
      rw [hw5, hbb]; exact RowIs.new _ _ _ _ (by simp)
    · show World.ownsRow _ _ _ _ (.slice (some ⟨w3.heap.size, 0, none⟩) 0 R) 0 []
      rw [hw5]; exact ownsRow_below HO4.out (bwA _ _)
    · rw [hbb]; exact HG4.out.size
    · exact HB5.out.size
  have g0 : w5.cell? ⟨w.heap.size, 0, none⟩ = some (.int .i64 L) := HSY.out.cell 0 _ rfl
  rw [← hw5, ← hbb, ← hpb, ← hlb]
  have HK0 : Hid (KeepP w5 w5) := KeepP.refl _
  clear s1 s2 s3 s4 hsf hw5 hbb hpb hlb hpr hlr hst f0 f1 hwS hla2 hroom b1 b2
  go_wp2
  clear g0
  go_loopw [23] (fun iv wr => ∃ i : Nat, i ≤ L ∧ iv = .int .i64 i ∧ Hid (BP w3.heap.size w3 wr bb (iL L true i) ∧ KeepP w5 wr)) (fun iv _ => L - (intOf iv).toNat)
  case atStart => exact ⟨0, Nat.zero_le _, rfl, HBP.out, HK0.out⟩
  case round =>
    clear HBP HK0
    obtain ⟨i, hi2, rfl, hR⟩ := hrel
    by_cases hlt : i < L
    · obtain ⟨d, hd⟩ : ∃ d, d = L - i := ⟨_, rfl⟩
      have hd2 : (L : Int) - (i : Int) = (d : Int) := by omega
      obtain ⟨r, hr⟩ : ∃ r, r = rN L true i := ⟨_, rfl⟩
      have hr9 : r ≤ 140 := by rw [hr]; exact rN_le hL
      have HRR := Lib.hid hr
      have hr2 : 4 * (d : Int) + 9 = (r : Int) := by have h1 := rN_eq L true i; simp at h1; rw [hr, h1, hd]; omega
      have hd9 : d ≤ 32 := by omega
      obtain ⟨wI, hwI⟩ : ∃ wI, wI = wr.alloc (.cells #[.int .i64 (i : Int)] 3) := ⟨_, rfl⟩
      obtain ⟨ib, hib⟩ : ∃ ib, ib = wr.heap.size := ⟨_, rfl⟩
      have HWI : Hid (Below wr.heap.size wr wI) := by show Below _ _ _; rw [hwI]; exact bwA _ _
      have HIR : Hid (RowIs wI ib #[.int .i64 (i : Int)] 3) := by show RowIs _ _ _ _; rw [hwI, hib]; exact RowIs.new _ _ _ _ (by simp)
      have HK0 : Hid (KeepP w5 wI) := hR.out.2.trans (KeepP.below HWI.out)
      have HB0 : Hid (BP w3.heap.size w3 wI bb (iL L true i ++ sL L true i 0)) := by show BP _ _ _ _ _; rw [show sL L true i 0 = [] from rfl, List.append_nil]; exact hR.out.1.below HWI.out
      have HPI : Hid (PEnv L true pb lb hb cb wI) := HPE.out.keep HK0.out
      have g0 : wI.cell? ⟨w.heap.size, 0, none⟩ = some (.int .i64 L) := (HSY.out.keepP HK0.out rfl).cell 0 _ rfl
      have g1 : wI.cell? ⟨ib, 0, none⟩ = some (.int .i64 (i : Int)) := HIR.out.cell 0 _ rfl
      have HLT := Lib.hid hlt
      have s1 : w.heap.size < wr.heap.size := lt_of_heap (HSY.out.keepP hR.out.2 rfl)
      rw [hwI] at g0 g1
      rw [hib] at g1
      clear hd hr
      have HAT0 : Hid (∀ W, KeepP wI W → ∀ j k, j < r → k < 2 → Calls Tryz.prog 94 #[.int .i64 ((j : Nat) : Int), .int .i64 ((k : Nat) : Int), .pointer (some ⟨pb, 0, none⟩), .pointer (some ⟨ib, 0, none⟩)] W fun e w' => e = .returned (.agg #[.int .i64 (((ptN L true i 0 j k).1 : Nat) : Int), .int .i64 (((ptN L true i 0 j k).2 : Nat) : Int)]) ∧ Below W.heap.size W w') := by
        show ∀ W, _
        intro W hW j k hj hk
        exact at0_any L true pb lb ib hb cb i j k W HHL.out HLT.out (by rw [← HRR.out]; exact hj) hk (HPI.out.keep hW) (HIR.out.keepP hW rfl)
      have HAT1 : Hid (∀ W, KeepP wI W → ∀ j k, j < r → k < 2 → Calls Tryz.prog 95 #[.int .i64 ((j : Nat) : Int), .int .i64 ((k : Nat) : Int), .pointer (some ⟨pb, 0, none⟩), .pointer (some ⟨ib, 0, none⟩), .pointer (some ⟨lb, 0, none⟩)] W fun e w' => e = .returned (.agg #[.int .i64 (((ptN L true i 1 j k).1 : Nat) : Int), .int .i64 (((ptN L true i 1 j k).2 : Nat) : Int)]) ∧ Below W.heap.size W w') := by
        show ∀ W, _
        intro W hW j k hj hk
        exact at1_any L true pb lb ib hb cb i j k W HHL.out HLT.out (by rw [← HRR.out]; exact hj) hk (HPI.out.keep hW) (HIR.out.keepP hW rfl)
      have HAT2 : Hid (∀ W, KeepP wI W → ∀ j k, j < r → k < 2 → Calls Tryz.prog 96 #[.int .i64 ((j : Nat) : Int), .int .i64 ((k : Nat) : Int), .pointer (some ⟨pb, 0, none⟩), .pointer (some ⟨lb, 0, none⟩), .pointer (some ⟨ib, 0, none⟩)] W fun e w' => e = .returned (.agg #[.int .i64 (((ptN L true i 2 j k).1 : Nat) : Int), .int .i64 (((ptN L true i 2 j k).2 : Nat) : Int)]) ∧ Below W.heap.size W w') := by
        show ∀ W, _
        intro W hW j k hj hk
        exact at2_any L true pb lb ib hb cb i j k W HHL.out HLT.out (by rw [← HRR.out]; exact hj) hk (HPI.out.keep hW) (HIR.out.keepP hW rfl)
      have HAT3 : Hid (∀ W, KeepP wI W → ∀ j k, j < r → k < 2 → Calls Tryz.prog 97 #[.int .i64 ((j : Nat) : Int), .int .i64 ((k : Nat) : Int), .pointer (some ⟨pb, 0, none⟩), .pointer (some ⟨lb, 0, none⟩), .pointer (some ⟨ib, 0, none⟩)] W fun e w' => e = .returned (.agg #[.int .i64 (((ptN L true i 3 j k).1 : Nat) : Int), .int .i64 (((ptN L true i 3 j k).2 : Nat) : Int)]) ∧ Below W.heap.size W w') := by
        show ∀ W, _
        intro W hW j k hj hk
        exact at3_any L true pb lb ib hb cb i j k W HHL.out HLT.out (by rw [← HRR.out]; exact hj) hk (HPI.out.keep hW) (HIR.out.keepP hW rfl)
      have HLN : Hid (∀ s, s ≤ 4 → (iL L true i ++ sL L true i s).length ≤ 60000) := by
        show ∀ s, _
        intro s hs
        rw [List.length_append, sL_length]
        have h1 := iL_le (c := true) HHL.out i
        have h2 : s * (2 * rN L true i) ≤ 4 * (2 * 140) := Nat.mul_le_mul hs (by rw [← HRR.out]; omega)
        omega
      have HSS : Hid (∀ s, iL L true i ++ sL L true i (s + 1) = iL L true i ++ sL L true i s ++ jL L true i s r) := by
        show ∀ s, _
        intro s
        rw [sL_succ, ← HRR.out, List.append_assoc]
      rw [← hib] at g1
      rw [hib] at g1
      go_wp2_with fail
      rw [← hwI, ← hib]
      clear s1 g0 g1 hr2 hd2 hwI hib
      refine (sidep_any w3.heap.size w3 _ bb (iL L true i ++ sL L true i 0) 94 #[.pointer (some ⟨pb, 0, none⟩), .pointer (some ⟨ib, 0, none⟩)] L i 0 r true HB0.out (HLN.out 0 (by omega)) hr9 (fun args W => by go_simp) (fun W hW j hj => by rw [app22]; exact HAT0.out W (hW) j 0 hj (by omega)) (fun W hW j hj => by rw [app22]; exact HAT0.out W (hW) j 1 hj (by omega))).mono ?_
      rintro e v0 ⟨rfl, hbp, hk⟩
      have HB1 : Hid (BP w3.heap.size w3 v0 bb (iL L true i ++ sL L true i 1)) := by show BP _ _ _ _ _; rw [HSS.out 0]; exact hbp
      have KI1 : Hid (KeepP wI v0) := hk
      clear hbp hk
      go_wp2_with fail
      refine (sidep_any w3.heap.size w3 _ bb (iL L true i ++ sL L true i 1) 95 #[.pointer (some ⟨pb, 0, none⟩), .pointer (some ⟨ib, 0, none⟩), .pointer (some ⟨lb, 0, none⟩)] L i 1 r true HB1.out (HLN.out 1 (by omega)) hr9 (fun args W => by go_simp) (fun W hW j hj => by rw [app23]; exact HAT1.out W ((KI1.out.trans hW)) j 0 hj (by omega)) (fun W hW j hj => by rw [app23]; exact HAT1.out W ((KI1.out.trans hW)) j 1 hj (by omega))).mono ?_
      rintro e v1 ⟨rfl, hbp, hk⟩
      have HB2 : Hid (BP w3.heap.size w3 v1 bb (iL L true i ++ sL L true i 2)) := by show BP _ _ _ _ _; rw [HSS.out 1]; exact hbp
      have KI2 : Hid (KeepP wI v1) := KI1.out.trans hk
      clear hbp hk
      go_wp2_with fail
      refine (sidep_any w3.heap.size w3 _ bb (iL L true i ++ sL L true i 2) 96 #[.pointer (some ⟨pb, 0, none⟩), .pointer (some ⟨lb, 0, none⟩), .pointer (some ⟨ib, 0, none⟩)] L i 2 r true HB2.out (HLN.out 2 (by omega)) hr9 (fun args W => by go_simp) (fun W hW j hj => by rw [app23]; exact HAT2.out W ((KI2.out.trans hW)) j 0 hj (by omega)) (fun W hW j hj => by rw [app23]; exact HAT2.out W ((KI2.out.trans hW)) j 1 hj (by omega))).mono ?_
      rintro e v2 ⟨rfl, hbp, hk⟩
      have HB3 : Hid (BP w3.heap.size w3 v2 bb (iL L true i ++ sL L true i 3)) := by show BP _ _ _ _ _; rw [HSS.out 2]; exact hbp
      have KI3 : Hid (KeepP wI v2) := KI2.out.trans hk
      clear hbp hk
      go_wp2_with fail
      refine (sidep_any w3.heap.size w3 _ bb (iL L true i ++ sL L true i 3) 97 #[.pointer (some ⟨pb, 0, none⟩), .pointer (some ⟨lb, 0, none⟩), .pointer (some ⟨ib, 0, none⟩)] L i 3 r true HB3.out (HLN.out 3 (by omega)) hr9 (fun args W => by go_simp) (fun W hW j hj => by rw [app23]; exact HAT3.out W ((KI3.out.trans hW)) j 0 hj (by omega)) (fun W hW j hj => by rw [app23]; exact HAT3.out W ((KI3.out.trans hW)) j 1 hj (by omega))).mono ?_
      rintro e v3 ⟨rfl, hbp, hk⟩
      have HB4 : Hid (BP w3.heap.size w3 v3 bb (iL L true i ++ sL L true i 4)) := by show BP _ _ _ _ _; rw [HSS.out 3]; exact hbp
      have KI4 : Hid (KeepP wI v3) := KI3.out.trans hk
      clear hbp hk
      have HNX : Hid (iL L true (i + 1) = iL L true i ++ sL L true i 4) := iL_succ L true i
      go_wp2
      exact ⟨⟨i + 1, by omega, by go_num, by rw [HNX.out]; exact HB4.out, HK0.out.trans KI4.out⟩, by simp [intOf]; omega⟩
    · obtain rfl : i = L := by omega
      obtain ⟨A, cp, hX, hO⟩ := hR.out.1.X
      have f0 : wr.cell? ⟨bb, 0, none⟩ = some (.slice A (iL i true i).length cp) := hX.cell 0 _ rfl
      have HOO := Lib.hid hO
      have HBB := Lib.hid hR.out.1.B
      clear hX hO
      go_wp2
      go_ret
      exact ⟨_, rfl, (SPf.of_own HOO.out).mono HBW.out.size, bwStep HBW.out HBB.out⟩
set_option maxRecDepth 100000 in
set_option maxHeartbeats 3000000 in
theorem path_false (L : Nat) (w : World) (hL : L ≤ 32) : Calls Tryz.prog 46 #[symv L false] w fun e w' => ∃ v, e = .returned v ∧ SPf w.heap.size w' v (dataL L false) ∧ Below w.heap.size w w' := by
  obtain ⟨i0, hi, hz0, hz1, hz2⟩ := info_parts ptInfo
  have CF := sym_cells w L false
  have HPO : Hid (∀ W, Calls Tryz.prog 92 #[symv L false] W fun e w' => ∃ hb cb, e = .returned (.func (Fn.func 138) #[] #[.pointer (some ⟨hb, 0, none⟩), .pointer (some ⟨cb, 0, none⟩)]) ∧ (false = false → HC L w' hb cb) ∧ Below W.heap.size W w') := fun W => positions_any L false W hL
  have HBA : Hid (∀ W, Calls Tryz.prog 85 #[symv L false] W fun e w' => e = .returned (.int .i64 ((baseN L false : Nat) : Int)) ∧ Below W.heap.size W w') := fun W => base_any L false W hL
  have HRM : Hid (∀ W, Calls Tryz.prog 89 #[symv L false] W fun e w' => e = .returned (.int .i64 ((roomN L false : Nat) : Int)) ∧ Below W.heap.size W w') := fun W => room_any L false W hL
  have HHL : Hid (L ≤ 32) := hL
  have HBL := Lib.hid (base_le (c := false) hL)
  have HRL := Lib.hid (room_le (c := false) hL)
  obtain ⟨b1, b2⟩ := HBL.out
  have hroom := HRL.out
  obtain ⟨la, hla⟩ : ∃ la, la = baseN L false - 1 := ⟨_, rfl⟩
  have hla2 : ((baseN L false : Nat) : Int) - 1 = (la : Int) := by omega
  have HLA := Lib.hid hla
  have hla9 : la ≤ 141 := by omega
  obtain ⟨R, hR⟩ : ∃ R, R = roomN L false := ⟨_, rfl⟩
  rw [← hR] at HRM hroom
  clear hla hR
  obtain ⟨B, hB⟩ : ∃ B, B = baseN L false := ⟨_, rfl⟩
  rw [← hB] at HBA b1 b2 hla2
  clear hB
  obtain ⟨wS, hwS⟩ : ∃ wS, wS = w.alloc (symB L false) := ⟨_, rfl⟩
  have HWS : Hid (Below w.heap.size w wS) := by show Below _ _ _; rw [hwS]; exact bwA _ _
  have HSR : Hid (RowIs wS w.heap.size #[.int .i64 L, .bool false] 60) := by show RowIs _ _ _ _; rw [hwS]; exact RowIs.new _ _ _ _ (by simp)
  rw [← hwS] at CF
  obtain ⟨f0, f1⟩ := CF.out _ (Below.refl _ _)
  rw [hwS] at f0 f1
  have hsf : ∀ (W : World) (a : Addr) (g : Fn) (b c : Array Value), (store a (.func g b c)).run Tryz.prog W = stored Tryz.prog W a (.func g b c) .plain := fun W a g b c => run_store _ W a _ _ rfl
  go_enter Tryz.func46, Tryz.ntmps46
  go_wp2_with (first
    | (go_at_call 92; refine (HPO.out _).mono ?_; rintro e w1 ⟨hb, cb, rfl, hc1, hb1⟩; rw [← hwS] at hb1; have HB1 := Lib.hid hb1; have HC1 := Lib.hid hc1; clear hb1 hc1 f0 f1; obtain ⟨f0, f1⟩ := CF.out _ HB1.out; have s1 : w.heap.size < w1.heap.size := lt_of_heap (HSR.out.below HB1.out))
    | (go_at_call 85; refine (HBA.out _).mono ?_; rintro e w2 ⟨rfl, hb2⟩; have HB2 := Lib.hid hb2; clear hb2 f0 f1; obtain ⟨f0, f1⟩ := CF.out _ (bwStep (bwAlloc HB1.out _) HB2.out); have s2 : w.heap.size < w2.heap.size := lt_of_heap (HSR.out.below (bwStep (bwAlloc HB1.out _) HB2.out)))
    | (go_at_call 89; refine (HRM.out _).mono ?_; rintro e w3 ⟨rfl, hb3⟩; have HB3 := Lib.hid hb3; clear hb3 f0 f1; obtain ⟨f0, f1⟩ := CF.out _ (bwStep (bwAlloc (bwStep (bwAlloc HB1.out _) HB2.out) _) HB3.out); have s3 : w.heap.size < w3.heap.size := lt_of_heap (HSR.out.below (bwStep (bwAlloc (bwStep (bwAlloc HB1.out _) HB2.out) _) HB3.out)))
    | (at_make; refine wpList_make_own _ rfl _ _ _ rfl w3.heap.size 47 i0 _ 2 Tryz.underlying40 hi hz0 hz1 .i64 .i64 _ R rfl rfl (by first | rfl | omega) (by rw [hz2]; omega) (by unfold maxLen; omega) (Nat.le_refl _) ?_; intro w4 hown hg; have HO4 := Lib.hid hown; have HG4 : Hid (Below w3.heap.size w3 w4) := (Below.refl _ _).grown hg (Nat.le_refl _) (fun q hq => by cases hq); clear hown hg f0 f1; obtain ⟨f0, f1⟩ := CF.out _ (bwStep (bwStep (bwAlloc (bwStep (bwAlloc HB1.out _) HB2.out) _) HB3.out) HG4.out); have s4 : w.heap.size < w4.heap.size := lt_of_heap (HSR.out.below (bwStep (bwStep (bwAlloc (bwStep (bwAlloc HB1.out _) HB2.out) _) HB3.out) HG4.out))))
  obtain ⟨w5, hw5⟩ : ∃ w5, w5 = w4.alloc (.cells #[.slice (some ⟨w3.heap.size, 0, none⟩) 0 R] 40) := ⟨_, rfl⟩
  obtain ⟨bb, hbb⟩ : ∃ bb, bb = w4.heap.size := ⟨_, rfl⟩
  have HB5 : Hid (Below w3.heap.size w3 w5) := by show Below _ _ _; rw [hw5]; exact bwAlloc HG4.out _
  obtain ⟨pb, hpb⟩ : ∃ pb, pb = w1.heap.size := ⟨_, rfl⟩
  obtain ⟨lb, hlb⟩ : ∃ lb, lb = w2.heap.size := ⟨_, rfl⟩
  have hpr : RowIs (w1.alloc (.cells #[.func (Fn.func 138) #[] #[.pointer (some ⟨hb, 0, none⟩), .pointer (some ⟨cb, 0, none⟩)]] 77)) w1.heap.size #[.func (Fn.func 138) #[] #[.pointer (some ⟨hb, 0, none⟩), .pointer (some ⟨cb, 0, none⟩)]] 77 := RowIs.new _ _ _ _ (by simp)
  have hlr : RowIs (w2.alloc (.cells #[.int .i64 (la : Int)] 3)) w2.heap.size #[.int .i64 (la : Int)] 3 := RowIs.new _ _ _ _ (by simp)
  have hst : Below w2.heap.size w2 w3 := bw1 HB3.out
  have HPE : Hid (PEnv L false pb lb hb cb w5) := by
    show PEnv _ _ _ _ _ _ _
    refine ⟨?_, ?_, fun e => ?_⟩
    · rw [hpb]; exact ((hpr.below HB2.out).below hst).below HB5.out
    · rw [hlb, ← HLA.out]; exact (hlr.below HB3.out).below HB5.out
    · have h9 : Below w1.heap.size w1 w5 := bwStep (bwStep (bw1 HB2.out) hst) HB5.out
      have h8 : HC L w1 hb cb := by first | exact HC1.out e | exact HC1.out trivial | cases e
      exact ⟨h8.1.below h9, h8.2.below h9⟩
  have HBW : Hid (Below w.heap.size w w3) := bwStep HWS.out (bwStep HB1.out (bwStep (bw1 HB2.out) hst))
  have HSY : Hid (RowIs w5 w.heap.size #[.int .i64 L, .bool false] 60) := ((((HSR.out.below HB1.out).below (bw1 HB2.out)).below hst)).below HB5.out
  have HBP : Hid (BP w3.heap.size w3 w5 bb (iL L false 0)) := by
    show BP _ _ _ _ _
    refine ⟨HB5.out, ⟨some ⟨w3.heap.size, 0, none⟩, R, ?_, ?_⟩, ?_, ?_⟩
    · show RowIs _ _ #[.slice (some ⟨w3.heap.size, 0, none⟩) 0 R] _
      rw [hw5, hbb]; exact RowIs.new _ _ _ _ (by simp)
    · show World.ownsRow _ _ _ _ (.slice (some ⟨w3.heap.size, 0, none⟩) 0 R) 0 []
      rw [hw5]; exact ownsRow_below HO4.out (bwA _ _)
    · rw [hbb]; exact HG4.out.size
    · exact HB5.out.size
  have g0 : w5.cell? ⟨w.heap.size, 0, none⟩ = some (.int .i64 L) := HSY.out.cell 0 _ rfl
  rw [← hw5, ← hbb, ← hpb, ← hlb]
  have HK0 : Hid (KeepP w5 w5) := KeepP.refl _
  clear s1 s2 s3 s4 hsf hw5 hbb hpb hlb hpr hlr hst f0 f1 hwS hla2 hroom b1 b2
  go_wp2
  clear g0
  go_loopw [23] (fun iv wr => ∃ i : Nat, i ≤ L ∧ iv = .int .i64 i ∧ Hid (BP w3.heap.size w3 wr bb (iL L false i) ∧ KeepP w5 wr)) (fun iv _ => L - (intOf iv).toNat)
  case atStart => exact ⟨0, Nat.zero_le _, rfl, HBP.out, HK0.out⟩
  case round =>
    clear HBP HK0
    obtain ⟨i, hi2, rfl, hR⟩ := hrel
    by_cases hlt : i < L
    · obtain ⟨d, hd⟩ : ∃ d, d = L - i := ⟨_, rfl⟩
      have hd2 : (L : Int) - (i : Int) = (d : Int) := by omega
      obtain ⟨r, hr⟩ : ∃ r, r = rN L false i := ⟨_, rfl⟩
      have hr9 : r ≤ 140 := by rw [hr]; exact rN_le hL
      have HRR := Lib.hid hr
      have hr2 : 4 * (d : Int) + 12 = (r : Int) := by have h1 := rN_eq L false i; simp at h1; rw [hr, h1, hd]; omega
      have hd9 : d ≤ 32 := by omega
      obtain ⟨wI, hwI⟩ : ∃ wI, wI = wr.alloc (.cells #[.int .i64 (i : Int)] 3) := ⟨_, rfl⟩
      obtain ⟨ib, hib⟩ : ∃ ib, ib = wr.heap.size := ⟨_, rfl⟩
      have HWI : Hid (Below wr.heap.size wr wI) := by show Below _ _ _; rw [hwI]; exact bwA _ _
      have HIR : Hid (RowIs wI ib #[.int .i64 (i : Int)] 3) := by show RowIs _ _ _ _; rw [hwI, hib]; exact RowIs.new _ _ _ _ (by simp)
      have HK0 : Hid (KeepP w5 wI) := hR.out.2.trans (KeepP.below HWI.out)
      have HB0 : Hid (BP w3.heap.size w3 wI bb (iL L false i ++ sL L false i 0)) := by show BP _ _ _ _ _; rw [show sL L false i 0 = [] from rfl, List.append_nil]; exact hR.out.1.below HWI.out
      have HPI : Hid (PEnv L false pb lb hb cb wI) := HPE.out.keep HK0.out
      have g0 : wI.cell? ⟨w.heap.size, 0, none⟩ = some (.int .i64 L) := (HSY.out.keepP HK0.out rfl).cell 0 _ rfl
      have g1 : wI.cell? ⟨ib, 0, none⟩ = some (.int .i64 (i : Int)) := HIR.out.cell 0 _ rfl
      have HLT := Lib.hid hlt
      have s1 : w.heap.size < wr.heap.size := lt_of_heap (HSY.out.keepP hR.out.2 rfl)
      rw [hwI] at g0 g1
      rw [hib] at g1
      clear hd hr
      have HAT0 : Hid (∀ W, KeepP wI W → ∀ j k, j < r → k < 2 → Calls Tryz.prog 94 #[.int .i64 ((j : Nat) : Int), .int .i64 ((k : Nat) : Int), .pointer (some ⟨pb, 0, none⟩), .pointer (some ⟨ib, 0, none⟩)] W fun e w' => e = .returned (.agg #[.int .i64 (((ptN L false i 0 j k).1 : Nat) : Int), .int .i64 (((ptN L false i 0 j k).2 : Nat) : Int)]) ∧ Below W.heap.size W w') := by
        show ∀ W, _
        intro W hW j k hj hk
        exact at0_any L false pb lb ib hb cb i j k W HHL.out HLT.out (by rw [← HRR.out]; exact hj) hk (HPI.out.keep hW) (HIR.out.keepP hW rfl)
      have HAT1 : Hid (∀ W, KeepP wI W → ∀ j k, j < r → k < 2 → Calls Tryz.prog 95 #[.int .i64 ((j : Nat) : Int), .int .i64 ((k : Nat) : Int), .pointer (some ⟨pb, 0, none⟩), .pointer (some ⟨ib, 0, none⟩), .pointer (some ⟨lb, 0, none⟩)] W fun e w' => e = .returned (.agg #[.int .i64 (((ptN L false i 1 j k).1 : Nat) : Int), .int .i64 (((ptN L false i 1 j k).2 : Nat) : Int)]) ∧ Below W.heap.size W w') := by
        show ∀ W, _
        intro W hW j k hj hk
        exact at1_any L false pb lb ib hb cb i j k W HHL.out HLT.out (by rw [← HRR.out]; exact hj) hk (HPI.out.keep hW) (HIR.out.keepP hW rfl)
      have HAT2 : Hid (∀ W, KeepP wI W → ∀ j k, j < r → k < 2 → Calls Tryz.prog 96 #[.int .i64 ((j : Nat) : Int), .int .i64 ((k : Nat) : Int), .pointer (some ⟨pb, 0, none⟩), .pointer (some ⟨lb, 0, none⟩), .pointer (some ⟨ib, 0, none⟩)] W fun e w' => e = .returned (.agg #[.int .i64 (((ptN L false i 2 j k).1 : Nat) : Int), .int .i64 (((ptN L false i 2 j k).2 : Nat) : Int)]) ∧ Below W.heap.size W w') := by
        show ∀ W, _
        intro W hW j k hj hk
        exact at2_any L false pb lb ib hb cb i j k W HHL.out HLT.out (by rw [← HRR.out]; exact hj) hk (HPI.out.keep hW) (HIR.out.keepP hW rfl)
      have HAT3 : Hid (∀ W, KeepP wI W → ∀ j k, j < r → k < 2 → Calls Tryz.prog 97 #[.int .i64 ((j : Nat) : Int), .int .i64 ((k : Nat) : Int), .pointer (some ⟨pb, 0, none⟩), .pointer (some ⟨lb, 0, none⟩), .pointer (some ⟨ib, 0, none⟩)] W fun e w' => e = .returned (.agg #[.int .i64 (((ptN L false i 3 j k).1 : Nat) : Int), .int .i64 (((ptN L false i 3 j k).2 : Nat) : Int)]) ∧ Below W.heap.size W w') := by
        show ∀ W, _
        intro W hW j k hj hk
        exact at3_any L false pb lb ib hb cb i j k W HHL.out HLT.out (by rw [← HRR.out]; exact hj) hk (HPI.out.keep hW) (HIR.out.keepP hW rfl)
      have HLN : Hid (∀ s, s ≤ 4 → (iL L false i ++ sL L false i s).length ≤ 60000) := by
        show ∀ s, _
        intro s hs
        rw [List.length_append, sL_length]
        have h1 := iL_le (c := false) HHL.out i
        have h2 : s * (2 * rN L false i) ≤ 4 * (2 * 140) := Nat.mul_le_mul hs (by rw [← HRR.out]; omega)
        omega
      have HSS : Hid (∀ s, iL L false i ++ sL L false i (s + 1) = iL L false i ++ sL L false i s ++ jL L false i s r) := by
        show ∀ s, _
        intro s
        rw [sL_succ, ← HRR.out, List.append_assoc]
      rw [← hib] at g1
      rw [hib] at g1
      go_wp2_with fail
      rw [← hwI, ← hib]
      clear s1 g0 g1 hr2 hd2 hwI hib
      refine (sidep_any w3.heap.size w3 _ bb (iL L false i ++ sL L false i 0) 94 #[.pointer (some ⟨pb, 0, none⟩), .pointer (some ⟨ib, 0, none⟩)] L i 0 r false HB0.out (HLN.out 0 (by omega)) hr9 (fun args W => by go_simp) (fun W hW j hj => by rw [app22]; exact HAT0.out W (hW) j 0 hj (by omega)) (fun W hW j hj => by rw [app22]; exact HAT0.out W (hW) j 1 hj (by omega))).mono ?_
      rintro e v0 ⟨rfl, hbp, hk⟩
      have HB1 : Hid (BP w3.heap.size w3 v0 bb (iL L false i ++ sL L false i 1)) := by show BP _ _ _ _ _; rw [HSS.out 0]; exact hbp
      have KI1 : Hid (KeepP wI v0) := hk
      clear hbp hk
      go_wp2_with fail
      refine (sidep_any w3.heap.size w3 _ bb (iL L false i ++ sL L false i 1) 95 #[.pointer (some ⟨pb, 0, none⟩), .pointer (some ⟨ib, 0, none⟩), .pointer (some ⟨lb, 0, none⟩)] L i 1 r false HB1.out (HLN.out 1 (by omega)) hr9 (fun args W => by go_simp) (fun W hW j hj => by rw [app23]; exact HAT1.out W ((KI1.out.trans hW)) j 0 hj (by omega)) (fun W hW j hj => by rw [app23]; exact HAT1.out W ((KI1.out.trans hW)) j 1 hj (by omega))).mono ?_
      rintro e v1 ⟨rfl, hbp, hk⟩
      have HB2 : Hid (BP w3.heap.size w3 v1 bb (iL L false i ++ sL L false i 2)) := by show BP _ _ _ _ _; rw [HSS.out 1]; exact hbp
      have KI2 : Hid (KeepP wI v1) := KI1.out.trans hk
      clear hbp hk
      go_wp2_with fail
      refine (sidep_any w3.heap.size w3 _ bb (iL L false i ++ sL L false i 2) 96 #[.pointer (some ⟨pb, 0, none⟩), .pointer (some ⟨lb, 0, none⟩), .pointer (some ⟨ib, 0, none⟩)] L i 2 r false HB2.out (HLN.out 2 (by omega)) hr9 (fun args W => by go_simp) (fun W hW j hj => by rw [app23]; exact HAT2.out W ((KI2.out.trans hW)) j 0 hj (by omega)) (fun W hW j hj => by rw [app23]; exact HAT2.out W ((KI2.out.trans hW)) j 1 hj (by omega))).mono ?_
      rintro e v2 ⟨rfl, hbp, hk⟩
      have HB3 : Hid (BP w3.heap.size w3 v2 bb (iL L false i ++ sL L false i 3)) := by show BP _ _ _ _ _; rw [HSS.out 2]; exact hbp
      have KI3 : Hid (KeepP wI v2) := KI2.out.trans hk
      clear hbp hk
      go_wp2_with fail
      refine (sidep_any w3.heap.size w3 _ bb (iL L false i ++ sL L false i 3) 97 #[.pointer (some ⟨pb, 0, none⟩), .pointer (some ⟨lb, 0, none⟩), .pointer (some ⟨ib, 0, none⟩)] L i 3 r false HB3.out (HLN.out 3 (by omega)) hr9 (fun args W => by go_simp) (fun W hW j hj => by rw [app23]; exact HAT3.out W ((KI3.out.trans hW)) j 0 hj (by omega)) (fun W hW j hj => by rw [app23]; exact HAT3.out W ((KI3.out.trans hW)) j 1 hj (by omega))).mono ?_
      rintro e v3 ⟨rfl, hbp, hk⟩
      have HB4 : Hid (BP w3.heap.size w3 v3 bb (iL L false i ++ sL L false i 4)) := by show BP _ _ _ _ _; rw [HSS.out 3]; exact hbp
      have KI4 : Hid (KeepP wI v3) := KI3.out.trans hk
      clear hbp hk
      have HNX : Hid (iL L false (i + 1) = iL L false i ++ sL L false i 4) := iL_succ L false i
      go_wp2
      exact ⟨⟨i + 1, by omega, by go_num, by rw [HNX.out]; exact HB4.out, HK0.out.trans KI4.out⟩, by simp [intOf]; omega⟩
    · obtain rfl : i = L := by omega
      obtain ⟨A, cp, hX, hO⟩ := hR.out.1.X
      have f0 : wr.cell? ⟨bb, 0, none⟩ = some (.slice A (iL i false i).length cp) := hX.cell 0 _ rfl
      have HOO := Lib.hid hO
      have HBB := Lib.hid hR.out.1.B
      clear hX hO
      go_wp2
      go_ret
      exact ⟨_, rfl, (SPf.of_own HOO.out).mono HBW.out.size, bwStep HBW.out HBB.out⟩
theorem path_any (L : Nat) (c : Bool) (w : World) (hL : L ≤ 32) : Calls Tryz.prog 46 #[symv L c] w fun e w' => ∃ v, e = .returned v ∧ SPf w.heap.size w' v (dataL L c) ∧ Below w.heap.size w w' := by
  cases c with
  | true => exact path_true L w hL
  | false => exact path_false L w hL
end Go.Proofs.YtmnlkganmgcpbaaGreatDoor
