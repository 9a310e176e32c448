import Derived.Test.YtmnlkganmgcpbaaGreatDoorQa37
import Derived.Test.YtmnlkganmgcpbaaGreatDoorQa36
namespace Go.Proofs.YtmnlkganmgcpbaaGreatDoor
open Go.RowKit
set_option linter.unusedVariables false
set_option linter.unusedSectionVars false
set_option linter.unusedSimpArgs false
def CodeV (w : World) (v : Value) (t : List Bool) (o : Option (Nat × Bool)) : Prop := match o with
  | none => v = .agg zero6
  | some p => ∃ A N cp, N = sideN p.1 p.2 * sideN p.1 p.2 ∧ v = .agg #[.int .i64 (p.1 : Int), .bool p.2, .int .i64 ((stuffL t (sizeN p.1)).length : Int), .int .i64 ((sideN p.1 p.2 : Nat) : Int), .int .i64 ((sideN p.1 p.2 : Nat) : Int), .slice A N cp] ∧ SR vB false w A N cp (drawL p.1 p.2 (stuffL t (sizeN p.1)))
def EncR (w : World) (l : List UInt8) (r : Option (Nat × Bool) × Int) (e : Ending) (w' : World) : Prop := ∃ v, e = .returned (.tuple #[v, .int .i64 r.2]) ∧ CodeV w' v (txtL l) r.1 ∧ Below w.heap.size w w'
def symOk (p : Nat × Bool) : Prop := 1 ≤ p.1 ∧ p.1 ≤ 32 ∧ (p.2 = true → p.1 ≤ 4)
theorem choi_ok (c : Bool) : ∀ p ∈ choiL c, symOk p := by
  intro p hp
  unfold choiL at hp
  rw [List.mem_append] at hp
  rcases hp with hp | hp
  · obtain ⟨i, hi, rfl⟩ := List.mem_map.1 hp
    rw [List.mem_range] at hi
    exact ⟨by show 1 ≤ i + 1; omega, by show i + 1 ≤ 32; omega, fun _ => by show i + 1 ≤ 4; omega⟩
  · cases c with
    | true => rw [if_pos rfl] at hp; cases hp
    | false =>
      rw [if_neg (by decide)] at hp
      obtain ⟨i, hi, rfl⟩ := List.mem_map.1 hp
      rw [List.mem_range] at hi
      exact ⟨by show 1 ≤ i + 4; omega, by show i + 4 ≤ 32; omega, fun h => by cases h⟩
theorem choi_len (c : Bool) : (choiL c).length ≤ 33 := by cases c <;> decide
theorem stuffRes_ok {t : List Bool} (h : t.length ≤ 1048576) (L : Nat) : stuffRes t ((sizeN L : Nat) : Int) = (stuffL t (sizeN L), 0) := by
  have hz := size_cases L
  unfold stuffRes
  rw [if_neg (by omega), if_neg (by omega)]; rfl
theorem find_step {α : Type} (f : α → Bool) (l : List α) (d : α) (j : Nat) (hj : j < l.length) (h : (l.take j).find? f = none) : (f (l.getD j d) = true → l.find? f = some (l.getD j d)) ∧ (f (l.getD j d) = false → (l.take (j + 1)).find? f = none) := by
  have e : l = l.take j ++ l.drop j := (List.take_append_drop j l).symm
  have e2 : l.drop j = l.getD j d :: l.drop (j + 1) := by
    rw [List.drop_eq_getElem_cons hj]; simp [List.getD, hj]
  constructor
  · intro hf
    rw [e, List.find?_append, h, e2]
    have e3 : (l.take j ++ l.getD j d :: l.drop (j + 1)).getD j d = l.getD j d := by rw [← e2, ← e]
    rw [e3, List.find?_cons, hf]; rfl
  · intro hf
    rw [List.take_add_one, List.find?_append, h]
    simp only [List.getD] at hf
    rw [List.getElem?_eq_getElem hj] at hf ⊢
    simp only [Option.getD_some] at hf
    simp [hf]
set_option maxRecDepth 100000 in
set_option maxHeartbeats 2000000 in
theorem Encode_e4 (A : Option Addr) (n ca : Nat) (l : List UInt8) (Lo : Int) (Co : Bool) (per : Int) (w : World) (a1 : 4096 < n) (hn63 : n ≤ 9223372036854775807) :
    Calls Tryz.prog 12 #[.slice A n ca, .agg #[.int .i64 Lo, .bool Co, .int .i64 per]] w (EncR w l (none, 4)) := by
  obtain ⟨wS, hwS⟩ : ∃ wS, wS = (w.alloc (.cells #[.int .i64 Lo, .bool Co, .int .i64 per] 24)).alloc (.cells zero6 30) := ⟨_, rfl⟩
  have HWE := Lib.hid hwS
  have HWS : Hid (Below w.heap.size w wS) := by show Below _ _ _; rw [hwS]; exact bwAlloc (bwA _ _) _
  have HSR : Hid (RowIs wS w.heap.size #[.int .i64 Lo, .bool Co, .int .i64 per] 24) := by
    show RowIs _ _ _ _
    rw [hwS]
    have h1 : RowIs (w.alloc (.cells #[.int .i64 Lo, .bool Co, .int .i64 per] 24)) w.heap.size #[.int .i64 Lo, .bool Co, .int .i64 per] 24 := RowIs.new _ _ _ _ rfl
    exact h1.below (bwA _ _)
  have HRR : Hid (RowIs wS (w.heap.size + 1) zero6 30) := by show RowIs _ _ _ _; rw [hwS]; exact RowIs.new _ _ _ _ (by simp)
  have HRB : Hid (w.heap.size ≤ w.heap.size + 1 ∧ w.heap.size + 1 < wS.heap.size ∧ w.heap.size ≤ wS.heap.size ∧ wS.heap.size = w.heap.size + 2) := by show _ ∧ _; rw [hwS]; simp; omega
  have CFS : Hid (∀ W, Abv wS W → W.cell? ⟨w.heap.size, 0, none⟩ = some (.int .i64 Lo) ∧ W.cell? ⟨w.heap.size, 1, none⟩ = some (.bool Co) ∧ W.cell? ⟨w.heap.size, 2, none⟩ = some (.int .i64 per)) := fun W hW => ⟨(HSR.out.below hW).cell 0 _ rfl, (HSR.out.below hW).cell 1 _ rfl, (HSR.out.below hW).cell 2 _ rfl⟩
  have HRW : Hid (∀ W, Abv wS W → RowIs W (w.heap.size + 1) zero6 30) := fun W hW => HRR.out.below hW
  have HCV : Hid (∀ W, Below ((((w.alloc (.cells #[.int .i64 Lo, .bool Co, .int .i64 per] 24)).alloc (.cells zero6 30)).alloc (symB Lo Co))).heap.size ((((w.alloc (.cells #[.int .i64 Lo, .bool Co, .int .i64 per] 24)).alloc (.cells zero6 30)).alloc (symB Lo Co))) W → Below wS.heap.size wS W) := by show ∀ W, _ → _; rw [← hwS]; exact fun W h => bw1 h
  clear hwS
  have a2 : (4096 : Int) < (n : Int) := by omega
  go_enter Tryz.func12, Tryz.ntmps12
  go_wp2
  refine bodyPost_ret (v := .tuple #[.agg zero6, .int .i64 4]) (by simp [results, Tryz.results12, go_sem]) rfl ⟨.agg zero6, rfl, rfl, ?_⟩
  exact bwAlloc (bwA _ _) _
set_option maxRecDepth 100000 in
set_option maxHeartbeats 2000000 in
theorem Encode_e5 (A : Option Addr) (ca : Nat) (l : List UInt8) (Lo : Int) (Co : Bool) (per : Int) (w : World) :
    Calls Tryz.prog 12 #[.slice A 0 ca, .agg #[.int .i64 Lo, .bool Co, .int .i64 per]] w (EncR w l (none, 5)) := by
  go_enter Tryz.func12, Tryz.ntmps12
  go_wp2
  refine bodyPost_ret (v := .tuple #[.agg zero6, .int .i64 5]) (by simp [results, Tryz.results12, go_sem]) rfl ⟨.agg zero6, rfl, rfl, ?_⟩
  exact bwAlloc (bwA _ _) _
set_option maxRecDepth 100000 in
set_option maxHeartbeats 2000000 in
theorem Encode_e14 (A : Option Addr) (n ca : Nat) (l : List UInt8) (Lo : Int) (Co : Bool) (per : Int) (w : World) (a1 : n ≤ 4096) (a2 : 1 ≤ n) (a4 : ¬ Lo = 0) (a3 : exB Lo Co = false) (hn63 : n ≤ 9223372036854775807) :
    Calls Tryz.prog 12 #[.slice A n ca, .agg #[.int .i64 Lo, .bool Co, .int .i64 per]] w (EncR w l (none, 14)) := by
  obtain ⟨wS, hwS⟩ : ∃ wS, wS = (w.alloc (.cells #[.int .i64 Lo, .bool Co, .int .i64 per] 24)).alloc (.cells zero6 30) := ⟨_, rfl⟩
  have HWE := Lib.hid hwS
  have HWS : Hid (Below w.heap.size w wS) := by show Below _ _ _; rw [hwS]; exact bwAlloc (bwA _ _) _
  have HSR : Hid (RowIs wS w.heap.size #[.int .i64 Lo, .bool Co, .int .i64 per] 24) := by
    show RowIs _ _ _ _
    rw [hwS]
    have h1 : RowIs (w.alloc (.cells #[.int .i64 Lo, .bool Co, .int .i64 per] 24)) w.heap.size #[.int .i64 Lo, .bool Co, .int .i64 per] 24 := RowIs.new _ _ _ _ rfl
    exact h1.below (bwA _ _)
  have HRR : Hid (RowIs wS (w.heap.size + 1) zero6 30) := by show RowIs _ _ _ _; rw [hwS]; exact RowIs.new _ _ _ _ (by simp)
  have HRB : Hid (w.heap.size ≤ w.heap.size + 1 ∧ w.heap.size + 1 < wS.heap.size ∧ w.heap.size ≤ wS.heap.size ∧ wS.heap.size = w.heap.size + 2) := by show _ ∧ _; rw [hwS]; simp; omega
  have CFS : Hid (∀ W, Abv wS W → W.cell? ⟨w.heap.size, 0, none⟩ = some (.int .i64 Lo) ∧ W.cell? ⟨w.heap.size, 1, none⟩ = some (.bool Co) ∧ W.cell? ⟨w.heap.size, 2, none⟩ = some (.int .i64 per)) := fun W hW => ⟨(HSR.out.below hW).cell 0 _ rfl, (HSR.out.below hW).cell 1 _ rfl, (HSR.out.below hW).cell 2 _ rfl⟩
  have HRW : Hid (∀ W, Abv wS W → RowIs W (w.heap.size + 1) zero6 30) := fun W hW => HRR.out.below hW
  have HCV : Hid (∀ W, Below ((((w.alloc (.cells #[.int .i64 Lo, .bool Co, .int .i64 per] 24)).alloc (.cells zero6 30)).alloc (symB Lo Co))).heap.size ((((w.alloc (.cells #[.int .i64 Lo, .bool Co, .int .i64 per] 24)).alloc (.cells zero6 30)).alloc (symB Lo Co))) W → Below wS.heap.size wS W) := by show ∀ W, _ → _; rw [← hwS]; exact fun W h => bw1 h
  clear hwS
  obtain ⟨f0, f1, f2⟩ := CFS.out wS (Below.refl _ _)
  rw [HWE.out] at f0 f1 f2
  have b1 : ¬ (4096 : Int) < (n : Int) := by omega
  have b2 : ((n : Int) == 0) = false := by rw [beq_eq_false_iff_ne]; omega
  have b3 : ¬ n = 0 := by omega
  have HEX : Hid (∀ W, Calls Tryz.prog 29 #[symv Lo Co] W fun e w' => e = .returned (.bool false) ∧ Below W.heap.size W w') := fun W => by rw [← a3]; exact exists_any Lo Co W
  clear a3
  go_enter Tryz.func12, Tryz.ntmps12
  go_wp2_with (go_at_call 29; refine (HEX.out _).mono ?_; rintro e w1 ⟨rfl, hb1⟩; have HB1 : Hid (Below wS.heap.size wS w1) := HCV.out _ hb1; clear hb1 f0 f1 f2; obtain ⟨f0, f1, f2⟩ := CFS.out w1 HB1.out; have c0 : (w1).cell? ⟨w.heap.size + 1, 0, none⟩ = some (.int .i64 0) := (HRW.out w1 HB1.out).cell 0 _ rfl; have c1 : (w1).cell? ⟨w.heap.size + 1, 1, none⟩ = some (.bool false) := (HRW.out w1 HB1.out).cell 1 _ rfl; have c2 : (w1).cell? ⟨w.heap.size + 1, 2, none⟩ = some (.int .i64 0) := (HRW.out w1 HB1.out).cell 2 _ rfl; have c3 : (w1).cell? ⟨w.heap.size + 1, 3, none⟩ = some (.int .i64 0) := (HRW.out w1 HB1.out).cell 3 _ rfl; have c4 : (w1).cell? ⟨w.heap.size + 1, 4, none⟩ = some (.int .i64 0) := (HRW.out w1 HB1.out).cell 4 _ rfl; have c5 : (w1).cell? ⟨w.heap.size + 1, 5, none⟩ = some (.slice none 0 0) := (HRW.out w1 HB1.out).cell 5 _ rfl; have d0 : (w1).frozen? ⟨w.heap.size + 1, 0, none⟩ = false := frozen_of_row _ _ _ _ _ ((HRW.out w1 HB1.out)); have d1 : (w1).frozen? ⟨w.heap.size + 1, 1, none⟩ = false := frozen_of_row _ _ _ _ _ ((HRW.out w1 HB1.out)); have d2 : (w1).frozen? ⟨w.heap.size + 1, 2, none⟩ = false := frozen_of_row _ _ _ _ _ ((HRW.out w1 HB1.out)); have d3 : (w1).frozen? ⟨w.heap.size + 1, 3, none⟩ = false := frozen_of_row _ _ _ _ _ ((HRW.out w1 HB1.out)); have d4 : (w1).frozen? ⟨w.heap.size + 1, 4, none⟩ = false := frozen_of_row _ _ _ _ _ ((HRW.out w1 HB1.out)); have d5 : (w1).frozen? ⟨w.heap.size + 1, 5, none⟩ = false := frozen_of_row _ _ _ _ _ ((HRW.out w1 HB1.out)))
  refine bodyPost_ret (v := .tuple #[.agg zero6, .int .i64 14]) (by simp [results, Tryz.results12, go_sem, c0, c1, c2, c3, c4, c5, d0, d1, d2, d3, d4, d5]) rfl ⟨.agg zero6, rfl, rfl, ?_⟩
  exact ((((((HWS.out.trans (HB1.out.mono HRB.out.2.2.1)).setCell HRB.out.1 _).setCell HRB.out.1 _).setCell HRB.out.1 _).setCell HRB.out.1 _).setCell HRB.out.1 _).setCell HRB.out.1 _
set_option maxRecDepth 100000 in
set_option maxHeartbeats 2000000 in
theorem Encode_e3a (A : Option Addr) (n ca : Nat) (l : List UInt8) (Lo : Int) (Co : Bool) (per : Int) (w : World) (a1 : n ≤ 4096) (a2 : 1 ≤ n) (a4 : ¬ Lo = 0) (a3 : exB Lo Co = true) (a5 : per < 5) (hn63 : n ≤ 9223372036854775807) :
    Calls Tryz.prog 12 #[.slice A n ca, .agg #[.int .i64 Lo, .bool Co, .int .i64 per]] w (EncR w l (none, 3)) := by
  obtain ⟨wS, hwS⟩ : ∃ wS, wS = (w.alloc (.cells #[.int .i64 Lo, .bool Co, .int .i64 per] 24)).alloc (.cells zero6 30) := ⟨_, rfl⟩
  have HWE := Lib.hid hwS
  have HWS : Hid (Below w.heap.size w wS) := by show Below _ _ _; rw [hwS]; exact bwAlloc (bwA _ _) _
  have HSR : Hid (RowIs wS w.heap.size #[.int .i64 Lo, .bool Co, .int .i64 per] 24) := by
    show RowIs _ _ _ _
    rw [hwS]
    have h1 : RowIs (w.alloc (.cells #[.int .i64 Lo, .bool Co, .int .i64 per] 24)) w.heap.size #[.int .i64 Lo, .bool Co, .int .i64 per] 24 := RowIs.new _ _ _ _ rfl
    exact h1.below (bwA _ _)
  have HRR : Hid (RowIs wS (w.heap.size + 1) zero6 30) := by show RowIs _ _ _ _; rw [hwS]; exact RowIs.new _ _ _ _ (by simp)
  have HRB : Hid (w.heap.size ≤ w.heap.size + 1 ∧ w.heap.size + 1 < wS.heap.size ∧ w.heap.size ≤ wS.heap.size ∧ wS.heap.size = w.heap.size + 2) := by show _ ∧ _; rw [hwS]; simp; omega
  have CFS : Hid (∀ W, Abv wS W → W.cell? ⟨w.heap.size, 0, none⟩ = some (.int .i64 Lo) ∧ W.cell? ⟨w.heap.size, 1, none⟩ = some (.bool Co) ∧ W.cell? ⟨w.heap.size, 2, none⟩ = some (.int .i64 per)) := fun W hW => ⟨(HSR.out.below hW).cell 0 _ rfl, (HSR.out.below hW).cell 1 _ rfl, (HSR.out.below hW).cell 2 _ rfl⟩
  have HRW : Hid (∀ W, Abv wS W → RowIs W (w.heap.size + 1) zero6 30) := fun W hW => HRR.out.below hW
  have HCV : Hid (∀ W, Below ((((w.alloc (.cells #[.int .i64 Lo, .bool Co, .int .i64 per] 24)).alloc (.cells zero6 30)).alloc (symB Lo Co))).heap.size ((((w.alloc (.cells #[.int .i64 Lo, .bool Co, .int .i64 per] 24)).alloc (.cells zero6 30)).alloc (symB Lo Co))) W → Below wS.heap.size wS W) := by show ∀ W, _ → _; rw [← hwS]; exact fun W h => bw1 h
  clear hwS
  obtain ⟨f0, f1, f2⟩ := CFS.out wS (Below.refl _ _)
  rw [HWE.out] at f0 f1 f2
  have b1 : ¬ (4096 : Int) < (n : Int) := by omega
  have b2 : ((n : Int) == 0) = false := by rw [beq_eq_false_iff_ne]; omega
  have b3 : ¬ n = 0 := by omega
  have HEX : Hid (∀ W, Calls Tryz.prog 29 #[symv Lo Co] W fun e w' => e = .returned (.bool true) ∧ Below W.heap.size W w') := fun W => by rw [← a3]; exact exists_any Lo Co W
  clear a3
  go_enter Tryz.func12, Tryz.ntmps12
  go_wp2_with (go_at_call 29; refine (HEX.out _).mono ?_; rintro e w1 ⟨rfl, hb1⟩; have HB1 : Hid (Below wS.heap.size wS w1) := HCV.out _ hb1; clear hb1 f0 f1 f2; obtain ⟨f0, f1, f2⟩ := CFS.out w1 HB1.out; have c0 : (w1).cell? ⟨w.heap.size + 1, 0, none⟩ = some (.int .i64 0) := (HRW.out w1 HB1.out).cell 0 _ rfl; have c1 : (w1).cell? ⟨w.heap.size + 1, 1, none⟩ = some (.bool false) := (HRW.out w1 HB1.out).cell 1 _ rfl; have c2 : (w1).cell? ⟨w.heap.size + 1, 2, none⟩ = some (.int .i64 0) := (HRW.out w1 HB1.out).cell 2 _ rfl; have c3 : (w1).cell? ⟨w.heap.size + 1, 3, none⟩ = some (.int .i64 0) := (HRW.out w1 HB1.out).cell 3 _ rfl; have c4 : (w1).cell? ⟨w.heap.size + 1, 4, none⟩ = some (.int .i64 0) := (HRW.out w1 HB1.out).cell 4 _ rfl; have c5 : (w1).cell? ⟨w.heap.size + 1, 5, none⟩ = some (.slice none 0 0) := (HRW.out w1 HB1.out).cell 5 _ rfl; have d0 : (w1).frozen? ⟨w.heap.size + 1, 0, none⟩ = false := frozen_of_row _ _ _ _ _ ((HRW.out w1 HB1.out)); have d1 : (w1).frozen? ⟨w.heap.size + 1, 1, none⟩ = false := frozen_of_row _ _ _ _ _ ((HRW.out w1 HB1.out)); have d2 : (w1).frozen? ⟨w.heap.size + 1, 2, none⟩ = false := frozen_of_row _ _ _ _ _ ((HRW.out w1 HB1.out)); have d3 : (w1).frozen? ⟨w.heap.size + 1, 3, none⟩ = false := frozen_of_row _ _ _ _ _ ((HRW.out w1 HB1.out)); have d4 : (w1).frozen? ⟨w.heap.size + 1, 4, none⟩ = false := frozen_of_row _ _ _ _ _ ((HRW.out w1 HB1.out)); have d5 : (w1).frozen? ⟨w.heap.size + 1, 5, none⟩ = false := frozen_of_row _ _ _ _ _ ((HRW.out w1 HB1.out)))
  refine bodyPost_ret (v := .tuple #[.agg zero6, .int .i64 3]) (by simp [results, Tryz.results12, go_sem, c0, c1, c2, c3, c4, c5, d0, d1, d2, d3, d4, d5]) rfl ⟨.agg zero6, rfl, rfl, ?_⟩
  exact ((((((HWS.out.trans (HB1.out.mono HRB.out.2.2.1)).setCell HRB.out.1 _).setCell HRB.out.1 _).setCell HRB.out.1 _).setCell HRB.out.1 _).setCell HRB.out.1 _).setCell HRB.out.1 _
set_option maxRecDepth 100000 in
set_option maxHeartbeats 2000000 in
theorem Encode_e3b (A : Option Addr) (n ca : Nat) (l : List UInt8) (Lo : Int) (Co : Bool) (per : Int) (w : World) (a1 : n ≤ 4096) (a2 : 1 ≤ n) (a4 : ¬ Lo = 0) (a3 : exB Lo Co = true) (a5 : ¬ per < 5) (a6 : 90 < per) (hn63 : n ≤ 9223372036854775807) :
    Calls Tryz.prog 12 #[.slice A n ca, .agg #[.int .i64 Lo, .bool Co, .int .i64 per]] w (EncR w l (none, 3)) := by
  obtain ⟨wS, hwS⟩ : ∃ wS, wS = (w.alloc (.cells #[.int .i64 Lo, .bool Co, .int .i64 per] 24)).alloc (.cells zero6 30) := ⟨_, rfl⟩
  have HWE := Lib.hid hwS
  have HWS : Hid (Below w.heap.size w wS) := by show Below _ _ _; rw [hwS]; exact bwAlloc (bwA _ _) _
  have HSR : Hid (RowIs wS w.heap.size #[.int .i64 Lo, .bool Co, .int .i64 per] 24) := by
    show RowIs _ _ _ _
    rw [hwS]
    have h1 : RowIs (w.alloc (.cells #[.int .i64 Lo, .bool Co, .int .i64 per] 24)) w.heap.size #[.int .i64 Lo, .bool Co, .int .i64 per] 24 := RowIs.new _ _ _ _ rfl
    exact h1.below (bwA _ _)
  have HRR : Hid (RowIs wS (w.heap.size + 1) zero6 30) := by show RowIs _ _ _ _; rw [hwS]; exact RowIs.new _ _ _ _ (by simp)
  have HRB : Hid (w.heap.size ≤ w.heap.size + 1 ∧ w.heap.size + 1 < wS.heap.size ∧ w.heap.size ≤ wS.heap.size ∧ wS.heap.size = w.heap.size + 2) := by show _ ∧ _; rw [hwS]; simp; omega
  have CFS : Hid (∀ W, Abv wS W → W.cell? ⟨w.heap.size, 0, none⟩ = some (.int .i64 Lo) ∧ W.cell? ⟨w.heap.size, 1, none⟩ = some (.bool Co) ∧ W.cell? ⟨w.heap.size, 2, none⟩ = some (.int .i64 per)) := fun W hW => ⟨(HSR.out.below hW).cell 0 _ rfl, (HSR.out.below hW).cell 1 _ rfl, (HSR.out.below hW).cell 2 _ rfl⟩
  have HRW : Hid (∀ W, Abv wS W → RowIs W (w.heap.size + 1) zero6 30) := fun W hW => HRR.out.below hW
  have HCV : Hid (∀ W, Below ((((w.alloc (.cells #[.int .i64 Lo, .bool Co, .int .i64 per] 24)).alloc (.cells zero6 30)).alloc (symB Lo Co))).heap.size ((((w.alloc (.cells #[.int .i64 Lo, .bool Co, .int .i64 per] 24)).alloc (.cells zero6 30)).alloc (symB Lo Co))) W → Below wS.heap.size wS W) := by show ∀ W, _ → _; rw [← hwS]; exact fun W h => bw1 h
  clear hwS
  obtain ⟨f0, f1, f2⟩ := CFS.out wS (Below.refl _ _)
  rw [HWE.out] at f0 f1 f2
  have b1 : ¬ (4096 : Int) < (n : Int) := by omega
  have b2 : ((n : Int) == 0) = false := by rw [beq_eq_false_iff_ne]; omega
  have b3 : ¬ n = 0 := by omega
  have HEX : Hid (∀ W, Calls Tryz.prog 29 #[symv Lo Co] W fun e w' => e = .returned (.bool true) ∧ Below W.heap.size W w') := fun W => by rw [← a3]; exact exists_any Lo Co W
  clear a3
  go_enter Tryz.func12, Tryz.ntmps12
  go_wp2_with (go_at_call 29; refine (HEX.out _).mono ?_; rintro e w1 ⟨rfl, hb1⟩; have HB1 : Hid (Below wS.heap.size wS w1) := HCV.out _ hb1; clear hb1 f0 f1 f2; obtain ⟨f0, f1, f2⟩ := CFS.out w1 HB1.out; have c0 : (w1).cell? ⟨w.heap.size + 1, 0, none⟩ = some (.int .i64 0) := (HRW.out w1 HB1.out).cell 0 _ rfl; have c1 : (w1).cell? ⟨w.heap.size + 1, 1, none⟩ = some (.bool false) := (HRW.out w1 HB1.out).cell 1 _ rfl; have c2 : (w1).cell? ⟨w.heap.size + 1, 2, none⟩ = some (.int .i64 0) := (HRW.out w1 HB1.out).cell 2 _ rfl; have c3 : (w1).cell? ⟨w.heap.size + 1, 3, none⟩ = some (.int .i64 0) := (HRW.out w1 HB1.out).cell 3 _ rfl; have c4 : (w1).cell? ⟨w.heap.size + 1, 4, none⟩ = some (.int .i64 0) := (HRW.out w1 HB1.out).cell 4 _ rfl; have c5 : (w1).cell? ⟨w.heap.size + 1, 5, none⟩ = some (.slice none 0 0) := (HRW.out w1 HB1.out).cell 5 _ rfl; have d0 : (w1).frozen? ⟨w.heap.size + 1, 0, none⟩ = false := frozen_of_row _ _ _ _ _ ((HRW.out w1 HB1.out)); have d1 : (w1).frozen? ⟨w.heap.size + 1, 1, none⟩ = false := frozen_of_row _ _ _ _ _ ((HRW.out w1 HB1.out)); have d2 : (w1).frozen? ⟨w.heap.size + 1, 2, none⟩ = false := frozen_of_row _ _ _ _ _ ((HRW.out w1 HB1.out)); have d3 : (w1).frozen? ⟨w.heap.size + 1, 3, none⟩ = false := frozen_of_row _ _ _ _ _ ((HRW.out w1 HB1.out)); have d4 : (w1).frozen? ⟨w.heap.size + 1, 4, none⟩ = false := frozen_of_row _ _ _ _ _ ((HRW.out w1 HB1.out)); have d5 : (w1).frozen? ⟨w.heap.size + 1, 5, none⟩ = false := frozen_of_row _ _ _ _ _ ((HRW.out w1 HB1.out)))
  refine bodyPost_ret (v := .tuple #[.agg zero6, .int .i64 3]) (by simp [results, Tryz.results12, go_sem, c0, c1, c2, c3, c4, c5, d0, d1, d2, d3, d4, d5]) rfl ⟨.agg zero6, rfl, rfl, ?_⟩
  exact ((((((HWS.out.trans (HB1.out.mono HRB.out.2.2.1)).setCell HRB.out.1 _).setCell HRB.out.1 _).setCell HRB.out.1 _).setCell HRB.out.1 _).setCell HRB.out.1 _).setCell HRB.out.1 _
set_option maxRecDepth 100000 in
set_option maxHeartbeats 2000000 in
theorem Encode_e3c (A : Option Addr) (n ca : Nat) (l : List UInt8) (Co : Bool) (per : Int) (w : World) (a1 : n ≤ 4096) (a2 : 1 ≤ n) (a5 : per < 5) (hn63 : n ≤ 9223372036854775807) :
    Calls Tryz.prog 12 #[.slice A n ca, .agg #[.int .i64 0, .bool Co, .int .i64 per]] w (EncR w l (none, 3)) := by
  obtain ⟨wS, hwS⟩ : ∃ wS, wS = (w.alloc (.cells #[.int .i64 0, .bool Co, .int .i64 per] 24)).alloc (.cells zero6 30) := ⟨_, rfl⟩
  have HWE := Lib.hid hwS
  have HWS : Hid (Below w.heap.size w wS) := by show Below _ _ _; rw [hwS]; exact bwAlloc (bwA _ _) _
  have HSR : Hid (RowIs wS w.heap.size #[.int .i64 0, .bool Co, .int .i64 per] 24) := by
    show RowIs _ _ _ _
    rw [hwS]
    have h1 : RowIs (w.alloc (.cells #[.int .i64 0, .bool Co, .int .i64 per] 24)) w.heap.size #[.int .i64 0, .bool Co, .int .i64 per] 24 := RowIs.new _ _ _ _ rfl
    exact h1.below (bwA _ _)
  have HRR : Hid (RowIs wS (w.heap.size + 1) zero6 30) := by show RowIs _ _ _ _; rw [hwS]; exact RowIs.new _ _ _ _ (by simp)
  have HRB : Hid (w.heap.size ≤ w.heap.size + 1 ∧ w.heap.size + 1 < wS.heap.size ∧ w.heap.size ≤ wS.heap.size ∧ wS.heap.size = w.heap.size + 2) := by show _ ∧ _; rw [hwS]; simp; omega
  have CFS : Hid (∀ W, Abv wS W → W.cell? ⟨w.heap.size, 0, none⟩ = some (.int .i64 0) ∧ W.cell? ⟨w.heap.size, 1, none⟩ = some (.bool Co) ∧ W.cell? ⟨w.heap.size, 2, none⟩ = some (.int .i64 per)) := fun W hW => ⟨(HSR.out.below hW).cell 0 _ rfl, (HSR.out.below hW).cell 1 _ rfl, (HSR.out.below hW).cell 2 _ rfl⟩
  have HRW : Hid (∀ W, Abv wS W → RowIs W (w.heap.size + 1) zero6 30) := fun W hW => HRR.out.below hW
  have HCV : Hid (∀ W, Below ((((w.alloc (.cells #[.int .i64 0, .bool Co, .int .i64 per] 24)).alloc (.cells zero6 30)).alloc (symB 0 Co))).heap.size ((((w.alloc (.cells #[.int .i64 0, .bool Co, .int .i64 per] 24)).alloc (.cells zero6 30)).alloc (symB 0 Co))) W → Below wS.heap.size wS W) := by show ∀ W, _ → _; rw [← hwS]; exact fun W h => bw1 h
  clear hwS
  obtain ⟨f0, f1, f2⟩ := CFS.out wS (Below.refl _ _)
  rw [HWE.out] at f0 f1 f2
  have b1 : ¬ (4096 : Int) < (n : Int) := by omega
  have b2 : ((n : Int) == 0) = false := by rw [beq_eq_false_iff_ne]; omega
  have b3 : ¬ n = 0 := by omega
  go_enter Tryz.func12, Tryz.ntmps12
  go_wp2
  refine bodyPost_ret (v := .tuple #[.agg zero6, .int .i64 3]) (by simp [results, Tryz.results12, go_sem]) rfl ⟨.agg zero6, rfl, rfl, ?_⟩
  exact bwAlloc (bwAlloc (bwA _ _) _) _
set_option maxRecDepth 100000 in
set_option maxHeartbeats 2000000 in
theorem Encode_e3d (A : Option Addr) (n ca : Nat) (l : List UInt8) (Co : Bool) (per : Int) (w : World) (a1 : n ≤ 4096) (a2 : 1 ≤ n) (a5 : ¬ per < 5) (a6 : 90 < per) (hn63 : n ≤ 9223372036854775807) :
    Calls Tryz.prog 12 #[.slice A n ca, .agg #[.int .i64 0, .bool Co, .int .i64 per]] w (EncR w l (none, 3)) := by
  obtain ⟨wS, hwS⟩ : ∃ wS, wS = (w.alloc (.cells #[.int .i64 0, .bool Co, .int .i64 per] 24)).alloc (.cells zero6 30) := ⟨_, rfl⟩
  have HWE := Lib.hid hwS
  have HWS : Hid (Below w.heap.size w wS) := by show Below _ _ _; rw [hwS]; exact bwAlloc (bwA _ _) _
  have HSR : Hid (RowIs wS w.heap.size #[.int .i64 0, .bool Co, .int .i64 per] 24) := by
    show RowIs _ _ _ _
    rw [hwS]
    have h1 : RowIs (w.alloc (.cells #[.int .i64 0, .bool Co, .int .i64 per] 24)) w.heap.size #[.int .i64 0, .bool Co, .int .i64 per] 24 := RowIs.new _ _ _ _ rfl
    exact h1.below (bwA _ _)
  have HRR : Hid (RowIs wS (w.heap.size + 1) zero6 30) := by show RowIs _ _ _ _; rw [hwS]; exact RowIs.new _ _ _ _ (by simp)
  have HRB : Hid (w.heap.size ≤ w.heap.size + 1 ∧ w.heap.size + 1 < wS.heap.size ∧ w.heap.size ≤ wS.heap.size ∧ wS.heap.size = w.heap.size + 2) := by show _ ∧ _; rw [hwS]; simp; omega
  have CFS : Hid (∀ W, Abv wS W → W.cell? ⟨w.heap.size, 0, none⟩ = some (.int .i64 0) ∧ W.cell? ⟨w.heap.size, 1, none⟩ = some (.bool Co) ∧ W.cell? ⟨w.heap.size, 2, none⟩ = some (.int .i64 per)) := fun W hW => ⟨(HSR.out.below hW).cell 0 _ rfl, (HSR.out.below hW).cell 1 _ rfl, (HSR.out.below hW).cell 2 _ rfl⟩
  have HRW : Hid (∀ W, Abv wS W → RowIs W (w.heap.size + 1) zero6 30) := fun W hW => HRR.out.below hW
  have HCV : Hid (∀ W, Below ((((w.alloc (.cells #[.int .i64 0, .bool Co, .int .i64 per] 24)).alloc (.cells zero6 30)).alloc (symB 0 Co))).heap.size ((((w.alloc (.cells #[.int .i64 0, .bool Co, .int .i64 per] 24)).alloc (.cells zero6 30)).alloc (symB 0 Co))) W → Below wS.heap.size wS W) := by show ∀ W, _ → _; rw [← hwS]; exact fun W h => bw1 h
  clear hwS
  obtain ⟨f0, f1, f2⟩ := CFS.out wS (Below.refl _ _)
  rw [HWE.out] at f0 f1 f2
  have b1 : ¬ (4096 : Int) < (n : Int) := by omega
  have b2 : ((n : Int) == 0) = false := by rw [beq_eq_false_iff_ne]; omega
  have b3 : ¬ n = 0 := by omega
  go_enter Tryz.func12, Tryz.ntmps12
  go_wp2
  refine bodyPost_ret (v := .tuple #[.agg zero6, .int .i64 3]) (by simp [results, Tryz.results12, go_sem]) rfl ⟨.agg zero6, rfl, rfl, ?_⟩
  exact bwAlloc (bwAlloc (bwA _ _) _) _
end Go.Proofs.YtmnlkganmgcpbaaGreatDoor
