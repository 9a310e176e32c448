/- For every input, the law AztecSmallest of layer 28 (aztec) answers true and leaves its arguments as they were, whatever the listed tables of Go's library hold when it begins: the row and its tied card. No condition beyond the listed tables. -/
import Derived.Test.YtmnlkganmgcpbaaGreatDoorQa40
import Derived.Test.YtmnlkganmgcpbaaGreatDoorQa13
import Derived.Lib.SmallJoins
import Derived.Test.YtmnlkganmgcpbaaGreatDoorCards
namespace Go.Proofs.YtmnlkganmgcpbaaGreatDoor.aztecSmallest
open Go.RowKit
set_option linter.unusedVariables false
set_option linter.unusedSimpArgs false
theorem cells2 {W : World} {b : Nat} {u v : Value} {r : List Value} (h : CellsAt W b (u :: v :: r)) : W.cell? ⟨b, 0, none⟩ = some u ∧ W.cell? ⟨b, 1, none⟩ = some v := ⟨h.2 0 (by simp), h.2 1 (by simp)⟩
theorem cells6 {W : World} {b : Nat} {u v x y z t : Value} (h : CellsAt W b [u, v, x, y, z, t]) : W.cell? ⟨b, 0, none⟩ = some u ∧ W.cell? ⟨b, 1, none⟩ = some v ∧ W.cell? ⟨b, 2, none⟩ = some x ∧ W.cell? ⟨b, 3, none⟩ = some y ∧ W.cell? ⟨b, 4, none⟩ = some z ∧ W.cell? ⟨b, 5, none⟩ = some t := ⟨h.2 0 (by simp), h.2 1 (by simp), h.2 2 (by simp), h.2 3 (by simp), h.2 4 (by simp), h.2 5 (by simp)⟩
set_option maxRecDepth 100000 in
set_option maxHeartbeats 4000000 in
theorem walk_big (A : Option Addr) (n ca : Nat) (c : Bool) (per : Int) (w : World) (h60 : 60 < n) (hn63 : n ≤ 9223372036854775807) : Calls Tryz.prog 8 #[.slice A n ca, .bool c, .int .i64 per] w fun e w' => e = .returned (.bool true) ∧ Below w.heap.size w w' := by
  have HEX : Hid (∀ W, Calls Tryz.prog 11 #[] W fun e w' => e = .returned (.bool true) ∧ Below W.heap.size W w') := fun W => examples_any W
  have h1 : ¬ (n : Int) ≤ 60 := by omega
  have h2 : (60 : Int) < n := by omega
  clear h60
  go_enter Tryz.func8, Tryz.ntmps8
  go_wp2_with (go_at_call 11; refine (HEX.out _).mono ?_; rintro e w9 ⟨rfl, hb9⟩; have HB9 : Hid (Below w.heap.size w w9) := hb9; clear hb9)
  go_ret
  exact ⟨rfl, HB9.out⟩
set_option maxRecDepth 100000 in
set_option maxHeartbeats 4000000 in
theorem walk_err (A : Option Addr) (n ca : Nat) (l : List UInt8) (c : Bool) (per k : Int) (w : World) (h60 : n ≤ 60) (hs : SR vU 0 w A n ca l) (hz : encZ l 0 c per = (none, k)) (hk0 : ¬ k = 0)
    (hc : n = 0 ∨ (¬ n = 0 ∧ per < 5) ∨ (¬ n = 0 ∧ ¬ per < 5 ∧ 90 < per) ∨ (¬ n = 0 ∧ ¬ per < 5 ∧ ¬ 90 < per ∧ k = 16)) : Calls Tryz.prog 8 #[.slice A n ca, .bool c, .int .i64 per] w fun e w' => e = .returned (.bool true) ∧ Below w.heap.size w w' := by
  have HEX : Hid (∀ W, Calls Tryz.prog 11 #[] W fun e w' => e = .returned (.bool true) ∧ Below W.heap.size W w') := fun W => examples_any W
  have HEN : Hid (Calls Tryz.prog 12 #[.slice A n ca, .agg #[.int .i64 0, .bool c, .int .i64 per]] w fun e w' => e = .returned (.tuple #[.agg zero6, .int .i64 k]) ∧ Below w.heap.size w w') := by
    refine (Encode_full A n ca l 0 c per w hs (by have := hs.hn; omega)).mono ?_
    rintro e w' ⟨-, v, rfl, hv, hb⟩
    rw [hz] at hv ⊢
    obtain rfl := hv
    exact ⟨rfl, hb⟩
  have h1 : (n : Int) ≤ 60 := by omega
  have h2 : ¬ (60 : Int) < n := by omega
  clear hz hs h60
  rcases hc with h | ⟨h3, h⟩ | ⟨h3, h4, h⟩ | ⟨h3, h4, h5, h⟩
  · subst h
    go_enter Tryz.func8, Tryz.ntmps8
    go_wp2_with (first
      | (go_at_call 12; refine HEN.out.mono ?_; rintro e w1 ⟨rfl, hb1⟩; have HB1 : Hid (Below w.heap.size w w1) := hb1; clear hb1; simp only [zero6])
      | (go_at_call 11; refine (HEX.out _).mono ?_; rintro e w9 ⟨rfl, hb9⟩; have HB9 : Hid (Below w.heap.size w w9) := bwStep (bwAlloc HB1.out _) hb9; clear hb9))
    go_ret
    exact ⟨rfl, HB9.out⟩
  · have h6 : ¬ (n : Int) = 0 := by omega
    go_enter Tryz.func8, Tryz.ntmps8
    go_wp2_with (first
      | (go_at_call 12; refine HEN.out.mono ?_; rintro e w1 ⟨rfl, hb1⟩; have HB1 : Hid (Below w.heap.size w w1) := hb1; clear hb1; simp only [zero6])
      | (go_at_call 11; refine (HEX.out _).mono ?_; rintro e w9 ⟨rfl, hb9⟩; have HB9 : Hid (Below w.heap.size w w9) := bwStep (bwAlloc HB1.out _) hb9; clear hb9))
    go_ret
    exact ⟨rfl, HB9.out⟩
  · have h6 : ¬ (n : Int) = 0 := by omega
    go_enter Tryz.func8, Tryz.ntmps8
    go_wp2_with (first
      | (go_at_call 12; refine HEN.out.mono ?_; rintro e w1 ⟨rfl, hb1⟩; have HB1 : Hid (Below w.heap.size w w1) := hb1; clear hb1; simp only [zero6])
      | (go_at_call 11; refine (HEX.out _).mono ?_; rintro e w9 ⟨rfl, hb9⟩; have HB9 : Hid (Below w.heap.size w w9) := bwStep (bwAlloc HB1.out _) hb9; clear hb9))
    go_ret
    exact ⟨rfl, HB9.out⟩
  · have h6 : ¬ (n : Int) = 0 := by omega
    subst h
    go_enter Tryz.func8, Tryz.ntmps8
    go_wp2_with (first
      | (go_at_call 12; refine HEN.out.mono ?_; rintro e w1 ⟨rfl, hb1⟩; have HB1 : Hid (Below w.heap.size w w1) := hb1; clear hb1; simp only [zero6])
      | (go_at_call 11; refine (HEX.out _).mono ?_; rintro e w9 ⟨rfl, hb9⟩; have HB9 : Hid (Below w.heap.size w w9) := bwStep (bwAlloc HB1.out _) hb9; clear hb9))
    go_ret
    exact ⟨rfl, HB9.out⟩
theorem enc_16 {l : List UInt8} {per : Int} {q : Nat} {i : Nat} {c : Bool} (hz : encErr l.length 0 false per = 0) (hq : per = q) (h1 : 1 ≤ i) (hx : exB i c = true) (h : okS (txtL l) q (i, c) = false) : encZ l i c per = (none, 16) := by
  subst hq
  have h0 : encErr l.length (i : Int) c (q : Int) = 0 := by
    unfold encErr at hz ⊢
    rw [hx, if_neg (show ¬ ((i : Int) ≠ 0 ∧ true = false) from fun h => by cases h.2)]
    rw [if_neg (show ¬ ((0 : Int) ≠ 0 ∧ exB 0 false = false) from fun h => h.1 rfl)] at hz
    exact hz
  unfold encZ
  rw [h0, if_neg (by decide)]
  have : pickS (txtL l) (q : Int).toNat (i : Int).toNat c = none := by
    rw [Int.toNat_natCast, Int.toNat_natCast]
    unfold pickS candL
    rw [if_neg (by omega), List.find?_cons, h]
    rfl
  rw [this]
theorem enc_ok {l : List UInt8} {per : Int} {q : Nat} {i : Nat} {c : Bool} (hz : encErr l.length 0 false per = 0) (hq : per = q) (h1 : 1 ≤ i) (hx : exB i c = true) (h : okS (txtL l) q (i, c) = true) : encZ l i c per = (some (i, c), 0) := by
  subst hq
  have h0 : encErr l.length (i : Int) c (q : Int) = 0 := by
    unfold encErr at hz ⊢
    rw [hx, if_neg (show ¬ ((i : Int) ≠ 0 ∧ true = false) from fun h => by cases h.2)]
    rw [if_neg (show ¬ ((0 : Int) ≠ 0 ∧ exB 0 false = false) from fun h => h.1 rfl)] at hz
    exact hz
  unfold encZ
  rw [h0, if_neg (by decide)]
  have : pickS (txtL l) (q : Int).toNat (i : Int).toNat c = some (i, c) := by
    rw [Int.toNat_natCast, Int.toNat_natCast]
    unfold pickS candL
    rw [if_neg (by omega), List.find?_cons, h]
  rw [this]
theorem exB_of {i : Nat} {c : Bool} (h1 : 1 ≤ i) (h2 : i ≤ 32) (h3 : c = true → i ≤ 4) : exB (i : Int) c = true := by
  unfold exB
  cases c with
  | true => have := h3 rfl; simp; omega
  | false => simp; omega
set_option maxRecDepth 100000 in
set_option maxHeartbeats 4000000 in
theorem walk_comp (A : Option Addr) (n ca : Nat) (L : Nat) (c : Bool) (per k sd : Int) (dl : List Bool) (w : World) (h60 : n ≤ 60) (hL1 : 1 ≤ L) (hL6 : L ≤ 6) (hL4 : L ≤ 4)
    (HEN1 : Hid (Calls Tryz.prog 12 #[.slice A n ca, .agg #[.int .i64 0, .bool c, .int .i64 per]] w fun e w' => ∃ A N cp, e = .returned (.tuple #[.agg #[.int .i64 (L : Int), .bool true, .int .i64 k, .int .i64 sd, .int .i64 sd, .slice A N cp], .int .i64 0]) ∧ SR vB false w' A N cp dl ∧ Below w.heap.size w w'))
    (HEN2 : Hid (∀ V, Abv w V → Calls Tryz.prog 12 #[.slice A n ca, .agg #[.int .i64 (L : Int), .bool true, .int .i64 per]] V fun e w' => ∃ A N cp, e = .returned (.tuple #[.agg #[.int .i64 (L : Int), .bool true, .int .i64 k, .int .i64 sd, .int .i64 sd, .slice A N cp], .int .i64 0]) ∧ SR vB false w' A N cp dl ∧ Below V.heap.size V w'))
    (HEN3 : Hid (∀ i : Nat, 1 ≤ i → i ≤ 4 → i < L → ∀ V, Abv w V → Calls Tryz.prog 12 #[.slice A n ca, .agg #[.int .i64 (i : Int), .bool true, .int .i64 per]] V fun e w' => e = .returned (.tuple #[.agg zero6, .int .i64 16]) ∧ Below V.heap.size V w'))
    : Calls Tryz.prog 8 #[.slice A n ca, .bool c, .int .i64 per] w fun e w' => e = .returned (.bool true) ∧ Below w.heap.size w w' := by
  have HEX : Hid (∀ W, Calls Tryz.prog 11 #[] W fun e w' => e = .returned (.bool true) ∧ Below W.heap.size W w') := fun W => examples_any W
  have h1 : (n : Int) ≤ 60 := by omega
  have h2 : ¬ (60 : Int) < n := by omega
  have h3 : ¬ (6 : Int) < L := by omega
  cases c with
  | true =>
    go_enter Tryz.func8, Tryz.ntmps8
    go_wp2_with (first
      | (go_at_call 12; (with_reducible show Calls _ _ #[_, .agg #[.int .i64 0, _, _]] _ _); refine HEN1.out.mono ?_; rintro e w1 ⟨A1, N1, cp1, rfl, hs1, hb1⟩; have HB1 : Hid (Below w.heap.size w (w1.alloc (.cells #[.int .i64 (L : Int), .bool true, .int .i64 k, .int .i64 sd, .int .i64 sd, .slice A1 N1 cp1] 30))) := bwAlloc hb1 _; have HC1 : Hid (CellsAt (w1.alloc (.cells #[.int .i64 (L : Int), .bool true, .int .i64 k, .int .i64 sd, .int .i64 sd, .slice A1 N1 cp1] 30)) w1.heap.size [.int .i64 (L : Int), .bool true, .int .i64 k, .int .i64 sd, .int .i64 sd, .slice A1 N1 cp1]) := CellsAt.new _ _ _ _ rfl; have HS1 : Hid (SR vB false (w1.alloc (.cells #[.int .i64 (L : Int), .bool true, .int .i64 k, .int .i64 sd, .int .i64 sd, .slice A1 N1 cp1] 30)) A1 N1 cp1 dl) := hs1.below (bwA _ _); clear hb1 hs1)
      | (go_at_call 12; (with_reducible show Calls _ _ #[_, .agg #[.int .i64 (L : Int), _, _]] _ _); refine (HEN2.out _ HB1.out).mono ?_; rintro e w2 ⟨A2, N2, cp2, rfl, hs2, hb2⟩; have HB2 : Hid (Below w.heap.size w (w2.alloc (.cells #[.int .i64 (L : Int), .bool true, .int .i64 k, .int .i64 sd, .int .i64 sd, .slice A2 N2 cp2] 30))) := bwAlloc (bwStep HB1.out hb2) _; have HC2 : Hid (CellsAt (w2.alloc (.cells #[.int .i64 (L : Int), .bool true, .int .i64 k, .int .i64 sd, .int .i64 sd, .slice A2 N2 cp2] 30)) w2.heap.size [.int .i64 (L : Int), .bool true, .int .i64 k, .int .i64 sd, .int .i64 sd, .slice A2 N2 cp2]) := CellsAt.new _ _ _ _ rfl; have HS2 : Hid (SR vB false (w2.alloc (.cells #[.int .i64 (L : Int), .bool true, .int .i64 k, .int .i64 sd, .int .i64 sd, .slice A2 N2 cp2] 30)) A2 N2 cp2 dl) := hs2.below (bwA _ _); have HC3 := Lib.hid ((HC1.out.below hb2).below (bwA w2 (.cells #[.int .i64 (L : Int), .bool true, .int .i64 k, .int .i64 sd, .int .i64 sd, .slice A2 N2 cp2] 30))); have HS3 := Lib.hid ((HS1.out.below hb2).below (bwA w2 (.cells #[.int .i64 (L : Int), .bool true, .int .i64 k, .int .i64 sd, .int .i64 sd, .slice A2 N2 cp2] 30))); obtain ⟨q0, q1, q2, q3, q4, q5⟩ := cells6 HC3.out; clear hb2 hs2)
      | ((with_reducible show wpList _ _ _ (⟨some 67, Op.load 30 _, _, _, _, _⟩ :: _) _ _); refine wpList_loadAgg rfl 30 _ rfl _ Tryz.underlying30 rfl ⟨w1.heap.size, 0, none⟩ _ codeSz rfl (load_cells HC3.out) ?_)
      | ((with_reducible show wpList _ _ _ (⟨some 68, Op.load 30 _, _, _, _, _⟩ :: _) _ _); refine wpList_loadAgg rfl 30 _ rfl _ Tryz.underlying30 rfl ⟨w2.heap.size, 0, none⟩ _ codeSz rfl (load_cells HC2.out) ?_)
      | (go_at_call 22; refine (equal_true _ _ _ _ _ _ _ _ _ _ _ _ _ HS3.out HS2.out).mono ?_; rintro e w3 ⟨rfl, hb3⟩; have HB3 : Hid (Below w.heap.size w w3) := bwStep HB2.out hb3; have HC4 := Lib.hid (HC3.out.below hb3); obtain ⟨r0, r1⟩ := cells2 HC4.out; clear hb3)
      | (go_at_call 11; refine (HEX.out _).mono ?_; rintro e w9 ⟨rfl, hb9⟩; have HB9 : Hid (Below w.heap.size w w9) := bwStep HBX.out hb9; clear hb9))
    have HC5 : Hid (Below w.heap.size w w3 ∧ CellsAt w3 w1.heap.size [.int .i64 (L : Int), .bool true, .int .i64 k, .int .i64 sd, .int .i64 sd, .slice A1 N1 cp1]) := ⟨HB3.out, HC4.out⟩
    clear r0 r1 q0 q1 q2 q3 q4 q5
    go_loopw [11] (fun iv wr => ∃ j : Nat, 1 ≤ j ∧ j ≤ L ∧ iv = .int .i64 j ∧ Hid (Below w.heap.size w wr ∧ CellsAt wr w1.heap.size [.int .i64 (L : Int), .bool true, .int .i64 k, .int .i64 sd, .int .i64 sd, .slice A1 N1 cp1])) (fun iv _ => L - (intOf iv).toNat)
    case atStart => exact ⟨1, Nat.le_refl _, hL1, rfl, HC5.out⟩
    case round =>
      clear HC5
      obtain ⟨j, hj1, hj, rfl, hO⟩ := hrel
      obtain ⟨r0, r1⟩ := cells2 hO.out.2
      have h4 : (j : Int) ≤ 4 := by omega
      by_cases hlt : j < L
      · have h5 : ¬ (L : Int) ≤ (j : Int) := by omega
        have h6 : (j : Int) < (L : Int) := by omega
        go_wp2_with (go_at_call 12; refine (HEN3.out j hj1 (by omega) hlt _ hO.out.1).mono ?_; rintro e w5 ⟨rfl, hb5⟩; have HB5 : Hid (Below w.heap.size w (w5.alloc (.cells zero6 30)) ∧ CellsAt (w5.alloc (.cells zero6 30)) w1.heap.size [.int .i64 (L : Int), .bool true, .int .i64 k, .int .i64 sd, .int .i64 sd, .slice A1 N1 cp1]) := ⟨bwAlloc (bwStep hO.out.1 hb5) _, (hO.out.2.below hb5).below (bwA _ _)⟩; clear hb5; simp only [zero6] at HB5 ⊢)
        exact ⟨⟨j + 1, by omega, by omega, by go_num, HB5.out⟩, by simp [intOf]; omega⟩
      · obtain rfl : L = j := by omega
        have h5 : (L : Int) ≤ (L : Int) := Int.le_refl _
        have HBX : Hid (Below w.heap.size w wr) := hO.out.1
        go_wp2
        refine wp_loop_rounds 1 ?_; rw [rounds_succ]
        go_wp2_with (go_at_call 11; refine (HEX.out _).mono ?_; rintro e w9 ⟨rfl, hb9⟩; have HB9 : Hid (Below w.heap.size w w9) := bwStep HBX.out hb9; clear hb9)
        go_ret
        exact ⟨rfl, HB9.out⟩
  | false =>
    go_enter Tryz.func8, Tryz.ntmps8
    go_wp2_with (first
      | (go_at_call 12; (with_reducible show Calls _ _ #[_, .agg #[.int .i64 0, _, _]] _ _); refine HEN1.out.mono ?_; rintro e w1 ⟨A1, N1, cp1, rfl, hs1, hb1⟩; have HB1 : Hid (Below w.heap.size w (w1.alloc (.cells #[.int .i64 (L : Int), .bool true, .int .i64 k, .int .i64 sd, .int .i64 sd, .slice A1 N1 cp1] 30))) := bwAlloc hb1 _; have HC1 : Hid (CellsAt (w1.alloc (.cells #[.int .i64 (L : Int), .bool true, .int .i64 k, .int .i64 sd, .int .i64 sd, .slice A1 N1 cp1] 30)) w1.heap.size [.int .i64 (L : Int), .bool true, .int .i64 k, .int .i64 sd, .int .i64 sd, .slice A1 N1 cp1]) := CellsAt.new _ _ _ _ rfl; have HS1 : Hid (SR vB false (w1.alloc (.cells #[.int .i64 (L : Int), .bool true, .int .i64 k, .int .i64 sd, .int .i64 sd, .slice A1 N1 cp1] 30)) A1 N1 cp1 dl) := hs1.below (bwA _ _); clear hb1 hs1)
      | (go_at_call 12; (with_reducible show Calls _ _ #[_, .agg #[.int .i64 (L : Int), _, _]] _ _); refine (HEN2.out _ HB1.out).mono ?_; rintro e w2 ⟨A2, N2, cp2, rfl, hs2, hb2⟩; have HB2 : Hid (Below w.heap.size w (w2.alloc (.cells #[.int .i64 (L : Int), .bool true, .int .i64 k, .int .i64 sd, .int .i64 sd, .slice A2 N2 cp2] 30))) := bwAlloc (bwStep HB1.out hb2) _; have HC2 : Hid (CellsAt (w2.alloc (.cells #[.int .i64 (L : Int), .bool true, .int .i64 k, .int .i64 sd, .int .i64 sd, .slice A2 N2 cp2] 30)) w2.heap.size [.int .i64 (L : Int), .bool true, .int .i64 k, .int .i64 sd, .int .i64 sd, .slice A2 N2 cp2]) := CellsAt.new _ _ _ _ rfl; have HS2 : Hid (SR vB false (w2.alloc (.cells #[.int .i64 (L : Int), .bool true, .int .i64 k, .int .i64 sd, .int .i64 sd, .slice A2 N2 cp2] 30)) A2 N2 cp2 dl) := hs2.below (bwA _ _); have HC3 := Lib.hid ((HC1.out.below hb2).below (bwA w2 (.cells #[.int .i64 (L : Int), .bool true, .int .i64 k, .int .i64 sd, .int .i64 sd, .slice A2 N2 cp2] 30))); have HS3 := Lib.hid ((HS1.out.below hb2).below (bwA w2 (.cells #[.int .i64 (L : Int), .bool true, .int .i64 k, .int .i64 sd, .int .i64 sd, .slice A2 N2 cp2] 30))); obtain ⟨q0, q1, q2, q3, q4, q5⟩ := cells6 HC3.out; clear hb2 hs2)
      | ((with_reducible show wpList _ _ _ (⟨some 67, Op.load 30 _, _, _, _, _⟩ :: _) _ _); refine wpList_loadAgg rfl 30 _ rfl _ Tryz.underlying30 rfl ⟨w1.heap.size, 0, none⟩ _ codeSz rfl (load_cells HC3.out) ?_)
      | ((with_reducible show wpList _ _ _ (⟨some 68, Op.load 30 _, _, _, _, _⟩ :: _) _ _); refine wpList_loadAgg rfl 30 _ rfl _ Tryz.underlying30 rfl ⟨w2.heap.size, 0, none⟩ _ codeSz rfl (load_cells HC2.out) ?_)
      | (go_at_call 22; refine (equal_true _ _ _ _ _ _ _ _ _ _ _ _ _ HS3.out HS2.out).mono ?_; rintro e w3 ⟨rfl, hb3⟩; have HB3 : Hid (Below w.heap.size w w3) := bwStep HB2.out hb3; have HC4 := Lib.hid (HC3.out.below hb3); obtain ⟨r0, r1⟩ := cells2 HC4.out; clear hb3)
      | (go_at_call 11; refine (HEX.out _).mono ?_; rintro e w9 ⟨rfl, hb9⟩; have HB9 : Hid (Below w.heap.size w w9) := bwStep HBX.out hb9; clear hb9))
    have HC5 : Hid (Below w.heap.size w w3 ∧ CellsAt w3 w1.heap.size [.int .i64 (L : Int), .bool true, .int .i64 k, .int .i64 sd, .int .i64 sd, .slice A1 N1 cp1]) := ⟨HB3.out, HC4.out⟩
    clear r0 r1 q0 q1 q2 q3 q4 q5
    go_loopw [11] (fun iv wr => ∃ j : Nat, 1 ≤ j ∧ j ≤ L ∧ iv = .int .i64 j ∧ Hid (Below w.heap.size w wr ∧ CellsAt wr w1.heap.size [.int .i64 (L : Int), .bool true, .int .i64 k, .int .i64 sd, .int .i64 sd, .slice A1 N1 cp1])) (fun iv _ => L - (intOf iv).toNat)
    case atStart => exact ⟨1, Nat.le_refl _, hL1, rfl, HC5.out⟩
    case round =>
      clear HC5
      obtain ⟨j, hj1, hj, rfl, hO⟩ := hrel
      obtain ⟨r0, r1⟩ := cells2 hO.out.2
      have h4 : (j : Int) ≤ 4 := by omega
      by_cases hlt : j < L
      · have h5 : ¬ (L : Int) ≤ (j : Int) := by omega
        have h6 : (j : Int) < (L : Int) := by omega
        go_wp2_with (go_at_call 12; refine (HEN3.out j hj1 (by omega) hlt _ hO.out.1).mono ?_; rintro e w5 ⟨rfl, hb5⟩; have HB5 : Hid (Below w.heap.size w (w5.alloc (.cells zero6 30)) ∧ CellsAt (w5.alloc (.cells zero6 30)) w1.heap.size [.int .i64 (L : Int), .bool true, .int .i64 k, .int .i64 sd, .int .i64 sd, .slice A1 N1 cp1]) := ⟨bwAlloc (bwStep hO.out.1 hb5) _, (hO.out.2.below hb5).below (bwA _ _)⟩; clear hb5; simp only [zero6] at HB5 ⊢)
        exact ⟨⟨j + 1, by omega, by omega, by go_num, HB5.out⟩, by simp [intOf]; omega⟩
      · obtain rfl : L = j := by omega
        have h5 : (L : Int) ≤ (L : Int) := Int.le_refl _
        have HBX : Hid (Below w.heap.size w wr) := hO.out.1
        go_wp2
        refine wp_loop_rounds 1 ?_; rw [rounds_succ]
        go_wp2_with (go_at_call 11; refine (HEX.out _).mono ?_; rintro e w9 ⟨rfl, hb9⟩; have HB9 : Hid (Below w.heap.size w w9) := bwStep HBX.out hb9; clear hb9)
        go_ret
        exact ⟨rfl, HB9.out⟩
set_option maxRecDepth 100000 in
set_option maxHeartbeats 4000000 in
theorem walk_full (A : Option Addr) (n ca : Nat) (L : Nat) (per k sd : Int) (dl : List Bool) (w : World) (h60 : n ≤ 60) (hL1 : 1 ≤ L) (hL6 : L ≤ 6)
    (HEN1 : Hid (Calls Tryz.prog 12 #[.slice A n ca, .agg #[.int .i64 0, .bool false, .int .i64 per]] w fun e w' => ∃ A N cp, e = .returned (.tuple #[.agg #[.int .i64 (L : Int), .bool false, .int .i64 k, .int .i64 sd, .int .i64 sd, .slice A N cp], .int .i64 0]) ∧ SR vB false w' A N cp dl ∧ Below w.heap.size w w'))
    (HEN2 : Hid (∀ V, Abv w V → Calls Tryz.prog 12 #[.slice A n ca, .agg #[.int .i64 (L : Int), .bool false, .int .i64 per]] V fun e w' => ∃ A N cp, e = .returned (.tuple #[.agg #[.int .i64 (L : Int), .bool false, .int .i64 k, .int .i64 sd, .int .i64 sd, .slice A N cp], .int .i64 0]) ∧ SR vB false w' A N cp dl ∧ Below V.heap.size V w'))
    (HEN3 : Hid (∀ i : Nat, 1 ≤ i → i ≤ 4 → ∀ V, Abv w V → Calls Tryz.prog 12 #[.slice A n ca, .agg #[.int .i64 (i : Int), .bool true, .int .i64 per]] V fun e w' => e = .returned (.tuple #[.agg zero6, .int .i64 16]) ∧ Below V.heap.size V w'))
    (HEN4 : Hid (∀ i : Nat, 4 ≤ i → i < L → ∀ V, Abv w V → Calls Tryz.prog 12 #[.slice A n ca, .agg #[.int .i64 (i : Int), .bool false, .int .i64 per]] V fun e w' => e = .returned (.tuple #[.agg zero6, .int .i64 16]) ∧ Below V.heap.size V w'))
    : Calls Tryz.prog 8 #[.slice A n ca, .bool false, .int .i64 per] w fun e w' => e = .returned (.bool true) ∧ Below w.heap.size w w' := by
  have HEX : Hid (∀ W, Calls Tryz.prog 11 #[] W fun e w' => e = .returned (.bool true) ∧ Below W.heap.size W w') := fun W => examples_any W
  have h1 : (n : Int) ≤ 60 := by omega
  have h2 : ¬ (60 : Int) < n := by omega
  have h3 : ¬ (6 : Int) < L := by omega
  go_enter Tryz.func8, Tryz.ntmps8
  go_wp2_with (first
    | (go_at_call 12; (with_reducible show Calls _ _ #[_, .agg #[.int .i64 0, _, _]] _ _); refine HEN1.out.mono ?_; rintro e w1 ⟨A1, N1, cp1, rfl, hs1, hb1⟩; have HB1 : Hid (Below w.heap.size w (w1.alloc (.cells #[.int .i64 (L : Int), .bool false, .int .i64 k, .int .i64 sd, .int .i64 sd, .slice A1 N1 cp1] 30))) := bwAlloc hb1 _; have HC1 : Hid (CellsAt (w1.alloc (.cells #[.int .i64 (L : Int), .bool false, .int .i64 k, .int .i64 sd, .int .i64 sd, .slice A1 N1 cp1] 30)) w1.heap.size [.int .i64 (L : Int), .bool false, .int .i64 k, .int .i64 sd, .int .i64 sd, .slice A1 N1 cp1]) := CellsAt.new _ _ _ _ rfl; have HS1 : Hid (SR vB false (w1.alloc (.cells #[.int .i64 (L : Int), .bool false, .int .i64 k, .int .i64 sd, .int .i64 sd, .slice A1 N1 cp1] 30)) A1 N1 cp1 dl) := hs1.below (bwA _ _); clear hb1 hs1)
    | (go_at_call 12; (with_reducible show Calls _ _ #[_, .agg #[.int .i64 (L : Int), _, _]] _ _); refine (HEN2.out _ HB1.out).mono ?_; rintro e w2 ⟨A2, N2, cp2, rfl, hs2, hb2⟩; have HB2 : Hid (Below w.heap.size w (w2.alloc (.cells #[.int .i64 (L : Int), .bool false, .int .i64 k, .int .i64 sd, .int .i64 sd, .slice A2 N2 cp2] 30))) := bwAlloc (bwStep HB1.out hb2) _; have HC2 : Hid (CellsAt (w2.alloc (.cells #[.int .i64 (L : Int), .bool false, .int .i64 k, .int .i64 sd, .int .i64 sd, .slice A2 N2 cp2] 30)) w2.heap.size [.int .i64 (L : Int), .bool false, .int .i64 k, .int .i64 sd, .int .i64 sd, .slice A2 N2 cp2]) := CellsAt.new _ _ _ _ rfl; have HS2 : Hid (SR vB false (w2.alloc (.cells #[.int .i64 (L : Int), .bool false, .int .i64 k, .int .i64 sd, .int .i64 sd, .slice A2 N2 cp2] 30)) A2 N2 cp2 dl) := hs2.below (bwA _ _); have HC3 := Lib.hid ((HC1.out.below hb2).below (bwA w2 (.cells #[.int .i64 (L : Int), .bool false, .int .i64 k, .int .i64 sd, .int .i64 sd, .slice A2 N2 cp2] 30))); have HS3 := Lib.hid ((HS1.out.below hb2).below (bwA w2 (.cells #[.int .i64 (L : Int), .bool false, .int .i64 k, .int .i64 sd, .int .i64 sd, .slice A2 N2 cp2] 30))); obtain ⟨q0, q1, q2, q3, q4, q5⟩ := cells6 HC3.out; clear hb2 hs2)
    | ((with_reducible show wpList _ _ _ (⟨some 67, Op.load 30 _, _, _, _, _⟩ :: _) _ _); refine wpList_loadAgg rfl 30 _ rfl _ Tryz.underlying30 rfl ⟨w1.heap.size, 0, none⟩ _ codeSz rfl (load_cells HC3.out) ?_)
    | ((with_reducible show wpList _ _ _ (⟨some 68, Op.load 30 _, _, _, _, _⟩ :: _) _ _); refine wpList_loadAgg rfl 30 _ rfl _ Tryz.underlying30 rfl ⟨w2.heap.size, 0, none⟩ _ codeSz rfl (load_cells HC2.out) ?_)
    | (go_at_call 22; refine (equal_true _ _ _ _ _ _ _ _ _ _ _ _ _ HS3.out HS2.out).mono ?_; rintro e w3 ⟨rfl, hb3⟩; have HB3 : Hid (Below w.heap.size w w3) := bwStep HB2.out hb3; have HC4 := Lib.hid (HC3.out.below hb3); obtain ⟨r0, r1⟩ := cells2 HC4.out; clear hb3)
    | (go_at_call 11; refine (HEX.out _).mono ?_; rintro e w9 ⟨rfl, hb9⟩; have HB9 : Hid (Below w.heap.size w w9) := bwStep HBX.out hb9; clear hb9))
  have HC5 : Hid (Below w.heap.size w w3 ∧ CellsAt w3 w1.heap.size [.int .i64 (L : Int), .bool false, .int .i64 k, .int .i64 sd, .int .i64 sd, .slice A1 N1 cp1]) := ⟨HB3.out, HC4.out⟩
  clear r0 r1 q0 q1 q2 q3 q4 q5
  go_loopw [11] (fun iv wr => ∃ j : Nat, 1 ≤ j ∧ j ≤ 5 ∧ iv = .int .i64 j ∧ Hid (Below w.heap.size w wr ∧ CellsAt wr w1.heap.size [.int .i64 (L : Int), .bool false, .int .i64 k, .int .i64 sd, .int .i64 sd, .slice A1 N1 cp1])) (fun iv _ => 5 - (intOf iv).toNat)
  case atStart => exact ⟨1, Nat.le_refl _, by omega, rfl, HC5.out⟩
  case round =>
    clear HC5
    obtain ⟨j, hj1, hj, rfl, hO⟩ := hrel
    obtain ⟨r0, r1⟩ := cells2 hO.out.2
    by_cases hlt : j ≤ 4
    · have h4 : (j : Int) ≤ 4 := by omega
      go_wp2_with (go_at_call 12; refine (HEN3.out j hj1 (by omega) _ hO.out.1).mono ?_; rintro e w5 ⟨rfl, hb5⟩; have HB5 : Hid (Below w.heap.size w (w5.alloc (.cells zero6 30)) ∧ CellsAt (w5.alloc (.cells zero6 30)) w1.heap.size [.int .i64 (L : Int), .bool false, .int .i64 k, .int .i64 sd, .int .i64 sd, .slice A1 N1 cp1]) := ⟨bwAlloc (bwStep hO.out.1 hb5) _, (hO.out.2.below hb5).below (bwA _ _)⟩; clear hb5; simp only [zero6] at HB5 ⊢)
      exact ⟨⟨j + 1, by omega, by omega, by go_num, HB5.out⟩, by simp [intOf]; omega⟩
    · have h4 : ¬ (j : Int) ≤ 4 := by omega
      have HC6 : Hid (Below w.heap.size w wr ∧ CellsAt wr w1.heap.size [.int .i64 (L : Int), .bool false, .int .i64 k, .int .i64 sd, .int .i64 sd, .slice A1 N1 cp1]) := hO.out
      clear r0 r1
      go_wp2
      obtain ⟨w4, hw4⟩ : ∃ x, x = wr := ⟨_, rfl⟩
      rw [← hw4] at HC6 ⊢
      clear hw4 hO
      go_loopw [14] (fun iv wr => ∃ i : Nat, 4 ≤ i ∧ (i ≤ L ∨ i = 4) ∧ iv = .int .i64 i ∧ Hid (Below w.heap.size w wr ∧ CellsAt wr w1.heap.size [.int .i64 (L : Int), .bool false, .int .i64 k, .int .i64 sd, .int .i64 sd, .slice A1 N1 cp1])) (fun iv _ => 6 - (intOf iv).toNat)
      case atStart => exact ⟨4, Nat.le_refl _, .inr rfl, rfl, HC6.out⟩
      case round =>
        clear HC6
        obtain ⟨i, hi1, hi, rfl, hO⟩ := hrel
        obtain ⟨r0, r1⟩ := cells2 hO.out.2
        by_cases hlt : i < L
        · have h5 : (i : Int) < (L : Int) := by omega
          have h6 : (i : Int) < 6 := by omega
          go_wp2_with (go_at_call 12; refine (HEN4.out i hi1 hlt _ hO.out.1).mono ?_; rintro e w5 ⟨rfl, hb5⟩; have HB5 : Hid (Below w.heap.size w (w5.alloc (.cells zero6 30)) ∧ CellsAt (w5.alloc (.cells zero6 30)) w1.heap.size [.int .i64 (L : Int), .bool false, .int .i64 k, .int .i64 sd, .int .i64 sd, .slice A1 N1 cp1]) := ⟨bwAlloc (bwStep hO.out.1 hb5) _, (hO.out.2.below hb5).below (bwA _ _)⟩; clear hb5; simp only [zero6] at HB5 ⊢)
          exact ⟨⟨i + 1, by omega, by omega, by go_num, HB5.out⟩, by simp [intOf]; omega⟩
        · have h5 : ¬ (i : Int) < (L : Int) := by omega
          have HBX : Hid (Below w.heap.size w wr) := hO.out.1
          go_wp2_with (go_at_call 11; refine (HEX.out _).mono ?_; rintro e w9 ⟨rfl, hb9⟩; have HB9 : Hid (Below w.heap.size w w9) := bwStep HBX.out hb9; clear hb9)
          go_ret
          exact ⟨rfl, HB9.out⟩
set_option maxRecDepth 100000 in
set_option maxHeartbeats 4000000 in
theorem walk_six (A : Option Addr) (n ca : Nat) (L : Nat) (c c' : Bool) (per k sd : Int) (w : World) (h60 : n ≤ 60) (hL6 : 6 < L)
    (HEN1 : Hid (Calls Tryz.prog 12 #[.slice A n ca, .agg #[.int .i64 0, .bool c, .int .i64 per]] w fun e w' => ∃ A N cp, e = .returned (.tuple #[.agg #[.int .i64 (L : Int), .bool c', .int .i64 k, .int .i64 sd, .int .i64 sd, .slice A N cp], .int .i64 0]) ∧ Below w.heap.size w w'))
    : Calls Tryz.prog 8 #[.slice A n ca, .bool c, .int .i64 per] w fun e w' => e = .returned (.bool true) ∧ Below w.heap.size w w' := by
  have HEX : Hid (∀ W, Calls Tryz.prog 11 #[] W fun e w' => e = .returned (.bool true) ∧ Below W.heap.size W w') := fun W => examples_any W
  have h1 : (n : Int) ≤ 60 := by omega
  have h2 : ¬ (60 : Int) < n := by omega
  have h3 : (6 : Int) < L := by omega
  go_enter Tryz.func8, Tryz.ntmps8
  go_wp2_with (first
    | (go_at_call 12; refine HEN1.out.mono ?_; rintro e w1 ⟨A1, N1, cp1, rfl, hb1⟩; have HB1 : Hid (Below w.heap.size w (w1.alloc (.cells #[.int .i64 (L : Int), .bool c', .int .i64 k, .int .i64 sd, .int .i64 sd, .slice A1 N1 cp1] 30))) := bwAlloc hb1 _; clear hb1)
    | (go_at_call 11; refine (HEX.out _).mono ?_; rintro e w9 ⟨rfl, hb9⟩; have HB9 : Hid (Below w.heap.size w w9) := bwStep HB1.out hb9; clear hb9))
  go_ret
  exact ⟨rfl, HB9.out⟩
theorem law_walk (A : Option Addr) (n ca : Nat) (l : List UInt8) (c : Bool) (per : Int) (w : World) (hs : SR vU 0 w A n ca l) : Calls Tryz.prog 8 #[.slice A n ca, .bool c, .int .i64 per] w fun e w' => e = .returned (.bool true) ∧ Below w.heap.size w w' := by
  have hn63 : n ≤ 9223372036854775807 := by have := hs.hm; have := hs.hc; unfold maxLen at *; omega
  have hn : n = l.length := hs.hn
  by_cases h60 : 60 < n
  · exact walk_big A n ca c per w h60 hn63
  have hE : encErr l.length 0 c per = encErr l.length 0 false per := by
    unfold encErr
    rw [if_neg (show ¬ ((0 : Int) ≠ 0 ∧ exB 0 c = false) from fun h => h.1 rfl), if_neg (show ¬ ((0 : Int) ≠ 0 ∧ exB 0 false = false) from fun h => h.1 rfl)]
  have hE2 : encErr l.length 0 false per = if n = 0 then 5 else if per < 5 ∨ 90 < per then 3 else 0 := by
    unfold encErr
    rw [if_neg (by omega), if_neg (show ¬ ((0 : Int) ≠ 0 ∧ exB 0 false = false) from fun h => h.1 rfl), ← hn]
  by_cases he : encErr l.length 0 false per = 0
  · rw [hE2] at he
    have h0 : ¬ n = 0 := fun h => by rw [if_pos h] at he; exact absurd he (by decide)
    rw [if_neg h0] at he
    have hp : ¬ (per < 5 ∨ 90 < per) := fun h => by rw [if_pos h] at he; exact absurd he (by decide)
    have he : encErr l.length 0 false per = 0 := by rw [hE2, if_neg h0, if_neg hp]
    obtain ⟨q, rfl⟩ : ∃ q : Nat, per = q := ⟨per.toNat, by omega⟩
    have hz : encZ l 0 c q = match pickS (txtL l) q 0 c with | some p => (some p, 0) | none => (none, 16) := by
      unfold encZ
      rw [hE, he, if_neg (by decide)]
      rfl
    cases hpk : pickS (txtL l) q 0 c with
    | none =>
      rw [hpk] at hz
      exact walk_err A n ca l c q 16 w (by omega) hs hz (by decide) (.inr (.inr (.inr ⟨h0, by omega, by omega, rfl⟩)))
    | some p =>
      obtain ⟨L, c'⟩ := p
      rw [hpk] at hz
      obtain ⟨hok, hL1, hL32, hL4, hcc, hf1, hf2⟩ := pick_first hpk
      have hx : exB (L : Int) c' = true := exB_of hL1 hL32 hL4
      have hz2 := enc_ok he rfl hL1 hx hok
      have HE : ∀ (Lo : Int) (Co : Bool), encZ l Lo Co q = (some (L, c'), 0) → ∀ V, Abv w V → Calls Tryz.prog 12 #[.slice A n ca, .agg #[.int .i64 Lo, .bool Co, .int .i64 (q : Int)]] V fun e w' => ∃ A N cp, e = .returned (.tuple #[.agg #[.int .i64 (L : Int), .bool c', .int .i64 ((stuffL (txtL l) (sizeN L)).length : Int), .int .i64 ((sideN L c' : Nat) : Int), .int .i64 ((sideN L c' : Nat) : Int), .slice A N cp], .int .i64 0]) ∧ SR vB false w' A N cp (drawL L c' (stuffL (txtL l) (sizeN L))) ∧ Below V.heap.size V w' := fun Lo Co hz V hV => by
        refine (Encode_full A n ca l Lo Co q V (hs.below hV) (by omega)).mono ?_
        rintro e w' ⟨-, v, rfl, hv, hb⟩
        rw [hz] at hv ⊢
        obtain ⟨A', N', cp', -, rfl, h⟩ := hv
        exact ⟨A', N', cp', rfl, h, hb⟩
      have HN : ∀ (i : Nat) (Co : Bool), 1 ≤ i → exB (i : Int) Co = true → okS (txtL l) q (i, Co) = false → ∀ V, Abv w V → Calls Tryz.prog 12 #[.slice A n ca, .agg #[.int .i64 (i : Int), .bool Co, .int .i64 (q : Int)]] V fun e w' => e = .returned (.tuple #[.agg zero6, .int .i64 16]) ∧ Below V.heap.size V w' := fun i Co h1 h2 h3 V hV => by
        refine (Encode_full A n ca l i Co q V (hs.below hV) (by omega)).mono ?_
        rintro e w' ⟨-, v, rfl, hv, hb⟩
        rw [enc_16 he rfl h1 h2 h3] at hv ⊢
        obtain rfl := hv
        exact ⟨rfl, hb⟩
      by_cases h6 : 6 < L
      · exact walk_six A n ca L c c' q _ _ w (by omega) h6 ((HE 0 c hz w (Below.refl _ _)).mono fun e w' ⟨A, N, cp, h1, _, h2⟩ => ⟨A, N, cp, h1, h2⟩)
      cases c' with
      | true =>
        exact walk_comp A n ca L c q _ _ _ w (by omega) hL1 (by omega) (hL4 rfl) (HE 0 c hz w (Below.refl _ _)) (fun V hV => HE L true hz2 V hV)
          (fun i h1 h2 h3 V hV => HN i true h1 (exB_of h1 (by omega) (fun _ => h2)) (hf1 i h1 h2 (fun _ => h3)) V hV)
      | false =>
        have hc : c = false := by cases c with
          | false => rfl
          | true => exact absurd (hcc rfl) (by decide)
        subst hc
        exact walk_full A n ca L q _ _ _ w (by omega) hL1 (by omega) (HE 0 false hz w (Below.refl _ _)) (fun V hV => HE L false hz2 V hV)
          (fun i h1 h2 V hV => HN i true h1 (exB_of h1 (by omega) (fun _ => h2)) (hf1 i h1 h2 (fun h => by cases h)) V hV)
          (fun i h1 h2 V hV => HN i false (by omega) (exB_of (by omega) (by omega) (fun h => by cases h)) (hf2 i h1 rfl h2) V hV)
  · have hz : encZ l 0 c per = (none, encErr l.length 0 false per) := by
      unfold encZ
      rw [hE, if_pos he]
    refine walk_err A n ca l c per _ w (by omega) hs hz he ?_
    rw [hE2] at he
    by_cases h0 : n = 0
    · exact .inl h0
    rw [if_neg h0] at he
    by_cases h5 : per < 5
    · exact .inr (.inl ⟨h0, h5⟩)
    by_cases h9 : 90 < per
    · exact .inr (.inr (.inl ⟨h0, h5, h9⟩))
    · rw [if_neg (by omega)] at he
      exact absurd rfl he
end Go.Proofs.YtmnlkganmgcpbaaGreatDoor.aztecSmallest
namespace Go.Proofs.YtmnlkganmgcpbaaGreatDoor.aztecSmallest
open Go.ChangeShapes Go.WideShapes Go.ChangeAt Go.RowKit
set_option linter.unusedVariables false
theorem k0 : Rows.aztecSmallestRow.wf (OpenSpec.ofChange Rows.aztecSmallestSpec) = true := by kernel_rfl
theorem k3 : Tryz.f8.params.all (Tryz.prog.readableRec ·) = true := by kernel_rfl
theorem k4 : namedTie Tryz.prog Rows.aztecSmallestRow.named Rows.aztecSmallestSpec.vars = true := by kernel_rfl
theorem k5 : (Rows.aztecSmallestRow.stops == []) = true := by kernel_rfl
theorem k7 : (Rows.aztecSmallestRow.knobs == []) = true := by kernel_rfl
theorem k9 : (Rows.aztecSmallestRow.inPlace == Tryz.prog.inPlace 8) = true := by kernel_rfl
theorem k10 : (Rows.aztecSmallestRow.unfollowed == Tryz.prog.unfollowed 8) = true := by kernel_rfl
theorem k11 : (Rows.aztecSmallestRow.recurses == Tryz.prog.recurses 8) = true := by kernel_rfl
theorem k12 : (Rows.aztecSmallestRow.named == Tryz.prog.varsNamed 8) = true := by kernel_rfl
theorem k13 : (Rows.aztecSmallestRow.maps == (Tryz.f8.params.toList ++ Rows.aztecSmallestSpec.plain.varTypes Tryz.prog).any (Tryz.prog.mapsRec ·)) = true := by kernel_rfl
theorem k14 : (Rows.aztecSmallestRow.ifaces == (Tryz.f8.params.toList ++ Rows.aztecSmallestSpec.plain.varTypes Tryz.prog).any (Tryz.prog.ifacesRec ·)) = true := by kernel_rfl
theorem k15 : (Rows.aztecSmallestRow.mapsOut == Tryz.prog.mapsAmong Tryz.f8.resultTypes.toList) = true := by kernel_rfl
theorem k16 : (Rows.aztecSmallestRow.loops == (Tryz.f8.params.toList ++ Rows.aztecSmallestSpec.plain.varTypes Tryz.prog).any (Tryz.prog.loopsFrom ·)) = true := by kernel_rfl
theorem k17 : (Rows.aztecSmallestRow.wideKeys == (Tryz.f8.params.toList ++ Rows.aztecSmallestSpec.plain.varTypes Tryz.prog ++ Tryz.f8.resultTypes.toList).any (Tryz.prog.wideKeysFrom ·)) = true := by kernel_rfl
theorem k18 : Rows.aztecSmallestSpec.vars.all (Tryz.prog.varReadable ·) = true := by kernel_rfl
theorem k19 : Tryz.f8.resultTypes.all (fun t => Tryz.prog.readableRec t && decide (t < Tryz.prog.types.size)) = true := by kernel_rfl
theorem k20 : (Rows.aztecSmallestRow.ifacesOut == Tryz.f8.resultTypes.toList.any (Tryz.prog.ifacesRec ·)) = true := by kernel_rfl
theorem k21 : (Rows.aztecSmallestRow.loopsOut == Tryz.f8.resultTypes.toList.any (Tryz.prog.loopsFrom ·)) = true := by kernel_rfl
theorem k22 : (Rows.aztecSmallestRow.plainKeys == Tryz.prog.plainKeys) = true := by kernel_rfl
theorem k23 : Rows.aztecSmallestRow.shortTexts.isNone = true := by kernel_rfl
theorem k26 : (Rows.aztecSmallestRow.lifted == Tryz.prog.liftsFinal) = true := by kernel_rfl
theorem k27 : (Tryz.prog.make == some Rows.aztecSmallestRow.make) = true := by kernel_rfl
theorem k28 : (Rows.aztecSmallestRow.kinds == (if Rows.aztecSmallestRow.domain.isEmpty then [] else Tryz.f8.params.toList.map fun t => match Tryz.prog.underlying t with | some (.int k) => some k | _ => none)) = true := by kernel_rfl
theorem k29 : (Rows.aztecSmallestRow.pinned == Rows.aztecSmallestRow.pinnedBy) = true := by kernel_rfl
theorem k30 : (Rows.aztecSmallestRow.veiled == (Tryz.f8.params.toList ++ Rows.aztecSmallestSpec.plain.varTypes Tryz.prog ++ Tryz.f8.resultTypes.toList).any (Tryz.prog.veiledRec ·)) = true := by kernel_rfl
theorem k31 : Rows.aztecSmallestRow.veiledFits Tryz.prog Tryz.f8.params.toList (Tryz.f8.params.toList ++ Rows.aztecSmallestSpec.plain.varTypes Tryz.prog ++ Tryz.f8.resultTypes.toList) = true := by kernel_rfl
set_option maxRecDepth 100000 in
theorem closedK : joinedFacts Tryz.prog 8 Tryz.f8 Rows.aztecSmallestSpec Rows.aztecSmallestRow = true := and_tt (and_tt (and_tt (and_tt (and_tt (and_tt (and_tt (and_tt (and_tt (and_tt (and_tt (and_tt (and_tt (and_tt (and_tt (and_tt (and_tt (and_tt (and_tt (and_tt (and_tt (and_tt (and_tt (and_tt (and_tt (and_tt (and_tt (and_tt (and_tt (and_tt (and_tt k0 fp_laid) fp_mapsRowed) k3) k4) k5) fp_stops) k7) fp_stopKnobs) k9) k10) k11) k12) k13) k14) k15) k16) k17) k18) k19) k20) k21) k22) k23) fp_stopsHeard) fp_mayEnter) k26) k27) k28) k29) k30) k31
abbrev L : List (String × DataW Unit) := [("unicode/utf8.acceptRanges", Rows.laid_unicode_utf8_acceptRanges), ("unicode/utf8.first", Rows.laid_unicode_utf8_first)]
set_option maxRecDepth 100000 in
theorem lifted (os : Os) (started : os.Started) (H : Type) (enc : TypeId × Value → H) :
    ReturnsInHanded {} Tryz.checked os 8 .any (fun w args => (Rows.aztecSmallestSpec.pre enc Tryz.prog Tryz.f8 [] false w args ∧ laidMetH Tryz.prog L w) ∧ sizedMet enc Tryz.prog Tryz.f8 (OpenSpec.ofChange Rows.aztecSmallestSpec) false w args)
      (Rows.aztecSmallestSpec.post enc Tryz.prog Tryz.f8 false true false false) := by
  refine returnsInHanded_of_change_and (C := Tryz.checked) (X := fun w _ => laidMetH Tryz.prog L w) (fun _ _ _ hh h => h.of_heap hh) ownK started (by kernel_rfl) Tryz.func8
    (ChangeSpec.witness_shaped (enc := enc) (C := Tryz.checked) (os := os) (X := fun w _ => laidMetH Tryz.prog L w) false (World.laidAll Tryz.prog os L) #[.slice none 0 0, .bool false, .int .i64 0] 8 (World.laidAll_os _ _ _)
      (World.shaped_of_ZipB (by kernel_rfl) (by kernel_rfl)) (by kernel_rfl) (by kernel_rfl) (by kernel_rfl)
      (by rw [MakeChecks.laidMetH_plain _ _ _ (by kernel_rfl)]; exact laidMet_laidAll _ (by kernel_rfl) (by kernel_rfl))) ?_
  intro W base args ds gs before hval0 hW _ _ hL _
  have hval : ∀ (j : Nat) t v, Tryz.f8.params[j]? = some t → args[j]? = some v → Value.okWide Tryz.prog W .any base t v := hval0
  have hW' := hW
  obtain ⟨p, q, hA0, hV, rfl, hfz, hnd⟩ := hW
  have hA : DataW.TrodAll enc Tryz.prog W 0 (fun _ => true) true Tryz.f8.params.toList args.toList ds p := hA0
  rw [Tryz.params8] at hA hval
  obtain ⟨v0, vs0, d0, ds0, p0, q0, hargs, rfl, rfl, h0, r0⟩ := trodAll_cons hA
  obtain ⟨v1, vs1, d1, ds1, p1, q1, rfl, rfl, rfl, h1, r1⟩ := trodAll_cons r0
  obtain ⟨v2, vs2, d2, ds2, p2, q2, rfl, rfl, rfl, h2, r2⟩ := trodAll_cons r1
  obtain ⟨rfl, rfl, rfl⟩ := trodAll_nil r2
  obtain rfl : args = #[v0, v1, v2] := by cases args; simp_all
  obtain ⟨rfl, rfl⟩ := trodVars_none hV
  have hrd : ∀ t ∈ Tryz.f8.params.toList, Tryz.prog.readableRec t = true ∧ t < Tryz.prog.types.size := by
    rw [Tryz.params8]
    intro t ht
    simp only [List.mem_cons, List.not_mem_nil, or_false] at ht
    rcases ht with rfl | rfl | rfl <;> exact ⟨by kernel_rfl, of_decide_eq_true (by kernel_rfl)⟩
  obtain ⟨A0, n0, c0, l0, rfl, s0⟩ := open_slU (hval 0 22 v0 rfl rfl) h0
  obtain ⟨x1, rfl, rfl, rfl⟩ := open_bool Tryz.underlying4 (hval 1 4 v1 rfl rfl) h1
  obtain ⟨x2, rfl, rfl, rfl, w2⟩ := open_int Tryz.underlying3 (hval 2 3 v2 rfl rfl) h2
  refine (law_walk A0 n0 c0 l0 x1 x2 W s0).mono fun e W' ⟨he, hb⟩ => ?_
  subst he
  exact ⟨_, rfl, law_post laidK Tryz.underlying4 rfl rfl hrd hW' rfl hb⟩
theorem over : Rows.aztecSmallestRow.holds Tryz.pinned (OpenSpec.ofChange Rows.aztecSmallestSpec) :=
  OpenClaim.holds_of_wide 8 Tryz.f8 rfl rfl rfl rfl rfl rfl rfl ⟨rfl, rfl, rfl, rfl, rfl⟩ rfl rfl rfl rfl rfl (by kernel_rfl) Tryz.func8 closedK
    (of_decide_eq_true (by kernel_rfl)) (by unfold Func.isWrapper; first | (rw [if_pos (by decide +kernel)]; kernel_rfl) | (rw [if_neg (by decide +kernel)]; exact ⟨rfl, rfl⟩))
    (fun os started H enc _ => lifted os started H enc)
theorem named : Tryz.prog.funcNamed "barscan/barscanlaw28.AztecSmallest" = some 8 := by kernel_rfl
theorem noStand : ([22, 4, 3].all fun u => !Tryz.prog.wantsStandIn u) = true := by kernel_rfl
theorem proved : Rows.AztecSmallestCardSaid :=
  Claim7.holds_tied_plain_at .later [] [.data, .pinned] true (true, "65e349eac71c602cf550908973254ebb7b14ef88971fe42e5ec397cea621a45b") false
    over (fun _ h => by cases h) (by kernel_rfl) (fun _ h => by cases h) aztecSmallest_row_tie rfl ⟨rfl, rfl⟩ (by kernel_rfl) rfl
    (fun f fn hf hfn => by
      obtain rfl : f = 8 := Option.some.inj (named.symm.trans hf) |>.symm
      obtain rfl : fn = Tryz.f8 := (Option.some.inj (Tryz.func8.symm.trans hfn)).symm
      exact ⟨by kernel_rfl, fun j t ht => by
        rw [Tryz.params8] at ht
        have hm : t ∈ [22, 4, 3] := by
          have h := Array.mem_of_getElem? ht
          simp only [List.mem_toArray, List.mem_cons, List.not_mem_nil, or_false] at h
          rcases h with rfl | rfl | rfl <;> simp
        exact (show Tryz.prog.wantsStandIn t = false by simpa using List.all_eq_true.1 noStand t hm)⟩)
    (by kernel_rfl)
end Go.Proofs.YtmnlkganmgcpbaaGreatDoor.aztecSmallest
