import Derived.Test.YtmnlkganmgcpbaaGreatDoorQa26
import Derived.Test.YtmnlkganmgcpbaaGreatDoorQa33
import Derived.Test.YtmnlkganmgcpbaaGreatDoorQa22
import Derived.Test.YtmnlkganmgcpbaaGreatDoorQa25
import Derived.Test.YtmnlkganmgcpbaaGreatDoorQa12
import Derived.Test.YtmnlkganmgcpbaaGreatDoorQa13
namespace Go.Proofs.YtmnlkganmgcpbaaGreatDoor
open Go.RowKit
set_option linter.unusedVariables false
set_option linter.unusedSimpArgs false
def refD (C : Nat) (p : Pt) : Bool := (adN p.1 C % 16 == 0 && adN p.2 C % 2 == 0) || (adN p.2 C % 16 == 0 && adN p.1 C % 2 == 0)
def blF (C : Nat) (c : Bool) (p : Pt) : Bool := if chN C p < mkN c then chN C p % 2 == 0 else !c && refD C p
def blankL (n C : Nat) (c : Bool) : List Bool := (List.range (n * n)).map fun i => blF C c (i % n, i / n)
def tr6 : List Bool := [true, true, true, true, true, true]
def fa6 : List Bool := [false, false, false, false, false, false]
def fixL (n C : Nat) (c : Bool) : List Bool := wrL n (wrL n (blankL n C c) (darkL C (mkN c)) tr6) (lightL C (mkN c)) fa6
def putL (L : Nat) (c : Bool) (d content msg : List Bool) : List Bool :=
  wrL (sideN L c) (wrL (sideN L c) d ((dataL L c).drop ((dataL L c).length - content.length)) content) (modeL (cenN L c) c) msg
def matL (L : Nat) (c : Bool) (content msg : List Bool) : List Bool := putL L c (fixL (sideN L c) (cenN L c) c) content msg
theorem blankL_length (n C : Nat) (c : Bool) : (blankL n C c).length = n * n := by unfold blankL; simp
theorem fixL_length (n C : Nat) (c : Bool) : (fixL n C c).length = n * n := by unfold fixL; rw [wrL_length, wrL_length, blankL_length]
theorem matL_length (L : Nat) (c : Bool) (content msg : List Bool) : (matL L c content msg).length = sideN L c * sideN L c := by unfold matL putL; rw [wrL_length, wrL_length, fixL_length]
theorem dark_mem {C s : Nat} {p : Pt} (hs : 5 ≤ s) (hC : s ≤ C) (h : p ∈ darkL C s) : chN C p = s ∧ p.1 < 2 * C + 1 ∧ p.2 < 2 * C + 1 ∧ ∀ t : Nat, C - s + 2 ≤ t → t + 2 ≤ C + s → p ≠ (t, C - s) ∧ p ≠ (C + s, t) ∧ p ≠ (t, C + s) ∧ p ≠ (C - s, t) := by
  simp only [darkL, List.mem_cons, List.not_mem_nil, or_false] at h
  unfold chN adN
  rcases h with rfl | rfl | rfl | rfl | rfl | rfl
  all_goals simp only [Prod.mk.injEq, ne_eq]
  all_goals refine ⟨by omega, by omega, by omega, fun t h1 h2 => ⟨?_, ?_, ?_, ?_⟩⟩ <;> omega
theorem light_mem {C s : Nat} {p : Pt} (hs : 5 ≤ s) (hC : s ≤ C) (h : p ∈ lightL C s) : chN C p = s ∧ p.1 < 2 * C + 1 ∧ p.2 < 2 * C + 1 ∧ ∀ t : Nat, C - s + 2 ≤ t → t + 2 ≤ C + s → p ≠ (t, C - s) ∧ p ≠ (C + s, t) ∧ p ≠ (t, C + s) ∧ p ≠ (C - s, t) := by
  simp only [lightL, List.mem_cons, List.not_mem_nil, or_false] at h
  unfold chN adN
  rcases h with rfl | rfl | rfl | rfl | rfl | rfl
  all_goals simp only [Prod.mk.injEq, ne_eq]
  all_goals refine ⟨by omega, by omega, by omega, fun t h1 h2 => ⟨?_, ?_, ?_, ?_⟩⟩ <;> omega
section
variable {L : Nat} {c : Bool} (h1 : 1 ≤ L) (hL : L ≤ 32) {content msg : List Bool} (hc : content.length ≤ (dataL L c).length)
include h1 hL
theorem mode_data {p q : Pt} (hp : p ∈ modeL (cenN L c) c) (hq : q ∈ dataL L c) : ixN (sideN L c) p ≠ ixN (sideN L c) q := fun e => by
  have hs := cen_le (c := c) h1 hL
  have h2 := mode_in (c := c) (C := cenN L c) (by omega) hp
  have h3 := mode_ch (c := c) (C := cenN L c) (by omega) hp
  have h4 := data_far hL hq
  rw [ix_inj (by omega) (data_in hL hq).1 e] at h3
  omega
end
end Go.Proofs.YtmnlkganmgcpbaaGreatDoor
namespace Go.Proofs.YtmnlkganmgcpbaaGreatDoor
open Go.RowKit
set_option linter.unusedVariables false
set_option linter.unusedSectionVars false
set_option linter.unusedSimpArgs false
def mxI (a b : Int) : Int := if b > a then b else a
def mx4 (a b c d : Int) : Int := mxI (mxI (mxI a b) c) d
theorem run_max4 (ts : Array TypeId) (t : TypeId) (a b c d : Int) (w : World) : (Builtin.max_ ts t #[.int .i64 a, .int .i64 b, .int .i64 c, .int .i64 d]).run Tryz.prog w = .ok (.int .i64 (mx4 a b c d)) w := by
  simp [Builtin.max_, Builtin.max2, mx4, mxI]
theorem mx4_ch (x y C : Nat) : mx4 ((x : Int) - C) ((C : Int) - x) ((y : Int) - C) ((C : Int) - y) = ((chN C (x, y) : Nat) : Int) := by
  unfold chN adN mx4 mxI
  simp only
  (repeat' split) <;> omega
set_option maxHeartbeats 1000000 in
theorem distance_any (s C m x y : Nat) (c : Bool) (w : World) (hC : C ≤ 1000000) (hx : x ≤ 1000000) (hy : y ≤ 1000000) : Calls Tryz.prog 86 #[gridV s c C m, .int .i64 x, .int .i64 y] w fun e w' => e = .returned (.int .i64 ((chN C (x, y) : Nat) : Int)) ∧ Below w.heap.size w w' := by
  have HM := Lib.hid (mx4_ch x y C)
  have HB : Hid (Below w.heap.size w (w.alloc (.cells #[.int .i64 (s : Int), .bool c, .int .i64 (C : Int), .int .i64 (m : Int)] 71))) := bwA _ _
  have hmx := run_max4
  go_enter Tryz.func86, Tryz.ntmps86
  go_wp2
  go_ret
  exact ⟨ret_int HM.out, HB.out⟩
theorem eyeDark_any (d : Nat) (w : World) (hd : d ≤ 1000000) : Calls Tryz.prog 87 #[.int .i64 d] w fun e w' => e = .returned (.bool (d % 2 == 0)) ∧ w' = w := by
  have HE : Hid (((d : Int) % 2 == 0) = (d % 2 == 0)) := by
    show _ = _
    rw [Bool.eq_iff_iff]; simp; omega
  go_enter Tryz.func87, Tryz.ntmps87
  go_wp2
  exact bodyPost_ret (v := .bool ((d : Int) % 2 == 0)) (by simp [results, Tryz.results87, go_sem]) rfl ⟨by rw [HE.out], rfl⟩
def rdI (dx dy : Int) : Bool := (dx.tmod 16 == 0 && dy.tmod 2 == 0) || (dy.tmod 16 == 0 && dx.tmod 2 == 0)
theorem tmod_zero (x C : Nat) (k : Nat) (hk : k ≠ 0) : (((x : Int) - (C : Int)).tmod (k : Int) == 0) = (adN x C % k == 0) := by
  rw [Bool.eq_iff_iff, beq_iff_eq, beq_iff_eq, ← Int.dvd_iff_tmod_eq_zero]
  have h : ((k : Int) ∣ ((x : Int) - (C : Int))) ↔ ((k : Int) ∣ ((adN x C : Nat) : Int)) := by
    unfold adN
    rcases Nat.le_total x C with h | h
    · have e : (((x - C) + (C - x) : Nat) : Int) = -((x : Int) - (C : Int)) := by omega
      rw [e, Int.dvd_neg]
    · have e : (((x - C) + (C - x) : Nat) : Int) = ((x : Int) - (C : Int)) := by omega
      rw [e]
  rw [h, Int.natCast_dvd_natCast]
  exact ⟨fun h => Nat.mod_eq_zero_of_dvd h, fun h => Nat.dvd_of_mod_eq_zero h⟩
theorem rdI_ref (x y C : Nat) : rdI ((x : Int) - C) ((y : Int) - C) = refD C (x, y) := by
  unfold rdI refD
  have h1 := tmod_zero x C 16 (by omega)
  have h2 := tmod_zero y C 2 (by omega)
  have h3 := tmod_zero y C 16 (by omega)
  have h4 := tmod_zero x C 2 (by omega)
  rw [show ((16 : Nat) : Int) = 16 from rfl] at h1 h3
  rw [show ((2 : Nat) : Int) = 2 from rfl] at h2 h4
  rw [h1, h2, h3, h4]
set_option maxHeartbeats 1000000 in
theorem referenceDark_any (s C m : Nat) (c : Bool) (dx dy : Int) (w : World) : Calls Tryz.prog 133 #[gridV s c C m, .int .i64 dx, .int .i64 dy] w fun e w' => e = .returned (.bool (rdI dx dy)) ∧ Below w.heap.size w w' := by
  have HB : Hid (Below w.heap.size w (w.alloc (.cells #[.int .i64 (s : Int), .bool c, .int .i64 (C : Int), .int .i64 (m : Int)] 71))) := bwA _ _
  have HR : Hid (rdI dx dy = ((dx.tmod 16 == 0 && dy.tmod 2 == 0) || (dy.tmod 16 == 0 && dx.tmod 2 == 0))) := rfl
  have hw (a : Int) : IntKind.i64.wrap (a.tmod 16) = a.tmod 16 := by
    have h1 := Int.tmod_lt_of_pos a (show (0 : Int) < 16 by omega)
    have h2 : -16 < a.tmod 16 := by have := Int.lt_tmod_of_pos a (show (0 : Int) < 16 by omega); exact this
    exact wr64 _ (by omega) (by omega)
  have hv (a : Int) : IntKind.i64.wrap (a.tmod 2) = a.tmod 2 := by
    have h1 := Int.tmod_lt_of_pos a (show (0 : Int) < 2 by omega)
    have h2 : -2 < a.tmod 2 := by have := Int.lt_tmod_of_pos a (show (0 : Int) < 2 by omega); exact this
    exact wr64 _ (by omega) (by omega)
  have h1 := hw dx
  have h2 := hw dy
  have h3 := hv dx
  have h4 := hv dy
  clear hw hv
  generalize ha : dx.tmod 16 = a at *
  generalize hb : dy.tmod 16 = b at *
  generalize hc : dx.tmod 2 = p at *
  generalize hd : dy.tmod 2 = q at *
  cases ea : (a == 0) <;> cases eb : (b == 0) <;> cases ec : (p == 0) <;> cases ed : (q == 0)
  all_goals
    rw [ea, eb, ec, ed] at HR
    go_enter Tryz.func133, Tryz.ntmps133
    go_wp2
    go_ret
    exact ⟨ret_bool (by rw [HR.out]; rfl), HB.out⟩
def RowB (w : World) (db : Nat) (l : List Bool) : Prop := RowIs w db (l.map vB).toArray 4
structure KeepX (db : Nat) (w w' : World) : Prop where
  sz : w.heap.size ≤ w'.heap.size
  bl : ∀ k, k < w.heap.size → k ≠ db → w'.heap[k]? = w.heap[k]?
  os : w'.os = w.os
  tape : w'.tape = w.tape
  output : w'.output = w.output
theorem KeepX.refl (db : Nat) (w : World) : KeepX db w w := ⟨Nat.le_refl _, fun _ _ _ => rfl, rfl, rfl, rfl⟩
theorem KeepX.trans {db : Nat} {a b c : World} (h : KeepX db a b) (h2 : KeepX db b c) : KeepX db a c := ⟨Nat.le_trans h.sz h2.sz, fun k hk hn => (h2.bl k (Nat.lt_of_lt_of_le hk h.sz) hn).trans (h.bl k hk hn), h2.os.trans h.os, h2.tape.trans h.tape, h2.output.trans h.output⟩
theorem KeepX.below {db : Nat} {w W : World} (h : Below w.heap.size w W) : KeepX db w W := ⟨h.size, fun k hk _ => h.block k hk, h.os, h.tape, h.output⟩
theorem KeepX.setc {db i : Nat} {w : World} (u : Value) : KeepX db w (w.setCell ⟨db, i, none⟩ u) := ⟨by simp, fun k hk hn => Below.heap_setCell _ _ _ _ hn, rfl, rfl, rfl⟩
theorem KeepX.cell {db : Nat} {w W : World} (h : KeepX db w W) {a : Addr} (ha : a.block < w.heap.size) (hn : a.block ≠ db) : W.cell? a = w.cell? a := by
  have e : W.heap[a.block]? = w.heap[a.block]? := h.bl _ ha hn
  exact World.cell?_of_block e
theorem KeepX.row {db g : Nat} {w W : World} {cur : Array Value} {t : TypeId} (h : KeepX db w W) (hr : RowIs w g cur t) (hn : g ≠ db) : RowIs W g cur t := (h.bl _ (lt_of_heap hr) hn).trans hr
theorem KeepX.to {db B : Nat} {w W : World} (h : KeepX db w W) (hb : B ≤ db) (hw : B ≤ w.heap.size) : Below B w W := ⟨h.os, h.tape, h.output, h.sz, fun k hk => h.bl k (Nat.lt_of_lt_of_le hk hw) (by omega)⟩
theorem RowB.cell {w : World} {db : Nat} {l : List Bool} (h : RowB w db l) {i : Nat} (hi : i < l.length) : w.cell? ⟨db, i, none⟩ = some (.bool (l.getD i false)) := by
  refine RowIs.cell h i _ ?_
  simp [List.getD, hi, vB]
theorem RowB.set {w : World} {db : Nat} {l : List Bool} (h : RowB w db l) (i : Nat) (b : Bool) : RowB (w.setCell ⟨db, i, none⟩ (.bool b)) db (l.set i b) := by
  have := heap_setCell_same w db i _ _ (.bool b) h
  unfold RowB RowIs
  rw [this]
  simp [List.map_set, vB]
theorem RowB.below {w W : World} {db : Nat} {l : List Bool} (h : RowB w db l) (hb : Below w.heap.size w W) : RowB W db l := RowIs.below h hb
theorem exec_storeB {a : Act} {o : Oper} {W : World} {x q : Operand} (ho : o.op = .store 4 q x) (p : Addr) (v : Bool) (hq : a.eval q = .pointer (some p)) (hx : a.eval x = .bool v) {u : Value} (hc : W.cell? p = some u) (hf : W.frozen? p = false) :
    (execOp a.eval o).run Tryz.prog W = .ok .skip (W.setCell p (.bool v)) := by
  unfold execOp
  simp only [ho, hq, hx, Instr.storeAt, Instr.sureAddr, Sem.run_bind, Sem.run_pure, Result.andThen_ok]
  go_simp
abbrev matV (n H db N : Nat) : Value := .agg #[.int .i64 (n : Int), .int .i64 (H : Int), .slice (some ⟨db, 0, none⟩) N N]
abbrev matO (n H db N : Nat) : Obj := .cells #[.int .i64 (n : Int), .int .i64 (H : Int), .slice (some ⟨db, 0, none⟩) N N] 28
set_option maxRecDepth 100000 in
set_option maxHeartbeats 2000000 in
theorem write_any (n H db N m k : Nat) (l : List Bool) (ps : List Pt) (bs : List Bool) (v : Value) (B : Option Addr) (w : World) (hn : n ≤ 1000) (hH : H ≤ 1000) (hN : N = l.length) (hN2 : N ≤ 100000000) (hr : RowB w db l) (hp : SP w v ps) (hpd : ∀ A m k ad, v = .slice A m k → A = some ad → ad.block ≠ db)
    (hb : SR vB false w B m k bs) (hbd : ∀ ad, B = some ad → ad.block ≠ db) (hlen : ps.length = bs.length) (hix : ∀ p ∈ ps, ixN n p < l.length) :
    Calls Tryz.prog 84 #[matV n H db N, v, .slice B m k] w fun e w' => e = .returned (.tuple #[]) ∧ RowB w' db (wrL n l ps bs) ∧ KeepX db w w' := by
  obtain ⟨A, c, rfl, hc1, hc2, hA⟩ := hp
  obtain ⟨np, hnp⟩ : ∃ np, np = ps.length := ⟨_, rfl⟩
  rw [← hnp] at hc1 ⊢
  have hmb := hb.hn
  have hmn : m = np := by omega
  subst hmn
  have HNP := Lib.hid hnp
  have HLEN := Lib.hid hlen
  have HR := Lib.hid hr
  have HA := Lib.hid hA
  have HBB := Lib.hid hb.rd
  have HPD : Hid (∀ ad, A = some ad → ad.block ≠ db) := fun ad e => hpd A _ _ ad rfl e
  have HBD := Lib.hid hbd
  have HIX := Lib.hid hix
  have HN := Lib.hid hN
  have hm63 : m ≤ 9223372036854775807 := by unfold maxLen at *; omega
  have hdw : db < w.heap.size := lt_of_heap hr
  clear hr hA hb hpd hbd hix hlen hnp hmb hc1 hc2 hN
  obtain ⟨wS, hwS⟩ : ∃ wS, wS = w.alloc (matO n H db N) := ⟨_, rfl⟩
  have HWS : Hid (Below w.heap.size w wS) := by show Below _ _ _; rw [hwS]; exact bwA _ _
  have HMR : Hid (RowIs wS w.heap.size #[.int .i64 (n : Int), .int .i64 (H : Int), .slice (some ⟨db, 0, none⟩) N N] 28) := by show RowIs _ _ _ _; rw [hwS]; exact RowIs.new _ _ _ _ (by simp)
  have HL0 : Hid (RowB wS db (wrL n l (ps.take 0) (bs.take 0)) ∧ KeepX db wS wS) := by
    show _ ∧ _
    rw [List.take_zero, wrL_nil]
    exact ⟨HR.out.below HWS.out, KeepX.refl _ _⟩
  have HDW := Lib.hid hdw
  go_enter Tryz.func84, Tryz.ntmps84
  go_wp2
  rw [← hwS]
  clear hwS hdw
  go_loopw [10] (fun iv wr => ∃ j : Nat, j ≤ m ∧ iv = .int .i64 j ∧ Hid (RowB wr db (wrL n l (ps.take j) (bs.take j)) ∧ KeepX db wS wr)) (fun iv _ => m - (intOf iv).toNat)
  case atStart => exact ⟨0, Nat.zero_le _, rfl, HL0.out⟩
  case round =>
    clear HL0
    obtain ⟨j, hj, rfl, hO⟩ := hrel
    by_cases hlt : j < m
    · obtain ⟨g, o, rfl, hgw, hcg⟩ := HA.out (by rw [← HNP.out]; omega)
      obtain ⟨bd, rfl, hbw, hcb⟩ := HBB.out (by rw [← HLEN.out, ← HNP.out]; omega)
      have hx := hcg j (by rw [← HNP.out]; exact hlt)
      have hy := hcb j (by rw [← HLEN.out, ← HNP.out]; exact hlt)
      have hgd : g ≠ db := HPD.out _ rfl
      have hbdd : bd.block ≠ db := HBD.out _ rfl
      have hpm : ps.getD j (0, 0) ∈ ps := by
        have : j < ps.length := by rw [← HNP.out]; exact hlt
        simp only [List.getD, List.getElem?_eq_getElem this, Option.getD_some]; exact List.getElem_mem this
      have hixj := HIX.out _ hpm
      have HSTEP : Hid (wrL n l (ps.take (j + 1)) (bs.take (j + 1)) = (wrL n l (ps.take j) (bs.take j)).set (ixN n (ps.getD j (0, 0))) (bs.getD j false)) := wrL_take n l ps bs (by rw [← HNP.out]; exact hlt) (by rw [← HLEN.out, ← HNP.out]; exact hlt)
      have HLL : Hid ((wrL n l (ps.take j) (bs.take j)).length = l.length) := wrL_length _ _ _ _
      generalize ps.getD j (0, 0) = p at *
      generalize bs.getD j false = b at *
      generalize wrL n l (ps.take j) (bs.take j) = ll at *
      have hK0 : KeepX db w wr := (KeepX.below HWS.out).trans hO.out.2
      have e1 : wr.cell? ⟨g, o + j * 2, none⟩ = some (.int .i64 (p.1 : Int)) := (hK0.cell (a := ⟨g, o + j * 2, none⟩) hgw hgd).trans hx.1
      have e2 : wr.cell? ⟨g, o + j * 2 + 1, none⟩ = some (.int .i64 (p.2 : Int)) := (hK0.cell (a := ⟨g, o + j * 2 + 1, none⟩) hgw hgd).trans hx.2
      have e3 : wr.cell? (bd.add j) = some (.bool b) := (hK0.cell (a := bd.add j) (by rw [block_of_add]; exact hbw) (by rw [block_of_add]; exact hbdd)).trans hy
      have hgr : g < wr.heap.size := Nat.lt_of_lt_of_le hgw hK0.sz
      have hbr : bd.block < wr.heap.size := Nat.lt_of_lt_of_le hbw hK0.sz
      obtain ⟨wP, hwP⟩ : ∃ wP, wP = wr.alloc (.cells #[.int .i64 (p.1 : Int), .int .i64 (p.2 : Int)] 47) := ⟨_, rfl⟩
      obtain ⟨pb, hpb⟩ : ∃ pb, pb = wr.heap.size := ⟨_, rfl⟩
      have HWP : Hid (Below wr.heap.size wr wP) := by show Below _ _ _; rw [hwP]; exact bwA _ _
      have HPR : Hid (RowIs wP pb #[.int .i64 (p.1 : Int), .int .i64 (p.2 : Int)] 47) := by show RowIs _ _ _ _; rw [hwP, hpb]; exact RowIs.new _ _ _ _ (by simp)
      have HRB : Hid (RowB wP db ll) := hO.out.1.below HWP.out
      have hms : w.heap.size < wS.heap.size := lt_of_heap HMR.out
      have hmr : w.heap.size ≠ db := by have := HDW.out; omega
      have hmw : w.heap.size < wP.heap.size := Nat.lt_of_lt_of_le (Nat.lt_of_lt_of_le hms hO.out.2.sz) HWP.out.size
      have hKP : KeepX db wS wP := hO.out.2.trans (KeepX.below HWP.out)
      have hpdb : pb ≠ db := by rw [hpb]; have h1 := lt_of_heap hO.out.1; omega
      have CF : Hid (∀ W, KeepX db wP W → (W.cell? ⟨w.heap.size, 0, none⟩ = some (.int .i64 (n : Int)) ∧ W.cell? ⟨w.heap.size, 2, none⟩ = some (.slice (some ⟨db, 0, none⟩) N N)) ∧ (W.cell? ⟨pb, 0, none⟩ = some (.int .i64 (p.1 : Int)) ∧ W.cell? ⟨pb, 1, none⟩ = some (.int .i64 (p.2 : Int))) ∧ W.cell? (bd.add j) = some (.bool b)) := by
        show ∀ W, _
        intro W hW
        have h1 := hKP.trans hW
        refine ⟨⟨(h1.cell (a := ⟨w.heap.size, 0, none⟩) hms hmr).trans (HMR.out.cell 0 _ rfl), (h1.cell (a := ⟨w.heap.size, 2, none⟩) hms hmr).trans (HMR.out.cell 2 _ rfl)⟩, ⟨(hW.cell (a := ⟨pb, 0, none⟩) (lt_of_heap HPR.out) hpdb).trans (HPR.out.cell 0 _ rfl), (hW.cell (a := ⟨pb, 1, none⟩) (lt_of_heap HPR.out) hpdb).trans (HPR.out.cell 1 _ rfl)⟩, ?_⟩
        exact (hW.cell (a := bd.add j) (by rw [block_of_add]; exact Nat.lt_of_lt_of_le hbr HWP.out.size) (by rw [block_of_add]; exact hbdd)).trans ((HWP.out.cell (by rw [block_of_add]; exact hbr)).trans e3)
      obtain ⟨q, hq⟩ : ∃ q, q = p.2 * n := ⟨_, rfl⟩
      obtain ⟨ix, hixe⟩ : ∃ ix, ix = ixN n p := ⟨_, rfl⟩
      have hiq : ix = q + p.1 := by rw [hixe, hq]; rfl
      rw [← hixe] at hixj HSTEP
      rw [← HN.out] at hixj
      have hq9 : q ≤ 100000000 := by omega
      have gq0 : (p.2 : Int) * (n : Int) = (q : Int) := by rw [hq]; simp
      have gq : IntKind.i64.wrap (q : Int) = (q : Int) := wr64 _ (by omega) (by omega)
      have gi : IntKind.i64.wrap ((q : Int) + (p.1 : Int)) = (ix : Int) := by rw [wr64 _ (by omega) (by omega)]; omega
      have hix2 : (ix : Int) < (N : Int) := by omega
      have HIX2 : Hid (ix < ll.length) := by show _ < _; rw [HLL.out, ← HN.out]; exact hixj
      have hjm : (j : Int) < (m : Int) := by omega
      clear hq hixe hiq hcg hcb hx hy hpm HLL
      have HKS := Lib.hid hKP
      clear hKP hK0 hmw hpdb
      go_wp2
      rw [← hwP, ← hpb]
      clear hwP hpb e1 e2 e3 hms hgr hbr hgw hbw
      have HKD : Hid (KeepX db wP wP.drew) := KeepX.below (bwDrew (Below.refl _ _))
      refine wp_region_W (S := (fun W => KeepX db wP W)) [(false, 0), (false, 1), (false, 2), (false, 3), (false, 4), (false, 5), (false, 6), (false, 7), (false, 8), (false, 9), (false, 10), (false, 11), (false, 12), (false, 13), (false, 14), (true, 15)] (by kernel_rfl) (by kernel_rfl) HKD.out ?_
      simp only [attachW, List.getElem?_cons_zero, List.getElem?_cons_succ]
      repeat
        refine' wpHX_val rfl (fun W hW => ?_) ?_
        rotate_left
        · have hcf := CF.out W hW; go_simp; rfl
        simp only [Act.put, List.setIfInBounds_toArray, List.set_cons_zero, List.set_cons_succ]
      have HRD : Hid (RowB wP.drew db ll) := HRB.out.below (bwDrew (Below.refl _ _))
      refine' wpHX_askip (w' := wP.drew.setCell ⟨db, ix, none⟩ (.bool b)) rfl (exec_storeB rfl ⟨db, ix, none⟩ b rfl rfl (HRD.out.cell HIX2.out) (frozen_of_row _ _ _ _ _ HRD.out)) (HKD.out.trans (KeepX.setc _)) ?_
      simp only [Act.put, List.setIfInBounds_toArray, List.set_cons_zero, List.set_cons_succ]
      refine wpHX_nil ?_
      have HFIN : Hid (RowB (wP.drew.setCell ⟨db, ix, none⟩ (.bool b)) db (wrL n l (ps.take (j + 1)) (bs.take (j + 1))) ∧ KeepX db wS (wP.drew.setCell ⟨db, ix, none⟩ (.bool b))) := by
        show _ ∧ _
        rw [HSTEP.out]
        exact ⟨HRD.out.set _ _, (HKS.out.trans HKD.out).trans (KeepX.setc _)⟩
      go_wp2
      exact ⟨⟨j + 1, by omega, by go_num, HFIN.out⟩, by simp [intOf]; omega⟩
    · obtain rfl : j = m := by omega
      have HT : Hid (wrL n l (ps.take j) (bs.take j) = wrL n l ps bs) := by show _ = _; rw [HNP.out, List.take_length, HLEN.out, List.take_length]
      go_wp2
      refine bodyPost_end (results_none rfl _ _ _) rfl ?_
      exact ⟨rfl, by rw [← HT.out]; exact hO.out.1, (KeepX.below HWS.out).trans hO.out.2⟩
end Go.Proofs.YtmnlkganmgcpbaaGreatDoor
namespace Go.Proofs.YtmnlkganmgcpbaaGreatDoor
open Go.RowKit
set_option linter.unusedVariables false
set_option linter.unusedSimpArgs false
noncomputable def txtL (l : List UInt8) : List Bool := @dite _ (∃ C, Cost (bA l) C) (Classical.propDecidable _) (fun h => encP (bA l) (Classical.choose h)) (fun _ => [])
theorem txtL_eq {l : List UInt8} {C : Nat → Nat → Nat} (hl : l.length ≤ 4096) (h : Cost (bA l) C) : txtL l = encP (bA l) C := by
  unfold txtL
  rw [dif_pos ⟨C, h⟩]
  exact (encP_congr (by rw [bA_size]; exact hl) (Classical.choose_spec (⟨C, h⟩ : ∃ C, Cost (bA l) C)) h).1
theorem txtL_len {l : List UInt8} {C : Nat → Nat → Nat} (hl : l.length ≤ 2078) (h : Cost (bA l) C) : (txtL l).length ≤ 8 * l.length + 21 := by
  have hs : (bA l).size ≤ 4096 := by rw [bA_size]; omega
  rw [txtL_eq (by omega) h, encP_len hs h]
  exact cost_bound hl (h.ac hs)
def fitB (L : Nat) (c : Bool) (k size per : Nat) : Bool := decide (k ≤ mostN c) && decide (sizeN L * k + size * per / 100 + 11 ≤ sizeN L * wordsN L c)
def choiL (c : Bool) : List (Nat × Bool) := (List.range 4).map (fun i => (i + 1, true)) ++ (if c = true then [] else (List.range 29).map fun i => (i + 4, false))
def candL (Lo : Nat) (Co : Bool) : List (Nat × Bool) := if Lo = 0 then choiL Co else [(Lo, Co)]
def okS (t : List Bool) (per : Nat) (p : Nat × Bool) : Bool := fitB p.1 p.2 (stuffL t (sizeN p.1)).length t.length per
def pickS (t : List Bool) (per Lo : Nat) (Co : Bool) : Option (Nat × Bool) := (candL Lo Co).find? (okS t per)
noncomputable def msgL (L : Nat) (c : Bool) (k : Nat) : List Bool := bitsW (encW 16 19 (mpN c) 1 (wordsB (lowB (L - 1) (lbN c) ++ lowB (k - 1) (dbN c)) 4 (if c = true then 2 else 4))) 4
noncomputable def encD (L : Nat) (c : Bool) (ws : List Nat) : List Nat := encW (2 ^ sizeN L) (prN (sizeN L)) (wordsN L c - ws.length) 1 ws
noncomputable def conL (L : Nat) (c : Bool) (ws : List Nat) : List Bool := bitsW (encD L c ws) (sizeN L)
noncomputable def drawL (L : Nat) (c : Bool) (ws : List Nat) : List Bool := matL L c (conL L c ws) (msgL L c ws.length)
def encErr (n : Nat) (Lo : Int) (Co : Bool) (per : Int) : Int := if 4096 < n then 4 else if n = 0 then 5 else if Lo ≠ 0 ∧ exB Lo Co = false then 14 else if per < 5 ∨ 90 < per then 3 else 0
noncomputable def encZ (l : List UInt8) (Lo : Int) (Co : Bool) (per : Int) : Option (Nat × Bool) × Int :=
  if encErr l.length Lo Co per ≠ 0 then (none, encErr l.length Lo Co per) else match pickS (txtL l) per.toNat Lo.toNat Co with
    | some p => (some p, 0)
    | none => (none, 16)
theorem wok4 : WOk 4 := .inl rfl
theorem mp_ok (c : Bool) : CodeOk 2 16 19 (mpN c) 1 := codz (w := 4) wok4 (by cases c <;> decide) (by cases c <;> decide)
def mwN (c : Bool) : Nat := if c = true then 2 else 4
theorem msgL_def (L : Nat) (c : Bool) (k : Nat) : msgL L c k = bitsW (encW 16 19 (mpN c) 1 (wordsB (lowB (L - 1) (lbN c) ++ lowB (k - 1) (dbN c)) 4 (mwN c))) 4 := rfl
theorem side_big (L : Nat) (c : Bool) (h1 : 1 ≤ L) (hL : L ≤ 32) : 15 ≤ sideN L c ∧ sideN L c ≤ 161 := by
  have h := side_le (c := c) hL
  have h2 := cen_le (c := c) h1 hL
  have h3 := mk57 c
  omega
end Go.Proofs.YtmnlkganmgcpbaaGreatDoor
namespace Go.Proofs.YtmnlkganmgcpbaaGreatDoor
open Go.RowKit
set_option linter.unusedVariables false
set_option linter.unusedSectionVars false
set_option linter.unusedSimpArgs false
theorem RowB.sr {w : World} {db : Nat} {l : List Bool} (h : RowB w db l) {n : Nat} (hn : n = l.length) (hm : n ≤ maxLen) : SR vB false w (some ⟨db, 0, none⟩) n n l :=
  ⟨hn, Nat.le_refl _, hm, fun _ => ⟨⟨db, 0, none⟩, rfl, lt_of_heap h, fun j hj => by rw [add_plain, Nat.zero_add]; exact h.cell hj⟩⟩
theorem made_false (n : Nat) : madeCells (Value.bool false).cells n = ((List.replicate n false).map vB).toArray := by
  show madeCells #[Value.bool false] n = _
  apply Array.ext'
  simp only [madeCells, Array.toList_map, vB, List.map_replicate]
  apply List.ext_getElem (by simp)
  intro i h1 h2
  simp [Nat.mod_one]
theorem make_bools (n : Nat) (hn : n ≤ 100000000) (W : World) : (Instr.makeSlice 26 (.int .i64 (n : Int)) (.int .i64 (n : Int))).run Tryz.prog W = .ok (.slice (some ⟨W.heap.size, 0, none⟩) n n) (W.alloc (.cells ((List.replicate n false).map vB).toArray 4)) := by
  obtain ⟨i0, hi, hz0, hz1, hz2⟩ := info_parts boolInfo
  have h := run_make (P := Tryz.prog) W 26 4 i0 (.bool false) Tryz.underlying26 hi hz0 .i64 .i64 (n : Int) (n : Int) (by omega) (by omega) (by rw [hz2]; omega) (by omega)
  rw [hz1, Nat.mul_one] at h
  simp only [Int.toNat_natCast] at h
  rw [made_false] at h
  exact h
theorem RowB.new (W : World) (l : List Bool) : RowB (W.alloc (.cells (l.map vB).toArray 4)) W.heap.size l := RowIs.new _ _ _ _ (by simp)
end Go.Proofs.YtmnlkganmgcpbaaGreatDoor
namespace Go.Proofs.YtmnlkganmgcpbaaGreatDoor
open Go.RowKit
set_option linter.unusedVariables false
set_option linter.unusedSectionVars false
set_option linter.unusedSimpArgs false
theorem SP.lit (W : World) (ys : List Pt) (t : TypeId) (b n : Nat) (hb : b = W.heap.size) (hn : n = ys.length) (hm : n ≤ maxLen) : SP (W.alloc (.cells (ys.flatMap ptV).toArray t)) (.slice (some ⟨b, 0, none⟩) n n) ys := by
  subst hb hn
  refine ⟨_, _, rfl, Nat.le_refl _, hm, fun _ => ⟨_, 0, rfl, by simp, fun j hj => ?_⟩⟩
  have h := ptsV_get ys j hj
  have h1 := lit_pts W ys t _ _ h.1
  have h2 := lit_pts W ys t _ _ h.2
  rw [add_plain, Nat.zero_add] at h1 h2
  rw [Nat.zero_add, Nat.mul_comm]
  exact ⟨h1, h2⟩
set_option maxRecDepth 100000 in
set_option maxHeartbeats 2000000 in
theorem orientation_any (s C m : Nat) (c : Bool) (w : World) (hC : m ≤ C) (hC2 : C ≤ 1000000) (hm : 5 ≤ m) : Calls Tryz.prog 88 #[gridV s c C m] w fun e w' => ∃ v u, e = .returned (.tuple #[v, u]) ∧ SPf w.heap.size w' v (darkL C m) ∧ SPf w.heap.size w' u (lightL C m) ∧ Below w.heap.size w w' := by
  obtain ⟨a, ha⟩ : ∃ a, a = C - m := ⟨_, rfl⟩
  obtain ⟨a1, ha1⟩ : ∃ a1, a1 = C - m + 1 := ⟨_, rfl⟩
  obtain ⟨b, hb⟩ : ∃ b, b = C + m := ⟨_, rfl⟩
  obtain ⟨b1, hb1⟩ : ∃ b1, b1 = C + m - 1 := ⟨_, rfl⟩
  have e1 : (C : Int) - (m : Int) = (a : Int) := by omega
  have e2 : (a : Int) + 1 = (a1 : Int) := by omega
  have e3 : (C : Int) + (m : Int) = (b : Int) := by omega
  have e4 : (b : Int) - 1 = (b1 : Int) := by omega
  have HD : Hid (darkL C m = [(a, a), (a1, a), (a, a1), (b, a), (b, a1), (b, b1)]) := by show _ = _; rw [ha, ha1, hb, hb1]; rfl
  have HL : Hid (lightL C m = [(b1, a), (b, b), (b1, b), (a, b), (a1, b), (a, b1)]) := by show _ = _; rw [ha, ha1, hb, hb1]; rfl
  have ha9 : a ≤ 10000000 := by omega
  have hb9 : b ≤ 10000000 := by omega
  have ha91 : a1 ≤ 10000000 := by omega
  have hb91 : b1 ≤ 10000000 := by omega
  clear ha ha1 hb hb1
  obtain ⟨wS, hwS⟩ : ∃ wS, wS = w.alloc (.cells #[.int .i64 (s : Int), .bool c, .int .i64 (C : Int), .int .i64 (m : Int)] 71) := ⟨_, rfl⟩
  have HWS : Hid (Below w.heap.size w wS) := by show Below _ _ _; rw [hwS]; exact bwA _ _
  have HGR : Hid (RowIs wS w.heap.size #[.int .i64 (s : Int), .bool c, .int .i64 (C : Int), .int .i64 (m : Int)] 71) := by show RowIs _ _ _ _; rw [hwS]; exact RowIs.new _ _ _ _ (by simp)
  have CF : Hid (∀ W, Abv wS W → W.cell? ⟨w.heap.size, 2, none⟩ = some (.int .i64 (C : Int)) ∧ W.cell? ⟨w.heap.size, 3, none⟩ = some (.int .i64 (m : Int))) := fun W hW => ⟨(HGR.out.below hW).cell 2 _ rfl, (HGR.out.below hW).cell 3 _ rfl⟩
  have HWD : Hid (Below w.heap.size w wS.drew) := bwDrew HWS.out
  go_enter Tryz.func88, Tryz.ntmps88
  go_wp2
  rw [← hwS]
  clear hwS
  refine wp_region_W (S := Abv wS) [(false, 0), (false, 1), (false, 2), (false, 3), (false, 4), (false, 5)] (by kernel_rfl) (by kernel_rfl) (bwDrew (Below.refl _ _)) ?_
  simp only [attachW, List.getElem?_cons_zero, List.getElem?_cons_succ]
  repeat
    refine' wpHX_val rfl (fun W hW => ?_) ?_
    rotate_left
    · have hcf := CF.out W hW; go_simp; rfl
    simp only [Act.put, List.setIfInBounds_toArray, List.set_cons_zero, List.set_cons_succ]
  refine wpHX_nil ?_
  have HSW := Lib.hid HWD.out.size
  have HF1 : Hid (∀ W : World, Below w.heap.size w W → Below w.heap.size w (W.alloc (.cells ((darkL C m).flatMap ptV).toArray 47)) ∧ SPf w.heap.size (W.alloc (.cells ((darkL C m).flatMap ptV).toArray 47)) (.slice (some ⟨W.heap.size, 0, none⟩) 6 6) (darkL C m)) := by
    show ∀ W : World, _
    intro W hW
    exact ⟨bwAlloc hW _, SP.lit W _ _ _ 6 rfl rfl (by unfold maxLen; omega), fun A m k ad h1 h2 => by injection h1 with h1 _ _; rw [h2] at h1; injection h1 with h1; rw [← h1]; exact hW.size⟩
  have HF2 : Hid (∀ W : World, Below w.heap.size w W → Below w.heap.size w (W.alloc (.cells ((lightL C m).flatMap ptV).toArray 47)) ∧ SPf w.heap.size (W.alloc (.cells ((lightL C m).flatMap ptV).toArray 47)) (.slice (some ⟨W.heap.size, 0, none⟩) 6 6) (lightL C m)) := by
    show ∀ W : World, _
    intro W hW
    exact ⟨bwAlloc hW _, SP.lit W _ _ _ 6 rfl rfl (by unfold maxLen; omega), fun A m k ad h1 h2 => by injection h1 with h1 _ _; rw [h2] at h1; injection h1 with h1; rw [← h1]; exact hW.size⟩
  go_wp2
  go_ret2
  have h1 := HF1.out wS.drew HWD.out
  have h2 := HF2.out _ h1.1
  rw [HD.out] at h1 h2 ⊢
  rw [HL.out] at h2 ⊢
  have h3 := h2.2
  rw [show (wS.drew.alloc (.cells (([(a, a), (a1, a), (a, a1), (b, a), (b, a1), (b, b1)] : List Pt).flatMap ptV).toArray 47)).heap.size = wS.heap.size + 1 from by simp] at h3
  exact ⟨_, _, rfl, h1.2.below (bwA _ _), h3, h2.1⟩
end Go.Proofs.YtmnlkganmgcpbaaGreatDoor
namespace Go.Proofs.YtmnlkganmgcpbaaGreatDoor
open Go.RowKit
set_option linter.unusedVariables false
set_option linter.unusedSectionVars false
set_option linter.unusedSimpArgs false
theorem wpHX_makeR {ops : Array Oper} {S : World → Prop} {K : Act → World → Prop} {r : List (Bool × Nat × Oper)} {k : Nat} {o : Oper} {a : Act} {W : World} {l c : Operand} (hgd : Region.wanted o (yielded ops a.tmps) = true) (ho : o.op = .makeSlice 26 l c) (n : Nat) (hn : n ≤ 100000000) (hl : a.eval l = .int .i64 (n : Int)) (hc : a.eval c = .int .i64 (n : Int))
    (hS : S (W.alloc (.cells ((List.replicate n false).map vB).toArray 4))) (hk : wpHX Tryz.prog ops S K r (a.put o.dst (.slice (some ⟨W.heap.size, 0, none⟩) n n)) (W.alloc (.cells ((List.replicate n false).map vB).toArray 4))) : wpHX Tryz.prog ops S K ((true, k, o) :: r) a W := by
  refine wpHX_aval hgd ?_ hS hk
  have h := make_bools n hn W
  unfold execOp
  simp only [ho, hl, hc, Sem.run_bind, Sem.run_pure, Result.andThen_ok, h]
theorem wpHX_storeR {ops : Array Oper} {S : World → Prop} {K : Act → World → Prop} {r : List (Bool × Nat × Oper)} {k : Nat} {o : Oper} {a : Act} {W : World} (ty : TypeId) (hgd : Region.wanted o (yielded ops a.tmps) = true) (p x : Operand) (ho : o.op = .store ty p x) (t : TypeId) (b : Nat) (cur : Array Value) (cs : List Value) (hr : RowIs W b cur t)
    (hp : a.eval p = .pointer (some ⟨b, 0, none⟩)) (hx : a.eval x = .agg cs.toArray) (hi : (Tryz.prog.info? ty).map (·.size) = some cs.length) (hfit : cs.length = cur.size) (h1 : ∀ v ∈ cs, v.oneCell' = true)
    (hS : S (W.setRow b cs.toArray)) (hk : wpHX Tryz.prog ops S K r (a.put o.dst undef) (W.setRow b cs.toArray)) : wpHX Tryz.prog ops S K ((true, k, o) :: r) a W := by
  have hrun := run_storeVar_part (P := Tryz.prog) W t ty b 0 cur cs hr hi (by omega) h1
  have e : (splice cur.toList 0 cs).toArray = cs.toArray := by
    unfold splice
    rw [List.take_zero, List.nil_append, List.drop_eq_nil_of_le (by simp [hfit]), List.append_nil]
  rw [e] at hrun
  refine .inl ⟨hgd, ?_⟩
  unfold execOp
  simp only [ho, hp, hx, Instr.storeAt, Instr.sureAddr, Sem.run_bind, Sem.run_pure, Result.andThen_ok, hrun]
  exact ⟨hS, hk⟩
theorem matInfo : (Tryz.prog.info? 28).map (·.zero) = some (some (.agg #[.int .i64 0, .int .i64 0, .slice none 0 0])) := by kernel_rfl
theorem matSz : (Tryz.prog.info? 28).map (·.size) = some 3 := by kernel_rfl
theorem RowB.row {w : World} {db b : Nat} {l : List Bool} (h : RowB w db l) (cs : Array Value) (hne : db ≠ b) : RowB (w.setRow b cs) db l := RowIs.other h cs hne
abbrev gridC (n : Nat) (c : Bool) (C m : Nat) : Array Value := #[.int .i64 (n : Int), .bool c, .int .i64 (C : Int), .int .i64 (m : Int)]
abbrev matC (n H db N : Nat) : List Value := [.int .i64 (n : Int), .int .i64 (H : Int), .slice (some ⟨db, 0, none⟩) N N]
def MatMade (wS W : World) (n N db mb : Nat) : Prop := RowB W db (List.replicate N false) ∧ RowIs W mb (matC n n db N).toArray 28 ∧ Below wS.heap.size wS W ∧ wS.heap.size ≤ db ∧ wS.heap.size ≤ mb ∧ db ≠ mb
def PostM (wS : World) (n N gb : Nat) (a a' : Act) (W : World) : Prop := ∃ db mb, a' = (((((((((((a.put (some 14) (.pointer (some ⟨gb, 0, none⟩))).put (some 15) (.int .i64 n)).put (some 16) (.pointer (some ⟨gb, 0, none⟩))).put (some 17) (.int .i64 n)).put (some 18) (.pointer (some ⟨gb, 0, none⟩))).put (some 19) (.int .i64 n)).put (some 20) (.pointer (some ⟨gb, 0, none⟩))).put (some 21) (.int .i64 n)).put (some 22) (.int .i64 N)).put (some 23) (.slice (some ⟨db, 0, none⟩) N N)).put (some 24) (.agg (matC n n db N).toArray)).put (some 3) (.pointer (some ⟨mb, 0, none⟩)) ∧ MatMade wS W n N db mb
theorem MatMade.a {wS U : World} {n N : Nat} (hU : Below wS.heap.size wS U) : MatMade wS (((U.alloc (.cells ((List.replicate N false).map vB).toArray 4)).alloc (.cells #[.int .i64 0, .int .i64 0, .slice none 0 0] 28)).setRow (U.heap.size + 1) (matC n n U.heap.size N).toArray) n N U.heap.size (U.heap.size + 1) := by
  have h1 : RowB (U.alloc (.cells ((List.replicate N false).map vB).toArray 4)) U.heap.size (List.replicate N false) := RowB.new _ _
  have h2 : RowIs ((U.alloc (.cells ((List.replicate N false).map vB).toArray 4)).alloc (.cells #[.int .i64 0, .int .i64 0, .slice none 0 0] 28)) (U.heap.size + 1) #[.int .i64 0, .int .i64 0, .slice none 0 0] 28 := RowIs.new _ _ _ _ (by simp)
  have hs := hU.size
  refine ⟨(h1.below (bwA _ _)).row _ (by omega), RowIs.set h2 _, below_setRow (bwAlloc (bwAlloc hU _) _) (by omega) _, hs, by omega, by omega⟩
theorem MatMade.b {wS U : World} {n N : Nat} (hU : Below wS.heap.size wS U) : MatMade wS (((U.alloc (.cells #[.int .i64 0, .int .i64 0, .slice none 0 0] 28)).alloc (.cells ((List.replicate N false).map vB).toArray 4)).setRow U.heap.size (matC n n (U.heap.size + 1) N).toArray) n N (U.heap.size + 1) U.heap.size := by
  have h1 : RowIs (U.alloc (.cells #[.int .i64 0, .int .i64 0, .slice none 0 0] 28)) U.heap.size #[.int .i64 0, .int .i64 0, .slice none 0 0] 28 := RowIs.new _ _ _ _ rfl
  have h2 : RowB ((U.alloc (.cells #[.int .i64 0, .int .i64 0, .slice none 0 0] 28)).alloc (.cells ((List.replicate N false).map vB).toArray 4)) (U.heap.size + 1) (List.replicate N false) := RowIs.new _ _ _ _ (by simp)
  have hs := hU.size
  refine ⟨h2.row _ (by omega), RowIs.set (h1.below (bwA _ _)) _, below_setRow (bwAlloc (bwAlloc hU _) _) (by omega) _, by omega, hs, by omega⟩
def blT (n C : Nat) (c : Bool) (j : Nat) : List Bool := (List.range (n * n)).map fun i => decide (i < j) && blF C c (i % n, i / n)
theorem blT_zero (n C : Nat) (c : Bool) : blT n C c 0 = List.replicate (n * n) false := by
  unfold blT
  apply List.ext_getElem (by simp)
  intro i h1 h2
  simp
theorem blT_end (n C : Nat) (c : Bool) : blT n C c (n * n) = blankL n C c := by
  unfold blT blankL
  apply List.map_congr_left
  intro i hi
  rw [decide_eq_true (List.mem_range.1 hi), Bool.true_and]
theorem blT_length (n C : Nat) (c : Bool) (j : Nat) : (blT n C c j).length = n * n := by unfold blT; simp
theorem blT_get {n C : Nat} {c : Bool} {j i : Nat} (h : i < (blT n C c j).length) : (blT n C c j)[i] = (decide (i < j) && blF C c (i % n, i / n)) := by simp [blT]
theorem blT_step {n C : Nat} {c : Bool} {j : Nat} : (blT n C c j).set j (blF C c (j % n, j / n)) = blT n C c (j + 1) := by
  apply List.ext_getElem (by rw [List.length_set, blT_length, blT_length])
  intro i h1 h2
  rw [List.getElem_set, blT_get h2]
  by_cases h : j = i
  · subst h
    rw [if_pos rfl, decide_eq_true (by omega), Bool.true_and]
  · rw [if_neg h, blT_get]
    have : decide (i < j) = decide (i < j + 1) := by rw [decide_eq_decide]; omega
    rw [this]
theorem blT_skip {n C : Nat} {c : Bool} {j : Nat} (h : blF C c (j % n, j / n) = false) : blT n C c (j + 1) = blT n C c j := by
  unfold blT
  apply List.map_congr_left
  intro i _
  by_cases e : i = j
  · subst e; rw [h, Bool.and_false, Bool.and_false]
  · have : decide (i < j) = decide (i < j + 1) := by rw [decide_eq_decide]; omega
    rw [this]
end Go.Proofs.YtmnlkganmgcpbaaGreatDoor
