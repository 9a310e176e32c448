import Derived.Test.YtmnlkganmgcpbaaGreatDoorQa23
import Derived.Test.YtmnlkganmgcpbaaGreatDoorQa9
import Derived.Test.YtmnlkganmgcpbaaGreatDoorQa3
import Derived.Test.YtmnlkganmgcpbaaGreatDoorQa7
import Derived.Test.YtmnlkganmgcpbaaGreatDoorQa12
namespace Go.Proofs.YtmnlkganmgcpbaaGreatDoor
open Go.RowKit
set_option linter.unusedVariables false
set_option linter.unusedSectionVars false
set_option linter.unusedSimpArgs false
theorem take_succ_getD (xs : List Nat) {k : Nat} (hk : k < xs.length) : xs.take (k + 1) = xs.take k ++ [xs.getD k 0] := by
  rw [List.take_add_one]
  have : xs[k]? = some (xs.getD k 0) := by simp [List.getD, hk]
  rw [this]; rfl
section
open Fl
variable {c s p : Nat} (h : VF c s p)
include h
end
end Go.Proofs.YtmnlkganmgcpbaaGreatDoor
namespace Go.Proofs.YtmnlkganmgcpbaaGreatDoor
open Go.RowKit
set_option linter.unusedVariables false
set_option linter.unusedSectionVars false
set_option linter.unusedSimpArgs false
set_option maxRecDepth 100000 in
set_option maxHeartbeats 2000000 in
theorem AppendB_any (A : Option Addr) (m c : Nat) (b : List Bool) (v n : Nat) (w : World) (hv : v ≤ 1000000000000) (hn : n ≤ 62) (hm : m ≤ 1000) (hb : SR vB false w A m c b) :
    Calls Tryz.prog 59 #[.slice A m c, .int .i64 v, .int .i64 n] w (RT vB false w (b ++ lowB v n, 0)) := by
  obtain ⟨i0, hi, hz0, hz1, hz2⟩ := info_parts boolInfo
  obtain ⟨N, hN⟩ : ∃ N, m + n = N := ⟨_, rfl⟩
  have hNN : (m : Int) + (n : Int) = (N : Int) := by omega
  have hmN : m ≤ N := by omega
  have hN4 : N ≤ 1062 := by omega
  have hmk : ∀ W : World, (Instr.makeSlice 26 (.int .i64 (m : Int)) (.int .i64 (N : Int))).run Tryz.prog W = .ok (.slice (some ⟨W.heap.size, 0, none⟩) m N) (W.alloc (.cells (madeCells #[Value.bool false] N) 4)) := fun W => by
    have h := run_make (P := Tryz.prog) W 26 4 i0 (.bool false) Tryz.underlying26 hi hz0 .i64 .i64 (m : Int) (N : Int) (by omega) (by omega) (by rw [hz2]; omega) (by omega)
    rw [hz1, Nat.mul_one] at h
    simp only [Int.toNat_natCast] at h
    exact h
  have HB := Lib.hid hb
  have HM : Hid (m = b.length) := hb.hn
  have HOW : Hid (∀ w2 : World, w2.heap[w.heap.size]? = some (.cells (splice (madeCells #[Value.bool false] N).toList 0 (b.map vB)).toArray 4 (0, 0)) → w2.ownsRow w.heap.size 4 1 (.slice (some ⟨w.heap.size, 0, none⟩) m N) b.length (b.map vB)) := by
    show ∀ _, _
    intro w2 h2
    have hl : (madeCells #[Value.bool false] N).toList.length = N := by simp [madeCells]
    have hsl : (splice (madeCells #[Value.bool false] N).toList 0 (b.map vB)).length = N := by rw [length_splice _ _ _ (by rw [hl, List.length_map, ← HM.out]; omega), hl]
    refine ⟨by simp, .inr ⟨w.heap.size, N, _, by rw [HM.out], Nat.le_refl _, h2, by rw [← HM.out]; exact hmN, by unfold maxLen; omega, by simpa using hsl, ?_⟩⟩
    simp [splice, List.take_append]
  have HS : Hid (∀ W, Abv w W → 0 < (b.map vB).length → ∃ ad, A = some ad ∧ ∀ j v, (b.map vB)[j]? = some v → W.cell? (ad.add j) = some v) := by
    show ∀ W, _
    intro W hW h0
    obtain ⟨ad, e, h1, h2⟩ := HB.out.rd (by simpa using h0)
    refine ⟨ad, e, fun j v hv => ?_⟩
    rw [hW.cell (by rw [block_of_add]; exact h1)]
    have hj : j < b.length := by
      rcases Nat.lt_or_ge j b.length with h | h
      · exact h
      · rw [List.getElem?_eq_none (by simpa using h)] at hv; cases hv
    rw [h2 j hj]
    simpa [List.getD, hj] using hv
  have hml : m ≤ 1048576 - n := by omega
  have HML : Hid (b.length ≤ 100000000) := by show _ ≤ _; rw [← HM.out]; omega
  clear hb
  go_enter Tryz.func59, Tryz.ntmps59
  go_wp2_with (first
    | ((with_reducible show wpList _ _ _ (⟨_, Op.call ⟨Callee.builtin Builtin.copy, _, _⟩, _, _, _, _⟩ :: _) _ _); (refine wpList_copy_splice rfl _ _ 26 26 rfl 4 Tryz.underlying26 boolSz _ A m N m c rfl rfl w.heap.size 0 (madeCells #[Value.bool false] N).toList 4 (heap_alloc_new _ _) (b.map vB) (by rw [List.length_map, ← HM.out]; exact (Nat.min_self m).symm) (fun h0 => ⟨rfl, HS.out _ (bwA _ _) h0⟩) (by simp [madeCells]; rw [← HM.out]; exact hmN) (fun u hu => by obtain ⟨y, _, rfl⟩ := List.mem_map.1 hu; rfl) w.heap.size w (bwA _ _) (Nat.le_refl _) ?_); intro w2 h2 hb2; have HO2 := Lib.hid (HOW.out w2 h2.out); have HB2 := Lib.hid hb2; clear h2 hb2)
    | (go_at_call 108; refine (appendLow_any w.heap.size b _ v n _ hv hn HML.out HB2.out.size HO2.out).mono ?_; rintro e w3 ⟨u3, rfl, ho3, hb3⟩; have HO3 := Lib.hid ho3; have HB3 := Lib.hid hb3; clear ho3 hb3))
  go_ret2
  exact RT.mk rfl (SG.of_own HO3.out) (HB2.out.trans HB3.out)
def wordsB (b : List Bool) (s m : Nat) : List Nat := (List.range m).map fun i => numF b (i * s) s
theorem wordsB_length (b : List Bool) (s m : Nat) : (wordsB b s m).length = m := by unfold wordsB; simp
theorem wordsB_succ (b : List Bool) (s m : Nat) : wordsB b s (m + 1) = wordsB b s m ++ [numF b (m * s) s] := by unfold wordsB; rw [List.range_succ, List.map_append]; rfl
theorem wordsB_lt (b : List Bool) (s m : Nat) : LtAll (2 ^ s) (wordsB b s m) := fun i => by
  have h1 : 1 ≤ 2 ^ s := Nat.one_le_two_pow
  rcases Nat.lt_or_ge i m with h | h
  · unfold wordsB; rw [getD_map_range _ _ _ h]; exact numF_lt _ _ _
  · rw [getD_ge (by rw [wordsB_length]; exact h)]; omega
theorem SR.piece {α : Type} {f : α → Value} {d : α} {w : World} {ad : Addr} {n c : Nat} {l : List α} (h : SR f d w (some ad) n c l) (a k c' : Nat) (ha : a + k ≤ n) (hc : k ≤ c') (hm : c' ≤ c) : SR f d w (some (ad.add a)) k c' ((l.drop a).take k) := by
  have hn := h.hn
  refine ⟨by rw [List.length_take, List.length_drop]; omega, hc, Nat.le_trans hm h.hm, ?_⟩
  exact (h.rd.drop a).take k
theorem numF_piece (b : List Bool) (a k : Nat) : numF ((b.drop a).take k) 0 k = numF b a k := by
  rw [numF_take _ _ _ _ (by omega), numF_drop, Nat.add_zero]
theorem wpList_valG {P : Program} {ops : Array Oper} {rest : List Oper} {o : Oper} {a : Act} {Q : Exit → Act → World → Prop} {w : World} {v : Value} (hgd : Region.wanted o (yielded ops a.tmps) = true) (hv : (execOp a.eval o).run P w = .ok (.value v) w) (hk : wpList P ops Q rest (a.put o.dst v) w) : wpList P ops Q (o :: rest) a w := by
  refine wpList_step fun K hK => ?_
  simp only [hgd, if_true]
  unfold Oper.wp
  rw [hv]
  exact hK _ _ hk
theorem exec_sliceM {a : Act} {o : Oper} {W : World} {x i j : Operand} (ho : o.op = .slice 26 x (some i) (some j) none) {ad : Addr} {n c : Nat} (hx : a.eval x = .slice (some ad) n c) {I J : Int} (hi : a.eval i = .int .i64 I) (hj : a.eval j = .int .i64 J) (k m : Nat) (hI : I = (k : Int)) (hJ : J = (m : Int)) (hk : k ≤ m) (hm : m ≤ c) (hc : k < c) :
    (execOp a.eval o).run Tryz.prog W = .ok (.value (.slice (some (ad.add k)) (m - k) (c - k))) W := by
  subst hI hJ
  have hrun := run_slice_lh (P := Tryz.prog) W 26 (some ad) n c boolElem .i64 .i64 (k : Int) (m : Int) (by omega) (by omega) (by omega)
  rw [boolElemSz] at hrun
  simp only [Result.andThen_ok, sliced, Int.toNat_natCast, Nat.mul_one, Option.map_some] at hrun
  rw [if_neg (by omega)] at hrun
  have hat := run_sliceAt_slice (P := Tryz.prog) W 26 (.slice (some ad) n c) (some (.int .i64 (k : Int))) (some (.int .i64 (m : Int))) none boolElem
  unfold execOp
  simp only [ho, hx, hi, hj, Option.map_some, Option.map_none, Sem.run_bind, Sem.run_pure, Result.andThen_ok, hat, hrun]
end Go.Proofs.YtmnlkganmgcpbaaGreatDoor
namespace Go.Proofs.YtmnlkganmgcpbaaGreatDoor
open Go.RowKit
set_option linter.unusedVariables false
set_option linter.unusedSectionVars false
set_option linter.unusedSimpArgs false
set_option maxRecDepth 100000 in
set_option maxHeartbeats 2000000 in
theorem WordsB_any (A : Option Addr) (n c s m : Nat) (b : List Bool) (w : World) (hs1 : 1 ≤ s) (hs : s ≤ 12) (hm : n = m * s) (hn : n ≤ 100000) (hb : SR vB false w A n c b) :
    Calls Tryz.prog 60 #[.slice A n c, .int .i64 s, .bool false] w (RT vN 0 w (wordsB b s m, 0)) := by
  obtain ⟨i0, hi, hz0, hz1, hz2⟩ := info_parts intInfo
  have HB := Lib.hid hb
  have HM := Lib.hid hm
  have hmn : m ≤ n := by rw [hm]; exact Nat.le_mul_of_pos_right m (by omega)
  clear hb hm
  go_enter Tryz.func60, Tryz.ntmps60
  go_wp2
  go_loopw [8, 9] (fun ov av wr => ∃ i a : Nat, i ≤ m ∧ a ≤ n ∧ av = .int .i64 a ∧ Hid (a = i * s) ∧ Hid (OG vN 3 w wr ov (wordsB b s i))) (fun _ av _ => n - (intOf av).toNat)
  case atStart => exact ⟨0, 0, Nat.zero_le _, Nat.zero_le _, rfl, by show _ = _; rw [Nat.zero_mul], OG.start _ _⟩
  case round =>
    obtain ⟨i, a, hi2, ha2, rfl, hA, hO⟩ := hrel
    by_cases hlt : a < n
    · have him : i < m := by
        apply Classical.byContradiction
        intro h
        have : i = m := by omega
        have h1 := hA.out
        rw [this, ← HM.out] at h1
        omega
      obtain ⟨E, hE⟩ : ∃ E, E = a + s := ⟨_, rfl⟩
      have hEn : E ≤ n := by
        have h1 := hA.out
        have h2 := HM.out
        have h3 : (i + 1) * s ≤ m * s := Nat.mul_le_mul_right s (by omega)
        rw [Nat.add_mul, Nat.one_mul] at h3
        omega
      have hEE : (a : Int) + (s : Int) = (E : Int) := by omega
      have hmin : min (E : Int) (n : Int) = (E : Int) := by omega
      have HSR := Lib.hid (HB.out.below hO.out.B)
      have hcn := HB.out.hc
      obtain ⟨ad, rfl, -, -⟩ := HB.out.rd (by rw [← HB.out.hn]; omega)
      have HaE : Hid (a ≤ E) := by show _ ≤ _; omega
      have HEc : Hid (E ≤ c) := by show _ ≤ _; omega
      have Hac : Hid (a < c) := by show _ < _; omega
      have HEm : Hid (E - a = s) := by show _ = _; omega
      have HEN : Hid (E = (i + 1) * s) := by show _ = _; rw [hE, hA.out, Nat.add_mul, Nat.one_mul]
      have HNB : Hid (Calls Tryz.prog 109 #[.slice (some (ad.add a)) s (c - a)] wr fun e w' => e = .returned (.int .i64 ((numF b a s : Nat) : Int)) ∧ w' = wr) := by
        show Calls _ _ _ _ _
        rw [← numF_piece]
        exact number_any _ s _ _ wr (by omega) (HSR.out.piece a s _ (by omega) (by omega) (by omega))
      have HWS : Hid (wordsB b s (i + 1) = wordsB b s i ++ [numF b a s]) := by show _ = _; rw [wordsB_succ, hA.out]
      have HLE : Hid ((wordsB b s i).length ≤ 100000) := by show _ ≤ _; rw [wordsB_length]; omega
      generalize numF b a s = x at *
      have has : a + s ≤ 100012 := by omega
      clear hcn hE
      go_wp2_with (first
        | ((with_reducible show wpList _ _ _ (⟨_, Op.slice 26 _ _ _ _, _, _, _, _⟩ :: _) _ _); refine wpList_valG rfl (exec_sliceM rfl rfl rfl rfl a E rfl rfl HaE.out HEc.out Hac.out) ?_; rw [HEm.out])
        | (go_at_call 109; refine HNB.out.mono ?_; rintro e w' ⟨rfl, hw'⟩; rw [hw']; clear hw'))
      refine wp_loop_rounds 1 ?_
      rw [rounds_succ]
      go_wp2_with (at_builtin; refine wpList_append_G (f := vN) (d := 0) oneN rfl _ _ _ rfl w.heap.size 3 i0 _ 8 Tryz.underlying64 hi hz0 hz1 hz2 rfl _ (wordsB b s i).length (wordsB b s i) rfl (ownsRow_below hO.out.O (bwA _ _)) (some ⟨wr.heap.size, 0, none⟩) 1 1 [x] rfl rfl (RG.one _ _ _ _ rfl) (by have := HLE.out; unfold maxLen; omega) (by have := HLE.out; omega) (by have := hO.out.B.size; simp; omega) ?_; intro v5 w5 hown hg; have HP := Lib.hid (hO.out.grow (bwA _ _) hown hg); clear hown hg)
      exact ⟨⟨i + 1, E, by omega, hEn, by go_num, HEN, by show OG _ _ _ _ _ _; rw [HWS.out]; exact HP.out⟩, by simp [intOf]; omega⟩
    · obtain rfl : a = n := by omega
      have HE : Hid (wordsB b s i = wordsB b s m) := by
        show _ = _
        have h1 : i * s = m * s := by rw [← hA.out, HM.out]
        have : i = m := Nat.eq_of_mul_eq_mul_right (by omega) h1
        rw [this]
      go_wp2
      go_ret2
      exact RT.mk rfl (by rw [← HE.out]; exact hO.out.sg) hO.out.B
def bitsW (l : List Nat) (s : Nat) : List Bool := l.flatMap fun v => lowB v s
theorem bitsW_length (l : List Nat) (s : Nat) : (bitsW l s).length = l.length * s := by
  induction l with
  | nil => simp [bitsW]
  | cons v l ih =>
    show (lowB v s ++ bitsW l s).length = _
    rw [List.length_append, lowB_length, ih, List.length_cons, Nat.add_mul, Nat.one_mul, Nat.add_comm]
theorem bitsW_snoc (l : List Nat) (v s : Nat) : bitsW (l ++ [v]) s = bitsW l s ++ lowB v s := by simp [bitsW]
theorem bitsW_take (l : List Nat) (s : Nat) {i : Nat} (hi : i < l.length) : bitsW (l.take (i + 1)) s = bitsW (l.take i) s ++ lowB (l.getD i 0) s := by
  rw [take_succ_getD l hi, bitsW_snoc]
set_option maxRecDepth 100000 in
set_option maxHeartbeats 2000000 in
theorem FromWords_any (A : Option Addr) (n c s : Nat) (l : List Nat) (w : World) (hs1 : 1 ≤ s) (hs : s ≤ 12) (hn : n ≤ 8000) (hl : LtAll (2 ^ s) l) (hb : SR vN 0 w A n c l) :
    Calls Tryz.prog 63 #[.slice A n c, .int .i64 s] w (RT vB false w (bitsW l s, 0)) := by
  obtain ⟨i0, hi, hz0, hz1, hz2⟩ := info_parts boolInfo
  have HB := Lib.hid hb
  have HN : Hid (n = l.length) := hb.hn
  have HL := Lib.hid hl
  obtain ⟨N, hN⟩ : ∃ N, N = n * s := ⟨_, rfl⟩
  have hN2 : N ≤ 96000 := by rw [hN]; exact Nat.mul_le_mul hn hs
  have hNN : (n : Int) * (s : Int) = (N : Int) := by rw [hN]; simp
  have hq : decide ((1048576 : Int) / (s : Int) < (n : Int)) = false := by
    have h1 : (8000 : Int) ≤ 1048576 / (s : Int) := Int.le_ediv_of_mul_le (by omega) (by omega)
    simp; omega
  clear hb hl hN
  go_enter Tryz.func63, Tryz.ntmps63
  go_wp2_with (at_make; refine wpList_make_own _ rfl _ _ _ rfl w.heap.size 4 i0 _ 1 Tryz.underlying26 hi hz0 hz1 .i64 .i64 _ N rfl rfl (by first | rfl | omega) (by rw [hz2]; omega) (by unfold maxLen; omega) (Nat.le_refl _) ?_; intro w1 hown hg; have HO1 := Lib.hid hown; have HB1 : Hid (Below w.heap.size w w1) := (Below.refl _ _).grown hg (Nat.le_refl _) (fun q hq => by cases hq); clear hown hg)
  go_loopw [6, 27] (fun ov iv wr => ∃ i : Nat, i ≤ n ∧ iv = .int .i64 i ∧ Hid (Below w.heap.size w wr) ∧ Hid (wr.ownsRow w.heap.size 4 1 ov (bitsW (l.take i) s).length ((bitsW (l.take i) s).map vB))) (fun _ iv _ => n - (intOf iv).toNat)
  case atStart => exact ⟨0, Nat.zero_le _, rfl, HB1.out, HO1.out⟩
  case round =>
    obtain ⟨i, hi2, rfl, hB, hO⟩ := hrel
    by_cases hlt : i < n
    · obtain ⟨ad, rfl, hadw, hca⟩ := (HB.out.below hB.out).rd (by rw [← HN.out]; omega)
      have hx := hca i (by rw [← HN.out]; exact hlt)
      have HX : Hid (l.getD i 0 < 2 ^ s) := HL.out i
      have HTK : Hid (bitsW (l.take (i + 1)) s = bitsW (l.take i) s ++ lowB (l.getD i 0) s) := bitsW_take l s (by rw [← HN.out]; exact hlt)
      have HLE : Hid ((bitsW (l.take i) s).length ≤ 100000000) := by
        show _ ≤ _
        rw [bitsW_length, List.length_take]
        have : min i l.length * s ≤ 8000 * 12 := Nat.mul_le_mul (by omega) hs
        omega
      generalize l.getD i 0 = x at *
      have hx9 : x ≤ 1000000000000 := by have h1 := HX.out; have h2 := pow_lt13 hs; omega
      have hsh : (x : Int) / 2 ^ s = 0 := by
        have e : (x : Int) / 2 ^ s = ((x / 2 ^ s : Nat) : Int) := by simp
        rw [e, Nat.div_eq_of_lt HX.out]; rfl
      clear hca hadw
      go_wp2_with (go_at_call 108; refine (appendLow_any w.heap.size (bitsW (l.take i) s) _ x s _ hx9 (by omega) HLE.out hB.out.size hO.out).mono ?_; rintro e w3 ⟨u3, rfl, ho3, hb3⟩; have HO3 := Lib.hid ho3; have HB3 := Lib.hid hb3; clear ho3 hb3)
      exact ⟨⟨i + 1, by omega, by go_num, hB.out.trans HB3.out, by rw [HTK.out]; exact HO3.out⟩, by simp [intOf]; omega⟩
    · obtain rfl : n = i := by omega
      have HTK : Hid (l.take n = l) := by show _ = _; rw [HN.out, List.take_length]
      go_wp2
      go_ret2
      exact RT.mk rfl (by have h := hO.out; rw [HTK.out] at h; exact SG.of_own h) hB.out
end Go.Proofs.YtmnlkganmgcpbaaGreatDoor
namespace Go.Proofs.YtmnlkganmgcpbaaGreatDoor
open Go.RowKit
set_option linter.unusedVariables false
set_option linter.unusedSectionVars false
set_option linter.unusedSimpArgs false
def exB (L : Int) (c : Bool) : Bool := decide (1 ≤ L) && (decide (L ≤ 4) || (decide (L ≤ 32) && !c))
def baseN (L : Nat) (c : Bool) : Nat := if c = true then 11 + 4 * L else 14 + 4 * L
def sideN (L : Nat) (c : Bool) : Nat := if c = true then baseN L c else baseN L c + 1 + 2 * ((baseN L c / 2 - 1) / 15)
def roomN (L : Nat) (c : Bool) : Nat := if c = true then (88 + 16 * L) * L else (112 + 16 * L) * L
def sizeN (L : Nat) : Nat := if L ≤ 2 then 6 else if L ≤ 8 then 8 else if L ≤ 22 then 10 else 12
def wordsN (L : Nat) (c : Bool) : Nat := roomN L c / sizeN L
theorem exB_nat {L : Int} {c : Bool} (h : exB L c = true) : ∃ k : Nat, L = (k : Int) ∧ 1 ≤ k ∧ k ≤ 32 ∧ (c = true → k ≤ 4) := by
  unfold exB at h
  simp only [Bool.and_eq_true, Bool.or_eq_true, decide_eq_true_eq, Bool.not_eq_true'] at h
  refine ⟨L.toNat, by omega, by omega, by omega, fun e => ?_⟩
  rcases h.2 with h2 | h2
  · omega
  · rw [e] at h2; cases h2.2
theorem exB_of {k : Nat} {c : Bool} (h1 : 1 ≤ k) (h2 : k ≤ 32) (h3 : c = true → k ≤ 4) : exB (k : Int) c = true := by
  unfold exB
  cases c with
  | true => have := h3 rfl; simp; omega
  | false => simp; omega
theorem base_le {L : Nat} {c : Bool} (h : L ≤ 32) : 11 ≤ baseN L c ∧ baseN L c ≤ 142 := by unfold baseN; split <;> omega
theorem side_le {L : Nat} {c : Bool} (h : L ≤ 32) : 11 ≤ sideN L c ∧ sideN L c ≤ 161 := by
  have := base_le (c := c) h
  unfold sideN; split <;> omega
theorem room_le {L : Nat} {c : Bool} (h : L ≤ 32) : roomN L c ≤ 20000 := by
  unfold roomN
  split
  · exact Nat.le_trans (Nat.mul_le_mul (show 88 + 16 * L ≤ 600 by omega) h) (by omega)
  · exact Nat.le_trans (Nat.mul_le_mul (show 112 + 16 * L ≤ 624 by omega) h) (by omega)
theorem size_cases (L : Nat) : sizeN L = 6 ∨ sizeN L = 8 ∨ sizeN L = 10 ∨ sizeN L = 12 := by unfold sizeN; (repeat' split) <;> simp
theorem words_le {L : Nat} {c : Bool} (h : L ≤ 32) : wordsN L c ≤ 4000 := by
  unfold wordsN
  have h1 := room_le (c := c) h
  have h2 := size_cases L
  rcases h2 with e | e | e | e <;> rw [e] <;> omega
abbrev symv (L : Int) (c : Bool) : Value := .agg #[.int .i64 L, .bool c]
abbrev symB (L : Int) (c : Bool) : Obj := .cells #[.int .i64 L, .bool c] 60
theorem sym_cells (w : World) (L : Int) (c : Bool) : Hid (∀ W, Abv (w.alloc (symB L c)) W → W.cell? ⟨w.heap.size, 0, none⟩ = some (.int .i64 L) ∧ W.cell? ⟨w.heap.size, 1, none⟩ = some (.bool c)) := by
  show ∀ W, _
  intro W hW
  have h : CellsAt (w.alloc (symB L c)) w.heap.size [.int .i64 L, .bool c] := CellsAt.new _ _ _ _ rfl
  have h2 := h.below hW
  exact ⟨h2.2 0 (by simp), h2.2 1 (by simp)⟩
theorem exists_any (L : Int) (c : Bool) (w : World) : Calls Tryz.prog 29 #[symv L c] w fun e w' => e = .returned (.bool (exB L c)) ∧ Below w.heap.size w w' := by
  have hB : Hid (Below w.heap.size w (w.alloc (symB L c))) := bwA _ _
  by_cases h1 : 1 ≤ L
  · cases c with
    | true =>
      go_enter Tryz.func29, Tryz.ntmps29
      go_wp2
      all_goals (go_ret; exact ⟨ret_bool (by unfold exB; by_cases h4 : L ≤ 4 <;> by_cases h5 : L ≤ 32 <;> simp [h1, h4, h5] <;> omega), hB.out⟩)
    | false =>
      go_enter Tryz.func29, Tryz.ntmps29
      go_wp2
      all_goals (go_ret; exact ⟨ret_bool (by unfold exB; by_cases h4 : L ≤ 4 <;> by_cases h5 : L ≤ 32 <;> simp [h1, h4, h5] <;> omega), hB.out⟩)
  · go_enter Tryz.func29, Tryz.ntmps29
    go_wp2
    all_goals (go_ret; exact ⟨ret_bool (by unfold exB; simp; omega), hB.out⟩)
theorem base_any (L : Nat) (c : Bool) (w : World) (h : L ≤ 32) : Calls Tryz.prog 85 #[symv L c] w fun e w' => e = .returned (.int .i64 ((baseN L c : Nat) : Int)) ∧ Below w.heap.size w w' := by
  have hB : Hid (Below w.heap.size w (w.alloc (symB L c))) := bwA _ _
  cases c with
  | true =>
    go_enter Tryz.func85, Tryz.ntmps85
    go_wp2
    go_ret; exact ⟨ret_int (by unfold baseN; simp), hB.out⟩
  | false =>
    go_enter Tryz.func85, Tryz.ntmps85
    go_wp2
    go_ret; exact ⟨ret_int (by unfold baseN; simp), hB.out⟩
theorem side_any (L : Nat) (c : Bool) (w : World) (h : L ≤ 32) : Calls Tryz.prog 36 #[symv L c] w fun e w' => e = .returned (.int .i64 ((sideN L c : Nat) : Int)) ∧ Below w.heap.size w w' := by
  have CF := sym_cells w L c
  have HBL := Lib.hid (base_le (c := c) h)
  have HSD : Hid (sideN L c = if c = true then baseN L c else baseN L c + 1 + 2 * ((baseN L c / 2 - 1) / 15)) := rfl
  have HBA : Hid (∀ W, Calls Tryz.prog 85 #[symv L c] W fun e w' => e = .returned (.int .i64 ((baseN L c : Nat) : Int)) ∧ Below W.heap.size W w') := fun W => base_any L c W h
  generalize baseN L c = B at *
  obtain ⟨b1, b2⟩ := HBL.out
  cases c with
  | true =>
    go_enter Tryz.func36, Tryz.ntmps36
    go_wp2_with (go_at_call 85; refine (HBA.out _).mono ?_; rintro e w1 ⟨rfl, hb1⟩; have HB1 := Lib.hid hb1; clear hb1; obtain ⟨f0, f1⟩ := CF.out _ HB1.out)
    go_ret; exact ⟨ret_int (by rw [HSD.out]; simp), bw1 HB1.out⟩
  | false =>
    go_enter Tryz.func36, Tryz.ntmps36
    go_wp2_with (go_at_call 85; refine (HBA.out _).mono ?_; rintro e w1 ⟨rfl, hb1⟩; have HB1 := Lib.hid hb1; clear hb1; obtain ⟨f0, f1⟩ := CF.out _ HB1.out)
    go_ret; exact ⟨ret_int (by rw [HSD.out]; simp; omega), bw1 HB1.out⟩
theorem room_any (L : Nat) (c : Bool) (w : World) (h : L ≤ 32) : Calls Tryz.prog 89 #[symv L c] w fun e w' => e = .returned (.int .i64 ((roomN L c : Nat) : Int)) ∧ Below w.heap.size w w' := by
  have hB : Hid (Below w.heap.size w (w.alloc (symB L c))) := bwA _ _
  have HR := Lib.hid (room_le (c := c) h)
  have HD : Hid (roomN L c = if c = true then (88 + 16 * L) * L else (112 + 16 * L) * L) := rfl
  generalize roomN L c = R at *
  cases c with
  | true =>
    have hm : (88 + 16 * (L : Int)) * (L : Int) = (R : Int) := by rw [HD.out]; simp
    have hR := HR.out
    go_enter Tryz.func89, Tryz.ntmps89
    go_wp2
    go_ret; exact ⟨rfl, hB.out⟩
  | false =>
    have hm : (112 + 16 * (L : Int)) * (L : Int) = (R : Int) := by rw [HD.out]; simp
    have hR := HR.out
    go_enter Tryz.func89, Tryz.ntmps89
    go_wp2
    go_ret; exact ⟨rfl, hB.out⟩
theorem size_any (L : Nat) (c : Bool) (w : World) (h : L ≤ 32) : Calls Tryz.prog 33 #[symv L c] w fun e w' => e = .returned (.int .i64 ((sizeN L : Nat) : Int)) ∧ Below w.heap.size w w' := by
  have hB : Hid (Below w.heap.size w (w.alloc (symB L c))) := bwA _ _
  go_enter Tryz.func33, Tryz.ntmps33
  go_wp2
  all_goals (go_ret; exact ⟨ret_int (by unfold sizeN; (repeat' split) <;> first | rfl | omega), hB.out⟩)
end Go.Proofs.YtmnlkganmgcpbaaGreatDoor
