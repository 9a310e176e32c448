import Derived.Test.YtplppbfnlfehnaaDoorAztRC
import Derived.Test.YtplppbfnlfehnaaDoorAztPB
import Derived.Laws.Closers25
namespace Go.Proofs.YtplppbfnlfehnaaDoor
open Go.RowKit Go.WideMaps Go.Maps
set_option linter.unusedVariables false
/-! the reference's steps -/
theorem SR.take {α : Type} {f : α → Value} {d : α} {w : World} {A : Option Addr} {n c k : Nat} {l : List α} (h : SR f d w A n c l) (hk : k ≤ n) : SR f d w A k c (l.take k) := by
  have hn := h.hn
  have h1 := h.hc
  refine ⟨by rw [List.length_take]; omega, by omega, h.hm, fun h0 => ?_⟩
  rw [List.length_take] at h0
  obtain ⟨ad, e, hl, hc⟩ := h.rd (by omega)
  refine ⟨ad, e, hl, fun j hj => ?_⟩
  rw [List.length_take] at hj
  rw [hc j (by omega)]
  simp only [List.getD]
  rw [List.getElem?_take, if_pos (by omega)]
set_option maxRecDepth 100000 in
set_option maxHeartbeats 2000000 in
theorem RFits_none (A : Option Addr) (n c : Nat) (a : Nat) (w : World) (hn : n ≤ 4096) (ha : a ≤ n) (hc : n ≤ c) :
    Calls Tryd.prog 44 #[.slice A n c, .int .i64 (a : Int), .string ByteArray.empty] w fun e w' => e = .returned (.bool false) ∧ w' = w := by
  have hem : ByteArray.empty.toList.isEmpty = true := by rw [← decide_eq_emptyBytes]; exact decide_eq_true rfl
  go_enter Tryd.func44, Tryd.ntmps44
  go_wp2
  go_ret
  exact ⟨rfl, rfl⟩
set_option maxRecDepth 100000 in
set_option maxHeartbeats 2000000 in
theorem RFits_some (A : Option Addr) (n c : Nat) (l : List UInt8) (a : Nat) (t : ByteArray) (w : World) (hp : SR vU 0 w A n c l) (hn : n ≤ 4096) (ha : a ≤ n) (ht : t.size ≤ 1000) (h0 : t ≠ ByteArray.empty) :
    Calls Tryd.prog 44 #[.slice A n c, .int .i64 (a : Int), .string t] w fun e w' => e = .returned (.bool (preB (bA l) a t)) ∧ w' = w := by
  have hN : n = l.length := hp.hn
  have hte : t.toList.isEmpty = false := by rw [← decide_eq_emptyBytes]; exact decide_eq_false h0
  have h0s : 0 < t.size := by
    rcases Nat.eq_zero_or_pos t.size with h | h
    · exact absurd (ByteArray.size_eq_zero_iff.1 h) h0
    · exact h
  have HPF : Hid (preB (bA l) a t = (decide (t.size ≤ n - a) && ((l.drop a).take t.size == t.data.toList))) := by
    show _ = _
    rw [preB_bA, ← Lib.hasPrefix_of_take]
    have e1 : t.data.toList.length = t.size := by simp
    rw [e1, List.length_drop, hN]
  have HP := Lib.hid hp
  have HN := Lib.hid hN
  have hc := hp.hc
  have hm := hp.hm
  have hw : IntKind.i64.wrap ((a : Int) + (t.size : Int)) = ((a + t.size : Nat) : Int) := by rw [wr64 _ (by omega) (by omega)]; omega
  by_cases hle : t.size ≤ n - a
  · have d1 : decide ((a : Int) + (t.size : Int) ≤ (n : Int)) = true := by simp; omega
    obtain ⟨ad, rfl, had, hcs⟩ := hp.rd (by omega)
    have HT : Hid (SR vU 0 w (some (ad.add a)) (a + t.size - a) (c - a) ((l.drop a).take t.size)) := by
      rw [Nat.add_sub_cancel_left]
      exact (hp.drop (m := a) (A' := some (ad.add a)) (c' := c - a) (by omega) (.inr ⟨ad, rfl, rfl⟩) rfl).take (by omega)
    clear hp hN had hcs h0
    go_enter Tryd.func44, Tryd.ntmps44
    go_wp2_with ((with_reducible show wpList _ _ _ (⟨_, Op.convert 22 9 _, _, _, _, _⟩ :: _) _ _); refine wpList_convG rfl (exec_convB (A := some (ad.add a)) (n := a + t.size - a) (c := c - a) rfl rfl HT.out) ?_)
    go_ret
    exact ⟨by rw [HPF.out, decide_eq_true hle, Bool.true_and, Lib.toList_data]; rfl, rfl⟩
  · have d1 : decide ((a : Int) + (t.size : Int) ≤ (n : Int)) = false := by simp; omega
    have HF : Hid (preB (bA l) a t = false) := by show _ = _; rw [HPF.out, decide_eq_false hle]; rfl
    clear hp hN h0
    rw [HF.out]
    go_enter Tryd.func44, Tryd.ntmps44
    go_wp2
    go_ret
    exact ⟨rfl, rfl⟩
/-! a step's cells: from a mode with width W, an option -/
def Opt.v1 (o : Opt) : Nat := if o.run = 0 then o.sec.toNat else if o.long = true then 0 else o.run
def Opt.v2 (o : Opt) : Nat := if o.run = 0 then 0 else if o.long = true then o.run - 31 else 0
def Opt.w1 (o : Opt) : Nat := if o.run = 0 then (if 0 ≤ o.sec then 5 else 0) else 5
def Opt.w2 (o : Opt) : Nat := if o.run = 0 then 0 else if o.long = true then 11 else 0
def stV (W : Nat) (o : Opt) : List Value := [.int .i64 (o.num : Int), .int .i64 (o.v1 : Int), .int .i64 (o.v2 : Int), .int .i64 0, .int .i64 (W : Int), .int .i64 (o.w1 : Int), .int .i64 (o.w2 : Int), .int .i64 0, .int .i64 (o.size : Int), .int .i64 (o.at_ : Int), .int .i64 (o.mode : Int)]
theorem stV_one (W : Nat) (o : Opt) : ∀ v ∈ stV W o, v.oneCell' = true := by
  intro v hv
  simp only [stV, List.mem_cons, List.not_mem_nil, or_false] at hv
  rcases hv with rfl | rfl | rfl | rfl | rfl | rfl | rfl | rfl | rfl | rfl | rfl <;> rfl
theorem stepInfo2 : (Tryd.prog.info? 55).map (fun i => (i.zero, i.size, i.bytes)) = some (some (.agg #[.int .i64 0, .int .i64 0, .int .i64 0, .int .i64 0, .int .i64 0, .int .i64 0, .int .i64 0, .int .i64 0, .int .i64 0, .int .i64 0, .int .i64 0]), 11, 88) := by kernel_rfl
theorem stepSz : (Tryd.prog.info? 55).map (·.size) = some 11 := by kernel_rfl
structure OGS (m : Nat) (w wr : World) (v : Value) (l : List Opt) : Prop where
  B : Abv w wr
  O : wr.ownsRow w.heap.size 55 11 v l.length (l.flatMap (stV m))
theorem OGS.start (m : Nat) (w wr : World) (h : Abv w wr) : OGS m w wr (.slice none 0 0) [] := ⟨h, World.ownsRow_nil _ _ _ _⟩
theorem OGS.below {m : Nat} {w wr W : World} {v : Value} {l : List Opt} (h : OGS m w wr v l) (hW : Below wr.heap.size wr W) : OGS m w W v l := ⟨bwStep h.B hW, ownsRow_below h.O hW⟩
theorem wpList_append_step {ops : Array Oper} {rest : List Oper} {o : Oper} {a : Act} {Q : Exit → Act → World → Prop} {m : Nat} {w wr W : World} {v : Value} {l : List Opt} (h : OGS m w wr v l) (hW : Below wr.heap.size wr W) (hgd : o.guard = none) (s y : Operand)
    (ho : o.op = .call { callee := .builtin .append, args := #[s, y], argTypes := #[51, 51] }) (hs : a.eval s = v) (ad : Addr) (c : Nat) (x : Opt) (hy : a.eval y = .slice (some ad) 1 c)
    (hc : ∀ j u, (stV m x)[j]? = some u → W.cell? (ad.add j) = some u) (hl : l.length ≤ 50000) (hk : ∀ v' w', Hid (OGS m w w' v' (l ++ [x])) → wpList Tryd.prog ops Q rest (a.put o.dst v') w') : wpList Tryd.prog ops Q (o :: rest) a W := by
  refine wpList_plain hgd fun K hK => ?_
  obtain ⟨i0, hi, hz0, hz1, hz2⟩ := info_parts stepInfo2
  have hO := ownsRow_below h.O hW
  have hB := bwStep h.B hW
  obtain ⟨v', w', hrun, h2, h3, _, h5⟩ := run_append_own_at (P := Tryd.prog) W w.heap.size 51 o.type 55 i0 _ 11 88 Tryd.underlying51 hi hz0 hz1 hz2 rfl (by omega) v l.length _ hO ad 1 c (stV m x) (by rfl) hc (stV_one m x) (by unfold maxLen; omega) (by omega) hB.size
  unfold Oper.wp execOp
  simp only [ho, resolve, invoke, builtin, Sem.run_bind, Sem.run_pure, Result.andThen_ok, List.map_toArray, List.map_cons, List.map_nil, hs, hy, hrun]
  refine hK _ _ (hk v' w' ⟨hB.grown h3 hB.size (fun k hk => (hO.lt k hk).1), ?_⟩)
  rw [List.length_append, List.flatMap_append, List.flatMap_singleton]
  exact h2
theorem load_new {W : World} {b : Nat} {vs : List Value} {t : TypeId} (hb : b = W.heap.size) : ∀ j u, vs[j]? = some u → (W.alloc (.cells vs.toArray t)).cell? ((⟨b, 0, none⟩ : Addr).add j) = some u := load_cells (CellsAt.new W vs.toArray t b hb)
/-! the steps, plain -/
theorem charF_ne : ∀ m, m < 5 → ∀ n, n < 32 → kindF m n = 1 → charF m n ≠ ByteArray.empty := of_decide_eq_true (by kernel_rfl)
def rsN (p : ByteArray) (a m n : Nat) : List Opt :=
  if kindF m n = 1 then (if preB p a (charF m n) = true then [⟨n, -1, 0, false, widthN m, a + (charF m n).size, m⟩] else [])
  else if kindF m n = 2 then [⟨n, -1, 0, false, widthN m, a, modeF m n⟩]
  else if kindF m n = 3 then optSK p a m n (modeF m n) 32
  else []
def rsK (p : ByteArray) (a m : Nat) : Nat → List Opt
  | 0 => []
  | k + 1 => rsK p a m k ++ rsN p a m k
def runO (a m j : Nat) : Opt := if 31 < j then ⟨31, -1, j, true, 21 + 8 * j, a + j, m⟩ else ⟨31, -1, j, false, 10 + 8 * j, a + j, m⟩
def rsR (a m : Nat) : Nat → List Opt
  | 0 => []
  | k + 1 => rsR a m k ++ [runO a m (k + 1)]
def rsT (p : ByteArray) (a m : Nat) : Nat := if m ≤ 2 then min 2078 (p.size - a) else 0
def stepsL (p : ByteArray) (a m : Nat) : List Opt := rsK p a m (2 ^ widthN m) ++ rsR a m (rsT p a m)
theorem rsN_len (p : ByteArray) (a m n : Nat) : (rsN p a m n).length ≤ 32 := by
  have h := optSK_len p a m n (modeF m n) 32
  unfold rsN
  generalize optSK p a m n (modeF m n) 32 = l at *
  split
  · split <;> simp
  split
  · simp
  split
  · exact h
  · simp
theorem rsK_len (p : ByteArray) (a m : Nat) : ∀ k, (rsK p a m k).length ≤ 32 * k
  | 0 => Nat.le_refl _
  | k + 1 => by
    have h1 := rsK_len p a m k
    have h2 := rsN_len p a m k
    unfold rsK
    rw [List.length_append]; omega
theorem rsR_len (a m : Nat) : ∀ k, (rsR a m k).length = k
  | 0 => rfl
  | k + 1 => by unfold rsR; rw [List.length_append, rsR_len a m k]; rfl
set_option maxRecDepth 100000 in
set_option maxHeartbeats 4000000 in
theorem RSteps_ref (A : Option Addr) (n c : Nat) (l : List UInt8) (a m : Nat) (w : World) (hp : SR vU 0 w A n c l) (hn : n ≤ 4096) (ha : a ≤ n) (hm : m < 5) :
    Calls Tryd.prog 27 #[.slice A n c, .int .i64 (a : Int), .int .i64 (m : Int)] w fun e w' => ∃ v, e = .returned v ∧ OGS (widthN m) w w' v (stepsL (bA l) a m) := by
  have hN : n = l.length := hp.hn
  have HP := Lib.hid hp
  have HN := Lib.hid hN
  have HSZ : Hid ((bA l).size = n) := by show _ = _; rw [bA_size, hN]
  obtain ⟨wd, hwd⟩ : ∃ wd, wd = widthN m := ⟨_, rfl⟩
  have hw45 : wd = 4 ∨ wd = 5 := by rw [hwd]; unfold widthN; split <;> omega
  have HW : Hid (Calls Tryd.prog 42 #[.int .i64 (m : Int)] w fun e w' => e = .returned (.int .i64 (wd : Int)) ∧ w' = w) := by rw [hwd]; exact RWidth_any m w
  have HWD := Lib.hid hwd
  rw [← hwd]
  clear hp hN hwd
  go_enter Tryd.func27, Tryd.ntmps27
  go_wp2_with (go_at_call 42; refine HW.out.mono ?_; rintro e w1 ⟨rfl, hw1⟩; rw [hw1]; clear hw1)
  obtain ⟨E, hE⟩ : ∃ E, E = 2 ^ wd := ⟨_, rfl⟩
  have hE32 : E ≤ 32 := by rw [hE]; rcases hw45 with rfl | rfl <;> decide
  have h2w : wrap64 ((2 : Int) ^ wd) = (E : Int) := by rw [hE]; rcases hw45 with h | h <;> rw [h] <;> unfold wrap64 <;> decide
  have HE : Hid (rsK (bA l) a m (2 ^ wd) = rsK (bA l) a m E) := by show _ = _; rw [hE]
  clear hE
  go_loopw [7, 9] (fun ov iv wr => ∃ k : Nat, k ≤ E ∧ iv = .int .i64 k ∧ Hid (OGS wd w wr ov (rsK (bA l) a m k))) (fun _ iv _ => E - (intOf iv).toNat)
  case atStart => exact ⟨0, Nat.zero_le _, rfl, OGS.start _ _ _ (Below.refl _ _)⟩
  case round =>
    obtain ⟨k, hk, rfl, hO⟩ := hrel
    by_cases hlt : k < E
    · have hk32 : k < 32 := by omega
      have hL : (rsK (bA l) a m k).length ≤ 32 * k := rsK_len _ _ _ _
      have HL := Lib.hid hL
      clear hL
      have HKK : Hid (rsK (bA l) a m (k + 1) = rsK (bA l) a m k ++ rsN (bA l) a m k) := rfl
      obtain ⟨kd, hkd⟩ : ∃ kd, kd = kindF m k := ⟨_, rfl⟩
      obtain ⟨md, hmd⟩ : ∃ md, md = modeF m k := ⟨_, rfl⟩
      by_cases k1 : kd = 1
      · have HBY : Hid (bytF m k = charF m k) := by show _ = _; unfold bytF; rw [← hkd, if_pos k1]
        have HLT : Hid (latF m k = -1) := by show _ = _; unfold latF; rw [← hkd, if_neg (by omega)]
        have HSH : Hid (shfF m k = -1) := by show _ = _; unfold shfF; rw [← hkd, if_neg (by omega)]
        have hne : charF m k ≠ ByteArray.empty := charF_ne m hm k hk32 (by omega)
        have hcs := charF_le_all m hm k hk32
        have HNN : Hid (rsN (bA l) a m k = if preB (bA l) a (charF m k) = true then [⟨k, -1, 0, false, wd, a + (charF m k).size, m⟩] else []) := by show _ = _; unfold rsN; rw [← hkd, if_pos k1, ← HWD.out]
        clear hkd hmd k1
        generalize charF m k = tx at *
        have HFT : Hid (∀ W, Abv w W → Calls Tryd.prog 44 #[.slice A n c, .int .i64 (a : Int), .string tx] W fun e w' => e = .returned (.bool (preB (bA l) a tx)) ∧ w' = W) := fun W hW => RFits_some A n c l a tx W (HP.out.below hW) hn ha (by omega) hne
        clear hne
        cases hpr : preB (bA l) a tx with
        | true =>
          rw [hpr] at HFT HNN
          obtain ⟨no, hno⟩ : ∃ no : Opt, no = ⟨k, -1, 0, false, wd, a + tx.size, m⟩ := ⟨_, rfl⟩
          have HNO := Lib.hid hno
          have HR : Hid (rsK (bA l) a m (k + 1) = rsK (bA l) a m k ++ [no]) := by show _ = _; rw [HKK.out, HNN.out, if_pos rfl, hno]
          clear hpr hno HKK HNN
          go_wp2_with (first
            | (go_at_call 43; refine (RBytes_any m k hm hk32 _).mono ?_; rintro e W9 ⟨rfl, hb9⟩; have HO9 := Lib.hid (hO.out.below hb9); rw [HBY.out]; clear hb9)
            | (go_at_call 44; refine (HFT.out _ HO9.out.B).mono ?_; rintro e W8 ⟨rfl, hw8⟩; rw [hw8]; clear hw8)
            | (at_builtin; refine wpList_append_step HO9.out (bwA _ _) rfl _ _ rfl rfl _ _ no (by rfl) (by rw [HNO.out]; exact load_new rfl) (by have := HL.out; omega) ?_; intro v5 w5 HP5)
            | (go_at_call 45; refine (RLatch_any m k hm hk32 _).mono ?_; rintro e W7 ⟨rfl, hw7⟩; rw [hw7, HLT.out]; clear hw7)
            | (go_at_call 46; refine (RShift_any m k hm hk32 _).mono ?_; rintro e W7 ⟨rfl, hw7⟩; rw [hw7, HSH.out]; clear hw7))
          go_loopw [7, 11] (fun ov uv wr => uv = .int .i64 0 ∧ Hid (OGS wd w wr ov (rsK (bA l) a m (k + 1)))) (fun _ _ _ => 0)
          case atStart => exact ⟨rfl, by show OGS _ _ _ _ _; rw [HR.out]; exact HP5.out⟩
          case round =>
            obtain ⟨rfl, hZ⟩ := hrel
            go_wp2_with (first
              | (go_at_call 46; refine (RShift_any m k hm hk32 _).mono ?_; rintro e W7 ⟨rfl, hw7⟩; rw [hw7, HSH.out]; clear hw7))
            exact ⟨⟨k + 1, by omega, by go_num, hZ.out⟩, by simp [intOf]; omega⟩
        | false =>
          rw [hpr] at HFT HNN
          have HR : Hid (rsK (bA l) a m (k + 1) = rsK (bA l) a m k) := by show _ = _; rw [HKK.out, HNN.out, if_neg (by simp), List.append_nil]
          clear hpr HKK HNN
          go_wp2_with (first
            | (go_at_call 43; refine (RBytes_any m k hm hk32 _).mono ?_; rintro e W9 ⟨rfl, hb9⟩; have HO9 := Lib.hid (hO.out.below hb9); rw [HBY.out]; clear hb9)
            | (go_at_call 44; refine (HFT.out _ HO9.out.B).mono ?_; rintro e W8 ⟨rfl, hw8⟩; rw [hw8]; clear hw8)
            | (go_at_call 45; refine (RLatch_any m k hm hk32 _).mono ?_; rintro e W7 ⟨rfl, hw7⟩; rw [hw7, HLT.out]; clear hw7)
            | (go_at_call 46; refine (RShift_any m k hm hk32 _).mono ?_; rintro e W7 ⟨rfl, hw7⟩; rw [hw7, HSH.out]; clear hw7))
          go_loopw [7, 11] (fun ov uv wr => uv = .int .i64 0 ∧ Hid (OGS wd w wr ov (rsK (bA l) a m (k + 1)))) (fun _ _ _ => 0)
          case atStart => exact ⟨rfl, by show OGS _ _ _ _ _; rw [HR.out]; exact HO9.out⟩
          case round =>
            obtain ⟨rfl, hZ⟩ := hrel
            go_wp2_with (first
              | (go_at_call 46; refine (RShift_any m k hm hk32 _).mono ?_; rintro e W7 ⟨rfl, hw7⟩; rw [hw7, HSH.out]; clear hw7))
            exact ⟨⟨k + 1, by omega, by go_num, hZ.out⟩, by simp [intOf]; omega⟩
      have HBY : Hid (bytF m k = ByteArray.empty) := by show _ = _; unfold bytF; rw [← hkd, if_neg k1]
      have HFT : Hid (∀ W, Abv w W → Calls Tryd.prog 44 #[.slice A n c, .int .i64 (a : Int), .string ByteArray.empty] W fun e w' => e = .returned (.bool false) ∧ w' = W) := fun W hW => RFits_none A n c a W hn ha HP.out.hc
      by_cases k2 : kd = 2
      · have HLT : Hid (latF m k = (md : Int)) := by show _ = _; unfold latF; rw [← hkd, if_pos k2, ← hmd]
        have HSH : Hid (shfF m k = -1) := by show _ = _; unfold shfF; rw [← hkd, if_neg (by omega)]
        obtain ⟨no, hno⟩ : ∃ no : Opt, no = ⟨k, -1, 0, false, wd, a, md⟩ := ⟨_, rfl⟩
        have HNO := Lib.hid hno
        have HR : Hid (rsK (bA l) a m (k + 1) = rsK (bA l) a m k ++ [no]) := by show _ = _; rw [HKK.out]; unfold rsN; rw [← hkd, if_neg k1, if_pos k2, ← hmd, ← HWD.out, hno]
        clear hkd hmd k1 k2 hno HKK
        go_wp2_with (first
          | (go_at_call 43; refine (RBytes_any m k hm hk32 _).mono ?_; rintro e W9 ⟨rfl, hb9⟩; have HO9 := Lib.hid (hO.out.below hb9); rw [HBY.out]; clear hb9)
          | (go_at_call 44; refine (HFT.out _ HO9.out.B).mono ?_; rintro e W8 ⟨rfl, hw8⟩; rw [hw8]; clear hw8)
          | (at_builtin; refine wpList_append_step HO9.out (bwA _ _) rfl _ _ rfl rfl _ _ no (by rfl) (by rw [HNO.out]; exact load_new rfl) (by have := HL.out; omega) ?_; intro v5 w5 HP5)
          | (go_at_call 45; refine (RLatch_any m k hm hk32 _).mono ?_; rintro e W7 ⟨rfl, hw7⟩; rw [hw7, HLT.out]; clear hw7)
          | (go_at_call 46; refine (RShift_any m k hm hk32 _).mono ?_; rintro e W7 ⟨rfl, hw7⟩; rw [hw7, HSH.out]; clear hw7))
        go_loopw [7, 11] (fun ov uv wr => uv = .int .i64 0 ∧ Hid (OGS wd w wr ov (rsK (bA l) a m (k + 1)))) (fun _ _ _ => 0)
        case atStart => exact ⟨rfl, by show OGS _ _ _ _ _; rw [HR.out]; exact HP5.out⟩
        case round =>
          obtain ⟨rfl, hZ⟩ := hrel
          go_wp2_with (first
            | (go_at_call 46; refine (RShift_any m k hm hk32 _).mono ?_; rintro e W7 ⟨rfl, hw7⟩; rw [hw7, HSH.out]; clear hw7))
          exact ⟨⟨k + 1, by omega, by go_num, hZ.out⟩, by simp [intOf]; omega⟩
      have HLT : Hid (latF m k = -1) := by show _ = _; unfold latF; rw [← hkd, if_neg k2]
      by_cases k3 : kd = 3
      · have hmd5 : md < 5 := by rw [hmd]; exact modeF_lt m k
        have h5 : widthN md = 5 := by rw [hmd]; exact shift_five m hm k hk32 (by omega)
        have HSH : Hid (shfF m k = (md : Int)) := by show _ = _; unfold shfF; rw [← hkd, if_pos k3, ← hmd]
        have HR : Hid (rsK (bA l) a m (k + 1) = rsK (bA l) a m k ++ optSK (bA l) a m k md 32) := by show _ = _; rw [HKK.out]; unfold rsN; rw [← hkd, if_neg k1, if_neg k2, if_pos k3, ← hmd]
        clear hkd hmd k1 k2 k3 HKK
        go_wp2_with (first
          | (go_at_call 43; refine (RBytes_any m k hm hk32 _).mono ?_; rintro e W9 ⟨rfl, hb9⟩; have HO9 := Lib.hid (hO.out.below hb9); rw [HBY.out]; clear hb9)
          | (go_at_call 44; refine (HFT.out _ HO9.out.B).mono ?_; rintro e W8 ⟨rfl, hw8⟩; rw [hw8]; clear hw8)
          | (go_at_call 45; refine (RLatch_any m k hm hk32 _).mono ?_; rintro e W7 ⟨rfl, hw7⟩; rw [hw7, HLT.out]; clear hw7)
          | (go_at_call 46; refine (RShift_any m k hm hk32 _).mono ?_; rintro e W7 ⟨rfl, hw7⟩; rw [hw7, HSH.out]; clear hw7))
        go_loopw [7, 11] (fun ov uv wr => ∃ u : Nat, u ≤ 32 ∧ uv = .int .i64 u ∧ Hid (OGS wd w wr ov (rsK (bA l) a m k ++ optSK (bA l) a m k md u))) (fun _ uv _ => 32 - (intOf uv).toNat)
        case atStart => exact ⟨0, Nat.zero_le _, rfl, by show OGS _ _ _ _ _; rw [show optSK (bA l) a m k md 0 = [] from rfl, List.append_nil]; exact HO9.out⟩
        case round =>
          clear hO HO9
          obtain ⟨u, hu, rfl, hO⟩ := hrel
          by_cases hlu : u < 32
          · have HLU : Hid ((rsK (bA l) a m k ++ optSK (bA l) a m k md u).length ≤ 32 * k + u) := by
              show _ ≤ _
              have h1 := HL.out
              have h2 := optSK_len (bA l) a m k md u
              rw [List.length_append]; omega
            have HQQ : Hid (rsK (bA l) a m k ++ optSK (bA l) a m k md (u + 1) = (rsK (bA l) a m k ++ optSK (bA l) a m k md u) ++ optS (bA l) a m k md u) := by show _ = _; rw [List.append_assoc]; rfl
            by_cases c1 : kindF md u = 1
            · have HBU : Hid (bytF md u = charF md u) := by show _ = _; unfold bytF; rw [if_pos c1]
              have hne : charF md u ≠ ByteArray.empty := charF_ne md hmd5 u hlu c1
              have hcs := charF_le_all md hmd5 u hlu
              have HNN : Hid (optS (bA l) a m k md u = if preB (bA l) a (charF md u) = true then [⟨k, (u : Int), 0, false, wd + 5, a + (charF md u).size, m⟩] else []) := by
                show _ = _
                unfold optS
                by_cases hq : preB (bA l) a (charF md u) = true
                · rw [if_pos ⟨c1, hq⟩, if_pos hq, h5, ← HWD.out]
                · rw [if_neg (fun h => hq h.2), if_neg hq]
              clear c1
              generalize charF md u = tx at *
              have HFU : Hid (∀ W, Abv w W → Calls Tryd.prog 44 #[.slice A n c, .int .i64 (a : Int), .string tx] W fun e w' => e = .returned (.bool (preB (bA l) a tx)) ∧ w' = W) := fun W hW => RFits_some A n c l a tx W (HP.out.below hW) hn ha (by omega) hne
              clear hne
              cases hpr : preB (bA l) a tx with
              | true =>
                rw [hpr] at HFU HNN
                obtain ⟨no, hno⟩ : ∃ no : Opt, no = ⟨k, (u : Int), 0, false, wd + 5, a + tx.size, m⟩ := ⟨_, rfl⟩
                have HNO := Lib.hid hno
                have HRU : Hid (rsK (bA l) a m k ++ optSK (bA l) a m k md (u + 1) = (rsK (bA l) a m k ++ optSK (bA l) a m k md u) ++ [no]) := by show _ = _; rw [HQQ.out, HNN.out, if_pos rfl, hno]
                clear hpr hno HQQ HNN
                go_wp2_with (first
                  | (go_at_call 46; refine (RShift_any m k hm hk32 _).mono ?_; rintro e W7 ⟨rfl, hw7⟩; rw [hw7, HSH.out]; clear hw7)
                  | (go_at_call 43; refine (RBytes_any md u hmd5 hlu _).mono ?_; rintro e W9 ⟨rfl, hb9⟩; have HO9 := Lib.hid (hO.out.below hb9); rw [HBU.out]; clear hb9)
                  | (go_at_call 44; refine (HFU.out _ HO9.out.B).mono ?_; rintro e W8 ⟨rfl, hw8⟩; rw [hw8]; clear hw8)
                  | (at_builtin; refine wpList_append_step HO9.out (bwA _ _) rfl _ _ rfl rfl _ _ no (by rfl) (by rw [HNO.out]; exact load_new rfl) (by have := HLU.out; omega) ?_; intro v5 w5 HP5))
                exact ⟨⟨u + 1, by omega, by go_num, by show OGS _ _ _ _ _; rw [HRU.out]; exact HP5.out⟩, by simp [intOf]; omega⟩
              | false =>
                rw [hpr] at HFU HNN
                have HRU : Hid (rsK (bA l) a m k ++ optSK (bA l) a m k md (u + 1) = (rsK (bA l) a m k ++ optSK (bA l) a m k md u)) := by show _ = _; rw [HQQ.out, HNN.out, if_neg (by simp), List.append_nil]
                clear hpr HQQ HNN
                go_wp2_with (first
                  | (go_at_call 46; refine (RShift_any m k hm hk32 _).mono ?_; rintro e W7 ⟨rfl, hw7⟩; rw [hw7, HSH.out]; clear hw7)
                  | (go_at_call 43; refine (RBytes_any md u hmd5 hlu _).mono ?_; rintro e W9 ⟨rfl, hb9⟩; have HO9 := Lib.hid (hO.out.below hb9); rw [HBU.out]; clear hb9)
                  | (go_at_call 44; refine (HFU.out _ HO9.out.B).mono ?_; rintro e W8 ⟨rfl, hw8⟩; rw [hw8]; clear hw8))
                exact ⟨⟨u + 1, by omega, by go_num, by show OGS _ _ _ _ _; rw [HRU.out]; exact HO9.out⟩, by simp [intOf]; omega⟩
            · have HBU : Hid (bytF md u = ByteArray.empty) := by show _ = _; unfold bytF; rw [if_neg c1]
              have HRU : Hid (rsK (bA l) a m k ++ optSK (bA l) a m k md (u + 1) = (rsK (bA l) a m k ++ optSK (bA l) a m k md u)) := by
                show _ = _
                rw [HQQ.out]
                unfold optS
                rw [if_neg (fun h => c1 h.1), List.append_nil]
              clear c1 HQQ
              go_wp2_with (first
                | (go_at_call 46; refine (RShift_any m k hm hk32 _).mono ?_; rintro e W7 ⟨rfl, hw7⟩; rw [hw7, HSH.out]; clear hw7)
                | (go_at_call 43; refine (RBytes_any md u hmd5 hlu _).mono ?_; rintro e W9 ⟨rfl, hb9⟩; have HO9 := Lib.hid (hO.out.below hb9); rw [HBU.out]; clear hb9)
                | (go_at_call 44; refine (HFT.out _ HO9.out.B).mono ?_; rintro e W8 ⟨rfl, hw8⟩; rw [hw8]; clear hw8))
              exact ⟨⟨u + 1, by omega, by go_num, by show OGS _ _ _ _ _; rw [HRU.out]; exact HO9.out⟩, by simp [intOf]; omega⟩
          · obtain rfl : u = 32 := by omega
            go_wp2_with (first
              | (go_at_call 46; refine (RShift_any m k hm hk32 _).mono ?_; rintro e W7 ⟨rfl, hw7⟩; rw [hw7, HSH.out]; clear hw7))
            exact ⟨⟨k + 1, by omega, by go_num, by show OGS _ _ _ _ _; rw [HR.out]; exact hO.out⟩, by simp [intOf]; omega⟩
      have HSH : Hid (shfF m k = -1) := by show _ = _; unfold shfF; rw [← hkd, if_neg k3]
      have HR : Hid (rsK (bA l) a m (k + 1) = rsK (bA l) a m k) := by show _ = _; rw [HKK.out]; unfold rsN; rw [← hkd, if_neg k1, if_neg k2, if_neg k3, List.append_nil]
      clear hkd hmd k1 k2 k3 HKK
      go_wp2_with (first
        | (go_at_call 43; refine (RBytes_any m k hm hk32 _).mono ?_; rintro e W9 ⟨rfl, hb9⟩; have HO9 := Lib.hid (hO.out.below hb9); rw [HBY.out]; clear hb9)
        | (go_at_call 44; refine (HFT.out _ HO9.out.B).mono ?_; rintro e W8 ⟨rfl, hw8⟩; rw [hw8]; clear hw8)
        | (go_at_call 45; refine (RLatch_any m k hm hk32 _).mono ?_; rintro e W7 ⟨rfl, hw7⟩; rw [hw7, HLT.out]; clear hw7)
        | (go_at_call 46; refine (RShift_any m k hm hk32 _).mono ?_; rintro e W7 ⟨rfl, hw7⟩; rw [hw7, HSH.out]; clear hw7))
      go_loopw [7, 11] (fun ov uv wr => uv = .int .i64 0 ∧ Hid (OGS wd w wr ov (rsK (bA l) a m (k + 1)))) (fun _ _ _ => 0)
      case atStart => exact ⟨rfl, by show OGS _ _ _ _ _; rw [HR.out]; exact HO9.out⟩
      case round =>
        obtain ⟨rfl, hZ⟩ := hrel
        go_wp2_with (first
          | (go_at_call 46; refine (RShift_any m k hm hk32 _).mono ?_; rintro e W7 ⟨rfl, hw7⟩; rw [hw7, HSH.out]; clear hw7))
        exact ⟨⟨k + 1, by omega, by go_num, hZ.out⟩, by simp [intOf]; omega⟩
    · have hkE : k = E := by omega
      obtain ⟨T, hT⟩ : ∃ T, T = rsT (bA l) a m := ⟨_, rfl⟩
      have hT2 : T = if m ≤ 2 then min 2078 (n - a) else 0 := by rw [hT]; unfold rsT; rw [HSZ.out]
      have HO0 : Hid (OGS wd w wr u7 (rsK (bA l) a m (2 ^ wd) ++ rsR a m 0)) := by show OGS _ _ _ _ _; rw [show rsR a m 0 = [] from rfl, List.append_nil, HE.out, ← hkE]; exact hO.out
      have HLK : Hid ((rsK (bA l) a m (2 ^ wd)).length ≤ 1024) := by
        show _ ≤ _
        have h := rsK_len (bA l) a m E
        rw [HE.out]; omega
      have HST : Hid (stepsL (bA l) a m = rsK (bA l) a m (2 ^ wd) ++ rsR a m T) := by show _ = _; unfold stepsL; rw [← HWD.out, ← hT]
      have HT2 := Lib.hid hT2
      clear HE hO hT hT2
      generalize rsK (bA l) a m (2 ^ wd) = L0 at *
      go_wp2_with fail
      go_loopw [7, 12] (fun ov iv wr => ∃ j : Nat, j ≤ T ∧ iv = .int .i64 ((j : Int) + 1) ∧ Hid (OGS wd w wr ov (L0 ++ rsR a m j))) (fun _ iv _ => T + 1 - (intOf iv).toNat)
      case atStart => exact ⟨0, Nat.zero_le _, rfl, HO0.out⟩
      case round =>
        clear HO0 h2w hkE hlt
        obtain ⟨j, hj, rfl, hO⟩ := hrel
        by_cases hm2 : m ≤ 2
        · have hTT : T = min 2078 (n - a) := by rw [HT2.out, if_pos hm2]
          have dm : decide ((m : Int) ≤ 2) = true := by simp; omega
          have hj2 : j ≤ 2078 := by omega
          by_cases hlt : j < T
          · have d1 : decide ((j : Int) + 1 ≤ 2078) = true := by simp; omega
            have d2 : decide ((a : Int) + ((j : Int) + 1) ≤ (n : Int)) = true := by simp; omega
            have HLJ : Hid ((L0 ++ rsR a m j).length ≤ 4000) := by
              show _ ≤ _
              have h1 := HLK.out
              rw [List.length_append, rsR_len]; omega
            have h5 : wd = 5 := by have := HWD.out; unfold widthN at this; rw [if_neg (by omega)] at this; exact this
            subst h5
            obtain ⟨no, hno⟩ : ∃ no : Opt, no = runO a m (j + 1) := ⟨_, rfl⟩
            have HR : Hid (L0 ++ rsR a m (j + 1) = (L0 ++ rsR a m j) ++ [no]) := by show _ = _; rw [List.append_assoc, hno]; rfl
            by_cases h31 : 31 < j + 1
            · have d3 : decide ((31 : Int) < (j : Int) + 1) = true := by simp; omega
              have HV : Hid (stV 5 no = [.int .i64 31, .int .i64 0, .int .i64 ((j : Int) + 1 - 31), .int .i64 0, .int .i64 5, .int .i64 5, .int .i64 11, .int .i64 0, .int .i64 (21 + 8 * ((j : Int) + 1)), .int .i64 ((a : Int) + ((j : Int) + 1)), .int .i64 (m : Int)]) := by
                show _ = _
                rw [hno]; unfold runO; rw [if_pos h31]
                simp [stV, Opt.v1, Opt.v2, Opt.w1, Opt.w2]
                omega
              clear hno HT2 hTT
              go_wp2_with (at_builtin; refine wpList_append_step hO.out (bwAlloc (bwA _ _) _) rfl _ _ rfl rfl _ _ no (by rfl) (by rw [HV.out]; exact load_new (by simp)) (by have := HLJ.out; omega) ?_; intro v5 w5 HP5)
              exact ⟨⟨j + 1, by omega, by go_num, by show OGS _ _ _ _ _; rw [HR.out]; exact HP5.out⟩, by simp [intOf]; omega⟩
            · have d3 : decide ((31 : Int) < (j : Int) + 1) = false := by simp; omega
              have HV : Hid (stV 5 no = [.int .i64 31, .int .i64 ((j : Int) + 1), .int .i64 0, .int .i64 0, .int .i64 5, .int .i64 5, .int .i64 0, .int .i64 0, .int .i64 (10 + 8 * ((j : Int) + 1)), .int .i64 ((a : Int) + ((j : Int) + 1)), .int .i64 (m : Int)]) := by
                show _ = _
                rw [hno]; unfold runO; rw [if_neg h31]
                simp [stV, Opt.v1, Opt.v2, Opt.w1, Opt.w2]
              clear hno HT2 hTT
              go_wp2_with (at_builtin; refine wpList_append_step hO.out (bwAlloc (bwA _ _) _) rfl _ _ rfl rfl _ _ no (by rfl) (by rw [HV.out]; exact load_new (by simp)) (by have := HLJ.out; omega) ?_; intro v5 w5 HP5)
              exact ⟨⟨j + 1, by omega, by go_num, by show OGS _ _ _ _ _; rw [HR.out]; exact HP5.out⟩, by simp [intOf]; omega⟩
          · have hjT : j = T := by omega
            have HF : Hid (OGS wd w wr u7 (stepsL (bA l) a m)) := by show OGS _ _ _ _ _; rw [HST.out, ← hjT]; exact hO.out
            clear hO HT2 HST
            by_cases h2078 : j < 2078
            · have d1 : decide ((j : Int) + 1 ≤ 2078) = true := by simp; omega
              have d2 : decide ((a : Int) + ((j : Int) + 1) ≤ (n : Int)) = false := by simp; omega
              clear hTT hjT
              go_wp2_with fail
              go_ret
              exact ⟨_, rfl, HF.out⟩
            · have d1 : decide ((j : Int) + 1 ≤ 2078) = false := by simp; omega
              clear hTT hjT
              go_wp2_with fail
              go_ret
              exact ⟨_, rfl, HF.out⟩
        · have dm : decide ((m : Int) ≤ 2) = false := by simp; omega
          have hjT : T = 0 := by rw [HT2.out, if_neg hm2]
          have HF : Hid (OGS wd w wr u7 (stepsL (bA l) a m)) := by show OGS _ _ _ _ _; rw [HST.out, show T = j from by omega]; exact hO.out
          clear hO HT2 HST hjT
          go_wp2_with fail
          go_ret
          exact ⟨_, rfl, HF.out⟩
end Go.Proofs.YtplppbfnlfehnaaDoor
