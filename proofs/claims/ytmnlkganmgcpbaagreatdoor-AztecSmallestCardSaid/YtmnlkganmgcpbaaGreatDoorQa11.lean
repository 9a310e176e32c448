import Derived.Test.YtmnlkganmgcpbaaGreatDoorQa10
namespace Go.Proofs.YtmnlkganmgcpbaaGreatDoor
open Go.RowKit Go.WideMaps Go.Maps
set_option linter.unusedVariables false
def byF (p : ByteArray) (a : Nat) : Nat → List Bool
  | 0 => []
  | k + 1 => byF p a k ++ lowB (p.data.toList.getD (a + k) 0).toNat 8
def runB (p : ByteArray) (a : Nat) (o : Opt) : List Bool := if 0 < o.run then (if o.long = true then lowB 0 5 ++ lowB (o.run - 31) 11 else lowB o.run 5) ++ byF p a o.run else []
def optBits (p : ByteArray) (a m : Nat) (o : Opt) : List Bool := lowB o.num (widthN m) ++ (if 0 ≤ o.sec then lowB o.sec.toNat 5 else []) ++ runB p a o
def encF (p : ByteArray) (T : Nat → Nat → Option Opt) : Nat → Nat → Nat → List Bool
  | 0, _, _ => []
  | f + 1, a, m => if a < p.size then (match T a m with | some o => optBits p a m o ++ encF p T f o.at_ o.mode | none => []) else []
structure StOK (p : ByteArray) (C : Nat → Nat → Nat) (a m : Nat) (o : Opt) : Prop where
  le : o.at_ ≤ p.size
  md : o.mode < 5
  eq : C a m = o.tot C
  ps : 0 < o.size
  nm : o.num < 32
  s1 : -1 ≤ o.sec
  s2 : o.sec < 32
  rn : a + o.run ≤ p.size
  lg : 0 < o.run → o.long = true → 31 ≤ o.run
  sr : 0 ≤ o.sec → o.run = 0
  ln : (optBits p a m o).length ≤ o.size
theorem add_int (n : Nat) (w0 w : World) (bb : Nat) (bs : List Bool) (v k : Nat) (V K : Int) (hV : V = (v : Int)) (hK : K = (k : Int)) (h : BO n w0 w bb bs) (hv : v ≤ 1000000000000) (hk : k ≤ 62) (hl : bs.length ≤ 4000000000) :
    Calls Tryz.prog 131 #[.int .i64 V, .int .i64 K, .pointer (some ⟨bb, 0, none⟩)] w fun e w' => e = .returned (.tuple #[]) ∧ BO n w0 w' bb (bs ++ lowB v k) ∧ KeepO w w' := by
  subst hV hK; exact add_any n w0 w bb bs v k h hv hk hl
theorem exec_indexS {a : Act} {o : Oper} {W : World} {x i : Operand} (ho : o.op = .index 9 x i) {p : ByteArray} (hx : a.eval x = .string p) {I : Int} (hi : a.eval i = .int .i64 I) (k : Nat) (hI : I = (k : Int)) (hk : k < p.size) :
    (execOp a.eval o).run Tryz.prog W = .ok (.value (.int .u8 ((p.data.toList.getD k 0).toNat : Int))) W := by
  subst hI
  have hrun := run_index_string (P := Tryz.prog) W 9 p .i64 (k : Int) Tryz.underlying9
  rw [dif_pos (by omega)] at hrun
  have e : p[(k : Int).toNat]'(by simpa using hk) = p.data.toList.getD k 0 := by
    have hl : k < p.data.toList.length := by simpa using hk
    rw [List.getD, List.getElem?_eq_getElem hl]
    rfl
  rw [e] at hrun
  unfold execOp
  simp only [ho, hx, hi, hrun, Sem.run_bind, Sem.run_pure, Result.andThen_ok]
theorem byF_len (p : ByteArray) (a : Nat) : ∀ k, (byF p a k).length = 8 * k
  | 0 => rfl
  | k + 1 => by unfold byF; rw [List.length_append, byF_len p a k, lowB_length]; omega
theorem exec_lookupS {a : Act} {o : Oper} {W : World} {hb cnt : Nat} {T : Nat → Nat → Option Opt} (h : MapIs W hb cnt T) {m x : Operand} (ho : o.op = .lookup 173 m x false) (hm : a.eval m = .map (some hb)) (at_ i : Nat) (hx : a.eval x = .agg #[.int .i64 (at_ : Int), .int .i64 (i : Int)])
    (ha : at_ ≤ 4096) (hi : i < 5) (y : Opt) (hy : T at_ i = some y) : (execOp a.eval o).run Tryz.prog W = .ok (.value y.val) W := by
  have hrun := h.lookup at_ i y ha hi hy
  unfold execOp
  simp only [ho, hm, hx, hrun, Sem.run_bind, Sem.run_pure, Result.andThen_ok]
theorem wpHX_allocA {ops : Array Oper} {S : World → Prop} {K : Act → World → Prop} {r : List (Bool × Nat × Oper)} {k : Nat} {o : Oper} {a : Act} {W : World} (t : TypeId) (hgd : Region.wanted o (yielded ops a.tmps) = true) (ho : o.op = .alloc t) (cs : Array Value) (hz : (Tryz.prog.info? t).map (·.zero) = some (some (.agg cs)))
    (hS : S (W.alloc (.cells cs t))) (hk : wpHX Tryz.prog ops S K r (a.put o.dst (.pointer (some ⟨W.heap.size, 0, none⟩))) (W.alloc (.cells cs t))) : wpHX Tryz.prog ops S K ((true, k, o) :: r) a W := by
  cases hq : Tryz.prog.info? t with
  | none => simp [hq] at hz
  | some i =>
    have hz' : i.zero = some (.agg cs) := by simpa [hq] using hz
    have hrun : (Instr.alloc t true (.tuple #[])).run Tryz.prog W = .ok (.pointer (some ⟨W.heap.size, 0, none⟩)) (W.alloc (.cells cs t)) := by
      simp [Instr.alloc, zeroValue, typeInfo, hq, hz', newVar, newRow, Value.cells]
    refine wpHX_aval hgd ?_ hS hk
    unfold execOp
    simp only [ho, Sem.run_bind, Sem.run_pure, Result.andThen_ok, hrun]
theorem wpHX_storeN {ops : Array Oper} {S : World → Prop} {K : Act → World → Prop} {r : List (Bool × Nat × Oper)} {k : Nat} {o : Oper} {a : Act} {W : World} (ty : TypeId) (hgd : Region.wanted o (yielded ops a.tmps) = true) (p x : Operand) (ho : o.op = .store ty p x) (t : TypeId) (cur : Array Value) (cs : List Value)
    (hp : a.eval p = .pointer (some ⟨W.heap.size, 0, none⟩)) (hx : a.eval x = .agg cs.toArray) (hi : (Tryz.prog.info? ty).map (·.size) = some cs.length) (hfit : cs.length = cur.size) (h1 : ∀ v ∈ cs, v.oneCell' = true)
    (hS : S (W.alloc (.cells cs.toArray t))) (hk : wpHX Tryz.prog ops S K r (a.put o.dst undef) (W.alloc (.cells cs.toArray t))) : wpHX Tryz.prog ops S K ((true, k, o) :: r) a (W.alloc (.cells cur t)) := by
  have hrun := run_storeVar_part (P := Tryz.prog) (W.alloc (.cells cur t)) t ty W.heap.size 0 cur cs (heap_alloc_new _ _) hi (by omega) h1
  have e : (splice cur.toList 0 cs).toArray = cs.toArray := by
    unfold splice
    rw [List.take_zero, List.nil_append, List.drop_eq_nil_of_le (by simp [hfit]), List.append_nil]
  rw [e, World.setRow_alloc_new] at hrun
  refine .inl ⟨hgd, ?_⟩
  unfold execOp
  simp only [ho, hp, hx, Instr.storeAt, Instr.sureAddr, Sem.run_bind, Sem.run_pure, Result.andThen_ok, hrun]
  exact ⟨hS, hk⟩
theorem BO.setRow {n : Nat} {w wr : World} {bb fb : Nat} {bs : List Bool} {cur : Array Value} (h : BO n w wr bb bs) (hn : n ≤ fb) (hf : RowIs wr fb cur 179) (c' : Array Value) : BO n w (wr.setRow fb c') bb bs := by
  obtain ⟨A, c, h1, h2⟩ := h.X
  refine ⟨below_setRow h.B hn _, ⟨A, c, h1.other _ ?_, h2.1, ?_⟩, h.n1, by rw [size_setRow]; exact h.n2⟩
  · intro e
    subst e
    unfold RowIs at h1 hf
    rw [h1] at hf
    injection hf with hf
    injection hf with _ e _
    exact absurd e (by decide)
  · rcases h2.2 with h3 | ⟨g, cap, cur', k1, k2, k3, k4⟩
    · exact .inl h3
    · refine .inr ⟨g, cap, cur', k1, k2, (setRow_other _ _ _ _ ?_).trans k3, k4⟩
      intro e
      subst e
      unfold RowIs at hf
      rw [k3] at hf
      injection hf with hf
      injection hf with _ e _
      exact absurd e (by decide)
theorem load_next {W : World} {b : Nat} {o : Opt} (h : CellsAt W b o.vals) : ∀ j v, [Value.int .i64 (o.at_ : Int), .int .i64 (o.mode : Int)][j]? = some v → W.cell? ((⟨b, 5, none⟩ : Addr).add j) = some v := by
  intro j v hj
  have c := opt_cells h
  rw [add_plain]
  match j, hj with
  | 0, hj => simp only [List.getElem?_cons_zero, Option.some.injEq] at hj; rw [← hj]; exact c.2.2.2.2.2.1
  | 1, hj => simp only [List.getElem?_cons_succ, List.getElem?_cons_zero, Option.some.injEq] at hj; rw [← hj]; exact c.2.2.2.2.2.2
  | j + 2, hj => simp at hj
def muB (W : World) (cb : Nat) (v : Value) : Nat := match v with
  | .pointer (some ad) => (match W.cell? ⟨ad.block, 0, none⟩, W.cell? ⟨ad.block, 1, none⟩ with | some (.int _ a), some (.int _ m) => costAt W cb a.toNat m.toNat | _, _ => 0)
  | _ => 0
theorem muB_eq {W : World} {sb cb cap hb fb a m : Nat} {p : ByteArray} {C : Nat → Nat → Nat} (h : SW W sb cb cap hb p C) (hf : RowIs W fb #[.int .i64 (a : Int), .int .i64 (m : Int)] 179) (ha : a ≤ p.size) (hm : m < 5) : muB W cb (.pointer (some ⟨fb, 0, none⟩)) = C a m := by
  have h0 : W.cell? ⟨fb, 0, none⟩ = some (.int .i64 (a : Int)) := hf.cell 0 _ rfl
  have h1 : W.cell? ⟨fb, 1, none⟩ = some (.int .i64 (m : Int)) := hf.cell 1 _ rfl
  unfold muB
  simp only [h0, h1, Int.toNat_natCast]
  unfold costAt
  rw [h.cz a m ha hm]
  simp
set_option maxRecDepth 100000 in
set_option maxHeartbeats 8000000 in
theorem bits_any (w : World) (sb cb cap hb cnt : Nat) (p : ByteArray) (C : Nat → Nat → Nat) (T : Nat → Nat → Option Opt) (hS : SQ w sb cb cap hb p C) (hM : MapIs w hb cnt T)
    (hst : ∀ a m, a < p.size → m < 5 → ∃ o, T a m = some o ∧ StOK p C a m o) :
    Calls Tryz.prog 81 #[.pointer (some ⟨sb, 0, none⟩)] w fun e w' => ∃ v, e = .returned v ∧ SG vB false w' v (encF p T (C 0 0) 0 0) ∧ Below w.heap.size w w' := by
  obtain ⟨i0, hi, hz0, hz1, hz2⟩ := info_parts boolInfo
  have hp := hS.S.hp
  have HK : Hid (∀ W, Below w.heap.size w W → SQ W sb cb cap hb p C ∧ MapIs W hb cnt T) := fun W hW => ⟨hS.below hW, hM.below hW⟩
  have HST := Lib.hid hst
  have f0 := hS.S.cc
  have f1 := hS.S.cz 0 0 (by omega) (by omega)
  have HCB : Hid (C 0 0 ≤ 1073741824) := hS.S.b 0 0
  have hcap := hS.S.hc
  simp only [Nat.zero_mul, Nat.zero_add] at f1
  obtain ⟨c0, hc0⟩ : ∃ c0, c0 = C 0 0 := ⟨_, rfl⟩
  rw [← hc0] at f1 HCB ⊢
  have HC0 := Lib.hid hc0
  clear hS hM hst hc0
  go_enter Tryz.func81, Tryz.ntmps81
  go_wp2_with (first
    | (at_make; refine wpList_make_own _ rfl _ _ _ rfl w.heap.size 4 i0 _ 1 Tryz.underlying26 hi hz0 hz1 .i64 .i64 _ c0 rfl rfl rfl (by have := HCB.out; rw [hz2]; omega) (by have := HCB.out; unfold maxLen; omega) (Nat.le_refl _) ?_; intro w1 hown hg; have HO1 := Lib.hid hown; have HB1 : Hid (Below w.heap.size w w1) := (Below.refl _ _).grown hg (Nat.le_refl _) (fun q hq => by cases hq); clear hown hg)
    | ((with_reducible show wpList _ _ _ (⟨_, Op.alloc 179, _, _, _, _⟩ :: _) _ _); refine wpList_allocAgg rfl 179 rfl _ stateInfo ?_)
    | ((with_reducible show wpList _ _ _ (⟨_, Op.store 179 _ _, _, _, _, _⟩ :: _) _ _); refine wpList_storeNew rfl 179 _ _ rfl 179 _ [_, _] rfl rfl stateSz rfl (state_one _ _) ?_))
  simp only [Act.put, List.setIfInBounds_toArray, List.set_cons_zero, List.set_cons_succ]
  have HBO0 : Hid (BO w.heap.size w ((w1.alloc (.cells #[.slice (some ⟨w.heap.size, 0, none⟩) 0 c0] 26)).alloc (.cells #[.int .i64 0, .int .i64 0] 179)) w1.heap.size []) := by
    refine BO.below (wr := w1.alloc (.cells #[.slice (some ⟨w.heap.size, 0, none⟩) 0 c0] 26)) ⟨HB1.out.alloc HB1.out.size _, ⟨_, c0, RowIs.new _ _ _ _ rfl, HO1.out.alloc _⟩, HB1.out.size, ?_⟩ (bwA _ _)
    have := HB1.out.size
    simp; omega
  have HFB0 : Hid (RowIs ((w1.alloc (.cells #[.slice (some ⟨w.heap.size, 0, none⟩) 0 c0] 26)).alloc (.cells #[.int .i64 0, .int .i64 0] 179)) (w1.alloc (.cells #[.slice (some ⟨w.heap.size, 0, none⟩) 0 c0] 26)).heap.size #[.int .i64 0, .int .i64 0] 179) := RowIs.new _ _ _ _ rfl
  have HNF0 : Hid (w.heap.size ≤ (w1.alloc (.cells #[.slice (some ⟨w.heap.size, 0, none⟩) 0 c0] 26)).heap.size) := by have := HB1.out.size; show _ ≤ _; simp; omega
  clear HO1 HB1 f0 f1
  generalize (w1.alloc (.cells #[.slice (some ⟨w.heap.size, 0, none⟩) 0 c0] 26)).alloc (.cells #[.int .i64 0, .int .i64 0] 179) = w3 at *
  generalize (w1.alloc (.cells #[.slice (some ⟨w.heap.size, 0, none⟩) 0 c0] 26)).heap.size = fb0 at *
  generalize w1.heap.size = bb at *
  trace_state
  go_loopw [5] (fun bv wr => ∃ (fb a m f : Nat) (acc : List Bool), bv = .pointer (some ⟨fb, 0, none⟩) ∧ a ≤ p.size ∧ m < 5 ∧ w.heap.size ≤ fb ∧ Hid (RowIs wr fb #[.int .i64 (a : Int), .int .i64 (m : Int)] 179) ∧ Hid (BO w.heap.size w wr bb acc) ∧ Hid (acc ++ encF p T f a m = encF p T c0 0 0) ∧ Hid (C a m ≤ f) ∧ Hid (acc.length + C a m ≤ c0)) (fun bv wr => muB wr cb bv)
  case atStart => exact ⟨fb0, 0, 0, c0, [], rfl, Nat.zero_le _, by omega, HNF0.out, HFB0.out, HBO0.out, rfl, by show _ ≤ _; rw [HC0.out]; exact Nat.le_refl _, by show _ ≤ _; rw [HC0.out]; simp⟩
  case round =>
    clear HBO0 HFB0 HNF0
    obtain ⟨fb, a, m, f, acc, rfl, ha, hm, hnf, hF, hO, hE, hC, hL⟩ := hrel
    have CF : Hid (∀ W, Abv wr W → W.cell? ⟨sb, 0, none⟩ = some (.string p) ∧ W.cell? ⟨sb, 482, none⟩ = some (.map (some hb)) ∧ W.cell? ⟨fb, 0, none⟩ = some (.int .i64 (a : Int)) ∧ W.cell? ⟨fb, 1, none⟩ = some (.int .i64 (m : Int))) := by
      show ∀ W, _
      intro W hW
      have h9 := (HK.out W (hO.out.B.trans (hW.mono hO.out.n2))).1.S
      have h8 := hF.out.below hW
      exact ⟨h9.c0, h9.cm, h8.cell 0 _ rfl, h8.cell 1 _ rfl⟩
    by_cases hlt : a < p.size
    · obtain ⟨o, ho, hok⟩ := HST.out a m hlt hm
      have HOK := Lib.hid hok
      have HTO := Lib.hid ho
      have HMU : Hid (muB wr cb (.pointer (some ⟨fb, 0, none⟩)) = C a m) := muB_eq (HK.out wr hO.out.B).1.S hF.out ha hm
      have HROUND : Hid (∀ (fb' : Nat) (W : World), w.heap.size ≤ fb' → RowIs W fb' #[.int .i64 (o.at_ : Int), .int .i64 (o.mode : Int)] 179 → BO w.heap.size w W bb (acc ++ optBits p a m o) →
          (∃ (fb a m f : Nat) (acc : List Bool), Value.pointer (some ⟨fb', 0, none⟩) = .pointer (some ⟨fb, 0, none⟩) ∧ a ≤ p.size ∧ m < 5 ∧ w.heap.size ≤ fb ∧ Hid (RowIs W fb #[.int .i64 (a : Int), .int .i64 (m : Int)] 179) ∧ Hid (BO w.heap.size w W bb acc) ∧ Hid (acc ++ encF p T f a m = encF p T c0 0 0) ∧ Hid (C a m ≤ f) ∧ Hid (acc.length + C a m ≤ c0)) ∧ muB W cb (.pointer (some ⟨fb', 0, none⟩)) < muB wr cb (.pointer (some ⟨fb, 0, none⟩))) := by
        show ∀ (fb' : Nat) (W : World), _
        intro fb' W h1 h2 h3
        have e0 : C a m = o.size + C o.at_ o.mode := hok.eq
        have hps := hok.ps
        have hln := hok.ln
        have hcf := hC.out
        have hl9 := hL.out
        obtain ⟨f', rfl⟩ : ∃ f', f = f' + 1 := ⟨f - 1, by omega⟩
        refine ⟨⟨fb', o.at_, o.mode, f', acc ++ optBits p a m o, rfl, hok.le, hok.md, h1, h2, h3, ?_, ?_, ?_⟩, ?_⟩
        · have h9 := hE.out
          have e1 : encF p T (f' + 1) a m = optBits p a m o ++ encF p T f' o.at_ o.mode := by
            show (if a < p.size then _ else _) = _
            rw [if_pos hlt, ho]
          rw [e1, ← List.append_assoc] at h9
          exact h9
        · show _ ≤ _; omega
        · show _ ≤ _; rw [List.length_append]; omega
        · rw [HMU.out, muB_eq (HK.out W h3.B).1.S h2 hok.le hok.md]; omega
      have HAL : Hid (acc.length ≤ 1073741824) := by show _ ≤ _; have := hL.out; have := HCB.out; omega
      have hwm := widthN_le m
      have hnm := hok.nm
      have hs1 := hok.s1
      have hs2 := hok.s2
      have hrn : o.run ≤ 4096 := by have := hok.rn; omega
      have hw2 := HK.out wr hO.out.B
      clear hE hC hL HMU ho hok hw2
      go_wp2
      refine wp_region_W (S := Abv wr) [(false, 0), (false, 1), (false, 2), (false, 3), (false, 4), (false, 5), (false, 6), (false, 7)] (by kernel_rfl) (by kernel_rfl) (bwDrew (Below.refl _ _)) ?_
      simp only [attachW, List.getElem?_cons_zero, List.getElem?_cons_succ]
      repeat
        refine' wpHX_val rfl (fun W hW => ?_) ?_
        rotate_left
        · have hcf := CF.out W hW; go_simp; rfl
        simp only [Act.put, List.setIfInBounds_toArray, List.set_cons_zero, List.set_cons_succ]
      refine wpHX_nil ?_
      have HF1 : Hid (RowIs wr.drew fb #[.int .i64 (a : Int), .int .i64 (m : Int)] 179) := hF.out.below (bwDrew (Below.refl _ _))
      have HO1 : Hid (BO w.heap.size w wr.drew bb acc) := hO.out.below (bwDrew (Below.refl _ _))
      have CF1 : Hid (∀ W, Abv wr.drew W → W.cell? ⟨sb, 482, none⟩ = some (.map (some hb))) := fun W hW => (CF.out W (bwStep (bwDrew (Below.refl _ _)) hW)).2.1
      clear hF hO CF
      go_wp2
      generalize hx1 : wr.drew = x1 at HF1 HO1 CF1 ⊢
      clear hx1
      have HM1 : Hid (∀ W, Abv x1 W → MapIs W hb cnt T) := fun W hW => (HK.out W (HO1.out.B.trans (hW.mono HO1.out.n2))).2
      refine wp_region_W (S := Abv x1) [(false, 0), (false, 1), (false, 2), (false, 3), (false, 4), (false, 5), (true, 6), (true, 7)] (by kernel_rfl) (by kernel_rfl) (bwDrew (Below.refl _ _)) ?_
      simp only [attachW, List.getElem?_cons_zero, List.getElem?_cons_succ]
      refine' wpHX_val rfl (fun W hW => ?_) ?_
      rotate_left
      · have hcf := CF1.out W hW; go_simp; rfl
      simp only [Act.put, List.setIfInBounds_toArray, List.set_cons_zero, List.set_cons_succ]
      refine' wpHX_val rfl (fun W hW => ?_) ?_
      rotate_left
      · have hcf := CF1.out W hW; go_simp; rfl
      simp only [Act.put, List.setIfInBounds_toArray, List.set_cons_zero, List.set_cons_succ]
      refine' wpHX_val rfl (fun W hW => ?_) ?_
      rotate_left
      · have hcf := CF1.out W hW; go_simp; rfl
      simp only [Act.put, List.setIfInBounds_toArray, List.set_cons_zero, List.set_cons_succ]
      refine' wpHX_val rfl (fun W hW => ?_) ?_
      rotate_left
      · have hcf := CF1.out W hW; go_simp; rfl
      simp only [Act.put, List.setIfInBounds_toArray, List.set_cons_zero, List.set_cons_succ]
      refine' wpHX_val rfl (fun W hW => exec_loadAgg 179 _ Tryz.underlying179 rfl rfl fb [_, _] stateSz rfl (HF1.out.below hW).cells) ?_
      simp only [Act.put, List.setIfInBounds_toArray, List.set_cons_zero, List.set_cons_succ]
      refine' wpHX_val rfl (fun W hW => exec_lookupS (HM1.out W hW) rfl rfl a m rfl (by omega) hm o HTO.out) ?_
      simp only [Act.put, List.setIfInBounds_toArray, List.set_cons_zero, List.set_cons_succ]
      refine' wpHX_allocA 181 rfl rfl _ optInfo (bwAlloc (bwDrew (Below.refl _ _)) _) ?_
      simp only [Act.put, List.setIfInBounds_toArray, List.set_cons_zero, List.set_cons_succ]
      refine' wpHX_storeN 181 rfl _ _ rfl 181 _ o.vals rfl rfl optSz rfl o.one (bwAlloc (bwDrew (Below.refl _ _)) _) ?_
      simp only [Act.put]
      refine wpHX_nil ?_
      have HFT2 : Hid (RowIs (x1.drew.alloc (.cells o.vals.toArray 181)) fb #[.int .i64 (a : Int), .int .i64 (m : Int)] 179 ∧ RowIs (x1.drew.alloc (.cells o.vals.toArray 181)) x1.drew.heap.size o.vals.toArray 181) := ⟨HF1.out.below (bwAlloc (bwDrew (Below.refl _ _)) _), RowIs.new _ _ _ _ rfl⟩
      have HO2 : Hid (BO w.heap.size w (x1.drew.alloc (.cells o.vals.toArray 181)) bb acc) := HO1.out.below (bwAlloc (bwDrew (Below.refl _ _)) _)
      clear HF1 HO1 CF1 HM1
      generalize x1.drew.alloc (.cells o.vals.toArray 181) = x2 at *
      generalize x1.drew.heap.size = tb at *
      go_wp2
      have CF3 : Hid (∀ W, (RowIs W fb #[.int .i64 (a : Int), .int .i64 (m : Int)] 179 ∧ RowIs W tb o.vals.toArray 181) → W.cell? ⟨tb, 0, none⟩ = some (.int .i64 (o.num : Int)) ∧ W.cell? ⟨fb, 1, none⟩ = some (.int .i64 (m : Int))) := fun W hW => ⟨hW.2.cell 0 _ rfl, hW.1.cell 1 _ rfl⟩
      refine wp_region_W (S := (fun W => RowIs W fb #[.int .i64 (a : Int), .int .i64 (m : Int)] 179 ∧ RowIs W tb o.vals.toArray 181)) [(false, 0), (false, 1), (false, 2), (false, 3), (false, 4), (true, 5), (true, 6)] (by kernel_rfl) (by kernel_rfl) HFT2.out ?_
      simp only [attachW, List.getElem?_cons_zero, List.getElem?_cons_succ]
      refine' wpHX_val rfl (fun W hW => ?_) ?_
      rotate_left
      · have hcf := CF3.out W hW; go_simp; rfl
      simp only [Act.put, List.setIfInBounds_toArray, List.set_cons_zero, List.set_cons_succ]
      refine' wpHX_val rfl (fun W hW => ?_) ?_
      rotate_left
      · have hcf := CF3.out W hW; go_simp; rfl
      simp only [Act.put, List.setIfInBounds_toArray, List.set_cons_zero, List.set_cons_succ]
      refine' wpHX_val rfl (fun W hW => ?_) ?_
      rotate_left
      · have hcf := CF3.out W hW; go_simp; rfl
      simp only [Act.put, List.setIfInBounds_toArray, List.set_cons_zero, List.set_cons_succ]
      refine' wpHX_val rfl (fun W hW => ?_) ?_
      rotate_left
      · have hcf := CF3.out W hW; go_simp; rfl
      simp only [Act.put, List.setIfInBounds_toArray, List.set_cons_zero, List.set_cons_succ]
      refine' wpHX_val rfl (fun W hW => ?_) ?_
      rotate_left
      · have hcf := CF3.out W hW; go_simp; rfl
      simp only [Act.put, List.setIfInBounds_toArray, List.set_cons_zero, List.set_cons_succ]
      refine' wpHX_acall rfl (fun W => ?_) ?_
      rotate_left 2
      · go_simp; exact ⟨rfl, rfl⟩
      refine (numberBits_any m _).mono ?_
      rintro e W4 ⟨rfl, hw4⟩
      rw [hw4]
      clear hw4
      refine ⟨_, rfl, HFT2.out, ?_⟩
      simp only [Act.put, List.setIfInBounds_toArray, List.set_cons_zero, List.set_cons_succ]
      refine' wpHX_acall rfl (fun W => ?_) ?_
      rotate_left 2
      · go_simp; exact ⟨rfl, rfl⟩
      have HO2D : Hid (BO w.heap.size w x2.drew bb acc) := HO2.out.below (bwDrew (Below.refl _ _))
      refine (add_any w.heap.size w x2.drew bb acc o.num (widthN m) HO2D.out (by omega) (by omega) (by have := HAL.out; omega)).mono ?_
      rintro e W5 ⟨rfl, hbo, hkeep⟩
      have HBO5 := Lib.hid hbo
      have HFT5 : Hid (RowIs W5 fb #[.int .i64 (a : Int), .int .i64 (m : Int)] 179 ∧ RowIs W5 tb o.vals.toArray 181) := ⟨RowIs.keep (w := x2.drew) HFT2.out.1 hkeep (by simp [notBits]), RowIs.keep (w := x2.drew) HFT2.out.2 hkeep (by simp [notBits])⟩
      clear hbo hkeep HO2 HO2D HFT2 CF3
      refine ⟨_, rfl, HFT5.out, ?_⟩
      simp only [Act.put, List.setIfInBounds_toArray, List.set_cons_zero, List.set_cons_succ]
      refine wpHX_nil ?_
      have HLW := Lib.hid (lowB_length o.num (widthN m))
      have g0 : W5.cell? ⟨tb, 1, none⟩ = some (.int .i64 o.sec) := HFT5.out.2.cell 1 _ rfl
      have g1 : W5.cell? ⟨tb, 2, none⟩ = some (.int .i64 (o.run : Int)) := HFT5.out.2.cell 2 _ rfl
      have g2 : W5.cell? ⟨tb, 3, none⟩ = some (.bool o.long) := HFT5.out.2.cell 3 _ rfl
      by_cases hsc : 0 ≤ o.sec
      · obtain ⟨sn, hsn⟩ := Int.eq_ofNat_of_zero_le hsc
        have hr0 := HOK.out.sr hsc
        have HRB : Hid (optBits p a m o = lowB o.num (widthN m) ++ lowB sn 5) := by
          show _ = _
          unfold optBits runB
          rw [if_pos hsc, hr0, if_neg (by omega), List.append_nil, hsn]; rfl
        rw [hsn] at g0 hs2
        rw [hr0] at g1
        have hsn2 : sn < 32 := by omega
        clear hsc hs1 hsn g1
        go_wp2_with (first
          | (go_at_call 131; (with_reducible show Calls _ _ _ W5 _); refine (add_int w.heap.size w W5 bb (acc ++ lowB o.num (widthN m)) sn 5 _ _ rfl rfl HBO5.out (by omega) (by omega) (by have := HAL.out; have := HLW.out; simp only [List.length_append, lowB_length]; omega)).mono ?_; rintro e W6 ⟨rfl, hbo, hkeep⟩; have HBO6 := Lib.hid hbo; have HFT6 : Hid (RowIs W6 fb #[.int .i64 (a : Int), .int .i64 (m : Int)] 179 ∧ RowIs W6 tb o.vals.toArray 181) := ⟨HFT5.out.1.keep hkeep (by simp [notBits]), HFT5.out.2.keep hkeep (by simp [notBits])⟩; have gg2_6 : W6.cell? ⟨tb, 2, none⟩ = some (.int .i64 0) := (by have h9 : W6.cell? ⟨tb, 2, none⟩ = some (.int .i64 (o.run : Int)) := HFT6.out.2.cell 2 _ rfl; rw [hr0] at h9; exact h9); have HFB : Hid (RowIs W6 fb #[.int .i64 (a : Int), .int .i64 (m : Int)] 179) := HFT6.out.1; have HTB : Hid (CellsAt W6 tb o.vals) := HFT6.out.2.cells; clear hbo hkeep)
          | ((with_reducible show wpList _ _ _ (⟨_, Op.load 179 _, _, _, _, _⟩ :: _) _ _); first | refine wpList_loadAgg rfl 179 _ rfl _ Tryz.underlying179 rfl ⟨tb, 5, none⟩ [.int .i64 (o.at_ : Int), .int .i64 (o.mode : Int)] stateSz rfl (load_next HTB.out) ?_ | refine wpList_loadAgg rfl 179 _ rfl _ Tryz.underlying179 rfl ⟨fb, 0, none⟩ [.int .i64 (o.at_ : Int), .int .i64 (o.mode : Int)] stateSz rfl (load_cells ((HFB.out.set _).cells)) ?_)
          | ((with_reducible show wpList _ _ _ (⟨_, Op.alloc 179, _, _, _, _⟩ :: _) _ _); refine wpList_allocAgg rfl 179 rfl _ stateInfo ?_)
          | ((with_reducible show wpList _ _ _ (⟨_, Op.store 179 _ _, _, _, _, _⟩ :: _) _ _); first | (refine wpList_storeAgg rfl 179 _ _ rfl 179 fb 0 #[.int .i64 (a : Int), .int .i64 (m : Int)] [.int .i64 (o.at_ : Int), .int .i64 (o.mode : Int)] rfl rfl HFB.out stateSz (by show 2 ≤ 2; omega) (state_one _ _) ?_; rw [splice_all [.int .i64 (a : Int), .int .i64 (m : Int)] [.int .i64 (o.at_ : Int), .int .i64 (o.mode : Int)] rfl]) | refine wpList_storeNew rfl 179 _ _ rfl 179 _ [_, _] rfl rfl stateSz rfl (state_one _ _) ?_))
        have HEND : Hid (BO w.heap.size w ((W6.setRow fb #[.int .i64 (o.at_ : Int), .int .i64 (o.mode : Int)]).alloc (.cells #[.int .i64 (o.at_ : Int), .int .i64 (o.mode : Int)] 179)) bb (acc ++ optBits p a m o)) := by
          have h9 := (HBO6.out.setRow hnf HFT6.out.1 #[.int .i64 (o.at_ : Int), .int .i64 (o.mode : Int)]).below (bwA _ (.cells #[.int .i64 (o.at_ : Int), .int .i64 (o.mode : Int)] 179))
          rw [show acc ++ optBits p a m o = (acc ++ lowB o.num (widthN m)) ++ lowB sn 5 from (by rw [HRB.out, List.append_assoc])]
          exact h9
        have hnf2 : w.heap.size ≤ W6.heap.size := HBO6.out.n2
        exact HROUND.out _ _ (by simpa using hnf2) (RowIs.new _ _ _ _ (by simp)) HEND.out
      have hsd : decide ((0 : Int) ≤ o.sec) = false := by simp; omega
      by_cases hr0 : o.run = 0
      · have HRB : Hid (optBits p a m o = lowB o.num (widthN m)) := by
          show _ = _
          unfold optBits runB
          rw [if_neg hsc, hr0, if_neg (by omega), List.append_nil, List.append_nil]
        rw [hr0] at g1
        clear hsc
        have HFB : Hid (RowIs W5 fb #[.int .i64 (a : Int), .int .i64 (m : Int)] 179) := HFT5.out.1
        have HTB : Hid (CellsAt W5 tb o.vals) := HFT5.out.2.cells
        go_wp2_with (first
          | ((with_reducible show wpList _ _ _ (⟨_, Op.load 179 _, _, _, _, _⟩ :: _) _ _); first | refine wpList_loadAgg rfl 179 _ rfl _ Tryz.underlying179 rfl ⟨tb, 5, none⟩ [.int .i64 (o.at_ : Int), .int .i64 (o.mode : Int)] stateSz rfl (load_next HTB.out) ?_ | refine wpList_loadAgg rfl 179 _ rfl _ Tryz.underlying179 rfl ⟨fb, 0, none⟩ [.int .i64 (o.at_ : Int), .int .i64 (o.mode : Int)] stateSz rfl (load_cells ((HFB.out.set _).cells)) ?_)
          | ((with_reducible show wpList _ _ _ (⟨_, Op.alloc 179, _, _, _, _⟩ :: _) _ _); refine wpList_allocAgg rfl 179 rfl _ stateInfo ?_)
          | ((with_reducible show wpList _ _ _ (⟨_, Op.store 179 _ _, _, _, _, _⟩ :: _) _ _); first | (refine wpList_storeAgg rfl 179 _ _ rfl 179 fb 0 #[.int .i64 (a : Int), .int .i64 (m : Int)] [.int .i64 (o.at_ : Int), .int .i64 (o.mode : Int)] rfl rfl HFB.out stateSz (by show 2 ≤ 2; omega) (state_one _ _) ?_; rw [splice_all [.int .i64 (a : Int), .int .i64 (m : Int)] [.int .i64 (o.at_ : Int), .int .i64 (o.mode : Int)] rfl]) | refine wpList_storeNew rfl 179 _ _ rfl 179 _ [_, _] rfl rfl stateSz rfl (state_one _ _) ?_))
        have HEND : Hid (BO w.heap.size w ((W5.setRow fb #[.int .i64 (o.at_ : Int), .int .i64 (o.mode : Int)]).alloc (.cells #[.int .i64 (o.at_ : Int), .int .i64 (o.mode : Int)] 179)) bb (acc ++ optBits p a m o)) := by
          have h9 := (HBO5.out.setRow hnf HFT5.out.1 #[.int .i64 (o.at_ : Int), .int .i64 (o.mode : Int)]).below (bwA _ (.cells #[.int .i64 (o.at_ : Int), .int .i64 (o.mode : Int)] 179))
          rw [show acc ++ optBits p a m o = acc ++ lowB o.num (widthN m) from (by rw [HRB.out])]
          exact h9
        have hnf2 : w.heap.size ≤ W5.heap.size := HBO5.out.n2
        exact HROUND.out _ _ (by simpa using hnf2) (RowIs.new _ _ _ _ (by simp)) HEND.out
      cases hlg : o.long with
      | true =>
        rw [hlg] at g2
        have hl31 := HOK.out.lg (by omega) hlg
        have HRB : Hid (acc ++ optBits p a m o = (((acc ++ lowB o.num (widthN m)) ++ lowB 0 5) ++ lowB (o.run - 31) 11) ++ byF p a o.run) := by
          show _ = _
          unfold optBits runB
          rw [if_neg hsc, if_pos (by omega), if_pos hlg, List.append_nil]
          simp only [List.append_assoc]
        have hrn4 : a + o.run ≤ p.size := HOK.out.rn
        obtain ⟨rn, hrnd⟩ : ∃ rn, rn = o.run := ⟨_, rfl⟩
        have HRN := Lib.hid hrnd
        rw [← hrnd] at hr0 hrn hl31 hrn4 HRB g1
        clear hrnd
        have hw31 : IntKind.i64.wrap ((rn : Int) - 31) = ((rn - 31 : Nat) : Int) := by rw [wr64 _ (by omega) (by omega)]; omega
        have hrp : 0 < rn := by omega
        clear hsc
        go_wp2_with (go_at_call 131; (with_reducible show Calls _ _ _ W5 _); refine (add_int w.heap.size w W5 bb (acc ++ lowB o.num (widthN m)) 0 5 _ _ rfl rfl HBO5.out (by omega) (by omega) (by have := HAL.out; have := HLW.out; simp only [List.length_append, lowB_length]; omega)).mono ?_; rintro e W6 ⟨rfl, hbo, hkeep⟩; have HBO6 := Lib.hid hbo; have HFT6 : Hid (RowIs W6 fb #[.int .i64 (a : Int), .int .i64 (m : Int)] 179 ∧ RowIs W6 tb o.vals.toArray 181) := ⟨HFT5.out.1.keep hkeep (by simp [notBits]), HFT5.out.2.keep hkeep (by simp [notBits])⟩; have gg2_6 : W6.cell? ⟨tb, 2, none⟩ = some (.int .i64 (rn : Int)) := (by rw [HRN.out]; exact HFT6.out.2.cell 2 _ rfl); clear hbo hkeep)
        clear HBO5 HFT5 g0 g1 g2
        go_wp2_with (go_at_call 131; (with_reducible show Calls _ _ _ W6 _); refine (add_int w.heap.size w W6 bb ((acc ++ lowB o.num (widthN m)) ++ lowB 0 5) (rn - 31) 11 _ _ rfl rfl HBO6.out (by omega) (by omega) (by have := HAL.out; have := HLW.out; simp only [List.length_append, lowB_length]; omega)).mono ?_; rintro e W7 ⟨rfl, hbo, hkeep⟩; have HBO7 := Lib.hid hbo; have HFT7 : Hid (RowIs W7 fb #[.int .i64 (a : Int), .int .i64 (m : Int)] 179 ∧ RowIs W7 tb o.vals.toArray 181) := ⟨HFT6.out.1.keep hkeep (by simp [notBits]), HFT6.out.2.keep hkeep (by simp [notBits])⟩; have gg2_7 : W7.cell? ⟨tb, 2, none⟩ = some (.int .i64 (rn : Int)) := (by rw [HRN.out]; exact HFT7.out.2.cell 2 _ rfl); clear hbo hkeep)
        clear HBO6 HFT6 gg2_6
        have HLL : Hid ((((acc ++ lowB o.num (widthN m)) ++ lowB 0 5) ++ lowB (rn - 31) 11).length ≤ 1073742000) := by show _ ≤ _; have := HAL.out; have := HLW.out; simp only [List.length_append, lowB_length]; omega
        generalize ((acc ++ lowB o.num (widthN m)) ++ lowB 0 5) ++ lowB (rn - 31) 11 = L at *
        go_loopw [64] (fun iv wr => ∃ i : Nat, i ≤ rn ∧ iv = .int .i64 i ∧ Hid (BO w.heap.size w wr bb (L ++ byF p a i)) ∧ Hid (RowIs wr fb #[.int .i64 (a : Int), .int .i64 (m : Int)] 179 ∧ RowIs wr tb o.vals.toArray 181)) (fun iv _ => rn - (intOf iv).toNat)
        case atStart => exact ⟨0, Nat.zero_le _, rfl, by show BO _ _ _ _ _; rw [show byF p a 0 = [] from rfl, List.append_nil]; exact HBO7.out, HFT7.out⟩
        case round =>
          clear HBO7 HFT7
          obtain ⟨i, hi2, rfl, hO, hF⟩ := hrel
          by_cases hlt2 : i < rn
          · obtain ⟨by_, hby⟩ : ∃ by_, by_ = (p.data.toList.getD (a + i) 0).toNat := ⟨_, rfl⟩
            have HBY := Lib.hid hby
            have CF8 : Hid (∀ W, (Below w.heap.size w W ∧ RowIs W fb #[.int .i64 (a : Int), .int .i64 (m : Int)] 179) → W.cell? ⟨sb, 0, none⟩ = some (.string p) ∧ W.cell? ⟨fb, 0, none⟩ = some (.int .i64 (a : Int))) := fun W hW => ⟨(HK.out W hW.1).1.S.c0, hW.2.cell 0 _ rfl⟩
            have hai : a + i < p.size := by omega
            have hwai : IntKind.i64.wrap ((a : Int) + (i : Int)) = ((a + i : Nat) : Int) := by rw [wr64 _ (by omega) (by omega)]; omega
            clear hby
            go_wp2
            refine wp_region_W (S := (fun W => Below w.heap.size w W ∧ RowIs W fb #[.int .i64 (a : Int), .int .i64 (m : Int)] 179)) [(false, 0), (false, 1), (false, 2), (false, 3), (false, 4), (false, 5), (false, 6), (false, 7), (false, 8), (false, 9), (false, 10), (true, 11)] (by kernel_rfl) (by kernel_rfl) ⟨bwDrew hO.out.B, hF.out.1⟩ ?_
            simp only [attachW, List.getElem?_cons_zero, List.getElem?_cons_succ]
            refine' wpHX_val rfl (fun W hW => ?_) ?_
            rotate_left
            · have hcf := CF8.out W hW; go_simp; rfl
            simp only [Act.put, List.setIfInBounds_toArray, List.set_cons_zero, List.set_cons_succ]
            refine' wpHX_val rfl (fun W hW => ?_) ?_
            rotate_left
            · have hcf := CF8.out W hW; go_simp; rfl
            simp only [Act.put, List.setIfInBounds_toArray, List.set_cons_zero, List.set_cons_succ]
            refine' wpHX_val rfl (fun W hW => ?_) ?_
            rotate_left
            · have hcf := CF8.out W hW; go_simp; rfl
            simp only [Act.put, List.setIfInBounds_toArray, List.set_cons_zero, List.set_cons_succ]
            refine' wpHX_val rfl (fun W hW => ?_) ?_
            rotate_left
            · have hcf := CF8.out W hW; go_simp; rfl
            simp only [Act.put, List.setIfInBounds_toArray, List.set_cons_zero, List.set_cons_succ]
            refine' wpHX_val rfl (fun W hW => ?_) ?_
            rotate_left
            · have hcf := CF8.out W hW; go_simp; rfl
            simp only [Act.put, List.setIfInBounds_toArray, List.set_cons_zero, List.set_cons_succ]
            refine' wpHX_val rfl (fun W hW => ?_) ?_
            rotate_left
            · have hcf := CF8.out W hW; go_simp; rfl
            simp only [Act.put, List.setIfInBounds_toArray, List.set_cons_zero, List.set_cons_succ]
            refine' wpHX_val rfl (fun W hW => ?_) ?_
            rotate_left
            · have hcf := CF8.out W hW; go_simp; rfl
            simp only [Act.put, List.setIfInBounds_toArray, List.set_cons_zero, List.set_cons_succ]
            refine' wpHX_val rfl (fun W hW => ?_) ?_
            rotate_left
            · have hcf := CF8.out W hW; go_simp; rfl
            simp only [Act.put, List.setIfInBounds_toArray, List.set_cons_zero, List.set_cons_succ]
            refine' wpHX_val rfl (fun W hW => ?_) ?_
            rotate_left
            · have hcf := CF8.out W hW; go_simp; rfl
            simp only [Act.put, List.setIfInBounds_toArray, List.set_cons_zero, List.set_cons_succ]
            refine' wpHX_val rfl (fun W hW => exec_indexS rfl rfl rfl (a + i) rfl hai) ?_
            simp only [Act.put, List.setIfInBounds_toArray, List.set_cons_zero, List.set_cons_succ]
            rw [← HBY.out]
            have hby8 : by_ < 256 := by rw [HBY.out]; exact UInt8.toNat_lt _
            refine' wpHX_val rfl (fun W hW => ?_) ?_
            rotate_left
            · have hcf := CF8.out W hW; go_simp; rfl
            simp only [Act.put, List.setIfInBounds_toArray, List.set_cons_zero, List.set_cons_succ]
            refine' wpHX_acall rfl (fun W => ?_) ?_
            rotate_left 2
            · go_simp; exact ⟨rfl, rfl⟩
            have HOD : Hid (BO w.heap.size w wr.drew bb (L ++ byF p a i)) := hO.out.below (bwDrew (Below.refl _ _))
            rw [show IntKind.i64.wrap (by_ : Int) = (by_ : Int) from wr64 _ (by omega) (by omega)]
            refine (add_int w.heap.size w wr.drew bb (L ++ byF p a i) by_ 8 _ _ rfl rfl HOD.out (by omega) (by omega) (by have := HLL.out; rw [List.length_append, byF_len]; omega)).mono ?_
            rintro e W9 ⟨rfl, hbo, hkeep⟩
            have HBO9 : Hid (BO w.heap.size w W9 bb (L ++ byF p a (i + 1))) := by
              show BO _ _ _ _ _
              rw [show byF p a (i + 1) = byF p a i ++ lowB by_ 8 from by rw [HBY.out]; rfl, ← List.append_assoc]
              exact hbo
            have HFT9 : Hid (RowIs W9 fb #[.int .i64 (a : Int), .int .i64 (m : Int)] 179 ∧ RowIs W9 tb o.vals.toArray 181) := ⟨RowIs.keep (w := wr.drew) hF.out.1 hkeep (by simp [notBits]), RowIs.keep (w := wr.drew) hF.out.2 hkeep (by simp [notBits])⟩
            clear hbo hkeep hO hF HOD CF8
            refine ⟨_, rfl, ⟨HBO9.out.B, HFT9.out.1⟩, ?_⟩
            simp only [Act.put, List.setIfInBounds_toArray, List.set_cons_zero, List.set_cons_succ]
            refine wpHX_nil ?_
            go_wp2
            exact ⟨⟨i + 1, by omega, by go_num, HBO9.out, HFT9.out⟩, by simp [intOf]; omega⟩
          · have hi4 : i = rn := by omega
            have HBOX : Hid (BO w.heap.size w wr bb (L ++ byF p a rn)) := by rw [← hi4]; exact hO.out
            clear hO
            have HFB : Hid (RowIs wr fb #[.int .i64 (a : Int), .int .i64 (m : Int)] 179) := hF.out.1
            have HTB : Hid (CellsAt wr tb o.vals) := hF.out.2.cells
            go_wp2_with (first
              | ((with_reducible show wpList _ _ _ (⟨_, Op.load 179 _, _, _, _, _⟩ :: _) _ _); first | refine wpList_loadAgg rfl 179 _ rfl _ Tryz.underlying179 rfl ⟨tb, 5, none⟩ [.int .i64 (o.at_ : Int), .int .i64 (o.mode : Int)] stateSz rfl (load_next HTB.out) ?_ | refine wpList_loadAgg rfl 179 _ rfl _ Tryz.underlying179 rfl ⟨fb, 0, none⟩ [.int .i64 (o.at_ : Int), .int .i64 (o.mode : Int)] stateSz rfl (load_cells ((HFB.out.set _).cells)) ?_)
              | ((with_reducible show wpList _ _ _ (⟨_, Op.alloc 179, _, _, _, _⟩ :: _) _ _); refine wpList_allocAgg rfl 179 rfl _ stateInfo ?_)
              | ((with_reducible show wpList _ _ _ (⟨_, Op.store 179 _ _, _, _, _, _⟩ :: _) _ _); first | (refine wpList_storeAgg rfl 179 _ _ rfl 179 fb 0 #[.int .i64 (a : Int), .int .i64 (m : Int)] [.int .i64 (o.at_ : Int), .int .i64 (o.mode : Int)] rfl rfl HFB.out stateSz (by show 2 ≤ 2; omega) (state_one _ _) ?_; rw [splice_all [.int .i64 (a : Int), .int .i64 (m : Int)] [.int .i64 (o.at_ : Int), .int .i64 (o.mode : Int)] rfl]) | refine wpList_storeNew rfl 179 _ _ rfl 179 _ [_, _] rfl rfl stateSz rfl (state_one _ _) ?_))
            have HEND : Hid (BO w.heap.size w ((wr.setRow fb #[.int .i64 (o.at_ : Int), .int .i64 (o.mode : Int)]).alloc (.cells #[.int .i64 (o.at_ : Int), .int .i64 (o.mode : Int)] 179)) bb (acc ++ optBits p a m o)) := by
              have h9 := (HBOX.out.setRow hnf hF.out.1 #[.int .i64 (o.at_ : Int), .int .i64 (o.mode : Int)]).below (bwA _ (.cells #[.int .i64 (o.at_ : Int), .int .i64 (o.mode : Int)] 179))
              rw [show acc ++ optBits p a m o = L ++ byF p a rn from HRB.out]
              exact h9
            have hnf2 : w.heap.size ≤ wr.heap.size := HBOX.out.n2
            exact HROUND.out _ _ (by simpa using hnf2) (RowIs.new _ _ _ _ (by simp)) HEND.out
      | false =>
        rw [hlg] at g2
        have HRB : Hid (acc ++ optBits p a m o = ((acc ++ lowB o.num (widthN m)) ++ lowB o.run 5) ++ byF p a o.run) := by
          show _ = _
          unfold optBits runB
          rw [if_neg hsc, if_pos (by omega), if_neg (by rw [hlg]; simp), List.append_nil]
          simp only [List.append_assoc]
        have hrn4 : a + o.run ≤ p.size := HOK.out.rn
        obtain ⟨rn, hrnd⟩ : ∃ rn, rn = o.run := ⟨_, rfl⟩
        have HRN := Lib.hid hrnd
        rw [← hrnd] at hr0 hrn hrn4 HRB g1
        clear hrnd
        have hrp : 0 < rn := by omega
        clear hsc
        go_wp2_with (go_at_call 131; (with_reducible show Calls _ _ _ W5 _); refine (add_int w.heap.size w W5 bb (acc ++ lowB o.num (widthN m)) rn 5 _ _ rfl rfl HBO5.out (by omega) (by omega) (by have := HAL.out; have := HLW.out; simp only [List.length_append, lowB_length]; omega)).mono ?_; rintro e W7 ⟨rfl, hbo, hkeep⟩; have HBO7 := Lib.hid hbo; have HFT7 : Hid (RowIs W7 fb #[.int .i64 (a : Int), .int .i64 (m : Int)] 179 ∧ RowIs W7 tb o.vals.toArray 181) := ⟨HFT5.out.1.keep hkeep (by simp [notBits]), HFT5.out.2.keep hkeep (by simp [notBits])⟩; have gg2_7 : W7.cell? ⟨tb, 2, none⟩ = some (.int .i64 (rn : Int)) := (by rw [HRN.out]; exact HFT7.out.2.cell 2 _ rfl); clear hbo hkeep)
        clear HBO5 HFT5 g0 g1 g2
        have HLL : Hid (((acc ++ lowB o.num (widthN m)) ++ lowB rn 5).length ≤ 1073742000) := by show _ ≤ _; have := HAL.out; have := HLW.out; simp only [List.length_append, lowB_length]; omega
        generalize (acc ++ lowB o.num (widthN m)) ++ lowB rn 5 = L at *
        go_loopw [64] (fun iv wr => ∃ i : Nat, i ≤ rn ∧ iv = .int .i64 i ∧ Hid (BO w.heap.size w wr bb (L ++ byF p a i)) ∧ Hid (RowIs wr fb #[.int .i64 (a : Int), .int .i64 (m : Int)] 179 ∧ RowIs wr tb o.vals.toArray 181)) (fun iv _ => rn - (intOf iv).toNat)
        case atStart => exact ⟨0, Nat.zero_le _, rfl, by show BO _ _ _ _ _; rw [show byF p a 0 = [] from rfl, List.append_nil]; exact HBO7.out, HFT7.out⟩
        case round =>
          clear HBO7 HFT7
          obtain ⟨i, hi2, rfl, hO, hF⟩ := hrel
          by_cases hlt2 : i < rn
          · obtain ⟨by_, hby⟩ : ∃ by_, by_ = (p.data.toList.getD (a + i) 0).toNat := ⟨_, rfl⟩
            have HBY := Lib.hid hby
            have CF8 : Hid (∀ W, (Below w.heap.size w W ∧ RowIs W fb #[.int .i64 (a : Int), .int .i64 (m : Int)] 179) → W.cell? ⟨sb, 0, none⟩ = some (.string p) ∧ W.cell? ⟨fb, 0, none⟩ = some (.int .i64 (a : Int))) := fun W hW => ⟨(HK.out W hW.1).1.S.c0, hW.2.cell 0 _ rfl⟩
            have hai : a + i < p.size := by omega
            have hwai : IntKind.i64.wrap ((a : Int) + (i : Int)) = ((a + i : Nat) : Int) := by rw [wr64 _ (by omega) (by omega)]; omega
            clear hby
            go_wp2
            refine wp_region_W (S := (fun W => Below w.heap.size w W ∧ RowIs W fb #[.int .i64 (a : Int), .int .i64 (m : Int)] 179)) [(false, 0), (false, 1), (false, 2), (false, 3), (false, 4), (false, 5), (false, 6), (false, 7), (false, 8), (false, 9), (false, 10), (true, 11)] (by kernel_rfl) (by kernel_rfl) ⟨bwDrew hO.out.B, hF.out.1⟩ ?_
            simp only [attachW, List.getElem?_cons_zero, List.getElem?_cons_succ]
            refine' wpHX_val rfl (fun W hW => ?_) ?_
            rotate_left
            · have hcf := CF8.out W hW; go_simp; rfl
            simp only [Act.put, List.setIfInBounds_toArray, List.set_cons_zero, List.set_cons_succ]
            refine' wpHX_val rfl (fun W hW => ?_) ?_
            rotate_left
            · have hcf := CF8.out W hW; go_simp; rfl
            simp only [Act.put, List.setIfInBounds_toArray, List.set_cons_zero, List.set_cons_succ]
            refine' wpHX_val rfl (fun W hW => ?_) ?_
            rotate_left
            · have hcf := CF8.out W hW; go_simp; rfl
            simp only [Act.put, List.setIfInBounds_toArray, List.set_cons_zero, List.set_cons_succ]
            refine' wpHX_val rfl (fun W hW => ?_) ?_
            rotate_left
            · have hcf := CF8.out W hW; go_simp; rfl
            simp only [Act.put, List.setIfInBounds_toArray, List.set_cons_zero, List.set_cons_succ]
            refine' wpHX_val rfl (fun W hW => ?_) ?_
            rotate_left
            · have hcf := CF8.out W hW; go_simp; rfl
            simp only [Act.put, List.setIfInBounds_toArray, List.set_cons_zero, List.set_cons_succ]
            refine' wpHX_val rfl (fun W hW => ?_) ?_
            rotate_left
            · have hcf := CF8.out W hW; go_simp; rfl
            simp only [Act.put, List.setIfInBounds_toArray, List.set_cons_zero, List.set_cons_succ]
            refine' wpHX_val rfl (fun W hW => ?_) ?_
            rotate_left
            · have hcf := CF8.out W hW; go_simp; rfl
            simp only [Act.put, List.setIfInBounds_toArray, List.set_cons_zero, List.set_cons_succ]
            refine' wpHX_val rfl (fun W hW => ?_) ?_
            rotate_left
            · have hcf := CF8.out W hW; go_simp; rfl
            simp only [Act.put, List.setIfInBounds_toArray, List.set_cons_zero, List.set_cons_succ]
            refine' wpHX_val rfl (fun W hW => ?_) ?_
            rotate_left
            · have hcf := CF8.out W hW; go_simp; rfl
            simp only [Act.put, List.setIfInBounds_toArray, List.set_cons_zero, List.set_cons_succ]
            refine' wpHX_val rfl (fun W hW => exec_indexS rfl rfl rfl (a + i) rfl hai) ?_
            simp only [Act.put, List.setIfInBounds_toArray, List.set_cons_zero, List.set_cons_succ]
            rw [← HBY.out]
            have hby8 : by_ < 256 := by rw [HBY.out]; exact UInt8.toNat_lt _
            refine' wpHX_val rfl (fun W hW => ?_) ?_
            rotate_left
            · have hcf := CF8.out W hW; go_simp; rfl
            simp only [Act.put, List.setIfInBounds_toArray, List.set_cons_zero, List.set_cons_succ]
            refine' wpHX_acall rfl (fun W => ?_) ?_
            rotate_left 2
            · go_simp; exact ⟨rfl, rfl⟩
            have HOD : Hid (BO w.heap.size w wr.drew bb (L ++ byF p a i)) := hO.out.below (bwDrew (Below.refl _ _))
            rw [show IntKind.i64.wrap (by_ : Int) = (by_ : Int) from wr64 _ (by omega) (by omega)]
            refine (add_int w.heap.size w wr.drew bb (L ++ byF p a i) by_ 8 _ _ rfl rfl HOD.out (by omega) (by omega) (by have := HLL.out; rw [List.length_append, byF_len]; omega)).mono ?_
            rintro e W9 ⟨rfl, hbo, hkeep⟩
            have HBO9 : Hid (BO w.heap.size w W9 bb (L ++ byF p a (i + 1))) := by
              show BO _ _ _ _ _
              rw [show byF p a (i + 1) = byF p a i ++ lowB by_ 8 from by rw [HBY.out]; rfl, ← List.append_assoc]
              exact hbo
            have HFT9 : Hid (RowIs W9 fb #[.int .i64 (a : Int), .int .i64 (m : Int)] 179 ∧ RowIs W9 tb o.vals.toArray 181) := ⟨RowIs.keep (w := wr.drew) hF.out.1 hkeep (by simp [notBits]), RowIs.keep (w := wr.drew) hF.out.2 hkeep (by simp [notBits])⟩
            clear hbo hkeep hO hF HOD CF8
            refine ⟨_, rfl, ⟨HBO9.out.B, HFT9.out.1⟩, ?_⟩
            simp only [Act.put, List.setIfInBounds_toArray, List.set_cons_zero, List.set_cons_succ]
            refine wpHX_nil ?_
            go_wp2
            exact ⟨⟨i + 1, by omega, by go_num, HBO9.out, HFT9.out⟩, by simp [intOf]; omega⟩
          · have hi4 : i = rn := by omega
            have HBOX : Hid (BO w.heap.size w wr bb (L ++ byF p a rn)) := by rw [← hi4]; exact hO.out
            clear hO
            have HFB : Hid (RowIs wr fb #[.int .i64 (a : Int), .int .i64 (m : Int)] 179) := hF.out.1
            have HTB : Hid (CellsAt wr tb o.vals) := hF.out.2.cells
            go_wp2_with (first
              | ((with_reducible show wpList _ _ _ (⟨_, Op.load 179 _, _, _, _, _⟩ :: _) _ _); first | refine wpList_loadAgg rfl 179 _ rfl _ Tryz.underlying179 rfl ⟨tb, 5, none⟩ [.int .i64 (o.at_ : Int), .int .i64 (o.mode : Int)] stateSz rfl (load_next HTB.out) ?_ | refine wpList_loadAgg rfl 179 _ rfl _ Tryz.underlying179 rfl ⟨fb, 0, none⟩ [.int .i64 (o.at_ : Int), .int .i64 (o.mode : Int)] stateSz rfl (load_cells ((HFB.out.set _).cells)) ?_)
              | ((with_reducible show wpList _ _ _ (⟨_, Op.alloc 179, _, _, _, _⟩ :: _) _ _); refine wpList_allocAgg rfl 179 rfl _ stateInfo ?_)
              | ((with_reducible show wpList _ _ _ (⟨_, Op.store 179 _ _, _, _, _, _⟩ :: _) _ _); first | (refine wpList_storeAgg rfl 179 _ _ rfl 179 fb 0 #[.int .i64 (a : Int), .int .i64 (m : Int)] [.int .i64 (o.at_ : Int), .int .i64 (o.mode : Int)] rfl rfl HFB.out stateSz (by show 2 ≤ 2; omega) (state_one _ _) ?_; rw [splice_all [.int .i64 (a : Int), .int .i64 (m : Int)] [.int .i64 (o.at_ : Int), .int .i64 (o.mode : Int)] rfl]) | refine wpList_storeNew rfl 179 _ _ rfl 179 _ [_, _] rfl rfl stateSz rfl (state_one _ _) ?_))
            have HEND : Hid (BO w.heap.size w ((wr.setRow fb #[.int .i64 (o.at_ : Int), .int .i64 (o.mode : Int)]).alloc (.cells #[.int .i64 (o.at_ : Int), .int .i64 (o.mode : Int)] 179)) bb (acc ++ optBits p a m o)) := by
              have h9 := (HBOX.out.setRow hnf hF.out.1 #[.int .i64 (o.at_ : Int), .int .i64 (o.mode : Int)]).below (bwA _ (.cells #[.int .i64 (o.at_ : Int), .int .i64 (o.mode : Int)] 179))
              rw [show acc ++ optBits p a m o = L ++ byF p a rn from HRB.out]
              exact h9
            have hnf2 : w.heap.size ≤ wr.heap.size := HBOX.out.n2
            exact HROUND.out _ _ (by simpa using hnf2) (RowIs.new _ _ _ _ (by simp)) HEND.out
    · have HR : Hid (acc = encF p T c0 0 0) := by
        show _ = _
        rw [← hE.out]
        have e1 : encF p T f a m = [] := by
          cases f with
          | zero => rfl
          | succ f => show (if a < p.size then _ else _) = _; rw [if_neg hlt]
        rw [e1, List.append_nil]
      obtain ⟨A9, c9, hX9, hO9⟩ := hO.out.X
      have HX9 := Lib.hid hX9
      have HO9 := Lib.hid hO9
      have HB9 := Lib.hid hO.out.B
      clear hF hO hE hC hL hX9 hO9
      go_wp2
      refine wp_region_W (S := Abv wr) [(false, 0), (false, 1), (false, 2), (false, 3), (false, 4), (false, 5), (false, 6), (false, 7)] (by kernel_rfl) (by kernel_rfl) (bwDrew (Below.refl _ _)) ?_
      simp only [attachW, List.getElem?_cons_zero, List.getElem?_cons_succ]
      repeat
        refine' wpHX_val rfl (fun W hW => ?_) ?_
        rotate_left
        · have hcf := CF.out W hW; go_simp; rfl
        simp only [Act.put, List.setIfInBounds_toArray, List.set_cons_zero, List.set_cons_succ]
      refine wpHX_nil ?_
      have HX10 : Hid (RowIs wr.drew bb #[.slice A9 acc.length c9] 26) := HX9.out.below (bwDrew (Below.refl _ _))
      have f9 : wr.drew.cell? ⟨bb, 0, none⟩ = some (.slice A9 acc.length c9) := HX10.out.cell 0 _ rfl
      clear CF
      go_wp2
      go_ret
      refine ⟨_, rfl, ?_, bwDrew HB9.out⟩
      rw [← HR.out]
      exact SG.of_own (f := vB) (d := false) (ownsRow_below HO9.out (bwDrew (Below.refl _ _)))
end Go.Proofs.YtmnlkganmgcpbaaGreatDoor
