import Derived.Test.YtplppbfnlfehnaaDoorAztZC
namespace Go.Proofs.YtplppbfnlfehnaaDoor
open Go.RowKit Go.WideMaps Go.Maps
set_option linter.unusedVariables false
/-! Decode -/
set_option maxRecDepth 100000 in
set_option maxHeartbeats 2000000 in
theorem NewReaderB_any (A : Option Addr) (n c : Nat) (b : List Bool) (w : World) (hn : n ≤ 1048576) (hb : SR vB false w A n c b) :
    Calls Tryd.prog 30 #[.slice A n c] w fun e w' => ∃ rb A' c', e = .returned (.pointer (some ⟨rb, 0, none⟩)) ∧ RowIs w' rb #[.slice A' b.length c', .bool true] 95 ∧ SR vB false w' A' b.length c' b ∧ w.heap.size ≤ rb ∧ (∀ ad, A' = some ad → Tag w' ad.block 4) ∧ Below w.heap.size w w' := by
  obtain ⟨i0, hi, hz0, hz1, hz2⟩ := info_parts boolInfo
  have HB := Lib.hid hb
  have HN : Hid (n = b.length) := hb.hn
  clear hb
  go_enter Tryd.func30, Tryd.ntmps30
  go_wp2_with (at_builtin; refine wpList_append_G (f := vB) (d := false) oneB rfl _ _ _ rfl w.heap.size 4 i0 _ 1 Tryd.underlying24 hi hz0 hz1 hz2 rfl (.slice none 0 0) 0 [] rfl (World.ownsRow_nil _ _ _ _) A n c b rfl HN.out HB.out.rd (by unfold maxLen; omega) (by omega) (Nat.le_refl _) ?_; intro v1 w1 hown hg; have HB1 : Hid (Below w.heap.size w w1) := (Below.refl _ _).grown hg (Nat.le_refl _) (fun q hq => by cases hq); have hown' : w1.ownsRow w.heap.size 4 1 v1 b.length (b.map vB) := (by rw [← HN.out]; simpa using hown); obtain ⟨A1, n1, c1, rfl, hs1⟩ := (SG.of_own (f := vB) (d := false) hown').parts; have hn1 : n1 = b.length := hs1.hn; rw [hn1] at hs1 hown' ⊢; have HO1 := Lib.hid hown'; have HS1 := Lib.hid hs1; clear hown hown' hg hs1 hn1)
  go_ret
  refine ⟨_, _, _, rfl, RowIs.new _ _ _ _ rfl, HS1.out.below (bwA _ _), HB1.out.size, ?_, bwAlloc HB1.out _⟩
  intro ad e
  subst e
  exact (own_tag HO1.out rfl).below (bwA _ _)
def zDec : Array Value := (Value.slice none 0 0 :: Value.pointer none :: zeroTab.toList ++ [Value.int .i64 0, Value.slice none 0 0]).toArray
theorem zDec_fact : (Tryd.prog.info? 74).map (·.zero) = some (some (.agg zDec)) := by kernel_rfl
theorem zDec_size : zDec.size = 484 := by kernel_rfl
theorem zDec_482 : zDec[482]? = some (.int .i64 0) := by kernel_rfl
theorem zDec_483 : zDec[483]? = some (.slice none 0 0) := by kernel_rfl
theorem decFields : (Tryd.prog.underlying 74).map (fun d => match d with | .struct fields => fields.toList.mapM (fun f => (Tryd.prog.info? f.type).map fun i => (f.offset, i.size)) | _ => none) = some (some [(0, 1), (1, 1), (2, 480), (482, 1), (483, 1)]) := by kernel_rfl
theorem built_decoder (s m : Value) (hs : s.cells = #[s]) (hm : m.cells = #[m]) : ∃ R : Array Value, Tryd.prog.built 74 [(0, s), (1, m), (2, .agg theTab)] = some R ∧ R.size = 484 ∧ R[0]? = some s ∧ R[1]? = some m ∧ (∀ i v, theTab[i]? = some v → R[2 + i]? = some v) ∧ R[482]? = some (.int .i64 0) ∧ R[483]? = some (.slice none 0 0) := by
  have hz := zDec_fact
  have hf := decFields
  have hzs := zDec_size
  have hts := theTab_size
  have z2 := zDec_482
  have z3 := zDec_483
  generalize zDec = Z at *
  generalize theTab = Tb at *
  cases hi : Tryd.prog.info? 74 with
  | none => rw [hi] at hz; cases hz
  | some it =>
    cases hu : Tryd.prog.underlying 74 with
    | none => rw [hu] at hf; cases hf
    | some d =>
      rw [hi] at hz
      rw [hu] at hf
      have hz' : it.zero = some (.agg Z) := Option.some.inj hz
      have hf' := Option.some.inj hf
      cases d <;> (try (simp at hf'; done))
      rename_i fields
      simp only at hf'
      unfold Program.built
      rw [hi, hu]
      simp only [hz', hf']
      have e1 : (Value.agg Tb).cells = Tb := rfl
      have e2 : (Value.agg Z).cells = Z := rfl
      have k1 : (Z.setIfInBounds 0 s).size = 484 := by simp [hzs]
      have k1' : ((Z.setIfInBounds 0 s).setIfInBounds 1 m).size = 484 := by simp [hzs]
      have key : ∀ (Y : Array Value), Y.size = 484 → (Tb.zipIdx.foldl (fun cs (x : Value × Nat) => cs.setIfInBounds (2 + x.2) x.1) Y).size = 484 ∧ ∀ i, (Tb.zipIdx.foldl (fun cs (x : Value × Nat) => cs.setIfInBounds (2 + x.2) x.1) Y)[i]? = if 2 ≤ i ∧ i < 482 then Tb[i - 2]? else Y[i]? := by
        intro Y hY
        have hl : Tb.toList.length = 480 := by rw [Array.length_toList]; exact hts
        have ef : Tb.zipIdx.foldl (fun cs (x : Value × Nat) => cs.setIfInBounds (2 + x.2) x.1) Y = (Tb.toList.zipIdx 0).foldl (fun cs (x : Value × Nat) => cs.setIfInBounds (2 + x.2) x.1) Y := by
          rw [← Array.foldl_toList, Array.toList_zipIdx]
        rw [ef]
        refine ⟨by rw [overlay_size]; exact hY, fun i => ?_⟩
        rw [overlay_get 2 Tb.toList 0 Y i (by rw [hl, hY]; omega), hl]
        simp only [Nat.add_zero, Array.getElem?_toList]
      have k2 := key _ k1'
      simp only [Instr.fill, List.getElem?_toArray, List.getElem?_cons_zero, List.getElem?_cons_succ, e1, e2, hs, hm, List.size_toArray, List.length_cons, List.length_nil, hts, hzs, ne_eq, not_true_eq_false, decide_false, Bool.false_or]
      rw [fold_one, fold_one]
      obtain ⟨Y, hY⟩ : ∃ Y, Y = Array.foldl (fun cs (x : Value × Nat) => cs.setIfInBounds (2 + x.2) x.1) ((Z.setIfInBounds 0 s).setIfInBounds 1 m) Tb.zipIdx := ⟨_, rfl⟩
      rw [← hY] at k2 ⊢
      rw [if_neg (by simp), if_neg (by rw [k1]; simp), if_neg (by rw [k1']; simp)]
      refine ⟨_, rfl, k2.1, ?_, ?_, fun i v hv => ?_, ?_, ?_⟩
      · rw [k2.2, if_neg (by omega), Array.getElem?_setIfInBounds_ne (by omega)]
        simp [hzs]
      · rw [k2.2, if_neg (by omega)]
        simp [hzs]
      · have hi : i < 480 := by rw [← hts]; exact (Array.getElem?_eq_some_iff.1 hv).1
        rw [k2.2, if_pos (by omega), Nat.add_sub_cancel_left]
        exact hv
      · rw [k2.2, if_neg (by omega), Array.getElem?_setIfInBounds_ne (by omega), Array.getElem?_setIfInBounds_ne (by omega)]
        exact z2
      · rw [k2.2, if_neg (by omega), Array.getElem?_setIfInBounds_ne (by omega), Array.getElem?_setIfInBounds_ne (by omega)]
        exact z3
/-- the payload of a bit string: the steps, by fuel -/
def decF : Nat → Nat → List Bool → List UInt8 → List UInt8 × Int
  | 0, _, _, out => (out, 0)
  | f + 1, mode, b, out => if endB b = true then (out, 0) else if (stRes mode b out).1 = 0 then decF f (stRes mode b out).2.2.2 (stRes mode b out).2.1 (stRes mode b out).2.2.1 else ([], (stRes mode b out).1)
def decRes (b : List Bool) : List UInt8 × Int := if 1048576 < b.length then ([], 4) else decF (b.length + 1) 0 b []
theorem byRes_sf (b0 : List Bool) : ∀ (k : Nat) (b : List Bool) (out : List UInt8), b0.drop (b0.length - b.length) = b → b.length ≤ b0.length → b0.drop (b0.length - (byRes k b out).2.1.length) = (byRes k b out).2.1 ∧ (byRes k b out).2.1.length ≤ b.length ∧ (byRes k b out).2.2.length + (byRes k b out).2.1.length ≤ out.length + b.length
  | 0, b, out, h, hl => ⟨h, Nat.le_refl _, Nat.le_refl _⟩
  | k + 1, b, out, h, hl => by
    unfold byRes
    split
    · exact ⟨h, Nat.le_refl _, Nat.le_refl _⟩
    · rename_i h8
      have hd : (b.drop 8).length = b.length - 8 := List.length_drop
      have h2 := byRes_sf b0 k (b.drop 8) (out ++ [UInt8.ofNat (numF b 0 8)]) (by rw [hd, show b0.length - (b.length - 8) = (b0.length - b.length) + 8 from by omega, ← List.drop_drop, h]) (by omega)
      rw [hd, List.length_append] at h2
      exact ⟨h2.1, by have := h2.2.1; omega, by have h3 := h2.2.2; simp only [List.length_cons, List.length_nil] at h3; omega⟩
theorem drop_sf {b0 b : List Bool} (h : b0.drop (b0.length - b.length) = b) (hl : b.length ≤ b0.length) (m : Nat) (hm : m ≤ b.length) : b0.drop (b0.length - (b.drop m).length) = b.drop m ∧ (b.drop m).length = b.length - m := by
  have hd : (b.drop m).length = b.length - m := List.length_drop
  refine ⟨?_, hd⟩
  rw [hd, show b0.length - (b.length - m) = (b0.length - b.length) + m from by omega, ← List.drop_drop, h]
theorem char_len (m k : Nat) (hm : m < 5) (hk : k < 32) : (charF m k).data.toList.length ≤ 2 := by
  have := charF_le_all m hm k hk
  simpa using this
theorem stRes_sf {b0 b : List Bool} {mode : Nat} {out : List UInt8} (hm : mode < 5) (h : b0.drop (b0.length - b.length) = b) (hl : b.length ≤ b0.length) : (stRes mode b out).1 = 0 → b0.drop (b0.length - (stRes mode b out).2.1.length) = (stRes mode b out).2.1 ∧ (stRes mode b out).2.1.length < b.length ∧ (stRes mode b out).2.2.1.length + (stRes mode b out).2.1.length ≤ out.length + b.length ∧ (stRes mode b out).2.2.2 < 5 := by
  have hw := widthN_pos mode
  unfold stRes
  split
  · intro h; simp at h
  · rename_i hlt
    have hk := num_lt32 b mode
    generalize numF b 0 (widthN mode) = k at *
    obtain ⟨d1, d2⟩ := drop_sf h hl (widthN mode) (by omega)
    unfold stK
    have hc := char_len mode k hm hk
    have hme := modeF_lt mode k
    split
    · intro _
      refine ⟨d1, by show (b.drop _).length < _; omega, ?_, hm⟩
      show (out ++ _).length + (b.drop _).length ≤ _
      rw [List.length_append]; omega
    split
    · intro _
      exact ⟨d1, by show (b.drop _).length < _; omega, by show out.length + (b.drop _).length ≤ _; omega, hme⟩
    split
    · have hw2 := widthN_pos (modeF mode k)
      show (shRes _ _ _).1 = 0 → _
      unfold shRes
      split
      · intro h; simp at h
      · have hk2 := num_lt32 (b.drop (widthN mode)) (modeF mode k)
        generalize numF (b.drop (widthN mode)) 0 (widthN (modeF mode k)) = k2 at *
        have hc2 := char_len (modeF mode k) k2 hme hk2
        obtain ⟨d3, d4⟩ := drop_sf d1 (by omega) (widthN (modeF mode k)) (by omega)
        split
        · intro _
          refine ⟨d3, by show ((b.drop _).drop _).length < _; omega, ?_, hm⟩
          show (out ++ _).length + ((b.drop _).drop _).length ≤ _
          rw [List.length_append]; omega
        · intro h; simp at h
    split
    · show (biRes _ _).1 = 0 → _
      have l5 : ∀ j b', j ≤ b'.length → b0.drop (b0.length - b'.length) = b' → b'.length ≤ b.length - widthN mode → ∀ q, b0.drop (b0.length - (byRes q (b'.drop j) out).2.1.length) = (byRes q (b'.drop j) out).2.1 ∧ (byRes q (b'.drop j) out).2.1.length < b.length ∧ (byRes q (b'.drop j) out).2.2.length + (byRes q (b'.drop j) out).2.1.length ≤ out.length + b.length ∧ mode < 5 := by
        intro j b' hj hb hb2 q
        obtain ⟨d3, d4⟩ := drop_sf hb (by omega) j hj
        obtain ⟨y1, y2, y3⟩ := byRes_sf b0 q (b'.drop j) out d3 (by omega)
        exact ⟨y1, by omega, by omega, hm⟩
      unfold biRes
      split
      · intro h; simp at h
      split
      · split
        · intro h; simp at h
        · intro _
          obtain ⟨d3, d4⟩ := drop_sf d1 (by omega) 5 (by omega)
          exact l5 11 _ (by omega) d3 (by omega) _
      · intro _
        exact l5 5 _ (by omega) d1 (by omega) _
    · intro h; simp at h
theorem wpList_value {P : Program} {ops : Array Oper} {rest : List Oper} {o : Oper} {a : Act} {Q : Exit → Act → World → Prop} {w w' : World} {v : Value} (hgd : o.guard = none) (hv : (execOp a.eval o).run P w = .ok (.value v) w') (hk : wpList P ops Q rest (a.put o.dst v) w') : wpList P ops Q (o :: rest) a w := by
  refine wpList_plain hgd fun K hK => ?_
  unfold Oper.wp
  rw [hv]
  exact hK _ _ hk
theorem exec_buildD {a : Act} {o : Oper} {W : World} {x0 x1 x2 : Operand} (ho : o.op = .build 74 #[(0, x0), (1, x1), (2, x2)]) {s m : Value} {Tb : Array Value}
    (h0 : a.eval x0 = s) (h1 : a.eval x1 = m) (h2 : a.eval x2 = .agg Tb) (R : Array Value) (hR : Tryd.prog.built 74 [(0, s), (1, m), (2, .agg Tb)] = some R) :
    (execOp a.eval o).run Tryd.prog W = .ok (.value (.agg R)) W := by
  have hrun := run_build (P := Tryd.prog) W 74 #[(0, s), (1, m), (2, .agg Tb)] R hR
  unfold execOp
  simp only [ho, List.map_toArray, List.map_cons, List.map_nil, h0, h1, h2, hrun, Sem.run_bind, Sem.run_pure, Result.andThen_ok]
theorem exec_boxD {a : Act} {o : Oper} {W : World} {x : Operand} (ho : o.op = .box 74 x) {R : Array Value} (hx : a.eval x = .agg R) :
    (execOp a.eval o).run Tryd.prog W = .ok (.value (.pointer (some ⟨W.heap.size, 0, none⟩))) (W.alloc (.cells R 74)) := by
  unfold execOp
  simp only [ho, hx, Instr.box, newVar, newRow, Value.cells, Sem.run_bind, Sem.run_pure]
  rfl
def lenAt (W : World) (rb : Nat) : Nat := match W.cell? ⟨rb, 0, none⟩ with | some (.slice _ k _) => k | _ => 0
theorem DE.lenAt {n : Nat} {w wr : World} {db rb : Nat} {b0 b : List Bool} {mode : Nat} {out : List UInt8} (h : DE n w wr db rb b0 b mode out) : lenAt wr rb = b.length := by
  obtain ⟨A, c, k1, _⟩ := h.R
  unfold Go.Proofs.YtplppbfnlfehnaaDoor.lenAt
  rw [k1.cell 0 _ rfl]; rfl
set_option maxRecDepth 100000 in
set_option maxHeartbeats 4000000 in
theorem Decode_any (A : Option Addr) (n c : Nat) (b : List Bool) (w : World) (hb : SR vB false w A n c b) :
    Calls Tryd.prog 16 #[.slice A n c] w (RT vU 0 w (decRes b)) := by
  have hn : n = b.length := hb.hn
  have hn63 : n ≤ 9223372036854775807 := by have := hb.hm; have := hb.hc; unfold maxLen at *; omega
  by_cases hl : n ≤ 1048576
  · have HR : Hid (decRes b = decF (n + 1) 0 b []) := by show _ = _; unfold decRes; rw [if_neg (by omega), hn]
    have hd : decide ((1048576 : Int) < (n : Int)) = false := by simp; omega
    have HB := Lib.hid hb
    have HN := Lib.hid hn
    have HL := Lib.hid hl
    have HNR := NewReaderB_any A n c b w hl hb
    have HNRH := Lib.hid HNR
    clear hb hn HNR
    go_enter Tryd.func16, Tryd.ntmps16
    go_wp2_with (first
      | (go_at_call 30; refine HNRH.out.mono ?_; rintro e w1 ⟨rb, A1, c1, rfl, hr1, hs1, hl1, ht1, hb1⟩; have HR1 := Lib.hid hr1; have HS1 := Lib.hid hs1; have HL1 := Lib.hid hl1; have HT1 := Lib.hid ht1; have HB1 := Lib.hid hb1; obtain ⟨R, hR, hR0, hR1, hR2, hR3, hR4, hR5⟩ := built_decoder (.slice A n c) (.pointer (some ⟨rb, 0, none⟩)) rfl rfl; have HBR := Lib.hid hR; have HRR : Hid (R.size = 484 ∧ R[0]? = some (.slice A n c) ∧ R[1]? = some (.pointer (some ⟨rb, 0, none⟩)) ∧ (∀ i v, theTab[i]? = some v → R[2 + i]? = some v) ∧ R[482]? = some (.int .i64 0) ∧ R[483]? = some (.slice none 0 0)) := ⟨hR0, hR1, hR2, hR3, hR4, hR5⟩; clear hr1 hs1 hl1 ht1 hb1 hR hR0 hR1 hR2 hR3 hR4 hR5)
      | (go_at_call 31; refine (table_any _).mono ?_; rintro e w2 ⟨rfl, hb2⟩; have HB2 := Lib.hid hb2; clear hb2; have HTB : Hid (theTab = theTab) := rfl; generalize hTb : theTab = Tb at *; have HTB2 := Lib.hid hTb; clear hTb HTB)
      | ((with_reducible show wpList _ _ _ (⟨_, Op.build 74 _, _, _, _, _⟩ :: _) _ _); refine wpList_value rfl (exec_buildD (Tb := Tb) (s := .slice A n c) (m := .pointer (some ⟨rb, 0, none⟩)) rfl rfl rfl rfl R HBR.out) ?_)
      | ((with_reducible show wpList _ _ _ (⟨_, Op.box 74 _, _, _, _, _⟩ :: _) _ _); refine wpList_value rfl (exec_boxD rfl rfl) ?_))
    have HD0 : Hid (DE w.heap.size w (w2.alloc (.cells R 74)) w2.heap.size rb b b 0 []) := by
      obtain ⟨q0, q1, q2, q3, q4, q5⟩ := HRR.out
      rw [← HTB2.out] at q3
      have hb12 : Below w1.heap.size w1 (w2.alloc (.cells R 74)) := bwAlloc HB2.out _
      refine ⟨bwAlloc (bwStep HB1.out HB2.out) _, ⟨R, A, c, none, 0, RowIs.new _ _ _ _ rfl, q0, by rw [← HN.out]; exact q1, q2, q3, q4, q5, by rw [← HN.out]; exact HB.out, World.ownsRow_nil _ _ _ _⟩, ⟨A1, c1, HR1.out.below hb12, HS1.out.below hb12, fun ad e => (HT1.out ad e).below hb12⟩, ⟨(bwStep HB1.out HB2.out).size, HL1.out⟩, rfl, by omega, Nat.le_refl _, by rw [← HN.out]; exact HL.out⟩
    generalize w2.alloc (.cells R 74) = w3 at *
    generalize w2.heap.size = db at *
    clear HRR HBR HB1 HB2 HR1 HS1 HL1 HT1 HTB2 HNRH HB
    go_loopw [5] (fun ev wr => ∃ (b' : List Bool) (mode f : Nat) (out : List UInt8), Hid (DE w.heap.size w wr db rb b b' mode out) ∧ Hid (b.drop (b.length - b'.length) = b') ∧ Hid (decF f mode b' out = decRes b) ∧ Hid (b'.length < f) ∧ Hid (out.length + b'.length ≤ b.length)) (fun _ wr => lenAt wr rb)
    case atStart => exact ⟨b, 0, n + 1, [], HD0.out, by show _ = _; rw [Nat.sub_self]; rfl, HR.out.symm, by show _ < _; rw [HN.out]; omega, by show _ ≤ _; simp⟩
    case round =>
      obtain ⟨b', mode, f, out, hD, hS, hF, hf, hO⟩ := hrel
      obtain ⟨f', rfl⟩ : ∃ f', f = f' + 1 := ⟨f - 1, by have := hf.out; omega⟩
      have HE : Hid (Calls Tryd.prog 32 #[.pointer (some ⟨db, 0, none⟩)] wr fun e w' => e = .returned (.bool (endB b')) ∧ Below wr.heap.size wr w') := ended_any _ w wr db rb b b' mode out hD.out hS.out
      cases he : endB b' with
      | true =>
        have HFF : Hid (decRes b = (out, 0)) := by
          show _ = _
          rw [← hF.out]
          unfold decF
          rw [if_pos he]
        rw [he] at HE
        clear hF he
        go_wp2_with (go_at_call 32; refine HE.out.mono ?_; rintro e W4 ⟨rfl, h4⟩; have HD4 := Lib.hid (hD.out.below h4); obtain ⟨Ao, co, o1, o2, o3⟩ := HD4.out.outs; have HO2 := Lib.hid o2; clear h4 o2 o3)
        go_ret2
        exact RT.mk HFF.out (SG.of_own HO2.out) HD4.out.B
      | false =>
        obtain ⟨er, her⟩ : ∃ er, er = (stRes mode b' out).1 := ⟨_, rfl⟩
        have hOL : out.length ≤ 80000000 := by have := hO.out; have := HL.out; have := HN.out; omega
        have HST : Hid (∀ wq, DE w.heap.size w wq db rb b b' mode out → Calls Tryd.prog 33 #[.pointer (some ⟨db, 0, none⟩)] wq fun e w' => e = .returned (.int .i64 er) ∧ DE w.heap.size w w' db rb b (stRes mode b' out).2.1 (stRes mode b' out).2.2.2 (stRes mode b' out).2.2.1) := by
          show ∀ wq, _
          intro wq hq
          rw [her]
          exact step_any _ w wq db rb b b' mode out hq hOL
        have HFF : Hid (decRes b = if er = 0 then decF f' (stRes mode b' out).2.2.2 (stRes mode b' out).2.1 (stRes mode b' out).2.2.1 else ([], er)) := by
          show _ = _
          rw [← hF.out, her]
          show (if endB b' = true then _ else _) = _
          rw [he]; rfl
        have HSF : Hid (er = 0 → b.drop (b.length - (stRes mode b' out).2.1.length) = (stRes mode b' out).2.1 ∧ (stRes mode b' out).2.1.length < b'.length ∧ (stRes mode b' out).2.2.1.length + (stRes mode b' out).2.1.length ≤ out.length + b'.length ∧ (stRes mode b' out).2.2.2 < 5) := by
          show _ → _
          rw [her]
          exact stRes_sf hD.out.md hS.out (by have := hO.out; omega)
        have HLN : Hid (lenAt wr rb = b'.length) := hD.out.lenAt
        rw [he] at HE
        clear hF he her hOL
        by_cases er0 : er = 0
        · subst er0
          have HF2 : Hid (decF f' (stRes mode b' out).2.2.2 (stRes mode b' out).2.1 (stRes mode b' out).2.2.1 = decRes b) := by
            show _ = _
            rw [HFF.out, if_pos rfl]
          have HS2 := Lib.hid (HSF.out rfl)
          clear HSF HFF
          generalize stRes mode b' out = sr at *
          go_wp2_with (first
            | (go_at_call 32; refine HE.out.mono ?_; rintro e W4 ⟨rfl, h4⟩; have HD4 := Lib.hid (hD.out.below h4); clear h4)
            | (go_at_call 33; refine (HST.out _ HD4.out).mono ?_; rintro e W5 ⟨rfl, h5⟩; have HD5 := Lib.hid h5; clear h5))
          obtain ⟨s1, s2, s3, s4⟩ := HS2.out
          refine ⟨⟨sr.2.1, sr.2.2.2, f', sr.2.2.1, HD5.out, s1, HF2.out, by have := hf.out; show _ < _; omega, by have := hO.out; show _ ≤ _; omega⟩, ?_⟩
          rw [HD5.out.lenAt, HLN.out]
          exact s2
        · have HF2 : Hid (decRes b = ([], er)) := by show _ = _; rw [HFF.out, if_neg er0]
          have hz : (er == 0) = false := by rw [beq_eq_false_iff_ne]; exact er0
          have hz2 : (er != 0) = true := by rw [bne, hz]; rfl
          clear HSF HFF er0
          generalize stRes mode b' out = sr at *
          go_wp2_with (first
            | (go_at_call 32; refine HE.out.mono ?_; rintro e W4 ⟨rfl, h4⟩; have HD4 := Lib.hid (hD.out.below h4); clear h4)
            | (go_at_call 33; refine (HST.out _ HD4.out).mono ?_; rintro e W5 ⟨rfl, h5⟩; have HD5 := Lib.hid h5; clear h5))
          go_ret2
          exact RT.mk HF2.out (SG.nil_ _) HD5.out.B
  · have HF : Hid (decRes b = ([], 4)) := by show _ = _; unfold decRes; rw [if_pos (by omega)]
    have hd : decide ((1048576 : Int) < (n : Int)) = true := by simp; omega
    clear hb hn
    go_enter Tryd.func16, Tryd.ntmps16
    go_wp2
    go_ret2
    exact RT.mk HF.out (SG.nil_ _) (Below.refl _ _)
end Go.Proofs.YtplppbfnlfehnaaDoor
