import Derived.Test.YtplppbfnlfehnaaDoorAztRE
import Derived.Test.YtplppbfnlfehnaaDoorTail2
import Derived.Laws.Closers25
namespace Go.Proofs.YtplppbfnlfehnaaDoor
open Go.RowKit Go.WideMaps Go.Maps
set_option linter.unusedVariables false
/-! the reference's step -/
theorem RWidth_bw (m : Nat) (w : World) : Calls Tryd.prog 42 #[.int .i64 (m : Int)] w fun e w' => e = .returned (.int .i64 ((widthN m : Nat) : Int)) ∧ Below w.heap.size w w' :=
  (RWidth_any m w).mono (fun e w' h => ⟨h.1, by rw [h.2]; exact Below.refl _ _⟩)
/-- a text is appended to the payload, in a plain region -/
theorem wpList_appendS {ops : Array Oper} {rest : List Oper} {o : Oper} {a : Act} {Q : Exit → Act → World → Prop} {W : World} {base : Nat} {A : Option Addr} {c : Nat} {out : List UInt8} (hO : W.ownsRow base 5 1 (.slice A out.length c) out.length (out.map vU)) (hb : base ≤ W.heap.size)
    (hgd : o.guard = none) (s y : Operand) (ho : o.op = .call { callee := .builtin .append, args := #[s, y], argTypes := #[22, 9] }) (hs : a.eval s = .slice A out.length c) (t : ByteArray) (hy : a.eval y = .string t) (hl : out.length ≤ 100000000) (ht : t.size ≤ 1000)
    (hk : ∀ (o2 : List UInt8) A' c' W', Hid (o2 = out ++ t.data.toList) → Hid (W'.ownsRow base 5 1 (.slice A' o2.length c') o2.length (o2.map vU)) → Hid (W.grownBy W' (Value.slice A out.length c).ownBlock) → wpList Tryd.prog ops Q rest (a.put o.dst (.slice A' o2.length c')) W') :
    wpList Tryd.prog ops Q (o :: rest) a W := by
  obtain ⟨i0, hi, hz0, hz1, hz2⟩ := info_parts byteInfo2
  obtain ⟨v', W', hrun, h2, h3, _⟩ := Lib.run_append_own_string (P := Tryd.prog) W base 22 9 o.type 5 i0 Tryd.underlying22 Tryd.underlying9 hi hz0 hz1 hz2 _ _ _ hO t (by unfold maxLen; omega) (by omega) hb
  have e1 : out.length + t.size = (out ++ t.data.toList).length := by simp
  have e2 : out.map vU ++ Lib.strCells t = (out ++ t.data.toList).map vU := by rw [List.map_append]; rfl
  rw [e1, e2] at h2
  obtain ⟨A', c', rfl⟩ := ownsRow_shape h2
  refine wpList_plain hgd fun K hK => ?_
  unfold Oper.wp execOp
  simp only [ho, resolve, invoke, builtin, Sem.run_bind, Sem.run_pure, Result.andThen_ok, List.map_toArray, List.map_cons, List.map_nil, hs, hy, hrun]
  exact hK _ _ (hk _ A' c' W' rfl h2 h3)
theorem kind4_mode : ∀ m, m < 5 → ∀ n, n < 32 → kindF m n = 4 → m ≠ 3 := of_decide_eq_true (by kernel_rfl)
theorem kind0_mode : ∀ m, m < 5 → ∀ n, n < 32 → kindF m n = 0 → n < 2 ^ widthN m → m = 3 := of_decide_eq_true (by kernel_rfl)
theorem charF_ne : ∀ m, m < 5 → ∀ n, n < 32 → kindF m n = 1 → charF m n ≠ ByteArray.empty := of_decide_eq_true (by kernel_rfl)
set_option maxRecDepth 100000 in
set_option maxHeartbeats 8000000 in
theorem RStep_ref (n : Nat) (w wa : World) (A : Option Addr) (nb cb : Nat) (b : List Bool) (at_ mode : Nat) (out : List UInt8) (Ao : Option Addr) (co : Nat) (hS : SR vB false w A nb cb b) (hB : Below n w wa) (hO : wa.ownsRow n 5 1 (.slice Ao out.length co) out.length (out.map vU)) (hn : n = w.heap.size) (ha : at_ ≤ nb) (hnb : nb ≤ 1048576) (hol : out.length ≤ 70000000) (hmd : mode < 5) :
    Calls Tryd.prog 35 #[.slice A nb cb, .agg #[.int .i64 (at_ : Int), .int .i64 (mode : Int), .slice Ao out.length co]] wa (ScanRes n w wa b (stRes mode (b.drop at_) out)) := by
  have HS := Lib.hid hS
  have HNB : Hid (nb = b.length) := hS.hn
  have HOL := Lib.hid hol
  have HSC : Hid (SCN n w wa ((wa.alloc (.cells #[.int .i64 (at_ : Int), .int .i64 (mode : Int), .slice Ao out.length co] 77)).alloc (.cells #[.int .i64 0, .int .i64 0, .slice none 0 0] 77)) wa.heap.size (wa.heap.size + 1) at_ mode out Ao co) := SCN.start hB hO hn
  have hwm := widthN_le mode
  clear hS hB hO hol hn
  go_enter Tryd.func35, Tryd.ntmps35
  go_wp2_with fail
  obtain ⟨X, hX⟩ : ∃ X, X = wa.heap.size := ⟨_, rfl⟩
  obtain ⟨Y, hY⟩ : ∃ Y, Y = wa.heap.size + 1 := ⟨_, rfl⟩
  rw [← hY, ← hX] at HSC
  rw [← hY, ← hX]
  generalize ((wa.alloc (.cells #[.int .i64 (at_ : Int), .int .i64 (mode : Int), .slice Ao out.length co] 77)).alloc (.cells #[.int .i64 0, .int .i64 0, .slice none 0 0] 77)) = W0 at *
  clear hX hY
  have HSD : Hid (SCN n w wa W0.drew X Y at_ mode out Ao co) := HSC.out.below (bwDrew (Below.refl _ _))
  obtain ⟨q0, q1, _, _, _, _⟩ := HSD.out.facts
  have CF : Hid (∀ W : World, (W.cell? ⟨X, 0, none⟩ = some (.int .i64 (at_ : Int)) ∧ W.cell? ⟨X, 1, none⟩ = some (.int .i64 (mode : Int))) → W.cell? ⟨X, 0, none⟩ = some (.int .i64 (at_ : Int)) ∧ W.cell? ⟨X, 1, none⟩ = some (.int .i64 (mode : Int))) := fun W h => h
  refine wp_region_W (S := (fun W => W.cell? ⟨X, 0, none⟩ = some (.int .i64 (at_ : Int)) ∧ W.cell? ⟨X, 1, none⟩ = some (.int .i64 (mode : Int)))) [(false, 0), (false, 1), (false, 2), (false, 3), (false, 4), (true, 5), (true, 6), (false, 7), (false, 8), (false, 9), (false, 10), (false, 11)] (by kernel_rfl) (by kernel_rfl) ⟨q0, q1⟩ ?_
  simp only [attachW, List.getElem?_cons_zero, List.getElem?_cons_succ]
  clear q0 q1
  refine' wpHX_val rfl (fun W hW => ?_) ?_
  rotate_left
  · have hcf := CF.out W hW; go_simp; rfl
  simp only [Act.put, List.setIfInBounds_toArray, List.set_cons_zero, List.set_cons_succ]
  refine' wpHX_val rfl (fun W hW => ?_) ?_
  rotate_left
  · have hcf := CF.out W hW; go_simp; rfl
  simp only [Act.put, List.setIfInBounds_toArray, List.set_cons_zero, List.set_cons_succ]
  refine' wpHX_val rfl (fun W hW => ?_) ?_
  rotate_left
  · have hcf := CF.out W hW; go_simp; rfl
  simp only [Act.put, List.setIfInBounds_toArray, List.set_cons_zero, List.set_cons_succ]
  refine' wpHX_val rfl (fun W hW => ?_) ?_
  rotate_left
  · have hcf := CF.out W hW; go_simp; rfl
  simp only [Act.put, List.setIfInBounds_toArray, List.set_cons_zero, List.set_cons_succ]
  refine' wpHX_val rfl (fun W hW => ?_) ?_
  rotate_left
  · have hcf := CF.out W hW; go_simp; rfl
  simp only [Act.put, List.setIfInBounds_toArray, List.set_cons_zero, List.set_cons_succ]
  refine' wpHX_acall rfl (fun W => ?_) ?_
  rotate_left 2
  · go_simp; exact ⟨rfl, rfl⟩
  refine (RWidth_any mode _).mono ?_
  rintro e w4 ⟨rfl, hw4⟩
  rw [hw4]
  clear hw4
  refine ⟨_, rfl, ⟨HSD.out.facts.1, HSD.out.facts.2.1⟩, ?_⟩
  simp only [Act.put, List.setIfInBounds_toArray, List.set_cons_zero, List.set_cons_succ]
  refine' wpHX_acall rfl (fun W => ?_) ?_
  rotate_left 2
  · go_simp; exact ⟨rfl, rfl⟩
  refine (RTake_refI A nb cb b at_ (widthN mode) _ _ _ rfl rfl (HSD.out.sr HS.out) ha (by omega) hnb).mono ?_
  rintro e w5 ⟨rfl, hw5⟩
  rw [hw5]
  clear hw5
  refine ⟨_, rfl, ⟨HSD.out.facts.1, HSD.out.facts.2.1⟩, ?_⟩
  simp only [Act.put, List.setIfInBounds_toArray, List.set_cons_zero, List.set_cons_succ]
  generalize W0.drew = W1 at *
  clear HSC
  obtain ⟨wd, hwd⟩ : ∃ wd, wd = widthN mode := ⟨_, rfl⟩
  rw [← hwd] at hwm ⊢
  have HWD := Lib.hid hwd
  have hwp := widthN_pos mode
  rw [← hwd] at hwp
  clear hwd
  by_cases hlt : (b.drop at_).length < wd
  · have HT : Hid (takeRes (b.drop at_) 0 wd = (0, 10)) := by show _ = _; unfold takeRes; rw [if_pos (by omega)]
    have HR : Hid (stRes mode (b.drop at_) out = (10, b.drop at_, out, mode)) := by show _ = _; unfold stRes; rw [← HWD.out, if_pos hlt]
    clear hlt
    rw [HT.out]
    refine' wpHX_val rfl (fun W hW => ?_) ?_
    rotate_left
    · have hcf := CF.out W hW; go_simp; rfl
    simp only [Act.put, List.setIfInBounds_toArray, List.set_cons_zero, List.set_cons_succ]
    refine' wpHX_val rfl (fun W hW => ?_) ?_
    rotate_left
    · have hcf := CF.out W hW; go_simp; rfl
    simp only [Act.put, List.setIfInBounds_toArray, List.set_cons_zero, List.set_cons_succ]
    refine' wpHX_val rfl (fun W hW => ?_) ?_
    rotate_left
    · have hcf := CF.out W hW; go_simp; rfl
    simp only [Act.put, List.setIfInBounds_toArray, List.set_cons_zero, List.set_cons_succ]
    refine' wpHX_val rfl (fun W hW => ?_) ?_
    rotate_left
    · have hcf := CF.out W hW; go_simp; rfl
    simp only [Act.put, List.setIfInBounds_toArray, List.set_cons_zero, List.set_cons_succ]
    refine' wpHX_val rfl (fun W hW => ?_) ?_
    rotate_left
    · have hcf := CF.out W hW; go_simp; rfl
    simp only [Act.put, List.setIfInBounds_toArray, List.set_cons_zero, List.set_cons_succ]
    refine wpHX_nil ?_
    go_wp2_with (first
      | ((with_reducible show wpList _ _ _ (⟨_, Op.load 77 _, _, _, _, _⟩ :: _) _ _); refine wpList_loadAgg rfl 77 _ rfl _ Tryd.underlying77 rfl ⟨X, 0, none⟩ (scC at_ mode Ao out.length co) scanSz rfl HSD.out.load ?_)
      | ((with_reducible show wpList _ _ _ (⟨_, Op.store 77 _ _, _, _, _, _⟩ :: _) _ _); refine wpList_storeAgg rfl 77 _ _ rfl 77 Y 0 _ (scC at_ mode Ao out.length co) rfl rfl HSD.out.yr scanSz (by show 3 ≤ 3; omega) (sc_one _ _ _ _ _) ?_))
    (try simp only [Exit.inBlock, Exit.then])
    refine bodyPost_ret (results_scan rfl _ _ Y (scC at_ mode Ao out.length co) _ (.int .i64 10) rfl rfl HSD.out.fin.1.cells Tryd.underlying77 rfl scanSz) rfl ?_
    exact ⟨at_, mode, out.length, Ao, co, ⟨by rw [HR.out], by rw [← HNB.out]; omega⟩, HSD.out.fin.2.1, fun h => by rw [HR.out] at h; exact absurd h (by simp)⟩
  · obtain ⟨k, hk⟩ : ∃ k, k = numF (b.drop at_) 0 wd := ⟨_, rfl⟩
    have hk32 : k < 32 := by rw [hk, HWD.out]; exact num_lt32 (b.drop at_) mode
    have hk2 : k < 2 ^ wd := by rw [hk]; exact numF_lt (b.drop at_) 0 wd
    have HT : Hid (takeRes (b.drop at_) 0 wd = (((k : Nat) : Int), 0)) := by show _ = _; unfold takeRes; rw [if_neg (by omega), hk]
    have HR : Hid (stRes mode (b.drop at_) out = stK mode k (b.drop (at_ + wd)) out) := by show _ = _; unfold stRes; rw [← HWD.out, if_neg hlt, ← hk, List.drop_drop]
    have ha2 : at_ + wd ≤ nb := by rw [List.length_drop, ← HNB.out] at hlt; omega
    have HK2 := Lib.hid hk2
    clear hlt hk hk2
    rw [HT.out]
    refine' wpHX_val rfl (fun W hW => ?_) ?_
    rotate_left
    · have hcf := CF.out W hW; go_simp; rfl
    simp only [Act.put, List.setIfInBounds_toArray, List.set_cons_zero, List.set_cons_succ]
    refine' wpHX_val rfl (fun W hW => ?_) ?_
    rotate_left
    · have hcf := CF.out W hW; go_simp; rfl
    simp only [Act.put, List.setIfInBounds_toArray, List.set_cons_zero, List.set_cons_succ]
    refine' wpHX_val rfl (fun W hW => ?_) ?_
    rotate_left
    · have hcf := CF.out W hW; go_simp; rfl
    simp only [Act.put, List.setIfInBounds_toArray, List.set_cons_zero, List.set_cons_succ]
    refine' wpHX_val rfl (fun W hW => ?_) ?_
    rotate_left
    · have hcf := CF.out W hW; go_simp; rfl
    simp only [Act.put, List.setIfInBounds_toArray, List.set_cons_zero, List.set_cons_succ]
    refine' wpHX_val rfl (fun W hW => ?_) ?_
    rotate_left
    · have hcf := CF.out W hW; go_simp; rfl
    simp only [Act.put, List.setIfInBounds_toArray, List.set_cons_zero, List.set_cons_succ]
    refine wpHX_nil ?_
    go_wp2
    have CF4 : Hid (∀ W, Abv W1 W → W.cell? ⟨X, 0, none⟩ = some (.int .i64 (at_ : Int)) ∧ W.cell? ⟨X, 1, none⟩ = some (.int .i64 (mode : Int))) := fun W hW => ⟨(HSD.out.below hW).facts.1, (HSD.out.below hW).facts.2.1⟩
    obtain ⟨a2, ha2e⟩ : ∃ a2, a2 = at_ + wd := ⟨_, rfl⟩
    have hsum : IntKind.i64.wrap ((at_ : Int) + (wd : Int)) = (a2 : Int) := by rw [wr64 _ (by omega) (by omega)]; omega
    rw [← ha2e] at HR ha2
    have HA2 := Lib.hid ha2e
    clear ha2e
    have HWB : Hid (∀ W, Calls Tryd.prog 42 #[.int .i64 (mode : Int)] W fun e w' => e = .returned (.int .i64 (wd : Int)) ∧ Below W.heap.size W w') := fun W => by rw [HWD.out]; exact RWidth_bw mode W
    refine wp_region_S (S := Abv W1) 7 (by kernel_rfl) (by kernel_rfl) (bwDrew (Below.refl _ _)) ?_
    simp only [List.take_succ_cons, List.take_zero, List.drop_succ_cons, List.drop_zero]
    repeat
      refine' wpHS_val rfl (fun W hW => ?_) ?_
      rotate_left
      · have hcf := CF4.out W hW; go_simp; rfl
      simp only [Act.put, List.setIfInBounds_toArray, List.set_cons_zero, List.set_cons_succ]
    refine' wpHS_call rfl (fun W => ?_) (fun W hW => ?_) ?_
    rotate_left 3
    · go_simp; exact ⟨rfl, rfl⟩
    · exact (HWB.out W).mono (fun e W1 h => ⟨h.1, bwStep hW h.2⟩)
    simp only [Act.put, List.setIfInBounds_toArray, List.set_cons_zero, List.set_cons_succ]
    repeat
      refine' wpHS_val rfl (fun W hW => ?_) ?_
      rotate_left
      · have hcf := CF4.out W hW; go_simp; rfl
      simp only [Act.put, List.setIfInBounds_toArray, List.set_cons_zero, List.set_cons_succ]
    refine wpHS_nil ?_
    intro W2 hb1
    have HB2 := Lib.hid hb1
    clear hb1
    have HC2 := Lib.hid (HSD.out.below HB2.out)
    have HC3 : Hid (SCN n w wa (W2.setCell ⟨X, 0, none⟩ (.int .i64 (a2 : Int))) X Y a2 mode out Ao co) := HC2.out.setAt a2
    obtain ⟨f0, f1, f2, z0, z1, z2⟩ := HC2.out.facts
    clear CF4 CF HSD HWB HC2
    go_wp2_with fail
    clear f0 f1 f2 z0 z1 z2
    generalize W2.setCell ⟨X, 0, none⟩ (.int .i64 (a2 : Int)) = W3 at *
    refine (RBytes_any mode k hmd hk32 _).mono ?_
    rintro e W4 ⟨rfl, hb4⟩
    have HC4 := Lib.hid (HC3.out.below hb4)
    clear HC3 hb4
    obtain ⟨f0, f1, f2, z0, z1, z2⟩ := HC4.out.facts
    obtain ⟨kd, hkd⟩ : ∃ kd, kd = kindF mode k := ⟨_, rfl⟩
    obtain ⟨me, hme⟩ : ∃ me, me = modeF mode k := ⟨_, rfl⟩
    have hme5 : me < 5 := by rw [hme]; exact modeF_lt _ _
    have hkd5 : kd < 5 := by rw [hkd]; exact kindF_lt mode hmd k hk32
    have HKD := Lib.hid hkd
    have HME := Lib.hid hme
    by_cases k1 : kd = 1
    · have HBY : Hid (bytF mode k = charF mode k) := by show _ = _; unfold bytF; rw [← hkd, if_pos k1]
      have hte : (charF mode k).toList.isEmpty = false := by rw [← decide_eq_emptyBytes]; exact decide_eq_false (charF_ne mode hmd k hk32 (by omega))
      have hcs := charF_le_all mode hmd k hk32
      have HRR : Hid (stRes mode (b.drop at_) out = (0, b.drop a2, out ++ (charF mode k).data.toList, mode)) := by show _ = _; rw [HR.out]; unfold stK; rw [← hkd, if_pos k1]
      rw [HBY.out]
      clear hkd hme HR k1 HBY
      generalize charF mode k = tx at *
      go_wp2_with (first
        | (at_builtin; refine wpList_appendS HC4.out.O HC4.out.ge rfl _ _ rfl rfl tx rfl (by have := HOL.out; omega) (by omega) ?_; intro o2 A8 c8 W8 HO2 ho8 hg8; obtain ⟨g1, g2, hd8⟩ := HC4.out.grow hg8.out ho8.out; have HC8 := Lib.hid hd8; clear ho8 hg8 hd8)
        | ((with_reducible show wpList _ _ _ (⟨_, Op.load 77 _, _, _, _, _⟩ :: _) _ _); refine wpList_loadAgg rfl 77 _ rfl _ Tryd.underlying77 rfl ⟨X, 0, none⟩ (scC a2 mode A8 o2.length c8) scanSz rfl HC8.out.load ?_)
        | ((with_reducible show wpList _ _ _ (⟨_, Op.store 77 _ _, _, _, _, _⟩ :: _) _ _); refine wpList_storeAgg rfl 77 _ _ rfl 77 Y 0 _ (scC a2 mode A8 o2.length c8) rfl rfl HC8.out.yr scanSz (by show 3 ≤ 3; omega) (sc_one _ _ _ _ _) ?_))
      (try simp only [Exit.inBlock, Exit.then])
      refine bodyPost_ret (results_scan rfl _ _ Y (scC a2 mode A8 o2.length c8) _ (.int .i64 0) rfl rfl HC8.out.fin.1.cells Tryd.underlying77 rfl scanSz) rfl ?_
      exact ⟨a2, mode, o2.length, A8, c8, ⟨by rw [HRR.out], by rw [← HNB.out]; omega⟩, HC8.out.fin.2.1, fun _ => by rw [HRR.out, ← HO2.out]; exact ⟨by rw [← HNB.out]; omega, rfl, rfl, rfl, HC8.out.fin.2.2⟩⟩
    have HBY : Hid (bytF mode k = ByteArray.empty) := by show _ = _; unfold bytF; rw [← hkd, if_neg k1]
    have hem : ByteArray.empty.toList.isEmpty = true := by rw [← decide_eq_emptyBytes]; exact decide_eq_true rfl
    rw [HBY.out]
    by_cases k2 : kd = 2
    · have HLT : Hid (latF mode k = (me : Int)) := by show _ = _; unfold latF; rw [← hkd, if_pos k2, ← hme]
      have HRR : Hid (stRes mode (b.drop at_) out = (0, b.drop a2, out, me)) := by show _ = _; rw [HR.out]; unfold stK; rw [← hkd, if_neg k1, if_pos k2, ← hme]
      have HC5 : Hid (SCN n w wa (W4.setCell ⟨X, 1, none⟩ (.int .i64 (me : Int))) X Y a2 me out Ao co) := HC4.out.setMode me
      clear hkd hme HR k1 k2 HBY
      go_wp2_with (first
        | (go_at_call 45; refine (RLatch_any mode k hmd hk32 _).mono ?_; rintro e w6 ⟨rfl, hw6⟩; rw [hw6, HLT.out]; clear hw6)
        | ((with_reducible show wpList _ _ _ (⟨_, Op.load 77 _, _, _, _, _⟩ :: _) _ _); refine wpList_loadAgg rfl 77 _ rfl _ Tryd.underlying77 rfl ⟨X, 0, none⟩ (scC a2 me Ao out.length co) scanSz rfl HC5.out.load ?_)
        | ((with_reducible show wpList _ _ _ (⟨_, Op.store 77 _ _, _, _, _, _⟩ :: _) _ _); refine wpList_storeAgg rfl 77 _ _ rfl 77 Y 0 _ (scC a2 me Ao out.length co) rfl rfl HC5.out.yr scanSz (by show 3 ≤ 3; omega) (sc_one _ _ _ _ _) ?_))
      (try simp only [Exit.inBlock, Exit.then])
      refine bodyPost_ret (results_scan rfl _ _ Y (scC a2 me Ao out.length co) _ (.int .i64 0) rfl rfl HC5.out.fin.1.cells Tryd.underlying77 rfl scanSz) rfl ?_
      exact ⟨a2, me, out.length, Ao, co, ⟨by rw [HRR.out], by rw [← HNB.out]; omega⟩, HC5.out.fin.2.1, fun _ => by rw [HRR.out]; exact ⟨by rw [← HNB.out]; omega, rfl, rfl, rfl, HC5.out.fin.2.2⟩⟩
    have HLT : Hid (latF mode k = -1) := by show _ = _; unfold latF; rw [← hkd, if_neg k2]
    by_cases k3 : kd = 3
    · have HSH : Hid (shfF mode k = (me : Int)) := by show _ = _; unfold shfF; rw [← hkd, if_pos k3, ← hme]
      have h5 : widthN me = 5 := by rw [hme]; exact shift_five mode hmd k hk32 (by omega)
      have HRS : Hid (stRes mode (b.drop at_) out = ((shRes me (b.drop a2) out).1, (shRes me (b.drop a2) out).2.1, (shRes me (b.drop a2) out).2.2, mode)) := by show _ = _; rw [HR.out]; unfold stK; rw [← hkd, if_neg k1, if_neg k2, if_pos k3, ← hme]
      have HR5 : Hid (shRes me (b.drop a2) out = if (b.drop a2).length < 5 then (10, b.drop a2, out) else if kindF me (numF (b.drop a2) 0 5) = 1 then (0, b.drop (a2 + 5), out ++ (charF me (numF (b.drop a2) 0 5)).data.toList) else (22, b.drop (a2 + 5), out)) := by
        show _ = _
        unfold shRes
        rw [h5, List.drop_drop]
      clear hkd hme HR k1 k2 k3 HBY h5
      by_cases hl5 : (b.drop a2).length < 5
      · have HT5 : Hid (takeRes (b.drop a2) 0 5 = (0, 10)) := by show _ = _; unfold takeRes; rw [if_pos (by omega)]
        have HRR : Hid (stRes mode (b.drop at_) out = (10, b.drop a2, out, mode)) := by show _ = _; rw [HRS.out, HR5.out, if_pos hl5]
        clear hl5 HRS HR5
        go_wp2_with (first
          | (go_at_call 45; refine (RLatch_any mode k hmd hk32 _).mono ?_; rintro e w6 ⟨rfl, hw6⟩; rw [hw6, HLT.out]; clear hw6)
          | (go_at_call 46; refine (RShift_any mode k hmd hk32 _).mono ?_; rintro e w6 ⟨rfl, hw6⟩; rw [hw6, HSH.out]; clear hw6)
          | (go_at_call 52; refine (RTake_refI A nb cb b a2 5 _ 5 _ rfl rfl (HC4.out.sr HS.out) ha2 (by omega) hnb).mono ?_; rintro e w7 ⟨rfl, hw7⟩; rw [hw7, HT5.out]; clear hw7)
          | ((with_reducible show wpList _ _ _ (⟨_, Op.load 77 _, _, _, _, _⟩ :: _) _ _); refine wpList_loadAgg rfl 77 _ rfl _ Tryd.underlying77 rfl ⟨X, 0, none⟩ (scC a2 mode Ao out.length co) scanSz rfl HC4.out.load ?_)
          | ((with_reducible show wpList _ _ _ (⟨_, Op.store 77 _ _, _, _, _, _⟩ :: _) _ _); refine wpList_storeAgg rfl 77 _ _ rfl 77 Y 0 _ (scC a2 mode Ao out.length co) rfl rfl HC4.out.yr scanSz (by show 3 ≤ 3; omega) (sc_one _ _ _ _ _) ?_))
        (try simp only [Exit.inBlock, Exit.then])
        refine bodyPost_ret (results_scan rfl _ _ Y (scC a2 mode Ao out.length co) _ (.int .i64 10) rfl rfl HC4.out.fin.1.cells Tryd.underlying77 rfl scanSz) rfl ?_
        exact ⟨a2, mode, out.length, Ao, co, ⟨by rw [HRR.out], by rw [← HNB.out]; omega⟩, HC4.out.fin.2.1, fun h => by rw [HRR.out] at h; exact absurd h (by simp)⟩
      · obtain ⟨sv, hsv⟩ : ∃ sv, sv = numF (b.drop a2) 0 5 := ⟨_, rfl⟩
        have hs32 : sv < 32 := by rw [hsv]; exact numF_lt (b.drop a2) 0 5
        have HT5 : Hid (takeRes (b.drop a2) 0 5 = (((sv : Nat) : Int), 0)) := by show _ = _; unfold takeRes; rw [if_neg (by omega), hsv]
        have ha7 : a2 + 5 ≤ nb := by rw [List.length_drop, ← HNB.out] at hl5; omega
        rw [if_neg hl5, ← hsv] at HR5
        clear hl5 hsv
        by_cases c1 : kindF me sv = 1
        · have HBT : Hid (bytF me sv = charF me sv) := by show _ = _; unfold bytF; rw [if_pos c1]
          have hte : (charF me sv).toList.isEmpty = false := by rw [← decide_eq_emptyBytes]; exact decide_eq_false (charF_ne me hme5 sv hs32 c1)
          have hcs := charF_le_all me hme5 sv hs32
          have HRR : Hid (stRes mode (b.drop at_) out = (0, b.drop (a2 + 5), out ++ (charF me sv).data.toList, mode)) := by show _ = _; rw [HRS.out, HR5.out, if_pos c1]
          clear HRS HR5 c1
          have HBT2 : Hid (bytF me sv = charF me sv) := HBT.out
          generalize charF me sv = tx at *
          go_wp2_with (first
            | (go_at_call 45; refine (RLatch_any mode k hmd hk32 _).mono ?_; rintro e w6 ⟨rfl, hw6⟩; rw [hw6, HLT.out]; clear hw6)
            | (go_at_call 46; refine (RShift_any mode k hmd hk32 _).mono ?_; rintro e w6 ⟨rfl, hw6⟩; rw [hw6, HSH.out]; clear hw6)
            | (go_at_call 52; refine (RTake_refI A nb cb b a2 5 _ 5 _ rfl rfl (HC4.out.sr HS.out) ha2 (by omega) hnb).mono ?_; rintro e w7 ⟨rfl, hw7⟩; rw [hw7, HT5.out]; clear hw7)
            | (go_at_call 43; refine (RBytes_any me sv hme5 hs32 _).mono ?_; rintro e W9 ⟨rfl, hb9⟩; have HC9 := Lib.hid (HC4.out.below hb9); obtain ⟨y0, y1, y2, x0, x1, x2⟩ := HC9.out.facts; have HC10 : Hid (SCN n w wa (W9.setCell ⟨X, 0, none⟩ (.int .i64 ((a2 : Int) + 5))) X Y (a2 + 5) mode out Ao co) := (by have h := HC9.out.setAt (a2 + 5); rw [Int.natCast_add] at h; exact h); rw [HBT2.out]; clear hb9)
            | (at_builtin; refine wpList_appendS HC10.out.O HC10.out.ge rfl _ _ rfl rfl tx rfl (by have := HOL.out; omega) (by omega) ?_; intro o2 A8 c8 W8 HO2 ho8 hg8; obtain ⟨g1, g2, hd8⟩ := HC10.out.grow hg8.out ho8.out; have HC8 := Lib.hid hd8; clear ho8 hg8 hd8)
            | ((with_reducible show wpList _ _ _ (⟨_, Op.load 77 _, _, _, _, _⟩ :: _) _ _); refine wpList_loadAgg rfl 77 _ rfl _ Tryd.underlying77 rfl ⟨X, 0, none⟩ (scC (a2 + 5) mode A8 o2.length c8) scanSz rfl HC8.out.load ?_)
            | ((with_reducible show wpList _ _ _ (⟨_, Op.store 77 _ _, _, _, _, _⟩ :: _) _ _); refine wpList_storeAgg rfl 77 _ _ rfl 77 Y 0 _ (scC (a2 + 5) mode A8 o2.length c8) rfl rfl HC8.out.yr scanSz (by show 3 ≤ 3; omega) (sc_one _ _ _ _ _) ?_))
          (try simp only [Exit.inBlock, Exit.then])
          refine bodyPost_ret (results_scan rfl _ _ Y (scC (a2 + 5) mode A8 o2.length c8) _ (.int .i64 0) rfl rfl HC8.out.fin.1.cells Tryd.underlying77 rfl scanSz) rfl ?_
          exact ⟨(a2 + 5), mode, o2.length, A8, c8, ⟨by rw [HRR.out], by rw [← HNB.out]; omega⟩, HC8.out.fin.2.1, fun _ => by rw [HRR.out, ← HO2.out]; exact ⟨by rw [← HNB.out]; omega, rfl, rfl, rfl, HC8.out.fin.2.2⟩⟩
        · have HBT : Hid (bytF me sv = ByteArray.empty) := by show _ = _; unfold bytF; rw [if_neg c1]
          have HRR : Hid (stRes mode (b.drop at_) out = (22, b.drop (a2 + 5), out, mode)) := by show _ = _; rw [HRS.out, HR5.out, if_neg c1]
          clear HRS HR5 c1
          go_wp2_with (first
            | (go_at_call 45; refine (RLatch_any mode k hmd hk32 _).mono ?_; rintro e w6 ⟨rfl, hw6⟩; rw [hw6, HLT.out]; clear hw6)
            | (go_at_call 46; refine (RShift_any mode k hmd hk32 _).mono ?_; rintro e w6 ⟨rfl, hw6⟩; rw [hw6, HSH.out]; clear hw6)
            | (go_at_call 52; refine (RTake_refI A nb cb b a2 5 _ 5 _ rfl rfl (HC4.out.sr HS.out) ha2 (by omega) hnb).mono ?_; rintro e w7 ⟨rfl, hw7⟩; rw [hw7, HT5.out]; clear hw7)
            | (go_at_call 43; refine (RBytes_any me sv hme5 hs32 _).mono ?_; rintro e W9 ⟨rfl, hb9⟩; have HC9 := Lib.hid (HC4.out.below hb9); obtain ⟨y0, y1, y2, x0, x1, x2⟩ := HC9.out.facts; rw [HBT.out]; clear hb9)
            | ((with_reducible show wpList _ _ _ (⟨_, Op.load 77 _, _, _, _, _⟩ :: _) _ _); refine wpList_loadAgg rfl 77 _ rfl _ Tryd.underlying77 rfl ⟨X, 0, none⟩ (scC a2 mode Ao out.length co) scanSz rfl HC9.out.load ?_)
            | ((with_reducible show wpList _ _ _ (⟨_, Op.store 77 _ _, _, _, _, _⟩ :: _) _ _); refine wpList_storeAgg rfl 77 _ _ rfl 77 Y 0 _ (scC a2 mode Ao out.length co) rfl rfl HC9.out.yr scanSz (by show 3 ≤ 3; omega) (sc_one _ _ _ _ _) ?_))
          (try simp only [Exit.inBlock, Exit.then])
          refine bodyPost_ret (results_scan rfl _ _ Y (scC a2 mode Ao out.length co) _ (.int .i64 22) rfl rfl HC9.out.fin.1.cells Tryd.underlying77 rfl scanSz) rfl ?_
          exact ⟨a2, mode, out.length, Ao, co, ⟨by rw [HRR.out], by rw [← HNB.out]; omega⟩, HC9.out.fin.2.1, fun h => by rw [HRR.out] at h; exact absurd h (by simp)⟩
    have HSH : Hid (shfF mode k = -1) := by show _ = _; unfold shfF; rw [← hkd, if_neg k3]
    by_cases k4 : kd = 4
    · have hm3 : ((mode : Int) == 3) = false := by rw [beq_eq_false_iff_ne]; have := kind4_mode mode hmd k hk32 (by omega); omega
      have HRR : Hid (stRes mode (b.drop at_) out = ((biRes (b.drop a2) out).1, (biRes (b.drop a2) out).2.1, (biRes (b.drop a2) out).2.2, mode)) := by show _ = _; rw [HR.out]; unfold stK; rw [← hkd, if_neg k1, if_neg k2, if_neg k3, if_pos k4]
      clear hkd hme HR k1 k2 k3 k4 HBY
      have HBI : Hid (Calls Tryd.prog 53 #[.slice A nb cb, .agg #[.int .i64 (a2 : Int), .int .i64 (mode : Int), .slice Ao out.length co]] W4 (ScanRes n w W4 b (stRes mode (b.drop at_) out))) := by
        show Calls _ _ _ _ _
        rw [HRR.out]
        exact RBinary_ref n w W4 A nb cb b a2 mode out Ao co HS.out HC4.out.B HC4.out.O HC4.out.n2 ha2 hnb (by have := HOL.out; omega)
      go_wp2_with (first
        | (go_at_call 45; refine (RLatch_any mode k hmd hk32 _).mono ?_; rintro e w6 ⟨rfl, hw6⟩; rw [hw6, HLT.out]; clear hw6)
        | (go_at_call 46; refine (RShift_any mode k hmd hk32 _).mono ?_; rintro e w6 ⟨rfl, hw6⟩; rw [hw6, HSH.out]; clear hw6)
        | ((with_reducible show wpList _ _ _ (⟨_, Op.load 77 _, _, _, _, _⟩ :: _) _ _); refine wpList_loadAgg rfl 77 _ rfl _ Tryd.underlying77 rfl ⟨X, 0, none⟩ (scC a2 mode Ao out.length co) scanSz rfl HC4.out.load ?_)
        | (go_at_call 53; refine HBI.out.mono ?_; rintro e W9 ⟨t2, m2, n2, A2, c2, ⟨rfl, hat9⟩, ⟨hB9, hK9⟩, hp9⟩; have HY9 : Hid (RowIs W9 Y (scC 0 0 none 0 0).toArray 77) := HC4.out.yr.kp hK9 rfl; have HB9 := Lib.hid hB9; have HK9 := Lib.hid hK9; have HP9 := Lib.hid hp9; clear hB9 hK9 hp9)
        | ((with_reducible show wpList _ _ _ (⟨_, Op.store 77 _ _, _, _, _, _⟩ :: _) _ _); refine wpList_storeAgg rfl 77 _ _ rfl 77 Y 0 _ (scC t2 m2 A2 n2 c2) rfl rfl HY9.out scanSz (by show 3 ≤ 3; omega) (sc_one _ _ _ _ _) ?_))
      (try simp only [Exit.inBlock, Exit.then])
      rw [splice_all _ (scC t2 m2 A2 n2 c2) (by rfl)]
      refine bodyPost_ret (results_scan rfl _ _ Y (scC t2 m2 A2 n2 c2) _ (.int .i64 (stRes mode (b.drop at_) out).1) rfl rfl (HY9.out.set (scC t2 m2 A2 n2 c2).toArray).cells Tryd.underlying77 rfl scanSz) rfl ?_
      refine ⟨t2, m2, n2, A2, c2, ⟨rfl, hat9⟩, ⟨below_setRow HB9.out HC4.out.nY _, (HC4.out.K.trans HK9.out).setRow _ HC4.out.n1.2 _⟩, fun h => ?_⟩
      obtain ⟨p1, p2, p3, p4, p5⟩ := HP9.out h
      refine ⟨p1, p2, p3, p4, p5.1, ?_⟩
      rcases p5.2 with h2 | ⟨g, cap, cur, h1, h2, h3, h4⟩
      · exact .inl h2
      · refine .inr ⟨g, cap, cur, h1, h2, ?_, h4⟩
        have hne : g ≠ Y := fun e => Tag.ne (⟨cur, h3⟩ : Tag W9 g 5) HY9.out.tag (by decide) e
        exact (setRow_other W9 Y g _ hne).trans h3
    · have hm3 : mode = 3 := kind0_mode mode hmd k hk32 (by omega) (by have := HK2.out; rw [HWD.out] at this; exact this)
      have HRR : Hid (stRes mode (b.drop at_) out = (22, b.drop a2, out, mode)) := by show _ = _; rw [HR.out]; unfold stK; rw [← hkd, if_neg k1, if_neg k2, if_neg k3, if_neg k4]
      have hm3b : ((mode : Int) == 3) = true := by rw [beq_iff_eq]; omega
      clear hkd hme HR k1 k2 k3 k4 HBY hm3
      go_wp2_with (first
        | (go_at_call 45; refine (RLatch_any mode k hmd hk32 _).mono ?_; rintro e w6 ⟨rfl, hw6⟩; rw [hw6, HLT.out]; clear hw6)
        | (go_at_call 46; refine (RShift_any mode k hmd hk32 _).mono ?_; rintro e w6 ⟨rfl, hw6⟩; rw [hw6, HSH.out]; clear hw6)
        | ((with_reducible show wpList _ _ _ (⟨_, Op.load 77 _, _, _, _, _⟩ :: _) _ _); refine wpList_loadAgg rfl 77 _ rfl _ Tryd.underlying77 rfl ⟨X, 0, none⟩ (scC a2 mode Ao out.length co) scanSz rfl HC4.out.load ?_)
        | ((with_reducible show wpList _ _ _ (⟨_, Op.store 77 _ _, _, _, _, _⟩ :: _) _ _); refine wpList_storeAgg rfl 77 _ _ rfl 77 Y 0 _ (scC a2 mode Ao out.length co) rfl rfl HC4.out.yr scanSz (by show 3 ≤ 3; omega) (sc_one _ _ _ _ _) ?_))
      (try simp only [Exit.inBlock, Exit.then])
      refine bodyPost_ret (results_scan rfl _ _ Y (scC a2 mode Ao out.length co) _ (.int .i64 22) rfl rfl HC4.out.fin.1.cells Tryd.underlying77 rfl scanSz) rfl ?_
      exact ⟨a2, mode, out.length, Ao, co, ⟨by rw [HRR.out], by rw [← HNB.out]; omega⟩, HC4.out.fin.2.1, fun h => by rw [HRR.out] at h; exact absurd h (by simp)⟩
end Go.Proofs.YtplppbfnlfehnaaDoor
