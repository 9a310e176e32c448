import Derived.Test.YtplppbfnlfehnaaDoorAztM
namespace Go.Proofs.YtplppbfnlfehnaaDoor
open Go.RowKit
set_option linter.unusedVariables false
set_option maxRecDepth 100000 in
set_option maxHeartbeats 4000000 in
theorem options_any (at_ m : Nat) (w : World) (sb cb cap hb : Nat) (p : ByteArray) (C : Nat → Nat → Nat) (h : SW w sb cb cap hb p C) (ha : at_ < p.size) (hm : m < 5) :
    Calls Tryd.prog 54 #[.pointer (some ⟨sb, 0, none⟩), .agg #[.int .i64 (at_ : Int), .int .i64 (m : Int)]] w
      fun e w' => ∃ v, e = .returned v ∧ OGO w w' v (optK C p at_ m 32) := by
  have hp := h.hp
  have HS := Lib.hid h
  have hm3 : (m : Int) < 5 := by omega
  have ha2 : at_ ≤ 4096 := by omega
  have ha4 : at_ ≤ p.size := by omega
  have HF : Hid (CellsAt (w.alloc (.cells #[.int .i64 (at_ : Int), .int .i64 (m : Int)] 85)) w.heap.size [.int .i64 (at_ : Int), .int .i64 (m : Int)]) := CellsAt.new w #[.int .i64 (at_ : Int), .int .i64 (m : Int)] _ _ rfl
  have HS1 : Hid (SW (w.alloc (.cells #[.int .i64 (at_ : Int), .int .i64 (m : Int)] 85)) sb cb cap hb p C) := h.below (bwA _ _)
  have HB1 : Hid (Abv w (w.alloc (.cells #[.int .i64 (at_ : Int), .int .i64 (m : Int)] 85))) := bwA _ _
  clear h HS
  go_enter Tryd.func54, Tryd.ntmps54
  go_wp2
  generalize w.alloc (.cells #[.int .i64 (at_ : Int), .int .i64 (m : Int)] 85) = w1 at *
  have CF : Hid (∀ W, Abv w1 W → W.cell? ⟨sb, 0, none⟩ = some (.string p) ∧ W.cell? ⟨w.heap.size, 0, none⟩ = some (.int .i64 (at_ : Int)) ∧ W.cell? ⟨w.heap.size, 1, none⟩ = some (.int .i64 (m : Int))) := by
    show ∀ W, _
    intro W hW
    have h9 := HF.out.below hW
    exact ⟨(HS1.out.below hW).c0, h9.2 0 (by simp), h9.2 1 (by simp)⟩
  refine wp_region_W (S := Abv w1) [(false, 0), (false, 1), (false, 2), (false, 3), (false, 4), (false, 5), (false, 6), (false, 7)] (by kernel_rfl) (by kernel_rfl) (bwDrew (Below.refl _ _)) ?_
  simp only [attachW, List.getElem?_cons_zero, List.getElem?_cons_succ]
  repeat
    refine' wpHX_val rfl (fun W hW => ?_) ?_
    rotate_left
    · have hcf := CF.out W hW; go_simp; rfl
    simp only [Act.put, List.setIfInBounds_toArray, List.set_cons_zero, List.set_cons_succ]
  refine wpHX_nil ?_
  have f0 := (CF.out w1.drew (bwDrew (Below.refl _ _))).2.2
  go_wp2_with (go_at_call 41; refine (numberBits_any m _).mono ?_; rintro e w' ⟨rfl, hw'⟩; rw [hw']; clear hw')
  have CF2 : Hid (∀ W, Abv w1.drew W → W.cell? ⟨sb, 0, none⟩ = some (.string p) ∧ W.cell? ⟨w.heap.size, 0, none⟩ = some (.int .i64 (at_ : Int)) ∧ W.cell? ⟨w.heap.size, 1, none⟩ = some (.int .i64 (m : Int))) := fun W hW => CF.out W (bwStep (bwDrew (Below.refl _ _)) hW)
  have HS2 : Hid (SW w1.drew sb cb cap hb p C) := HS1.out.below (bwDrew (Below.refl _ _))
  have HB2 : Hid (Abv w w1.drew) := bwDrew HB1.out
  have HF2 : Hid (CellsAt w1.drew w.heap.size [.int .i64 (at_ : Int), .int .i64 (m : Int)]) := HF.out.below (bwDrew (Below.refl _ _))
  clear HF HS1 HB1 CF f0
  generalize w1.drew = w2 at *
  refine wp_region_W (S := Abv w2) [(false, 0), (false, 1), (false, 2), (false, 3), (false, 4), (false, 5), (false, 6), (false, 7)] (by kernel_rfl) (by kernel_rfl) (bwDrew (Below.refl _ _)) ?_
  simp only [attachW, List.getElem?_cons_zero, List.getElem?_cons_succ]
  refine' wpHX_val rfl (fun W hW => ?_) ?_
  rotate_left
  · have hcf := CF2.out W hW; go_simp; rfl
  simp only [Act.put, List.setIfInBounds_toArray, List.set_cons_zero, List.set_cons_succ]
  refine' wpHX_val rfl (fun W hW => ?_) ?_
  rotate_left
  · have hcf := CF2.out W hW; go_simp; rfl
  simp only [Act.put, List.setIfInBounds_toArray, List.set_cons_zero, List.set_cons_succ]
  refine' wpHX_val rfl (fun W hW => ?_) ?_
  rotate_left
  · have hcf := CF2.out W hW; go_simp; rfl
  simp only [Act.put, List.setIfInBounds_toArray, List.set_cons_zero, List.set_cons_succ]
  refine' wpHX_val rfl (fun W hW => ?_) ?_
  rotate_left
  · have hcf := CF2.out W hW; go_simp; rfl
  simp only [Act.put, List.setIfInBounds_toArray, List.set_cons_zero, List.set_cons_succ]
  refine' wpHX_val rfl (fun W hW => ?_) ?_
  rotate_left
  · have hcf := CF2.out W hW; go_simp; rfl
  simp only [Act.put, List.setIfInBounds_toArray, List.set_cons_zero, List.set_cons_succ]
  refine' wpHX_val rfl (fun W hW => ?_) ?_
  rotate_left
  · have hcf := CF2.out W hW; go_simp; rfl
  simp only [Act.put, List.setIfInBounds_toArray, List.set_cons_zero, List.set_cons_succ]
  refine' wpHX_val rfl (fun W hW => exec_loadRow (HS2.out.below hW) rfl _ m rfl (by omega) hm) ?_
  simp only [Act.put, List.setIfInBounds_toArray, List.set_cons_zero, List.set_cons_succ]
  repeat
    refine' wpHX_val rfl (fun W hW => ?_) ?_
    rotate_left
    · have hcf := CF2.out W hW; go_simp; rfl
    simp only [Act.put, List.setIfInBounds_toArray, List.set_cons_zero, List.set_cons_succ]
  refine wpHX_nil ?_
  have HS3 : Hid (SW w2.drew sb cb cap hb p C) := HS2.out.below (bwDrew (Below.refl _ _))
  have HB3 : Hid (Abv w w2.drew) := bwDrew HB2.out
  have HF3 : Hid (CellsAt w2.drew w.heap.size [.int .i64 (at_ : Int), .int .i64 (m : Int)]) := HF2.out.below (bwDrew (Below.refl _ _))
  have CF3 : Hid (∀ W, Abv w2.drew W → W.cell? ⟨w.heap.size, 0, none⟩ = some (.int .i64 (at_ : Int)) ∧ W.cell? ⟨w.heap.size, 1, none⟩ = some (.int .i64 (m : Int))) := fun W hW => (CF2.out W (bwStep (bwDrew (Below.refl _ _)) hW)).2
  have CF3c : Hid (∀ W, Abv w2.drew W → CellsAt W w.heap.size [.int .i64 (at_ : Int), .int .i64 (m : Int)]) := fun W hW => HF3.out.below hW
  have HX3 : Hid (w.heap.size < w2.drew.heap.size) := World.block_lt_of_cell? _ _ (CF3.out w2.drew (Below.refl _ _)).1
  clear HS2 HB2 CF2 HF2 HF3
  generalize w2.drew = w3 at *
  obtain ⟨tb, HTB⟩ : ∃ tb, Hid (tb = (rowF m).toArray) := ⟨_, rfl⟩
  rw [← HTB.out]
  obtain ⟨q, HQ⟩ : ∃ q, Hid (q = p.extract at_ p.size) := ⟨_, rfl⟩
  rw [← HQ.out]
  go_wp2
  go_loopw [5, 31] (fun ov iv wr => ∃ k : Nat, k ≤ 32 ∧ iv = .int .i64 k ∧ Hid (OGO w3 wr ov (optK C p at_ m k))) (fun _ iv _ => 32 - (intOf iv).toNat)
  case atStart => exact ⟨0, Nat.zero_le _, rfl, OGO.start _ _ (Below.refl _ _)⟩
  case round =>
    obtain ⟨k, hk, rfl, hO⟩ := hrel
    by_cases hlt : k < 32
    · have HE : Hid (tb.extract (k * 3) (k * 3 + 3) = (ent m k).toArray) := by show _ = _; rw [HTB.out]; exact row_ent m k hlt
      have HK : Hid (optK C p at_ m (k + 1) = optK C p at_ m k ++ optN C p at_ m k) := rfl
      have HN : Hid (optN C p at_ m k = if kindF m k = 1 then (if preB p at_ (charF m k) = true then [⟨k, -1, 0, false, widthN m, at_ + (charF m k).size, m⟩] else [])
          else if kindF m k = 2 then [⟨k, -1, 0, false, widthN m, at_, modeF m k⟩]
          else if kindF m k = 3 then optSK p at_ m k (modeF m k) 32
          else if kindF m k = 4 then [binOpt C k at_ m (p.size - at_)]
          else []) := rfl
      have HL := Lib.hid (optK_len C p at_ m k)
      have hcs := charF_le_all m hm k hlt
      have hml := modeF_lt m k
      obtain ⟨f1, f2⟩ := CF3.out wr hO.out.B
      have f3 : w.heap.size < wr.heap.size := World.block_lt_of_cell? _ _ f1
      obtain ⟨kd, hkd⟩ : ∃ kd, kd = kindF m k := ⟨_, rfl⟩
      obtain ⟨md, hmd⟩ : ∃ md, md = modeF m k := ⟨_, rfl⟩
      obtain ⟨tx, htx⟩ : ∃ tx, tx = charF m k := ⟨_, rfl⟩
      rw [← hkd, ← hmd, ← htx] at HN
      unfold ent at HE
      rw [← hkd, ← hmd, ← htx] at HE
      rw [← hmd] at hml
      rw [← htx] at hcs
      clear hkd hmd htx
      by_cases k1 : kd = 1
      · subst k1
        cases hpr : preB p at_ tx with
        | true =>
          obtain ⟨no, hno⟩ : ∃ no : Opt, no = ⟨k, -1, 0, false, widthN m, at_ + tx.size, m⟩ := ⟨_, rfl⟩
          have HNO := Lib.hid hno
          have HR : Hid (optK C p at_ m (k + 1) = optK C p at_ m k ++ [no]) := by show _ = _; rw [HK.out, HN.out, if_pos rfl, hpr, if_pos rfl, hno]
          have HPR : Hid (Lib.hasPrefix q.data.toList tx.data.toList = true) := by show _ = _; rw [HQ.out]; exact hpr
          have hw : IntKind.i64.wrap ((at_ : Int) + (tx.size : Int)) = ((at_ + tx.size : Nat) : Int) := by rw [wr64 _ (by omega) (by omega)]; omega
          clear hpr HK HN HS3 hno
          go_wp2_with (first
            | (go_at_call 60; refine (Tryd.strings_HasPrefix _ _ _).mono ?_; rintro e w' ⟨rfl, hw'⟩; rw [hw', HPR.out]; clear hw')
            | (with_reducible show wpList _ _ _ (⟨_, Op.index 63 _ _, _, _, _, _⟩ :: _) _ _; refine wpList_indexAgg rfl 63 _ _ rfl 32 62 Tryd.underlying63 _ Tryd.underlying62 rfl 3 meanSz tb .i64 k k rfl rfl rfl hlt _ HE.out ?_)
            | (with_reducible show wpList _ _ _ (⟨_, Op.alloc 62, _, _, _, _⟩ :: _) _ _; refine wpList_allocAgg rfl 62 rfl _ meanInfo ?_)
            | (with_reducible show wpList _ _ _ (⟨_, Op.alloc 85, _, _, _, _⟩ :: _) _ _; refine wpList_allocAgg rfl 85 rfl _ stateInfo ?_)
            | (with_reducible show wpList _ _ _ (⟨_, Op.store 62 _ _, _, _, _, _⟩ :: _) _ _; refine wpList_storeNew rfl 62 _ _ rfl 62 _ _ rfl rfl meanSz rfl (mc_one _ _ _) ?_)
            | (with_reducible show wpList _ _ _ (⟨_, Op.store 85 _ _, _, _, _, _⟩ :: _) _ _; refine wpList_storeNew rfl 85 _ _ rfl 85 _ [_, _] rfl rfl stateSz rfl (state_one _ _) ?_)
            | (with_reducible show wpList _ _ _ (⟨_, Op.load 85 _, _, _, _, _⟩ :: _) _ _; refine wpList_loadAgg rfl 85 _ rfl _ Tryd.underlying85 rfl _ [_, _] stateSz rfl (load_cells (CellsAt.new _ #[_, _] _ _ (by simp))) ?_)
            | (at_builtin; refine wpList_append_opt hO.out (bwAlloc (bwAlloc (bwA _ _) _) _) rfl _ _ rfl rfl _ _ no (by rfl) (by rw [HNO.out]; exact new_opt _ ⟨k, -1, 0, false, widthN m, at_ + tx.size, m⟩ _ _ (by simp)) (by have := HL.out; omega) ?_; intro v5 w5 HP))
          exact ⟨⟨k + 1, by omega, by go_num, by rw [HR.out]; exact HP.out⟩, by simp [intOf]; omega⟩
        | false => 
          have HR : Hid (optK C p at_ m (k + 1) = optK C p at_ m k) := by show _ = _; rw [HK.out, HN.out, if_pos rfl, hpr, if_neg (by simp), List.append_nil]
          have HPR : Hid (Lib.hasPrefix q.data.toList tx.data.toList = false) := by show _ = _; rw [HQ.out]; exact hpr
          clear hpr HK HN HS3
          go_wp2_with (first
            | (go_at_call 60; refine (Tryd.strings_HasPrefix _ _ _).mono ?_; rintro e w' ⟨rfl, hw'⟩; rw [hw', HPR.out]; clear hw')
            | (with_reducible show wpList _ _ _ (⟨_, Op.index 63 _ _, _, _, _, _⟩ :: _) _ _; refine wpList_indexAgg rfl 63 _ _ rfl 32 62 Tryd.underlying63 _ Tryd.underlying62 rfl 3 meanSz tb .i64 k k rfl rfl rfl hlt _ HE.out ?_)
            | (with_reducible show wpList _ _ _ (⟨_, Op.alloc 62, _, _, _, _⟩ :: _) _ _; refine wpList_allocAgg rfl 62 rfl _ meanInfo ?_)
            | (with_reducible show wpList _ _ _ (⟨_, Op.store 62 _ _, _, _, _, _⟩ :: _) _ _; refine wpList_storeNew rfl 62 _ _ rfl 62 _ _ rfl rfl meanSz rfl (mc_one _ _ _) ?_))
          exact ⟨⟨k + 1, by omega, by go_num, by rw [HR.out]; exact hO.out.below (bwA _ _)⟩, by simp [intOf]; omega⟩
      have z1 : ((kd : Int) == 1) = false := by rw [beq_eq_false_iff_ne]; omega
      by_cases k2 : kd = 2
      · subst k2
        obtain ⟨no, hno⟩ : ∃ no : Opt, no = ⟨k, -1, 0, false, widthN m, at_, md⟩ := ⟨_, rfl⟩
        have HNO := Lib.hid hno
        have HR : Hid (optK C p at_ m (k + 1) = optK C p at_ m k ++ [no]) := by show _ = _; rw [HK.out, HN.out, if_neg (by omega), if_pos rfl, hno]
        clear HK HN HS3 hno
        go_wp2_with (first
            | (with_reducible show wpList _ _ _ (⟨_, Op.index 63 _ _, _, _, _, _⟩ :: _) _ _; refine wpList_indexAgg rfl 63 _ _ rfl 32 62 Tryd.underlying63 _ Tryd.underlying62 rfl 3 meanSz tb .i64 k k rfl rfl rfl hlt _ HE.out ?_)
            | (with_reducible show wpList _ _ _ (⟨_, Op.alloc 62, _, _, _, _⟩ :: _) _ _; refine wpList_allocAgg rfl 62 rfl _ meanInfo ?_)
            | (with_reducible show wpList _ _ _ (⟨_, Op.store 62 _ _, _, _, _, _⟩ :: _) _ _; refine wpList_storeNew rfl 62 _ _ rfl 62 _ _ rfl rfl meanSz rfl (mc_one _ _ _) ?_)
            | (at_builtin; refine wpList_append_opt hO.out (bwAlloc (bwA _ _) _) rfl _ _ rfl rfl _ _ no (by rfl) (by rw [HNO.out]; exact new_opt _ ⟨k, -1, 0, false, widthN m, at_, md⟩ _ _ (by simp)) (by have := HL.out; omega) ?_; intro v5 w5 HP))
        exact ⟨⟨k + 1, by omega, by go_num, by rw [HR.out]; exact HP.out⟩, by simp [intOf]; omega⟩
      have z2 : ((kd : Int) == 2) = false := by rw [beq_eq_false_iff_ne]; omega
      by_cases k3 : kd = 3
      · subst k3
        have HR : Hid (optK C p at_ m (k + 1) = optK C p at_ m k ++ optSK p at_ m k md 32) := by show _ = _; rw [HK.out, HN.out, if_neg (by omega), if_neg (by omega), if_pos rfl]
        have HS5 : Hid (SW (wr.alloc (.cells #[.int .i64 3, .int .i64 (md : Int), .string tx] 62)) sb cb cap hb p C) := (HS3.out.below hO.out.B).below (bwA _ _)
        have HC9 : Hid (CellsAt (wr.alloc (.cells #[.int .i64 3, .int .i64 (md : Int), .string tx] 62)) wr.heap.size [.int .i64 3, .int .i64 (md : Int), .string tx]) := CellsAt.new _ #[.int .i64 3, .int .i64 (md : Int), .string tx] _ _ rfl
        have HO9 : Hid (OGO w3 (wr.alloc (.cells #[.int .i64 3, .int .i64 (md : Int), .string tx] 62)) u5 (optK C p at_ m k)) := hO.out.below (bwA _ _)
        have HNE : Hid (∀ q, u5.ownBlock = some q → q ≠ wr.heap.size) := fun q hq => by have := (hO.out.O.lt q hq).2; omega
        clear HK HN HS3 hO
        go_wp2_with (first
            | (with_reducible show wpList _ _ _ (⟨_, Op.index 63 _ _, _, _, _, _⟩ :: _) _ _; refine wpList_indexAgg rfl 63 _ _ rfl 32 62 Tryd.underlying63 _ Tryd.underlying62 rfl 3 meanSz tb .i64 k k rfl rfl rfl hlt _ HE.out ?_)
            | (with_reducible show wpList _ _ _ (⟨_, Op.alloc 62, _, _, _, _⟩ :: _) _ _; refine wpList_allocAgg rfl 62 rfl _ meanInfo ?_)
            | (with_reducible show wpList _ _ _ (⟨_, Op.store 62 _ _, _, _, _, _⟩ :: _) _ _; refine wpList_storeNew rfl 62 _ _ rfl 62 _ _ rfl rfl meanSz rfl (mc_one _ _ _) ?_))
        generalize wr.alloc (.cells #[.int .i64 3, .int .i64 (md : Int), .string tx] 62) = w5 at *
        generalize wr.heap.size = b9 at *
        have CF5 : Hid (∀ W, Abv w5 W → W.cell? ⟨b9, 1, none⟩ = some (.int .i64 (md : Int))) := fun W hW => (HC9.out.below hW).2 1 (by simp)
        have hml3 : (md : Int) < 5 := by omega
        refine wp_region_W (S := Abv w5) [(false, 0), (false, 1), (false, 2), (false, 3), (false, 4), (false, 5), (false, 6), (false, 7)] (by kernel_rfl) (by kernel_rfl) (bwDrew (Below.refl _ _)) ?_
        simp only [attachW, List.getElem?_cons_zero, List.getElem?_cons_succ]
        refine' wpHX_val rfl (fun W hW => ?_) ?_
        rotate_left
        · have hcf := CF5.out W hW; go_simp; rfl
        simp only [Act.put, List.setIfInBounds_toArray, List.set_cons_zero, List.set_cons_succ]
        refine' wpHX_val rfl (fun W hW => ?_) ?_
        rotate_left
        · have hcf := CF5.out W hW; go_simp; rfl
        simp only [Act.put, List.setIfInBounds_toArray, List.set_cons_zero, List.set_cons_succ]
        refine' wpHX_val rfl (fun W hW => ?_) ?_
        rotate_left
        · have hcf := CF5.out W hW; go_simp; rfl
        simp only [Act.put, List.setIfInBounds_toArray, List.set_cons_zero, List.set_cons_succ]
        refine' wpHX_val rfl (fun W hW => ?_) ?_
        rotate_left
        · have hcf := CF5.out W hW; go_simp; rfl
        simp only [Act.put, List.setIfInBounds_toArray, List.set_cons_zero, List.set_cons_succ]
        refine' wpHX_val rfl (fun W hW => ?_) ?_
        rotate_left
        · have hcf := CF5.out W hW; go_simp; rfl
        simp only [Act.put, List.setIfInBounds_toArray, List.set_cons_zero, List.set_cons_succ]
        refine' wpHX_val rfl (fun W hW => ?_) ?_
        rotate_left
        · have hcf := CF5.out W hW; go_simp; rfl
        simp only [Act.put, List.setIfInBounds_toArray, List.set_cons_zero, List.set_cons_succ]
        refine' wpHX_val rfl (fun W hW => exec_loadRow (HS5.out.below hW) rfl _ md rfl (by omega) hml) ?_
        simp only [Act.put, List.setIfInBounds_toArray, List.set_cons_zero, List.set_cons_succ]
        repeat
          refine' wpHX_val rfl (fun W hW => ?_) ?_
          rotate_left
          · have hcf := CF5.out W hW; go_simp; rfl
          simp only [Act.put, List.setIfInBounds_toArray, List.set_cons_zero, List.set_cons_succ]
        refine wpHX_nil ?_
        have HC10 : Hid (CellsAt w5.drew b9 [.int .i64 3, .int .i64 (md : Int), .string tx]) := HC9.out.below (bwDrew (Below.refl _ _))
        have HO10 : Hid (OGO w3 w5.drew u5 (optK C p at_ m k)) := HO9.out.below (bwDrew (Below.refl _ _))
        clear HS5 HC9 HO9 CF5
        generalize w5.drew = w6 at *
        obtain ⟨tr, HTR⟩ : ∃ tr, Hid (tr = (rowF md).toArray) := ⟨_, rfl⟩
        rw [← HTR.out]
        go_wp2
        go_loopw [5, 81] (fun ov iv wr => ∃ j : Nat, j ≤ 32 ∧ iv = .int .i64 j ∧ Hid (OGO w3 wr ov (optK C p at_ m k ++ optSK p at_ m k md j)) ∧ Hid (CellsAt wr b9 [.int .i64 3, .int .i64 (md : Int), .string tx]) ∧ Hid (∀ q, ov.ownBlock = some q → q ≠ b9)) (fun _ iv _ => 32 - (intOf iv).toNat)
        case atStart => exact ⟨0, Nat.zero_le _, rfl, by show OGO _ _ _ _; rw [show optSK p at_ m k md 0 = [] from rfl, List.append_nil]; exact HO10.out, HC10.out, HNE.out⟩
        case round =>
          clear HO10 HC10 HNE f1 f2 f3
          obtain ⟨j, hj, rfl, hO, hC, hNE⟩ := hrel
          by_cases hlt2 : j < 32
          · have HE2 : Hid (tr.extract (j * 3) (j * 3 + 3) = (ent md j).toArray) := by show _ = _; rw [HTR.out]; exact row_ent md j hlt2
            have HK2 : Hid (optSK p at_ m k md (j + 1) = optSK p at_ m k md j ++ optS p at_ m k md j) := rfl
            have HN2 : Hid (optS p at_ m k md j = if kindF md j = 1 ∧ preB p at_ (charF md j) = true then [⟨k, (j : Int), 0, false, widthN m + widthN md, at_ + (charF md j).size, m⟩] else []) := rfl
            have HL2 := Lib.hid (optSK_len p at_ m k md j)
            have hcs2 := charF_le_all md hml j hlt2
            obtain ⟨f1, f2⟩ := CF3.out wr hO.out.B
            have f3 : w.heap.size < wr.heap.size := World.block_lt_of_cell? _ _ f1
            obtain ⟨kd, hkd⟩ : ∃ kd, kd = kindF md j := ⟨_, rfl⟩
            obtain ⟨me, hme⟩ : ∃ me, me = modeF md j := ⟨_, rfl⟩
            obtain ⟨ty, hty⟩ : ∃ ty, ty = charF md j := ⟨_, rfl⟩
            rw [← hkd, ← hty] at HN2
            unfold ent at HE2
            rw [← hkd, ← hme, ← hty] at HE2
            rw [← hty] at hcs2
            clear hkd hme hty
            by_cases k1 : kd = 1
            · subst k1
              cases hpr : preB p at_ ty with
              | true =>
                obtain ⟨no, hno⟩ : ∃ no : Opt, no = ⟨k, (j : Int), 0, false, widthN m + widthN md, at_ + ty.size, m⟩ := ⟨_, rfl⟩
                have HNO := Lib.hid hno
                have HR2 : Hid (optSK p at_ m k md (j + 1) = optSK p at_ m k md j ++ [no]) := by show _ = _; rw [HK2.out, HN2.out, if_pos ⟨rfl, hpr⟩, hno]
                have HPR : Hid (Lib.hasPrefix q.data.toList ty.data.toList = true) := by show _ = _; rw [HQ.out]; exact hpr
                have hw : IntKind.i64.wrap ((at_ : Int) + (ty.size : Int)) = ((at_ + ty.size : Nat) : Int) := by rw [wr64 _ (by omega) (by omega)]; omega
                have hwz : IntKind.i64.wrap ((widthN m : Int) + (widthN md : Int)) = ((widthN m + widthN md : Nat) : Int) := by have := widthN_le m; have := widthN_le md; rw [wr64 _ (by omega) (by omega)]; omega
                have HHL : Hid ((optK C p at_ m k ++ optSK p at_ m k md j).length ≤ 2000) := by show _ ≤ _; rw [List.length_append]; have := HL.out; have := HL2.out; omega
                clear hpr HK2 HN2 hno
                go_wp2_with (first
                  | (go_at_call 60; refine (Tryd.strings_HasPrefix _ _ _).mono ?_; rintro e w' ⟨rfl, hw'⟩; rw [hw', HPR.out]; clear hw')
                  | (with_reducible show wpList _ _ _ (⟨_, Op.index 63 _ _, _, _, _, _⟩ :: _) _ _; refine wpList_indexAgg rfl 63 _ _ rfl 32 62 Tryd.underlying63 _ Tryd.underlying62 rfl 3 meanSz tr .i64 j j rfl rfl rfl hlt2 _ HE2.out ?_)
                  | (with_reducible show wpList _ _ _ (⟨_, Op.alloc 62, _, _, _, _⟩ :: _) _ _; refine wpList_allocAgg rfl 62 rfl _ meanInfo ?_)
                  | (with_reducible show wpList _ _ _ (⟨_, Op.store 62 _ _, _, _, _, _⟩ :: _) _ _; refine wpList_storeNew rfl 62 _ _ rfl 62 _ _ rfl rfl meanSz rfl (mc_one _ _ _) ?_)
                  | (with_reducible show wpList _ _ _ (⟨_, Op.alloc 85, _, _, _, _⟩ :: _) _ _; refine wpList_allocAgg rfl 85 rfl _ stateInfo ?_)
                  | (with_reducible show wpList _ _ _ (⟨_, Op.store 85 _ _, _, _, _, _⟩ :: _) _ _; refine wpList_storeNew rfl 85 _ _ rfl 85 _ [_, _] rfl rfl stateSz rfl (state_one _ _) ?_))
                have HOX : Hid (OGO w3 ((wr.alloc (.cells #[.int .i64 1, .int .i64 (me : Int), .string ty] 62)).alloc (.cells #[.int .i64 ((at_ : Int) + (ty.size : Int)), .int .i64 (m : Int)] 85)) u5 (optK C p at_ m k ++ optSK p at_ m k md j)) := hO.out.below (bwAlloc (bwA _ _) _)
                have HC9 : Hid (CellsAt ((wr.alloc (.cells #[.int .i64 1, .int .i64 (me : Int), .string ty] 62)).alloc (.cells #[.int .i64 ((at_ : Int) + (ty.size : Int)), .int .i64 (m : Int)] 85)) b9 [.int .i64 3, .int .i64 (md : Int), .string tx]) := (hC.out.alloc _).alloc _
                have HC13 : Hid (CellsAt ((wr.alloc (.cells #[.int .i64 1, .int .i64 (me : Int), .string ty] 62)).alloc (.cells #[.int .i64 ((at_ : Int) + (ty.size : Int)), .int .i64 (m : Int)] 85)) (wr.heap.size + 1) [.int .i64 ((at_ : Int) + (ty.size : Int)), .int .i64 (m : Int)]) := CellsAt.new _ #[.int .i64 ((at_ : Int) + (ty.size : Int)), .int .i64 (m : Int)] _ _ (by simp)
                have HNE2 : Hid (∀ q, u5.ownBlock = some q → q ≠ b9 ∧ q ≠ wr.heap.size + 1) := fun q hq => ⟨hNE.out q hq, by have := (hO.out.O.lt q hq).2; omega⟩
                clear hO hC hNE
                generalize (wr.alloc (.cells #[.int .i64 1, .int .i64 (me : Int), .string ty] 62)).alloc (.cells #[.int .i64 ((at_ : Int) + (ty.size : Int)), .int .i64 (m : Int)] 85) = X at *
                generalize wr.heap.size + 1 = b13 at *
                have CFX : Hid (∀ W, (Abv w3 W ∧ CellsAt W b9 [.int .i64 3, .int .i64 (md : Int), .string tx] ∧ CellsAt W b13 [.int .i64 ((at_ : Int) + (ty.size : Int)), .int .i64 (m : Int)]) → W.cell? ⟨b9, 1, none⟩ = some (.int .i64 (md : Int))) := fun W hW => hW.2.1.2 1 (by simp)
                refine wp_region_W (S := (fun W => Abv w3 W ∧ CellsAt W b9 [.int .i64 3, .int .i64 (md : Int), .string tx] ∧ CellsAt W b13 [.int .i64 ((at_ : Int) + (ty.size : Int)), .int .i64 (m : Int)])) [(false, 0), (false, 1), (false, 2), (false, 3), (false, 4), (false, 5), (false, 8), (true, 6), (false, 7), (true, 9), (true, 10), (true, 11), (false, 12)] (by kernel_rfl) (by kernel_rfl) ⟨bwDrew HOX.out.B, HC9.out.drew, HC13.out.drew⟩ ?_
                simp only [attachW, List.getElem?_cons_zero, List.getElem?_cons_succ]
                refine' wpHX_val rfl (fun W hW => ?_) ?_
                rotate_left
                · have hcf := CFX.out W hW; go_simp; rfl
                simp only [Act.put, List.setIfInBounds_toArray, List.set_cons_zero, List.set_cons_succ]
                refine' wpHX_val rfl (fun W hW => ?_) ?_
                rotate_left
                · have hcf := CFX.out W hW; go_simp; rfl
                simp only [Act.put, List.setIfInBounds_toArray, List.set_cons_zero, List.set_cons_succ]
                refine' wpHX_val rfl (fun W hW => ?_) ?_
                rotate_left
                · have hcf := CFX.out W hW; go_simp; rfl
                simp only [Act.put, List.setIfInBounds_toArray, List.set_cons_zero, List.set_cons_succ]
                refine' wpHX_val rfl (fun W hW => ?_) ?_
                rotate_left
                · have hcf := CFX.out W hW; go_simp; rfl
                simp only [Act.put, List.setIfInBounds_toArray, List.set_cons_zero, List.set_cons_succ]
                refine' wpHX_val rfl (fun W hW => ?_) ?_
                rotate_left
                · have hcf := CFX.out W hW; go_simp; rfl
                simp only [Act.put, List.setIfInBounds_toArray, List.set_cons_zero, List.set_cons_succ]
                refine' wpHX_val rfl (fun W hW => ?_) ?_
                rotate_left
                · have hcf := CFX.out W hW; go_simp; rfl
                simp only [Act.put, List.setIfInBounds_toArray, List.set_cons_zero, List.set_cons_succ]
                refine' wpHX_val rfl (fun W hW => exec_loadAgg 85 _ Tryd.underlying85 rfl rfl b13 [_, _] stateSz rfl hW.2.2) ?_
                simp only [Act.put, List.setIfInBounds_toArray, List.set_cons_zero, List.set_cons_succ]
                refine' wpHX_acall rfl (fun W => ?_) ?_
                rotate_left 2
                · go_simp; exact ⟨rfl, rfl⟩
                refine (numberBits_any md _).mono ?_
                rintro e W1 ⟨rfl, hw'⟩
                rw [hw']
                clear hw'
                refine ⟨_, rfl, ⟨bwDrew HOX.out.B, HC9.out.drew, HC13.out.drew⟩, ?_⟩
                simp only [Act.put, List.setIfInBounds_toArray, List.set_cons_zero, List.set_cons_succ]
                refine' wpHX_val rfl (fun W hW => ?_) ?_
                rotate_left
                · have hcf := CFX.out W hW; go_simp; rfl
                simp only [Act.put, List.setIfInBounds_toArray, List.set_cons_zero, List.set_cons_succ]
                refine' wpHX_aval rfl (by go_simp; rfl) ⟨bwDrew HOX.out.B, HC9.out.drew, HC13.out.drew⟩ ?_
                simp only [Act.put, List.setIfInBounds_toArray, List.set_cons_zero, List.set_cons_succ]
                have HOD : Hid (OGO w3 X.drew u5 (optK C p at_ m k ++ optSK p at_ m k md j)) := HOX.out.below (bwDrew (Below.refl _ _))
                have HC9D : Hid (CellsAt X.drew b9 [.int .i64 3, .int .i64 (md : Int), .string tx]) := HC9.out.drew
                have HC13D : Hid (CellsAt X.drew b13 [.int .i64 ((at_ : Int) + (ty.size : Int)), .int .i64 (m : Int)]) := HC13.out.drew
                clear HOX HC9 HC13 CFX
                generalize X.drew = Y at *
                refine' wpHX_aval (v := .slice (some ⟨Y.heap.size, 0, none⟩) 1 1) (w' := Y.alloc (.cells no.vals.toArray 87)) rfl (by rw [HNO.out]; go_simp; rfl) ⟨bwAlloc HOD.out.B _, HC9D.out.alloc _, HC13D.out.alloc _⟩ ?_
                simp only [Act.put, List.setIfInBounds_toArray, List.set_cons_zero, List.set_cons_succ]
                refine' wpHX_append_opt HOD.out (bwA _ _) rfl _ _ rfl rfl _ _ no rfl (new_opt _ no _ _ rfl) (by have := HHL.out; omega) ?_
                intro v5 w7 hov hg hor
                have HP := Lib.hid hov
                have HNE3 : Hid (∀ q, v5.ownBlock = some q → q ≠ b9) := by
                  show ∀ q, _
                  intro q hq
                  rcases hor with e | e
                  · exact (HNE2.out q (by rw [← e]; exact hq)).1
                  · rw [e] at hq
                    injection hq with hq
                    have := HC9D.out.1
                    have e2 : (Y.alloc (.cells no.vals.toArray 87)).heap.size = Y.heap.size + 1 := by simp
                    omega
                have hC7 : CellsAt w7 b9 [.int .i64 3, .int .i64 (md : Int), .string tx] := (HC9D.out.alloc _).grown hg (fun q hq => (HNE2.out q hq).1)
                have hC8 : CellsAt w7 b13 [.int .i64 ((at_ : Int) + (ty.size : Int)), .int .i64 (m : Int)] := (HC13D.out.alloc _).grown hg (fun q hq => (HNE2.out q hq).2)
                refine ⟨⟨hov.B, hC7, hC8⟩, ?_⟩
                have HC7 := Lib.hid hC7
                clear hov hg hor hC7 hC8
                repeat
                  refine' wpHX_val rfl (fun W hW => ?_) ?_
                  rotate_left
                  · go_simp; rfl
                  simp only [Act.put, List.setIfInBounds_toArray, List.set_cons_zero, List.set_cons_succ]
                refine wpHX_nil ?_
                go_wp2
                exact ⟨⟨j + 1, by omega, by go_num, by rw [HR2.out, ← List.append_assoc]; exact HP.out, HC7.out, HNE3.out⟩, by simp [intOf]; omega⟩
              | false =>
                have HR2 : Hid (optSK p at_ m k md (j + 1) = optSK p at_ m k md j) := by show _ = _; rw [HK2.out, HN2.out, hpr, if_neg (by simp), List.append_nil]
                have HPR : Hid (Lib.hasPrefix q.data.toList ty.data.toList = false) := by show _ = _; rw [HQ.out]; exact hpr
                clear hpr HK2 HN2
                go_wp2_with (first
                  | (go_at_call 60; refine (Tryd.strings_HasPrefix _ _ _).mono ?_; rintro e w' ⟨rfl, hw'⟩; rw [hw', HPR.out]; clear hw')
                  | (with_reducible show wpList _ _ _ (⟨_, Op.index 63 _ _, _, _, _, _⟩ :: _) _ _; refine wpList_indexAgg rfl 63 _ _ rfl 32 62 Tryd.underlying63 _ Tryd.underlying62 rfl 3 meanSz tr .i64 j j rfl rfl rfl hlt2 _ HE2.out ?_)
                  | (with_reducible show wpList _ _ _ (⟨_, Op.alloc 62, _, _, _, _⟩ :: _) _ _; refine wpList_allocAgg rfl 62 rfl _ meanInfo ?_)
                  | (with_reducible show wpList _ _ _ (⟨_, Op.store 62 _ _, _, _, _, _⟩ :: _) _ _; refine wpList_storeNew rfl 62 _ _ rfl 62 _ _ rfl rfl meanSz rfl (mc_one _ _ _) ?_))
                exact ⟨⟨j + 1, by omega, by go_num, by rw [HR2.out]; exact hO.out.below (bwA _ _), hC.out.alloc _, hNE.out⟩, by simp [intOf]; omega⟩
            have z1 : ((kd : Int) == 1) = false := by rw [beq_eq_false_iff_ne]; omega
            have HR2 : Hid (optSK p at_ m k md (j + 1) = optSK p at_ m k md j) := by show _ = _; rw [HK2.out, HN2.out, if_neg (fun h => k1 h.1), List.append_nil]
            clear k1 HK2 HN2
            go_wp2_with (first
              | (with_reducible show wpList _ _ _ (⟨_, Op.index 63 _ _, _, _, _, _⟩ :: _) _ _; refine wpList_indexAgg rfl 63 _ _ rfl 32 62 Tryd.underlying63 _ Tryd.underlying62 rfl 3 meanSz tr .i64 j j rfl rfl rfl hlt2 _ HE2.out ?_)
              | (with_reducible show wpList _ _ _ (⟨_, Op.alloc 62, _, _, _, _⟩ :: _) _ _; refine wpList_allocAgg rfl 62 rfl _ meanInfo ?_)
              | (with_reducible show wpList _ _ _ (⟨_, Op.store 62 _ _, _, _, _, _⟩ :: _) _ _; refine wpList_storeNew rfl 62 _ _ rfl 62 _ _ rfl rfl meanSz rfl (mc_one _ _ _) ?_))
            exact ⟨⟨j + 1, by omega, by go_num, by rw [HR2.out]; exact hO.out.below (bwA _ _), hC.out.alloc _, hNE.out⟩, by simp [intOf]; omega⟩
          · have hj2 : j = 32 := by omega
            have HO11 : Hid (OGO w3 wr u5 (optK C p at_ m k ++ optSK p at_ m k md 32)) := by rw [← hj2]; exact hO.out
            have f0 := (hC.out.2 0 (by simp))
            simp only [List.getD, List.getElem?_cons_zero, Option.getD_some] at f0
            clear hO hC hNE
            go_wp2
            exact ⟨⟨k + 1, by omega, by go_num, by rw [HR.out]; exact HO11.out⟩, by simp [intOf]; omega⟩
      have z3 : ((kd : Int) == 3) = false := by rw [beq_eq_false_iff_ne]; omega
      by_cases k4 : kd = 4
      · subst k4
        have HR : Hid (optK C p at_ m (k + 1) = optK C p at_ m k ++ [binOpt C k at_ m (p.size - at_)]) := by show _ = _; rw [HK.out, HN.out, if_neg (by omega), if_neg (by omega), if_neg (by omega), if_pos rfl]
        have HS4 : Hid (∀ W, Abv wr W → SW W sb cb cap hb p C) := fun W hW => HS3.out.below (bwStep hO.out.B hW)
        clear HK HN HS3
        go_wp2_with (first
            | (with_reducible show wpList _ _ _ (⟨_, Op.index 63 _ _, _, _, _, _⟩ :: _) _ _; refine wpList_indexAgg rfl 63 _ _ rfl 32 62 Tryd.underlying63 _ Tryd.underlying62 rfl 3 meanSz tb .i64 k k rfl rfl rfl hlt _ HE.out ?_)
            | (with_reducible show wpList _ _ _ (⟨_, Op.alloc 62, _, _, _, _⟩ :: _) _ _; refine wpList_allocAgg rfl 62 rfl _ meanInfo ?_)
            | (with_reducible show wpList _ _ _ (⟨_, Op.store 62 _ _, _, _, _, _⟩ :: _) _ _; refine wpList_storeNew rfl 62 _ _ rfl 62 _ _ rfl rfl meanSz rfl (mc_one _ _ _) ?_)
            | (with_reducible show wpList _ _ _ (⟨_, Op.load 85 _, _, _, _, _⟩ :: _) _ _; refine wpList_loadAgg rfl 85 _ rfl _ Tryd.underlying85 rfl ⟨w.heap.size, 0, none⟩ [.int .i64 (at_ : Int), .int .i64 (m : Int)] stateSz rfl (load_cells ((CF3c.out wr hO.out.B).alloc _)) ?_)
            | (go_at_call 61; refine (binaryOption_any k at_ m _ sb cb cap hb p C (HS4.out _ (bwA _ _)) ha hm hlt).mono ?_; rintro e w6 ⟨rfl, hb6⟩; have HB6 := Lib.hid ((bwA _ _).trans (hb6.mono (by simp))); clear hb6; generalize binOpt C k at_ m (p.size - at_) = no at *; rw [no.val_eq])
            | (at_builtin; refine wpList_append_opt hO.out (bwAlloc HB6.out _) rfl _ _ rfl rfl _ _ no (by rfl) (new_opt _ no _ _ (by simp)) (by have := HL.out; omega) ?_; intro v5 w5 HP))
        exact ⟨⟨k + 1, by omega, by go_num, by rw [HR.out]; exact HP.out⟩, by simp [intOf]; omega⟩
      have z4 : ((kd : Int) == 4) = false := by rw [beq_eq_false_iff_ne]; omega
      have HR : Hid (optK C p at_ m (k + 1) = optK C p at_ m k) := by show _ = _; rw [HK.out, HN.out, if_neg k1, if_neg k2, if_neg k3, if_neg k4, List.append_nil]
      clear k1 k2 k3 k4 HK HN HS3
      go_wp2_with (first
        | (with_reducible show wpList _ _ _ (⟨_, Op.index 63 _ _, _, _, _, _⟩ :: _) _ _; refine wpList_indexAgg rfl 63 _ _ rfl 32 62 Tryd.underlying63 _ Tryd.underlying62 rfl 3 meanSz tb .i64 k k rfl rfl rfl hlt _ HE.out ?_)
        | (with_reducible show wpList _ _ _ (⟨_, Op.alloc 62, _, _, _, _⟩ :: _) _ _; refine wpList_allocAgg rfl 62 rfl _ meanInfo ?_)
        | (with_reducible show wpList _ _ _ (⟨_, Op.store 62 _ _, _, _, _, _⟩ :: _) _ _; refine wpList_storeNew rfl 62 _ _ rfl 62 _ _ rfl rfl meanSz rfl (mc_one _ _ _) ?_))
      exact ⟨⟨k + 1, by omega, by go_num, by rw [HR.out]; exact hO.out.below (bwA _ _)⟩, by simp [intOf]; omega⟩
    · have hk2 : k = 32 := by omega
      have HR : Hid (OGO w wr u5 (optK C p at_ m 32)) := by rw [← hk2]; exact hO.out.lift HB3.out
      clear hO HS3
      go_wp2
      go_ret
      exact ⟨_, rfl, HR.out⟩
end Go.Proofs.YtplppbfnlfehnaaDoor
