import Derived.Test.YtplppbfnlfehnaaDoorAztZ
namespace Go.Proofs.YtplppbfnlfehnaaDoor
open Go.RowKit Go.WideMaps Go.Maps
set_option linter.unusedVariables false
theorem DE.grow2 {n : Nat} {w wr : World} {db rb : Nat} {b0 b : List Bool} {mode : Nat} {out : List UInt8} (h : DE n w wr db rb b0 b mode out) {Ao : Option Addr} {co : Nat} (hO : wr.ownsRow n 5 1 (.slice Ao out.length co) out.length (out.map vU)) {W : World} (hg : wr.grownBy W (Value.slice Ao out.length co).ownBlock) {A' : Option Addr} {c' : Nat} {out' : List UInt8}
    (hO' : W.ownsRow n 5 1 (.slice A' out'.length c') out'.length (out'.map vU)) : (∃ u, W.cell? ⟨db, 483, none⟩ = some u) ∧ W.frozen? ⟨db, 483, none⟩ = false ∧ DE n w (W.setCell ⟨db, 483, none⟩ (.slice A' out'.length c')) db rb b0 b mode out' := by
  obtain ⟨h1, h2⟩ := h.grow hO hg hO'
  obtain ⟨A0, c0, Ao2, co2, _, _, _, _, _, _, h7, _⟩ := Classical.choose_spec h.D
  exact ⟨⟨_, h1.cell 483 _ h7⟩, frozen_of_row _ _ _ _ _ h1, h2⟩
theorem DE.outs {n : Nat} {w wr : World} {db rb : Nat} {b0 b : List Bool} {mode : Nat} {out : List UInt8} (h : DE n w wr db rb b0 b mode out) : ∃ A c, wr.cell? ⟨db, 483, none⟩ = some (.slice A out.length c) ∧ wr.ownsRow n 5 1 (.slice A out.length c) out.length (out.map vU) ∧ ∀ W, Abv wr W → W.cell? ⟨db, 483, none⟩ = some (.slice A out.length c) := by
  obtain ⟨cur, A0, c0, Ao, co, h1, h2, h3, h4, h5, h6, h7, h8, h9⟩ := h.D
  exact ⟨Ao, co, h1.cell 483 _ h7, h9, fun W hW => (h1.below hW).cell 483 _ h7⟩
/-- the number behind a shift -/
def shRes (md : Nat) (b : List Bool) (out : List UInt8) : Int × List Bool × List UInt8 :=
  if b.length < widthN md then (10, b, out)
  else if kindF md (numF b 0 (widthN md)) = 1 then (0, b.drop (widthN md), out ++ (charF md (numF b 0 (widthN md))).data.toList)
  else (22, b.drop (widthN md), out)
theorem num_lt32 (b : List Bool) (m : Nat) : numF b 0 (widthN m) < 32 := by
  have h1 := numF_lt b 0 (widthN m)
  have h2 : 2 ^ widthN m ≤ 2 ^ 5 := Nat.pow_le_pow_right (by omega) (widthN_le m)
  omega
set_option maxRecDepth 100000 in
set_option maxHeartbeats 4000000 in
theorem shifted_any (n : Nat) (w wr : World) (db rb : Nat) (b0 b : List Bool) (mode : Nat) (out : List UInt8) (md : Nat) (h : DE n w wr db rb b0 b mode out) (hmd : md < 5) (hol : out.length ≤ 90000000) :
    Calls Tryd.prog 50 #[.pointer (some ⟨db, 0, none⟩), .int .i64 (md : Int)] wr fun e w' => e = .returned (.int .i64 (shRes md b out).1) ∧ DE n w w' db rb b0 (shRes md b out).2.1 mode (shRes md b out).2.2 := by
  have HD := Lib.hid h
  have HDD : Hid (DE n w wr.drew db rb b0 b mode out) := h.below (bwDrew (Below.refl _ _))
  have hwm := widthN_le md
  have CF : Hid (∀ W : World, (W.cell? ⟨db, 1, none⟩ = some (.pointer (some ⟨rb, 0, none⟩))) → W.cell? ⟨db, 1, none⟩ = some (.pointer (some ⟨rb, 0, none⟩))) := fun W h => h
  have hm3 : (md : Int) < 5 := by omega
  clear h
  by_cases hlt : b.length < widthN md
  · have HT : Hid (takeRes b 0 (widthN md) = (0, 10)) := by show _ = _; unfold takeRes; rw [if_pos (by omega)]
    have HR : Hid (shRes md b out = (10, b, out)) := by show _ = _; unfold shRes; rw [if_pos hlt]
    have HLT := Lib.hid hlt
    clear hlt
    go_enter Tryd.func50, Tryd.ntmps50
    go_wp2
    refine wp_region_W (S := (fun W => W.cell? ⟨db, 1, none⟩ = some (.pointer (some ⟨rb, 0, none⟩)))) [(false, 0), (false, 1), (false, 2), (false, 3), (false, 4), (true, 5), (true, 6), (false, 7), (false, 8), (false, 9), (false, 10), (false, 11)] (by kernel_rfl) (by kernel_rfl) HDD.out.facts.1 ?_
    simp only [attachW, List.getElem?_cons_zero, List.getElem?_cons_succ]
    refine' wpHX_val rfl (fun W hW => ?_) ?_
    rotate_left
    · have hcf := CF.out W hW; go_simp; rfl
    simp only [Act.put, List.setIfInBounds_toArray, List.set_cons_zero, List.set_cons_succ]
    refine' wpHX_val rfl (fun W hW => ?_) ?_
    rotate_left
    · have hcf := CF.out W hW; go_simp; rfl
    simp only [Act.put, List.setIfInBounds_toArray, List.set_cons_zero, List.set_cons_succ]
    refine' wpHX_val rfl (fun W hW => ?_) ?_
    rotate_left
    · have hcf := CF.out W hW; go_simp; rfl
    simp only [Act.put, List.setIfInBounds_toArray, List.set_cons_zero, List.set_cons_succ]
    refine' wpHX_val rfl (fun W hW => ?_) ?_
    rotate_left
    · have hcf := CF.out W hW; go_simp; rfl
    simp only [Act.put, List.setIfInBounds_toArray, List.set_cons_zero, List.set_cons_succ]
    refine' wpHX_val rfl (fun W hW => ?_) ?_
    rotate_left
    · have hcf := CF.out W hW; go_simp; rfl
    simp only [Act.put, List.setIfInBounds_toArray, List.set_cons_zero, List.set_cons_succ]
    refine' wpHX_acall rfl (fun W => ?_) ?_
    rotate_left 2
    · go_simp; exact ⟨rfl, rfl⟩
    refine (numberBits_any md _).mono ?_
    rintro e W4 ⟨rfl, hw4⟩
    rw [hw4]
    clear hw4
    refine ⟨_, rfl, HDD.out.facts.1, ?_⟩
    simp only [Act.put, List.setIfInBounds_toArray, List.set_cons_zero, List.set_cons_succ]
    refine' wpHX_acall rfl (fun W => ?_) ?_
    rotate_left 2
    · go_simp; exact ⟨rfl, rfl⟩
    refine (HDD.out.reads (widthN md) (by omega)).mono ?_
    rintro e W5 ⟨rfl, h5⟩
    have hW5 : W5 = wr.drew := by
      rcases h5 with h5 | h5
      · exact h5.2
      · have := HLT.out; omega
    rw [HT.out, hW5]
    clear h5 hW5
    refine ⟨_, rfl, HDD.out.facts.1, ?_⟩
    simp only [Act.put, List.setIfInBounds_toArray, List.set_cons_zero, List.set_cons_succ]
    refine' wpHX_val rfl (fun W hW => ?_) ?_
    rotate_left
    · have hcf := CF.out W hW; go_simp; rfl
    simp only [Act.put, List.setIfInBounds_toArray, List.set_cons_zero, List.set_cons_succ]
    refine' wpHX_val rfl (fun W hW => ?_) ?_
    rotate_left
    · have hcf := CF.out W hW; go_simp; rfl
    simp only [Act.put, List.setIfInBounds_toArray, List.set_cons_zero, List.set_cons_succ]
    refine' wpHX_val rfl (fun W hW => ?_) ?_
    rotate_left
    · have hcf := CF.out W hW; go_simp; rfl
    simp only [Act.put, List.setIfInBounds_toArray, List.set_cons_zero, List.set_cons_succ]
    refine' wpHX_val rfl (fun W hW => ?_) ?_
    rotate_left
    · have hcf := CF.out W hW; go_simp; rfl
    simp only [Act.put, List.setIfInBounds_toArray, List.set_cons_zero, List.set_cons_succ]
    refine' wpHX_val rfl (fun W hW => ?_) ?_
    rotate_left
    · have hcf := CF.out W hW; go_simp; rfl
    simp only [Act.put, List.setIfInBounds_toArray, List.set_cons_zero, List.set_cons_succ]
    refine wpHX_nil ?_
    go_wp2
    go_ret
    rw [HR.out]
    exact ⟨rfl, HDD.out⟩
  · obtain ⟨k, hk⟩ : ∃ k, k = numF b 0 (widthN md) := ⟨_, rfl⟩
    have hk32 : k < 32 := by rw [hk]; exact num_lt32 b md
    have HT : Hid (takeRes b 0 (widthN md) = (((k : Nat) : Int), 0)) := by show _ = _; unfold takeRes; rw [if_neg (by omega), hk]
    have HR : Hid (shRes md b out = if kindF md k = 1 then (0, b.drop (widthN md), out ++ (charF md k).data.toList) else (22, b.drop (widthN md), out)) := by show _ = _; unfold shRes; rw [if_neg hlt, hk]
    have HLT := Lib.hid hlt
    have hcs := charF_le_all md hmd k hk32
    clear hlt hk
    go_enter Tryd.func50, Tryd.ntmps50
    go_wp2
    refine wp_region_W (S := (fun W => W.cell? ⟨db, 1, none⟩ = some (.pointer (some ⟨rb, 0, none⟩)))) [(false, 0), (false, 1), (false, 2), (false, 3), (false, 4), (true, 5), (true, 6), (false, 7), (false, 8), (false, 9), (false, 10), (false, 11)] (by kernel_rfl) (by kernel_rfl) HDD.out.facts.1 ?_
    simp only [attachW, List.getElem?_cons_zero, List.getElem?_cons_succ]
    refine' wpHX_val rfl (fun W hW => ?_) ?_
    rotate_left
    · have hcf := CF.out W hW; go_simp; rfl
    simp only [Act.put, List.setIfInBounds_toArray, List.set_cons_zero, List.set_cons_succ]
    refine' wpHX_val rfl (fun W hW => ?_) ?_
    rotate_left
    · have hcf := CF.out W hW; go_simp; rfl
    simp only [Act.put, List.setIfInBounds_toArray, List.set_cons_zero, List.set_cons_succ]
    refine' wpHX_val rfl (fun W hW => ?_) ?_
    rotate_left
    · have hcf := CF.out W hW; go_simp; rfl
    simp only [Act.put, List.setIfInBounds_toArray, List.set_cons_zero, List.set_cons_succ]
    refine' wpHX_val rfl (fun W hW => ?_) ?_
    rotate_left
    · have hcf := CF.out W hW; go_simp; rfl
    simp only [Act.put, List.setIfInBounds_toArray, List.set_cons_zero, List.set_cons_succ]
    refine' wpHX_val rfl (fun W hW => ?_) ?_
    rotate_left
    · have hcf := CF.out W hW; go_simp; rfl
    simp only [Act.put, List.setIfInBounds_toArray, List.set_cons_zero, List.set_cons_succ]
    refine' wpHX_acall rfl (fun W => ?_) ?_
    rotate_left 2
    · go_simp; exact ⟨rfl, rfl⟩
    refine (numberBits_any md _).mono ?_
    rintro e W4 ⟨rfl, hw4⟩
    rw [hw4]
    clear hw4
    refine ⟨_, rfl, HDD.out.facts.1, ?_⟩
    simp only [Act.put, List.setIfInBounds_toArray, List.set_cons_zero, List.set_cons_succ]
    refine' wpHX_acall rfl (fun W => ?_) ?_
    rotate_left 2
    · go_simp; exact ⟨rfl, rfl⟩
    refine (HDD.out.reads (widthN md) (by omega)).mono ?_
    rintro e W5 ⟨rfl, h5⟩
    have HD5 : Hid (DE n w W5 db rb b0 (b.drop (widthN md)) mode out) := by
      rcases h5 with h5 | h5
      · exact absurd h5.1 HLT.out
      · exact h5.2
    rw [HT.out]
    clear h5
    refine ⟨_, rfl, HD5.out.facts.1, ?_⟩
    simp only [Act.put, List.setIfInBounds_toArray, List.set_cons_zero, List.set_cons_succ]
    refine' wpHX_val rfl (fun W hW => ?_) ?_
    rotate_left
    · have hcf := CF.out W hW; go_simp; rfl
    simp only [Act.put, List.setIfInBounds_toArray, List.set_cons_zero, List.set_cons_succ]
    refine' wpHX_val rfl (fun W hW => ?_) ?_
    rotate_left
    · have hcf := CF.out W hW; go_simp; rfl
    simp only [Act.put, List.setIfInBounds_toArray, List.set_cons_zero, List.set_cons_succ]
    refine' wpHX_val rfl (fun W hW => ?_) ?_
    rotate_left
    · have hcf := CF.out W hW; go_simp; rfl
    simp only [Act.put, List.setIfInBounds_toArray, List.set_cons_zero, List.set_cons_succ]
    refine' wpHX_val rfl (fun W hW => ?_) ?_
    rotate_left
    · have hcf := CF.out W hW; go_simp; rfl
    simp only [Act.put, List.setIfInBounds_toArray, List.set_cons_zero, List.set_cons_succ]
    refine' wpHX_val rfl (fun W hW => ?_) ?_
    rotate_left
    · have hcf := CF.out W hW; go_simp; rfl
    simp only [Act.put, List.setIfInBounds_toArray, List.set_cons_zero, List.set_cons_succ]
    refine wpHX_nil ?_
    have HEN : Hid (∀ j v, (ent md k)[j]? = some v → W5.cell? ((⟨db, 2 + md * 96 + k * 3, none⟩ : Addr).add j) = some v) := HD5.out.ent md k hmd hk32
    have HEQ : Hid (ent md k = [.int .i64 ((kindF md k : Nat) : Int), .int .i64 ((modeF md k : Nat) : Int), .string (charF md k)]) := rfl
    obtain ⟨kd, hkd⟩ : ∃ kd, kd = kindF md k := ⟨_, rfl⟩
    obtain ⟨me, hme⟩ : ∃ me, me = modeF md k := ⟨_, rfl⟩
    obtain ⟨tx, htx⟩ : ∃ tx, tx = charF md k := ⟨_, rfl⟩
    rw [HEQ.out] at HEN
    rw [← hkd, ← htx] at HR
    rw [← hkd, ← hme, ← htx] at HEN
    rw [← htx] at hcs
    clear hkd hme htx HEQ HDD
    have hk3 : (k : Int) < 32 := by omega
    by_cases k1 : kd = 1
    · subst k1
      have z2 : (((1 : Nat) : Int) != 1) = false := rfl
      have HRR : Hid (shRes md b out = (0, b.drop (widthN md), out ++ tx.data.toList)) := by show _ = _; rw [HR.out, if_pos rfl]
      clear HR
      go_wp2_with (first
        | ((with_reducible show wpList _ _ _ (⟨_, Op.load 62 _, _, _, _, _⟩ :: _) _ _); refine wpList_loadAgg rfl 62 _ rfl _ Tryd.underlying62 rfl ⟨db, 2 + md * 96 + k * 3, none⟩ [_, _, _] meanSz rfl HEN.out ?_)
        | ((with_reducible show wpList _ _ _ (⟨_, Op.alloc 62, _, _, _, _⟩ :: _) _ _); refine wpList_allocAgg rfl 62 rfl _ meanInfo ?_)
        | ((with_reducible show wpList _ _ _ (⟨_, Op.store 62 _ _, _, _, _, _⟩ :: _) _ _); refine wpList_storeNew rfl 62 _ _ rfl 62 _ _ rfl rfl meanSz rfl (mc_one _ _ _) ?_))
      have HCT : Hid (CellsAt (W5.alloc (.cells (mc ((1 : Nat) : Int) (me : Int) tx).toArray 62)) W5.heap.size (mc ((1 : Nat) : Int) (me : Int) tx)) := CellsAt.new _ (mc ((1 : Nat) : Int) (me : Int) tx).toArray _ _ rfl
      have HCTR : Hid (RowIs (W5.alloc (.cells (mc ((1 : Nat) : Int) (me : Int) tx).toArray 62)) W5.heap.size (mc ((1 : Nat) : Int) (me : Int) tx).toArray 62) := RowIs.new _ _ _ _ rfl
      have HD6 : Hid (DE n w (W5.alloc (.cells (mc ((1 : Nat) : Int) (me : Int) tx).toArray 62)) db rb b0 (b.drop (widthN md)) mode out) := HD5.out.below (bwA _ _)
      clear HEN HD5
      show Code.wp _ _ _ _ (W5.alloc (.cells (mc ((1 : Nat) : Int) (me : Int) tx).toArray 62))
      generalize W5.alloc (.cells (mc ((1 : Nat) : Int) (me : Int) tx).toArray 62) = W6 at *
      generalize W5.heap.size = tb at *
      obtain ⟨Ao, co, o1, o2, o3⟩ := HD6.out.outs
      have HO1 : Hid (W6.drew.cell? ⟨db, 483, none⟩ = some (.slice Ao out.length co)) := o3 _ (bwDrew (Below.refl _ _))
      have HO2 : Hid (W6.drew.ownsRow n 5 1 (.slice Ao out.length co) out.length (out.map vU)) := ownsRow_below o2 (bwDrew (Below.refl _ _))
      have HD7 : Hid (DE n w W6.drew db rb b0 (b.drop (widthN md)) mode out) := HD6.out.below (bwDrew (Below.refl _ _))
      have HCTT : Hid (RowIs W6.drew tb (mc ((1 : Nat) : Int) (me : Int) tx).toArray 62) := HCTR.out.below (bwDrew (Below.refl _ _))
      have HCT7 : Hid (W6.drew.cell? ⟨tb, 2, none⟩ = some (.string tx)) := HCT.out.drew.2 2 (by simp)
      have CF7 : Hid (∀ W : World, (W.cell? ⟨tb, 2, none⟩ = some (.string tx)) → W.cell? ⟨tb, 2, none⟩ = some (.string tx)) := fun W h => h
      clear o1 o2 o3 HD6
      refine wp_region_W (S := (fun W => W.cell? ⟨tb, 2, none⟩ = some (.string tx))) [(false, 0), (false, 1), (false, 2), (false, 3), (false, 5), (false, 6), (true, 4), (true, 7), (false, 8), (false, 9), (true, 10)] (by kernel_rfl) (by kernel_rfl) HCT7.out ?_
      simp only [attachW, List.getElem?_cons_zero, List.getElem?_cons_succ]
      refine' wpHX_val rfl (fun W hW => ?_) ?_
      rotate_left
      · have hcf := CF7.out W hW; go_simp; rfl
      simp only [Act.put, List.setIfInBounds_toArray, List.set_cons_zero, List.set_cons_succ]
      refine' wpHX_val rfl (fun W hW => ?_) ?_
      rotate_left
      · have hcf := CF7.out W hW; go_simp; rfl
      simp only [Act.put, List.setIfInBounds_toArray, List.set_cons_zero, List.set_cons_succ]
      refine' wpHX_val rfl (fun W hW => ?_) ?_
      rotate_left
      · have hcf := CF7.out W hW; go_simp; rfl
      simp only [Act.put, List.setIfInBounds_toArray, List.set_cons_zero, List.set_cons_succ]
      refine' wpHX_val rfl (fun W hW => ?_) ?_
      rotate_left
      · have hcf := CF7.out W hW; go_simp; rfl
      simp only [Act.put, List.setIfInBounds_toArray, List.set_cons_zero, List.set_cons_succ]
      refine' wpHX_val rfl (fun W hW => ?_) ?_
      rotate_left
      · have hcf := CF7.out W hW; go_simp; rfl
      simp only [Act.put, List.setIfInBounds_toArray, List.set_cons_zero, List.set_cons_succ]
      refine' wpHX_val rfl (fun W hW => ?_) ?_
      rotate_left
      · have hcf := CF7.out W hW; go_simp; rfl
      simp only [Act.put, List.setIfInBounds_toArray, List.set_cons_zero, List.set_cons_succ]
      have f9 := HO1.out
      refine' wpHX_aval (v := .slice Ao out.length co) (w' := W6.drew) rfl (by go_simp) HCT7.out ?_
      simp only [Act.put, List.setIfInBounds_toArray, List.set_cons_zero, List.set_cons_succ]
      clear f9
      refine' wpHX_appendS HO2.out HD7.out.ge rfl _ _ rfl rfl tx rfl (by omega) (by omega) ?_
      intro A8 c8 W8 ho8 hg8
      obtain ⟨⟨u8, g1⟩, g2, hd8⟩ := HD7.out.grow2 HO2.out hg8 ho8
      have HD8 := Lib.hid hd8
      have HCT8 : Hid (W8.cell? ⟨tb, 2, none⟩ = some (.string tx)) := by
        refine (hg8.cell_far ⟨tb, 2, none⟩ (World.block_lt_of_cell? _ _ HCT7.out) ?_).trans HCT7.out
        intro e
        obtain ⟨cq, hq⟩ := own_tag HO2.out e.symm
        have hh := HCTT.out
        unfold RowIs at hh
        rw [hq] at hh
        injection hh with hh
        injection hh with _ hh _
        exact absurd hh (by decide)
      have HTD : Hid (tb ≠ db) := by
        obtain ⟨cur, _, _, _, _, q1, _⟩ := HD7.out.D
        exact HCTT.out.tag.ne q1.tag (by decide)
      have HCT9 : Hid (Tag W8 tb 62) := HCTT.out.tag.grown hg8 (fun e => (own_tag HO2.out e.symm).ne HCTT.out.tag (by decide) rfl)
      refine ⟨HCT8.out, ?_⟩
      clear ho8 hg8 hd8 HO1 HO2 HD7 HCT7
      simp only [Act.put, List.setIfInBounds_toArray, List.set_cons_zero, List.set_cons_succ]
      refine' wpHX_val rfl (fun W hW => ?_) ?_
      rotate_left
      · have hcf := CF7.out W hW; go_simp; rfl
      simp only [Act.put, List.setIfInBounds_toArray, List.set_cons_zero, List.set_cons_succ]
      refine' wpHX_val rfl (fun W hW => ?_) ?_
      rotate_left
      · have hcf := CF7.out W hW; go_simp; rfl
      simp only [Act.put, List.setIfInBounds_toArray, List.set_cons_zero, List.set_cons_succ]
      refine .inl ⟨rfl, ?_⟩
      go_simp
      have hne : tb ≠ db := by
        obtain ⟨cur, _, _, _, _, q1, _⟩ := HD8.out.D
        intro e
        have q2 : Tag (W8.setCell ⟨db, 483, none⟩ (.slice A8 (out ++ tx.data.toList).length c8)) tb 62 := by
          refine Tag.setc ?_ _ ?_ _
          · exact HCT9.out
          · exact HTD.out
        exact (q2.ne q1.tag (by decide)) e
      refine ⟨(World.cell?_setCell_other _ _ _ _ (fun e => hne (by injection e with e; exact e.symm))).trans HCT8.out, ?_⟩
      refine wpHX_nil ?_
      go_wp2
      go_ret
      rw [HRR.out]
      have h9 := HD8.out
      rw [show (out ++ tx.data.toList).length = out.length + tx.size from by simp] at h9
      exact ⟨rfl, h9⟩
    · have z1 : ((kd : Int) == 1) = false := by rw [beq_eq_false_iff_ne]; omega
      have z2 : ((kd : Int) != 1) = true := by rw [bne, z1]; rfl
      go_wp2_with (first
        | ((with_reducible show wpList _ _ _ (⟨_, Op.load 62 _, _, _, _, _⟩ :: _) _ _); refine wpList_loadAgg rfl 62 _ rfl _ Tryd.underlying62 rfl ⟨db, 2 + md * 96 + k * 3, none⟩ [_, _, _] meanSz rfl HEN.out ?_)
        | ((with_reducible show wpList _ _ _ (⟨_, Op.alloc 62, _, _, _, _⟩ :: _) _ _); refine wpList_allocAgg rfl 62 rfl _ meanInfo ?_)
        | ((with_reducible show wpList _ _ _ (⟨_, Op.store 62 _ _, _, _, _, _⟩ :: _) _ _); refine wpList_storeNew rfl 62 _ _ rfl 62 _ _ rfl rfl meanSz rfl (mc_one _ _ _) ?_))
      go_ret
      rw [HR.out, if_neg k1]
      exact ⟨rfl, HD5.out.below (bwA _ _)⟩
end Go.Proofs.YtplppbfnlfehnaaDoor
