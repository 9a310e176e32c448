import Derived.Test.YtplppbfnlfehnaaDoorAztZB
namespace Go.Proofs.YtplppbfnlfehnaaDoor
open Go.RowKit Go.WideMaps Go.Maps
set_option linter.unusedVariables false
/-! the decoder's step -/
def stK (mode k : Nat) (b : List Bool) (out : List UInt8) : Int × List Bool × List UInt8 × Nat :=
  if kindF mode k = 1 then (0, b, out ++ (charF mode k).data.toList, mode)
  else if kindF mode k = 2 then (0, b, out, modeF mode k)
  else if kindF mode k = 3 then ((shRes (modeF mode k) b out).1, (shRes (modeF mode k) b out).2.1, (shRes (modeF mode k) b out).2.2, mode)
  else if kindF mode k = 4 then ((biRes b out).1, (biRes b out).2.1, (biRes b out).2.2, mode)
  else (22, b, out, mode)
def stRes (mode : Nat) (b : List Bool) (out : List UInt8) : Int × List Bool × List UInt8 × Nat :=
  if b.length < widthN mode then (10, b, out, mode) else stK mode (numF b 0 (widthN mode)) (b.drop (widthN mode)) out
theorem exec_loadM {a : Act} {o : Oper} {W : World} {q : Operand} (ho : o.op = .load 62 q) (ad : Addr) (cs : List Value) (hl : cs.length = 3) (hp : a.eval q = .pointer (some ad)) (h : ∀ j v, cs[j]? = some v → W.cell? (ad.add j) = some v) :
    (execOp a.eval o).run Tryd.prog W = .ok (.value (.agg cs.toArray)) W := by
  have hrun := run_loadVar_cells (P := Tryd.prog) W 62 _ ad cs Tryd.underlying62 rfl (by rw [hl]; exact meanSz) h
  unfold execOp
  simp only [ho, hp, Instr.loadAt, Instr.sureAddr, Sem.run_bind, Sem.run_pure, Result.andThen_ok, hrun]
theorem kindF_lt : ∀ m, m < 5 → ∀ n, n < 32 → kindF m n < 5 := of_decide_eq_true (by kernel_rfl)
set_option maxRecDepth 100000 in
set_option maxHeartbeats 8000000 in
theorem step_any (n : Nat) (w wr : World) (db rb : Nat) (b0 b : List Bool) (mode : Nat) (out : List UInt8) (h : DE n w wr db rb b0 b mode out) (hol : out.length ≤ 80000000) :
    Calls Tryd.prog 33 #[.pointer (some ⟨db, 0, none⟩)] wr fun e w' => e = .returned (.int .i64 (stRes mode b out).1) ∧ DE n w w' db rb b0 (stRes mode b out).2.1 (stRes mode b out).2.2.2 (stRes mode b out).2.2.1 := by
  have hmd := h.md
  have HDD : Hid (DE n w wr.drew db rb b0 b mode out) := h.below (bwDrew (Below.refl _ _))
  have hwm := widthN_le mode
  have CF : Hid (∀ W : World, (W.cell? ⟨db, 1, none⟩ = some (.pointer (some ⟨rb, 0, none⟩)) ∧ W.cell? ⟨db, 482, none⟩ = some (.int .i64 (mode : Int))) → W.cell? ⟨db, 1, none⟩ = some (.pointer (some ⟨rb, 0, none⟩)) ∧ W.cell? ⟨db, 482, none⟩ = some (.int .i64 (mode : Int))) := fun W h => h
  have hm3 : (mode : Int) < 5 := by omega
  have HOL := Lib.hid hol
  clear h hol
  by_cases hlt : b.length < widthN mode
  · have HT : Hid (takeRes b 0 (widthN mode) = (0, 10)) := by show _ = _; unfold takeRes; rw [if_pos (by omega)]
    have HR : Hid (stRes mode b out = (10, b, out, mode)) := by show _ = _; unfold stRes; rw [if_pos hlt]
    have HLT := Lib.hid hlt
    clear hlt
    go_enter Tryd.func33, Tryd.ntmps33
    go_wp2
    refine wp_region_W (S := (fun W => W.cell? ⟨db, 1, none⟩ = some (.pointer (some ⟨rb, 0, none⟩)) ∧ W.cell? ⟨db, 482, none⟩ = some (.int .i64 (mode : Int)))) [(false, 0), (false, 1), (false, 2), (false, 3), (false, 4), (false, 5), (false, 6), (false, 7), (true, 8), (true, 9), (false, 10), (false, 11), (false, 12), (false, 13), (false, 14)] (by kernel_rfl) (by kernel_rfl) ⟨HDD.out.facts.1, HDD.out.facts.2.1⟩ ?_
    simp only [attachW, List.getElem?_cons_zero, List.getElem?_cons_succ]
    refine' wpHX_val rfl (fun W hW => ?_) ?_
    rotate_left
    · have hcf := CF.out W hW; go_simp; rfl
    simp only [Act.put, List.setIfInBounds_toArray, List.set_cons_zero, List.set_cons_succ]
    refine' wpHX_val rfl (fun W hW => ?_) ?_
    rotate_left
    · have hcf := CF.out W hW; go_simp; rfl
    simp only [Act.put, List.setIfInBounds_toArray, List.set_cons_zero, List.set_cons_succ]
    refine' wpHX_val rfl (fun W hW => ?_) ?_
    rotate_left
    · have hcf := CF.out W hW; go_simp; rfl
    simp only [Act.put, List.setIfInBounds_toArray, List.set_cons_zero, List.set_cons_succ]
    refine' wpHX_val rfl (fun W hW => ?_) ?_
    rotate_left
    · have hcf := CF.out W hW; go_simp; rfl
    simp only [Act.put, List.setIfInBounds_toArray, List.set_cons_zero, List.set_cons_succ]
    refine' wpHX_val rfl (fun W hW => ?_) ?_
    rotate_left
    · have hcf := CF.out W hW; go_simp; rfl
    simp only [Act.put, List.setIfInBounds_toArray, List.set_cons_zero, List.set_cons_succ]
    refine' wpHX_val rfl (fun W hW => ?_) ?_
    rotate_left
    · have hcf := CF.out W hW; go_simp; rfl
    simp only [Act.put, List.setIfInBounds_toArray, List.set_cons_zero, List.set_cons_succ]
    refine' wpHX_val rfl (fun W hW => ?_) ?_
    rotate_left
    · have hcf := CF.out W hW; go_simp; rfl
    simp only [Act.put, List.setIfInBounds_toArray, List.set_cons_zero, List.set_cons_succ]
    refine' wpHX_val rfl (fun W hW => ?_) ?_
    rotate_left
    · have hcf := CF.out W hW; go_simp; rfl
    simp only [Act.put, List.setIfInBounds_toArray, List.set_cons_zero, List.set_cons_succ]
    refine' wpHX_acall rfl (fun W => ?_) ?_
    rotate_left 2
    · go_simp; exact ⟨rfl, rfl⟩
    refine (numberBits_any mode _).mono ?_
    rintro e W4 ⟨rfl, hw4⟩
    rw [hw4]
    clear hw4
    refine ⟨_, rfl, ⟨HDD.out.facts.1, HDD.out.facts.2.1⟩, ?_⟩
    simp only [Act.put, List.setIfInBounds_toArray, List.set_cons_zero, List.set_cons_succ]
    refine' wpHX_acall rfl (fun W => ?_) ?_
    rotate_left 2
    · go_simp; exact ⟨rfl, rfl⟩
    refine (HDD.out.reads (widthN mode) (by omega)).mono ?_
    rintro e W5 ⟨rfl, h5⟩
    have hW5 : W5 = wr.drew := by
      rcases h5 with h5 | h5
      · exact h5.2
      · have := HLT.out; omega
    rw [HT.out, hW5]
    clear h5 hW5
    refine ⟨_, rfl, ⟨HDD.out.facts.1, HDD.out.facts.2.1⟩, ?_⟩
    simp only [Act.put, List.setIfInBounds_toArray, List.set_cons_zero, List.set_cons_succ]
    refine' wpHX_val rfl (fun W hW => ?_) ?_
    rotate_left
    · have hcf := CF.out W hW; go_simp; rfl
    simp only [Act.put, List.setIfInBounds_toArray, List.set_cons_zero, List.set_cons_succ]
    refine' wpHX_val rfl (fun W hW => ?_) ?_
    rotate_left
    · have hcf := CF.out W hW; go_simp; rfl
    simp only [Act.put, List.setIfInBounds_toArray, List.set_cons_zero, List.set_cons_succ]
    refine' wpHX_val rfl (fun W hW => ?_) ?_
    rotate_left
    · have hcf := CF.out W hW; go_simp; rfl
    simp only [Act.put, List.setIfInBounds_toArray, List.set_cons_zero, List.set_cons_succ]
    refine' wpHX_val rfl (fun W hW => ?_) ?_
    rotate_left
    · have hcf := CF.out W hW; go_simp; rfl
    simp only [Act.put, List.setIfInBounds_toArray, List.set_cons_zero, List.set_cons_succ]
    refine' wpHX_val rfl (fun W hW => ?_) ?_
    rotate_left
    · have hcf := CF.out W hW; go_simp; rfl
    simp only [Act.put, List.setIfInBounds_toArray, List.set_cons_zero, List.set_cons_succ]
    refine wpHX_nil ?_
    go_wp2
    go_ret
    rw [HR.out]
    exact ⟨rfl, HDD.out⟩
  · obtain ⟨k, hk⟩ : ∃ k, k = numF b 0 (widthN mode) := ⟨_, rfl⟩
    have hk32 : k < 32 := by rw [hk]; exact num_lt32 b mode
    have HT : Hid (takeRes b 0 (widthN mode) = (((k : Nat) : Int), 0)) := by show _ = _; unfold takeRes; rw [if_neg (by omega), hk]
    have HR : Hid (stRes mode b out = stK mode k (b.drop (widthN mode)) out) := by show _ = _; unfold stRes; rw [if_neg hlt, hk]
    have HLT := Lib.hid hlt
    have hcs := charF_le_all mode hmd k hk32
    clear hlt hk
    go_enter Tryd.func33, Tryd.ntmps33
    go_wp2
    refine wp_region_W (S := (fun W => W.cell? ⟨db, 1, none⟩ = some (.pointer (some ⟨rb, 0, none⟩)) ∧ W.cell? ⟨db, 482, none⟩ = some (.int .i64 (mode : Int)))) [(false, 0), (false, 1), (false, 2), (false, 3), (false, 4), (false, 5), (false, 6), (false, 7), (true, 8), (true, 9), (false, 10), (false, 11), (false, 12), (false, 13), (false, 14)] (by kernel_rfl) (by kernel_rfl) ⟨HDD.out.facts.1, HDD.out.facts.2.1⟩ ?_
    simp only [attachW, List.getElem?_cons_zero, List.getElem?_cons_succ]
    refine' wpHX_val rfl (fun W hW => ?_) ?_
    rotate_left
    · have hcf := CF.out W hW; go_simp; rfl
    simp only [Act.put, List.setIfInBounds_toArray, List.set_cons_zero, List.set_cons_succ]
    refine' wpHX_val rfl (fun W hW => ?_) ?_
    rotate_left
    · have hcf := CF.out W hW; go_simp; rfl
    simp only [Act.put, List.setIfInBounds_toArray, List.set_cons_zero, List.set_cons_succ]
    refine' wpHX_val rfl (fun W hW => ?_) ?_
    rotate_left
    · have hcf := CF.out W hW; go_simp; rfl
    simp only [Act.put, List.setIfInBounds_toArray, List.set_cons_zero, List.set_cons_succ]
    refine' wpHX_val rfl (fun W hW => ?_) ?_
    rotate_left
    · have hcf := CF.out W hW; go_simp; rfl
    simp only [Act.put, List.setIfInBounds_toArray, List.set_cons_zero, List.set_cons_succ]
    refine' wpHX_val rfl (fun W hW => ?_) ?_
    rotate_left
    · have hcf := CF.out W hW; go_simp; rfl
    simp only [Act.put, List.setIfInBounds_toArray, List.set_cons_zero, List.set_cons_succ]
    refine' wpHX_val rfl (fun W hW => ?_) ?_
    rotate_left
    · have hcf := CF.out W hW; go_simp; rfl
    simp only [Act.put, List.setIfInBounds_toArray, List.set_cons_zero, List.set_cons_succ]
    refine' wpHX_val rfl (fun W hW => ?_) ?_
    rotate_left
    · have hcf := CF.out W hW; go_simp; rfl
    simp only [Act.put, List.setIfInBounds_toArray, List.set_cons_zero, List.set_cons_succ]
    refine' wpHX_val rfl (fun W hW => ?_) ?_
    rotate_left
    · have hcf := CF.out W hW; go_simp; rfl
    simp only [Act.put, List.setIfInBounds_toArray, List.set_cons_zero, List.set_cons_succ]
    refine' wpHX_acall rfl (fun W => ?_) ?_
    rotate_left 2
    · go_simp; exact ⟨rfl, rfl⟩
    refine (numberBits_any mode _).mono ?_
    rintro e W4 ⟨rfl, hw4⟩
    rw [hw4]
    clear hw4
    refine ⟨_, rfl, ⟨HDD.out.facts.1, HDD.out.facts.2.1⟩, ?_⟩
    simp only [Act.put, List.setIfInBounds_toArray, List.set_cons_zero, List.set_cons_succ]
    refine' wpHX_acall rfl (fun W => ?_) ?_
    rotate_left 2
    · go_simp; exact ⟨rfl, rfl⟩
    refine (HDD.out.reads (widthN mode) (by omega)).mono ?_
    rintro e W5 ⟨rfl, h5⟩
    have HD5 : Hid (DE n w W5 db rb b0 (b.drop (widthN mode)) mode out) := by
      rcases h5 with h5 | h5
      · exact absurd h5.1 HLT.out
      · exact h5.2
    rw [HT.out]
    clear h5
    refine ⟨_, rfl, ⟨HD5.out.facts.1, HD5.out.facts.2.1⟩, ?_⟩
    simp only [Act.put, List.setIfInBounds_toArray, List.set_cons_zero, List.set_cons_succ]
    refine' wpHX_val rfl (fun W hW => ?_) ?_
    rotate_left
    · have hcf := CF.out W hW; go_simp; rfl
    simp only [Act.put, List.setIfInBounds_toArray, List.set_cons_zero, List.set_cons_succ]
    refine' wpHX_val rfl (fun W hW => ?_) ?_
    rotate_left
    · have hcf := CF.out W hW; go_simp; rfl
    simp only [Act.put, List.setIfInBounds_toArray, List.set_cons_zero, List.set_cons_succ]
    refine' wpHX_val rfl (fun W hW => ?_) ?_
    rotate_left
    · have hcf := CF.out W hW; go_simp; rfl
    simp only [Act.put, List.setIfInBounds_toArray, List.set_cons_zero, List.set_cons_succ]
    refine' wpHX_val rfl (fun W hW => ?_) ?_
    rotate_left
    · have hcf := CF.out W hW; go_simp; rfl
    simp only [Act.put, List.setIfInBounds_toArray, List.set_cons_zero, List.set_cons_succ]
    refine' wpHX_val rfl (fun W hW => ?_) ?_
    rotate_left
    · have hcf := CF.out W hW; go_simp; rfl
    simp only [Act.put, List.setIfInBounds_toArray, List.set_cons_zero, List.set_cons_succ]
    refine wpHX_nil ?_
    go_wp2
    obtain ⟨kd, hkd⟩ : ∃ kd, kd = kindF mode k := ⟨_, rfl⟩
    obtain ⟨me, hme⟩ : ∃ me, me = modeF mode k := ⟨_, rfl⟩
    obtain ⟨tx, htx⟩ : ∃ tx, tx = charF mode k := ⟨_, rfl⟩
    have hme5 : me < 5 := by rw [hme]; exact modeF_lt _ _
    have hkd5 : kd < 5 := by rw [hkd]; exact kindF_lt mode hmd k hk32
    have HD6 : Hid (DE n w W5.drew db rb b0 (b.drop (widthN mode)) mode out) := HD5.out.below (bwDrew (Below.refl _ _))
    have HEN : Hid (∀ j v, (mc (kd : Int) (me : Int) tx)[j]? = some v → W5.drew.cell? ((⟨db, 2 + mode * 96 + k * 3, none⟩ : Addr).add j) = some v) := by
      show ∀ j v, _
      rw [hkd, hme, htx]; exact HD6.out.ent mode k hmd hk32
    have HRK : Hid (stRes mode b out = if kd = 1 then (0, b.drop (widthN mode), out ++ tx.data.toList, mode) else if kd = 2 then (0, b.drop (widthN mode), out, me)
        else if kd = 3 then ((shRes me (b.drop (widthN mode)) out).1, (shRes me (b.drop (widthN mode)) out).2.1, (shRes me (b.drop (widthN mode)) out).2.2, mode)
        else if kd = 4 then ((biRes (b.drop (widthN mode)) out).1, (biRes (b.drop (widthN mode)) out).2.1, (biRes (b.drop (widthN mode)) out).2.2, mode) else (22, b.drop (widthN mode), out, mode)) := by
      show _ = _
      rw [HR.out]
      unfold stK
      rw [← hkd, ← hme, ← htx]
    rw [← htx] at hcs
    have CF6 : Hid (∀ W : World, (W.cell? ⟨db, 482, none⟩ = some (.int .i64 (mode : Int)) ∧ ∀ j v, (mc (kd : Int) (me : Int) tx)[j]? = some v → W.cell? ((⟨db, 2 + mode * 96 + k * 3, none⟩ : Addr).add j) = some v) → W.cell? ⟨db, 482, none⟩ = some (.int .i64 (mode : Int))) := fun W h => h.1
    have hk3 : (k : Int) < 32 := by omega
    clear hkd hme htx HR HDD HD5 CF HT HLT
    generalize b.drop (widthN mode) = b1 at *
    refine wp_region_W (S := (fun W => W.cell? ⟨db, 482, none⟩ = some (.int .i64 (mode : Int)) ∧ ∀ j v, (mc (kd : Int) (me : Int) tx)[j]? = some v → W.cell? ((⟨db, 2 + mode * 96 + k * 3, none⟩ : Addr).add j) = some v)) [(false, 0), (false, 1), (false, 2), (false, 3), (false, 4), (false, 5), (false, 6), (false, 7), (false, 8), (false, 9), (false, 10), (true, 11), (true, 12)] (by kernel_rfl) (by kernel_rfl) ⟨HD6.out.facts.2.1, HEN.out⟩ ?_
    simp only [attachW, List.getElem?_cons_zero, List.getElem?_cons_succ]
    generalize W5.drew = W6 at *
    have HAL : Hid (∀ cs : Array Value, (W6.alloc (.cells cs 62)).cell? ⟨db, 482, none⟩ = some (.int .i64 (mode : Int)) ∧ ∀ j v, (mc (kd : Int) (me : Int) tx)[j]? = some v → (W6.alloc (.cells cs 62)).cell? ((⟨db, 2 + mode * 96 + k * 3, none⟩ : Addr).add j) = some v) := by
      show ∀ cs, _
      intro cs
      refine ⟨(HD6.out.below (bwA _ _)).facts.2.1, fun j v hj => ?_⟩
      have h1 := HEN.out j v hj
      exact ((bwA W6 _).cell (World.block_lt_of_cell? _ _ h1)).trans h1
    refine' wpHX_val rfl (fun W hW => ?_) ?_
    rotate_left
    · have hcf := CF6.out W hW; go_simp; rfl
    simp only [Act.put, List.setIfInBounds_toArray, List.set_cons_zero, List.set_cons_succ]
    refine' wpHX_val rfl (fun W hW => ?_) ?_
    rotate_left
    · have hcf := CF6.out W hW; go_simp; rfl
    simp only [Act.put, List.setIfInBounds_toArray, List.set_cons_zero, List.set_cons_succ]
    refine' wpHX_val rfl (fun W hW => ?_) ?_
    rotate_left
    · have hcf := CF6.out W hW; go_simp; rfl
    simp only [Act.put, List.setIfInBounds_toArray, List.set_cons_zero, List.set_cons_succ]
    refine' wpHX_val rfl (fun W hW => ?_) ?_
    rotate_left
    · have hcf := CF6.out W hW; go_simp; rfl
    simp only [Act.put, List.setIfInBounds_toArray, List.set_cons_zero, List.set_cons_succ]
    refine' wpHX_val rfl (fun W hW => ?_) ?_
    rotate_left
    · have hcf := CF6.out W hW; go_simp; rfl
    simp only [Act.put, List.setIfInBounds_toArray, List.set_cons_zero, List.set_cons_succ]
    refine' wpHX_val rfl (fun W hW => ?_) ?_
    rotate_left
    · have hcf := CF6.out W hW; go_simp; rfl
    simp only [Act.put, List.setIfInBounds_toArray, List.set_cons_zero, List.set_cons_succ]
    refine' wpHX_val rfl (fun W hW => ?_) ?_
    rotate_left
    · have hcf := CF6.out W hW; go_simp; rfl
    simp only [Act.put, List.setIfInBounds_toArray, List.set_cons_zero, List.set_cons_succ]
    refine' wpHX_val rfl (fun W hW => ?_) ?_
    rotate_left
    · have hcf := CF6.out W hW; go_simp; rfl
    simp only [Act.put, List.setIfInBounds_toArray, List.set_cons_zero, List.set_cons_succ]
    refine' wpHX_val rfl (fun W hW => ?_) ?_
    rotate_left
    · have hcf := CF6.out W hW; go_simp; rfl
    simp only [Act.put, List.setIfInBounds_toArray, List.set_cons_zero, List.set_cons_succ]
    refine' wpHX_val rfl (fun W hW => ?_) ?_
    rotate_left
    · have hcf := CF6.out W hW; go_simp; rfl
    simp only [Act.put, List.setIfInBounds_toArray, List.set_cons_zero, List.set_cons_succ]
    refine' wpHX_val rfl (fun W hW => exec_loadM rfl ⟨db, 2 + mode * 96 + k * 3, none⟩ (mc (kd : Int) (me : Int) tx) rfl rfl hW.2) ?_
    simp only [Act.put, List.setIfInBounds_toArray, List.set_cons_zero, List.set_cons_succ]
    refine' wpHX_allocA 62 rfl rfl _ meanInfo (HAL.out _) ?_
    simp only [Act.put, List.setIfInBounds_toArray, List.set_cons_zero, List.set_cons_succ]
    refine wpHX_storeN 62 rfl _ _ rfl 62 _ (mc (kd : Int) (me : Int) tx) rfl rfl meanSz rfl (mc_one _ _ _) (HAL.out _) ?_
    simp only [Act.put]
    refine wpHX_nil ?_
    have HCT : Hid (CellsAt (W6.alloc (.cells (mc (kd : Int) (me : Int) tx).toArray 62)) W6.heap.size (mc (kd : Int) (me : Int) tx)) := CellsAt.new _ (mc (kd : Int) (me : Int) tx).toArray _ _ rfl
    have HCTR : Hid (RowIs (W6.alloc (.cells (mc (kd : Int) (me : Int) tx).toArray 62)) W6.heap.size (mc (kd : Int) (me : Int) tx).toArray 62) := RowIs.new _ _ _ _ rfl
    have HD7 : Hid (DE n w (W6.alloc (.cells (mc (kd : Int) (me : Int) tx).toArray 62)) db rb b0 b1 mode out) := HD6.out.below (bwA _ _)
    clear HEN HD6 HAL CF6
    generalize W6.alloc (.cells (mc (kd : Int) (me : Int) tx).toArray 62) = W7 at *
    generalize W6.heap.size = tb at *
    have c0 : W7.cell? ⟨tb, 0, none⟩ = some (.int .i64 (kd : Int)) := HCT.out.2 0 (by simp)
    have c1 : W7.cell? ⟨tb, 1, none⟩ = some (.int .i64 (me : Int)) := HCT.out.2 1 (by simp)
    by_cases k1 : kd = 1
    · subst k1
      have HRR : Hid (stRes mode b out = (0, b1, out ++ tx.data.toList, mode)) := by show _ = _; rw [HRK.out, if_pos rfl]
      clear HRK
      go_wp2
      obtain ⟨Ao, co, o1, o2, o3⟩ := HD7.out.outs
      have HO1 : Hid (W7.drew.cell? ⟨db, 483, none⟩ = some (.slice Ao out.length co)) := o3 _ (bwDrew (Below.refl _ _))
      have HO2 : Hid (W7.drew.ownsRow n 5 1 (.slice Ao out.length co) out.length (out.map vU)) := ownsRow_below o2 (bwDrew (Below.refl _ _))
      have HD8 : Hid (DE n w W7.drew db rb b0 b1 mode out) := HD7.out.below (bwDrew (Below.refl _ _))
      have HCTT : Hid (RowIs W7.drew tb (mc ((1 : Nat) : Int) (me : Int) tx).toArray 62) := HCTR.out.below (bwDrew (Below.refl _ _))
      have HCT7 : Hid (W7.drew.cell? ⟨tb, 2, none⟩ = some (.string tx)) := HCT.out.drew.2 2 (by simp)
      have CF7 : Hid (∀ W : World, (W.cell? ⟨tb, 2, none⟩ = some (.string tx)) → W.cell? ⟨tb, 2, none⟩ = some (.string tx)) := fun W h => h
      clear o1 o2 o3 HD7 c0 c1
      refine wp_region_W (S := (fun W => W.cell? ⟨tb, 2, none⟩ = some (.string tx))) [(false, 0), (false, 1), (false, 2), (false, 3), (false, 5), (false, 6), (true, 4), (true, 7), (false, 8), (false, 9), (true, 10)] (by kernel_rfl) (by kernel_rfl) HCT7.out ?_
      simp only [attachW, List.getElem?_cons_zero, List.getElem?_cons_succ]
      refine' wpHX_val rfl (fun W hW => ?_) ?_
      rotate_left
      · have hcf := CF7.out W hW; go_simp; rfl
      simp only [Act.put, List.setIfInBounds_toArray, List.set_cons_zero, List.set_cons_succ]
      refine' wpHX_val rfl (fun W hW => ?_) ?_
      rotate_left
      · have hcf := CF7.out W hW; go_simp; rfl
      simp only [Act.put, List.setIfInBounds_toArray, List.set_cons_zero, List.set_cons_succ]
      refine' wpHX_val rfl (fun W hW => ?_) ?_
      rotate_left
      · have hcf := CF7.out W hW; go_simp; rfl
      simp only [Act.put, List.setIfInBounds_toArray, List.set_cons_zero, List.set_cons_succ]
      refine' wpHX_val rfl (fun W hW => ?_) ?_
      rotate_left
      · have hcf := CF7.out W hW; go_simp; rfl
      simp only [Act.put, List.setIfInBounds_toArray, List.set_cons_zero, List.set_cons_succ]
      refine' wpHX_val rfl (fun W hW => ?_) ?_
      rotate_left
      · have hcf := CF7.out W hW; go_simp; rfl
      simp only [Act.put, List.setIfInBounds_toArray, List.set_cons_zero, List.set_cons_succ]
      refine' wpHX_val rfl (fun W hW => ?_) ?_
      rotate_left
      · have hcf := CF7.out W hW; go_simp; rfl
      simp only [Act.put, List.setIfInBounds_toArray, List.set_cons_zero, List.set_cons_succ]
      have f9 := HO1.out
      refine' wpHX_aval (v := .slice Ao out.length co) (w' := W7.drew) rfl (by go_simp) HCT7.out ?_
      simp only [Act.put, List.setIfInBounds_toArray, List.set_cons_zero, List.set_cons_succ]
      clear f9
      refine' wpHX_appendS HO2.out HD8.out.ge rfl _ _ rfl rfl tx rfl (by have := HOL.out; omega) (by omega) ?_
      intro A8 c8 W8 ho8 hg8
      obtain ⟨⟨u8, g1⟩, g2, hd8⟩ := HD8.out.grow2 HO2.out hg8 ho8
      have HD9 := Lib.hid hd8
      have HCT8 : Hid (W8.cell? ⟨tb, 2, none⟩ = some (.string tx)) := by
        refine (hg8.cell_far ⟨tb, 2, none⟩ (World.block_lt_of_cell? _ _ HCT7.out) ?_).trans HCT7.out
        intro e
        obtain ⟨cq, hq⟩ := own_tag HO2.out e.symm
        have hh := HCTT.out
        unfold RowIs at hh
        rw [hq] at hh
        injection hh with hh
        injection hh with _ hh _
        exact absurd hh (by decide)
      have HTD : Hid (tb ≠ db) := by
        obtain ⟨cur, _, _, _, _, q1, _⟩ := HD8.out.D
        exact HCTT.out.tag.ne q1.tag (by decide)
      refine ⟨HCT8.out, ?_⟩
      clear ho8 hg8 hd8 HO1 HO2 HD8 HCT7
      simp only [Act.put, List.setIfInBounds_toArray, List.set_cons_zero, List.set_cons_succ]
      refine' wpHX_val rfl (fun W hW => ?_) ?_
      rotate_left
      · have hcf := CF7.out W hW; go_simp; rfl
      simp only [Act.put, List.setIfInBounds_toArray, List.set_cons_zero, List.set_cons_succ]
      refine' wpHX_val rfl (fun W hW => ?_) ?_
      rotate_left
      · have hcf := CF7.out W hW; go_simp; rfl
      simp only [Act.put, List.setIfInBounds_toArray, List.set_cons_zero, List.set_cons_succ]
      refine .inl ⟨rfl, ?_⟩
      go_simp
      refine ⟨(World.cell?_setCell_other _ _ _ _ (fun e => HTD.out (by injection e with e; exact e.symm))).trans HCT8.out, ?_⟩
      refine wpHX_nil ?_
      go_wp2
      go_ret
      rw [HRR.out]
      have h9 := HD9.out
      rw [show (out ++ tx.data.toList).length = out.length + tx.size from by simp] at h9
      exact ⟨rfl, h9⟩
    · by_cases k2 : kd = 2
      · subst k2
        have HRR : Hid (stRes mode b out = (0, b1, out, me)) := by show _ = _; rw [HRK.out, if_neg (by omega), if_pos rfl]
        obtain ⟨_, f1, f2, _⟩ := HD7.out.facts
        have HD8 := Lib.hid (HD7.out.mode_ me hme5)
        clear HRK HD7 HCT HCTR k1
        go_wp2
        go_ret
        rw [HRR.out]
        exact ⟨rfl, HD8.out⟩
      · by_cases k3 : kd = 3
        · subst k3
          have HRR : Hid (stRes mode b out = ((shRes me b1 out).1, (shRes me b1 out).2.1, (shRes me b1 out).2.2, mode)) := by show _ = _; rw [HRK.out, if_neg (by omega), if_neg (by omega), if_pos rfl]
          have HSH : Hid (Calls Tryd.prog 50 #[.pointer (some ⟨db, 0, none⟩), .int .i64 (me : Int)] W7 fun e w' => e = .returned (.int .i64 (shRes me b1 out).1) ∧ DE n w w' db rb b0 (shRes me b1 out).2.1 mode (shRes me b1 out).2.2) := shifted_any n w W7 db rb b0 b1 mode out me HD7.out hme5 (by have := HOL.out; omega)
          clear HRK HD7 HCT HCTR k1 k2
          go_wp2_with (go_at_call 50; refine HSH.out.mono ?_; rintro e W9 ⟨rfl, h9⟩; have HD9 := Lib.hid h9; clear h9)
          go_ret
          rw [HRR.out]
          exact ⟨rfl, HD9.out⟩
        · by_cases k4 : kd = 4
          · subst k4
            have HRR : Hid (stRes mode b out = ((biRes b1 out).1, (biRes b1 out).2.1, (biRes b1 out).2.2, mode)) := by show _ = _; rw [HRK.out, if_neg (by omega), if_neg (by omega), if_neg (by omega), if_pos rfl]
            have HSH : Hid (Calls Tryd.prog 51 #[.pointer (some ⟨db, 0, none⟩)] W7 fun e w' => e = .returned (.int .i64 (biRes b1 out).1) ∧ DE n w w' db rb b0 (biRes b1 out).2.1 mode (biRes b1 out).2.2) := binary_any n w W7 db rb b0 b1 mode out HD7.out HOL.out
            clear HRK HD7 HCT HCTR k1 k2 k3
            go_wp2_with (go_at_call 51; refine HSH.out.mono ?_; rintro e W9 ⟨rfl, h9⟩; have HD9 := Lib.hid h9; clear h9)
            go_ret
            rw [HRR.out]
            exact ⟨rfl, HD9.out⟩
          · have HRR : Hid (stRes mode b out = (22, b1, out, mode)) := by show _ = _; rw [HRK.out, if_neg k1, if_neg k2, if_neg k3, if_neg k4]
            have k0 : kd = 0 := by omega
            subst k0
            clear HRK HCT HCTR k1 k2 k3 k4
            go_wp2
            go_ret
            rw [HRR.out]
            exact ⟨rfl, HD7.out⟩
end Go.Proofs.YtplppbfnlfehnaaDoor
