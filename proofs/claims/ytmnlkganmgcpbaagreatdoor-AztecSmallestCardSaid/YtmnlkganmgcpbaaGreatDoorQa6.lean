import Derived.Test.YtmnlkganmgcpbaaGreatDoorQa5
namespace Go.Proofs.YtmnlkganmgcpbaaGreatDoor
open Go.RowKit
set_option linter.unusedVariables false
def preB (p : ByteArray) (at_ : Nat) (t : ByteArray) : Bool := Lib.hasPrefix (p.extract at_ p.size).data.toList t.data.toList
def optS (p : ByteArray) (at_ m n md s : Nat) : List Opt :=
  if kindF md s = 1 ∧ preB p at_ (charF md s) = true then [⟨n, (s : Int), 0, false, widthN m + widthN md, at_ + (charF md s).size, m⟩] else []
def optSK (p : ByteArray) (at_ m n md : Nat) : Nat → List Opt
  | 0 => []
  | k + 1 => optSK p at_ m n md k ++ optS p at_ m n md k
def optN (C : Nat → Nat → Nat) (p : ByteArray) (at_ m n : Nat) : List Opt :=
  if kindF m n = 1 then (if preB p at_ (charF m n) = true then [⟨n, -1, 0, false, widthN m, at_ + (charF m n).size, m⟩] else [])
  else if kindF m n = 2 then [⟨n, -1, 0, false, widthN m, at_, modeF m n⟩]
  else if kindF m n = 3 then optSK p at_ m n (modeF m n) 32
  else if kindF m n = 4 then [binOpt C n at_ m (p.size - at_)]
  else []
def optK (C : Nat → Nat → Nat) (p : ByteArray) (at_ m : Nat) : Nat → List Opt
  | 0 => []
  | k + 1 => optK C p at_ m k ++ optN C p at_ m k
theorem optS_len (p : ByteArray) (at_ m n md s : Nat) : (optS p at_ m n md s).length ≤ 1 := by unfold optS; split <;> simp
theorem optSK_len (p : ByteArray) (at_ m n md : Nat) : ∀ k, (optSK p at_ m n md k).length ≤ k
  | 0 => Nat.le_refl _
  | k + 1 => by
    have h1 := optSK_len p at_ m n md k
    have h2 := optS_len p at_ m n md k
    unfold optSK
    rw [List.length_append]; omega
theorem optN_len (C : Nat → Nat → Nat) (p : ByteArray) (at_ m n : Nat) : (optN C p at_ m n).length ≤ 32 := by
  have h := optSK_len p at_ m n (modeF m n) 32
  unfold optN
  generalize optSK p at_ m n (modeF m n) 32 = l at *
  generalize binOpt C n at_ m (p.size - at_) = q
  generalize preB p at_ (charF m n) = z
  generalize kindF m n = kd
  by_cases h1 : kd = 1
  · rw [if_pos h1]; cases z <;> simp
  · rw [if_neg h1]
    by_cases h2 : kd = 2
    · rw [if_pos h2]; simp
    · rw [if_neg h2]
      by_cases h3 : kd = 3
      · rw [if_pos h3]; exact h
      · rw [if_neg h3]; split <;> simp
theorem optK_len (C : Nat → Nat → Nat) (p : ByteArray) (at_ m : Nat) : ∀ k, (optK C p at_ m k).length ≤ 32 * k
  | 0 => Nat.le_refl _
  | k + 1 => by
    have h1 := optK_len C p at_ m k
    have h2 := optN_len C p at_ m k
    unfold optK
    rw [List.length_append]; omega
theorem modeF_lt (m n : Nat) : modeF m n < 5 := by unfold modeF; split <;> omega
theorem charF_le_all : ∀ m, m < 5 → ∀ n, n < 32 → (charF m n).size ≤ 2 := of_decide_eq_true (by kernel_rfl)
theorem optInfo2 : (Tryz.prog.info? 181).map (fun i => (i.zero, i.size, i.bytes)) = some (some (.agg #[.int .i64 0, .int .i64 0, .int .i64 0, .bool false, .int .i64 0, .int .i64 0, .int .i64 0]), 7, 56) := by kernel_rfl
structure OGO (w wr : World) (v : Value) (l : List Opt) : Prop where
  B : Abv w wr
  O : wr.ownsRow w.heap.size 181 7 v l.length (l.flatMap Opt.vals)
theorem OGO.start (w wr : World) (h : Abv w wr) : OGO w wr (.slice none 0 0) [] := ⟨h, World.ownsRow_nil _ _ _ _⟩
theorem OGO.below {w wr W : World} {v : Value} {l : List Opt} (h : OGO w wr v l) (hW : Below wr.heap.size wr W) : OGO w W v l := ⟨bwStep h.B hW, ownsRow_below h.O hW⟩
theorem OGO.lift {w w3 wr : World} {v : Value} {l : List Opt} (h : OGO w3 wr v l) (hW : Abv w w3) : OGO w wr v l := by
  refine ⟨bwStep hW h.B, h.O.1, ?_⟩
  rcases h.O.2 with h2 | ⟨g, cap, cur, h1, h2, h3⟩
  · exact .inl h2
  · exact .inr ⟨g, cap, cur, h1, Nat.le_trans hW.size h2, h3⟩
theorem append_opt {w wr W : World} {v : Value} {l : List Opt} (h : OGO w wr v l) (hW : Below wr.heap.size wr W) (ty : TypeId) (ad : Addr) (c : Nat) (x : Opt) (hc : ∀ j u, x.vals[j]? = some u → W.cell? (ad.add j) = some u) (hl : l.length ≤ 5000) :
    ∃ v' w', (Builtin.append_ #[218, 218] ty #[v, .slice (some ad) 1 c]).run Tryz.prog W = .ok v' w' ∧ OGO w w' v' (l ++ [x]) ∧ W.grownBy w' v.ownBlock ∧ (v'.ownBlock = v.ownBlock ∨ v'.ownBlock = some W.heap.size) := by
  obtain ⟨i0, hi, hz0, hz1, hz2⟩ := info_parts optInfo2
  have hO := ownsRow_below h.O hW
  have hB := bwStep h.B hW
  obtain ⟨v', w', hrun, h2, h3, _, h5⟩ := run_append_own_at (P := Tryz.prog) W w.heap.size 218 ty 181 i0 _ 7 56 Tryz.underlying218 hi hz0 hz1 hz2 rfl (by omega) v l.length _ hO ad 1 c x.vals (by rfl) hc (Opt.one x) (by unfold maxLen; omega) (by omega) hB.size
  refine ⟨v', w', hrun, ⟨hB.grown h3 hB.size (fun k hk => (hO.lt k hk).1), ?_⟩, h3, h5⟩
  rw [List.length_append, List.flatMap_append, List.flatMap_singleton]
  exact h2
theorem wpList_append_opt {ops : Array Oper} {rest : List Oper} {o : Oper} {a : Act} {Q : Exit → Act → World → Prop} {w wr W : World} {v : Value} {l : List Opt} (h : OGO w wr v l) (hW : Below wr.heap.size wr W) (hgd : o.guard = none) (s y : Operand)
    (ho : o.op = .call { callee := .builtin .append, args := #[s, y], argTypes := #[218, 218] }) (hs : a.eval s = v) (ad : Addr) (c : Nat) (x : Opt) (hy : a.eval y = .slice (some ad) 1 c)
    (hc : ∀ j u, x.vals[j]? = some u → W.cell? (ad.add j) = some u) (hl : l.length ≤ 5000) (hk : ∀ v' w', Hid (OGO w w' v' (l ++ [x])) → wpList Tryz.prog ops Q rest (a.put o.dst v') w') : wpList Tryz.prog ops Q (o :: rest) a W := by
  refine wpList_plain hgd fun K hK => ?_
  obtain ⟨v', w', hrun, h2, h3⟩ := append_opt h hW o.type ad c x hc hl
  unfold Oper.wp execOp
  simp only [ho, resolve, invoke, builtin, Sem.run_bind, Sem.run_pure, Result.andThen_ok, List.map_toArray, List.map_cons, List.map_nil, hs, hy, hrun]
  exact hK _ _ (hk v' w' h2)
theorem exec_append_opt {o : Oper} {a : Act} {w wr W : World} {v : Value} {l : List Opt} (h : OGO w wr v l) (hW : Below wr.heap.size wr W) (s y : Operand)
    (ho : o.op = .call { callee := .builtin .append, args := #[s, y], argTypes := #[218, 218] }) (hs : a.eval s = v) (ad : Addr) (c : Nat) (x : Opt) (hy : a.eval y = .slice (some ad) 1 c)
    (hc : ∀ j u, x.vals[j]? = some u → W.cell? (ad.add j) = some u) (hl : l.length ≤ 5000) : ∃ v' w', (execOp a.eval o).run Tryz.prog W = .ok (.value v') w' ∧ OGO w w' v' (l ++ [x]) ∧ W.grownBy w' v.ownBlock ∧ (v'.ownBlock = v.ownBlock ∨ v'.ownBlock = some W.heap.size) := by
  obtain ⟨v', w', hrun, h2, h3⟩ := append_opt h hW o.type ad c x hc hl
  refine ⟨v', w', ?_, h2, h3⟩
  unfold execOp
  simp only [ho, resolve, invoke, builtin, Sem.run_bind, Sem.run_pure, Result.andThen_ok, List.map_toArray, List.map_cons, List.map_nil, hs, hy, hrun]
theorem wpHX_append_opt {ops : Array Oper} {S : World → Prop} {K : Act → World → Prop} {r : List (Bool × Nat × Oper)} {k : Nat} {o : Oper} {a : Act} {w wr W : World} {v : Value} {l : List Opt} (h : OGO w wr v l) (hW : Below wr.heap.size wr W)
    (hgd : Region.wanted o (yielded ops a.tmps) = true) (s y : Operand)
    (ho : o.op = .call { callee := .builtin .append, args := #[s, y], argTypes := #[218, 218] }) (hs : a.eval s = v) (ad : Addr) (c : Nat) (x : Opt) (hy : a.eval y = .slice (some ad) 1 c)
    (hc : ∀ j u, x.vals[j]? = some u → W.cell? (ad.add j) = some u) (hl : l.length ≤ 5000)
    (hk : ∀ v' w', OGO w w' v' (l ++ [x]) → W.grownBy w' v.ownBlock → (v'.ownBlock = v.ownBlock ∨ v'.ownBlock = some W.heap.size) → S w' ∧ wpHX Tryz.prog ops S K r (a.put o.dst v') w') : wpHX Tryz.prog ops S K ((true, k, o) :: r) a W := by
  obtain ⟨v', w', hrun, h2, h3, h4⟩ := exec_append_opt h hW s y ho hs ad c x hy hc hl
  have h5 := hk v' w' h2 h3 h4
  exact wpHX_aval hgd hrun h5.1 h5.2
theorem load_cells {W : World} {b : Nat} {vs : List Value} (h : CellsAt W b vs) : ∀ j v, vs[j]? = some v → W.cell? ((⟨b, 0, none⟩ : Addr).add j) = some v := by
  intro j v hj
  have hl : j < vs.length := by
    rcases Nat.lt_or_ge j vs.length with h1 | h1
    · exact h1
    · rw [List.getElem?_eq_none h1] at hj; cases hj
  rw [add_plain, Nat.zero_add, h.2 j hl]
  simp [List.getD, hj]
theorem Opt.val_eq (o : Opt) : o.val = .agg #[.int .i64 (o.num : Int), .int .i64 o.sec, .int .i64 (o.run : Int), .bool o.long, .int .i64 (o.size : Int), .int .i64 (o.at_ : Int), .int .i64 (o.mode : Int)] := rfl
theorem new_opt (W : World) (x : Opt) (t : TypeId) (b : Nat) (hb : b = W.heap.size) : ∀ j u, x.vals[j]? = some u → (W.alloc (.cells x.vals.toArray t)).cell? ((⟨b, 0, none⟩ : Addr).add j) = some u := load_opt (Opt.cells W x t b hb)
theorem exec_loadRow {a : Act} {o : Oper} {W : World} {sb cb cap hb : Nat} {p : ByteArray} {C : Nat → Nat → Nat} {q : Operand} (h : SW W sb cb cap hb p C) (ho : o.op = .load 169 q) (f m : Nat) (hp : a.eval q = .pointer (some ⟨sb, f, none⟩)) (hf : f = 1 + m * 96) (hm : m < 5) :
    (execOp a.eval o).run Tryz.prog W = .ok (.value (.agg (rowF m).toArray)) W := by
  subst hf
  have hrun := run_loadVar_cells (P := Tryz.prog) W 169 _ ⟨sb, 1 + m * 96, none⟩ (rowF m) Tryz.underlying169 rfl (by rw [rowF_len]; kernel_rfl) (fun j v hj => by
    have hl : j < 96 := by
      rcases Nat.lt_or_ge j 96 with h1 | h1
      · exact h1
      · rw [List.getElem?_eq_none (by rw [rowF_len]; exact h1)] at hj; cases hj
    rw [add_plain, Nat.add_assoc]
    refine h.ct _ _ ?_
    rw [theTab_get m j hm hl]; exact hj)
  unfold execOp
  simp only [ho, hp, Instr.loadAt, Instr.sureAddr, Sem.run_bind, Sem.run_pure, Result.andThen_ok, hrun]
theorem exec_loadAgg {a : Act} {o : Oper} {W : World} (t : TypeId) (d : TypeDesc) (hu : Tryz.prog.underlying t = some d) (hd : aggD d = true) {q : Operand} (ho : o.op = .load t q) (b : Nat) (cs : List Value) (hi : (Tryz.prog.info? t).map (·.size) = some cs.length) (hp : a.eval q = .pointer (some ⟨b, 0, none⟩)) (h : CellsAt W b cs) :
    (execOp a.eval o).run Tryz.prog W = .ok (.value (.agg cs.toArray)) W := by
  have hrun := run_loadVar_cells (P := Tryz.prog) W t d ⟨b, 0, none⟩ cs hu hd hi (load_cells h)
  unfold execOp
  simp only [ho, hp, Instr.loadAt, Instr.sureAddr, Sem.run_bind, Sem.run_pure, Result.andThen_ok, hrun]
theorem CellsAt.grown {W W' : World} {b : Nat} {vs : List Value} {row : Option Nat} (h : CellsAt W b vs) (hg : W.grownBy W' row) (hne : ∀ q, row = some q → q ≠ b) : CellsAt W' b vs :=
  ⟨Nat.lt_of_lt_of_le h.1 hg.size, fun i hi => (hg.cell_far ⟨b, i, none⟩ h.1 (fun e => hne b e.symm rfl)).trans (h.2 i hi)⟩
theorem meanInfo : (Tryz.prog.info? 168).map (·.zero) = some (some (.agg #[.int .i64 0, .int .i64 0, .string ByteArray.empty])) := by kernel_rfl
theorem stateInfo : (Tryz.prog.info? 179).map (·.zero) = some (some (.agg #[.int .i64 0, .int .i64 0])) := by kernel_rfl
theorem stateSz : (Tryz.prog.info? 179).map (·.size) = some 2 := by kernel_rfl
theorem state_one (a b : Int) : ∀ v ∈ [Value.int .i64 a, .int .i64 b], v.oneCell' = true := by
  intro v hv
  simp only [List.mem_cons, List.not_mem_nil, or_false] at hv
  rcases hv with rfl | rfl <;> rfl
end Go.Proofs.YtmnlkganmgcpbaaGreatDoor
namespace Go.Proofs.YtmnlkganmgcpbaaGreatDoor
open Go.RowKit
set_option linter.unusedVariables false
set_option maxRecDepth 100000 in
set_option maxHeartbeats 4000000 in
theorem options_any (at_ m : Nat) (w : World) (sb cb cap hb : Nat) (p : ByteArray) (C : Nat → Nat → Nat) (h : SW w sb cb cap hb p C) (ha : at_ < p.size) (hm : m < 5) :
    Calls Tryz.prog 179 #[.pointer (some ⟨sb, 0, none⟩), .agg #[.int .i64 (at_ : Int), .int .i64 (m : Int)]] w
      fun e w' => ∃ v, e = .returned v ∧ OGO w w' v (optK C p at_ m 32) := by
  have hp := h.hp
  have HS := Lib.hid h
  have hm3 : (m : Int) < 5 := by omega
  have ha2 : at_ ≤ 4096 := by omega
  have ha4 : at_ ≤ p.size := by omega
  have HF : Hid (CellsAt (w.alloc (.cells #[.int .i64 (at_ : Int), .int .i64 (m : Int)] 179)) w.heap.size [.int .i64 (at_ : Int), .int .i64 (m : Int)]) := CellsAt.new w #[.int .i64 (at_ : Int), .int .i64 (m : Int)] _ _ rfl
  have HS1 : Hid (SW (w.alloc (.cells #[.int .i64 (at_ : Int), .int .i64 (m : Int)] 179)) sb cb cap hb p C) := h.below (bwA _ _)
  have HB1 : Hid (Abv w (w.alloc (.cells #[.int .i64 (at_ : Int), .int .i64 (m : Int)] 179))) := bwA _ _
  clear h HS
  go_enter Tryz.func179, Tryz.ntmps179
  go_wp2
  generalize w.alloc (.cells #[.int .i64 (at_ : Int), .int .i64 (m : Int)] 179) = w1 at *
  have CF : Hid (∀ W, Abv w1 W → W.cell? ⟨sb, 0, none⟩ = some (.string p) ∧ W.cell? ⟨w.heap.size, 0, none⟩ = some (.int .i64 (at_ : Int)) ∧ W.cell? ⟨w.heap.size, 1, none⟩ = some (.int .i64 (m : Int))) := by
    show ∀ W, _
    intro W hW
    have h9 := HF.out.below hW
    exact ⟨(HS1.out.below hW).c0, h9.2 0 (by simp), h9.2 1 (by simp)⟩
  refine wp_region_W (S := Abv w1) [(false, 0), (false, 1), (false, 2), (false, 3), (false, 4), (false, 5), (false, 6), (false, 7)] (by kernel_rfl) (by kernel_rfl) (bwDrew (Below.refl _ _)) ?_
  simp only [attachW, List.getElem?_cons_zero, List.getElem?_cons_succ]
  repeat
    refine' wpHX_val rfl (fun W hW => ?_) ?_
    rotate_left
    · have hcf := CF.out W hW; go_simp; rfl
    simp only [Act.put, List.setIfInBounds_toArray, List.set_cons_zero, List.set_cons_succ]
  refine wpHX_nil ?_
  have f0 := (CF.out w1.drew (bwDrew (Below.refl _ _))).2.2
  go_wp2_with (go_at_call 132; refine (numberBits_any m _).mono ?_; rintro e w' ⟨rfl, hw'⟩; rw [hw']; clear hw')
  have CF2 : Hid (∀ W, Abv w1.drew W → W.cell? ⟨sb, 0, none⟩ = some (.string p) ∧ W.cell? ⟨w.heap.size, 0, none⟩ = some (.int .i64 (at_ : Int)) ∧ W.cell? ⟨w.heap.size, 1, none⟩ = some (.int .i64 (m : Int))) := fun W hW => CF.out W (bwStep (bwDrew (Below.refl _ _)) hW)
  have HS2 : Hid (SW w1.drew sb cb cap hb p C) := HS1.out.below (bwDrew (Below.refl _ _))
  have HB2 : Hid (Abv w w1.drew) := bwDrew HB1.out
  have HF2 : Hid (CellsAt w1.drew w.heap.size [.int .i64 (at_ : Int), .int .i64 (m : Int)]) := HF.out.below (bwDrew (Below.refl _ _))
  clear HF HS1 HB1 CF f0
  generalize w1.drew = w2 at *
  refine wp_region_W (S := Abv w2) [(false, 0), (false, 1), (false, 2), (false, 3), (false, 4), (false, 5), (false, 6), (false, 7)] (by kernel_rfl) (by kernel_rfl) (bwDrew (Below.refl _ _)) ?_
  simp only [attachW, List.getElem?_cons_zero, List.getElem?_cons_succ]
  refine' wpHX_val rfl (fun W hW => ?_) ?_
  rotate_left
  · have hcf := CF2.out W hW; go_simp; rfl
  simp only [Act.put, List.setIfInBounds_toArray, List.set_cons_zero, List.set_cons_succ]
  refine' wpHX_val rfl (fun W hW => ?_) ?_
  rotate_left
  · have hcf := CF2.out W hW; go_simp; rfl
  simp only [Act.put, List.setIfInBounds_toArray, List.set_cons_zero, List.set_cons_succ]
  refine' wpHX_val rfl (fun W hW => ?_) ?_
  rotate_left
  · have hcf := CF2.out W hW; go_simp; rfl
  simp only [Act.put, List.setIfInBounds_toArray, List.set_cons_zero, List.set_cons_succ]
  refine' wpHX_val rfl (fun W hW => ?_) ?_
  rotate_left
  · have hcf := CF2.out W hW; go_simp; rfl
  simp only [Act.put, List.setIfInBounds_toArray, List.set_cons_zero, List.set_cons_succ]
  refine' wpHX_val rfl (fun W hW => ?_) ?_
  rotate_left
  · have hcf := CF2.out W hW; go_simp; rfl
  simp only [Act.put, List.setIfInBounds_toArray, List.set_cons_zero, List.set_cons_succ]
  refine' wpHX_val rfl (fun W hW => ?_) ?_
  rotate_left
  · have hcf := CF2.out W hW; go_simp; rfl
  simp only [Act.put, List.setIfInBounds_toArray, List.set_cons_zero, List.set_cons_succ]
  refine' wpHX_val rfl (fun W hW => exec_loadRow (HS2.out.below hW) rfl _ m rfl (by omega) hm) ?_
  simp only [Act.put, List.setIfInBounds_toArray, List.set_cons_zero, List.set_cons_succ]
  repeat
    refine' wpHX_val rfl (fun W hW => ?_) ?_
    rotate_left
    · have hcf := CF2.out W hW; go_simp; rfl
    simp only [Act.put, List.setIfInBounds_toArray, List.set_cons_zero, List.set_cons_succ]
  refine wpHX_nil ?_
  have HS3 : Hid (SW w2.drew sb cb cap hb p C) := HS2.out.below (bwDrew (Below.refl _ _))
  have HB3 : Hid (Abv w w2.drew) := bwDrew HB2.out
  have HF3 : Hid (CellsAt w2.drew w.heap.size [.int .i64 (at_ : Int), .int .i64 (m : Int)]) := HF2.out.below (bwDrew (Below.refl _ _))
  have CF3 : Hid (∀ W, Abv w2.drew W → W.cell? ⟨w.heap.size, 0, none⟩ = some (.int .i64 (at_ : Int)) ∧ W.cell? ⟨w.heap.size, 1, none⟩ = some (.int .i64 (m : Int))) := fun W hW => (CF2.out W (bwStep (bwDrew (Below.refl _ _)) hW)).2
  have CF3c : Hid (∀ W, Abv w2.drew W → CellsAt W w.heap.size [.int .i64 (at_ : Int), .int .i64 (m : Int)]) := fun W hW => HF3.out.below hW
  have HX3 : Hid (w.heap.size < w2.drew.heap.size) := World.block_lt_of_cell? _ _ (CF3.out w2.drew (Below.refl _ _)).1
  clear HS2 HB2 CF2 HF2 HF3
  generalize w2.drew = w3 at *
  obtain ⟨tb, HTB⟩ : ∃ tb, Hid (tb = (rowF m).toArray) := ⟨_, rfl⟩
  rw [← HTB.out]
  obtain ⟨q, HQ⟩ : ∃ q, Hid (q = p.extract at_ p.size) := ⟨_, rfl⟩
  rw [← HQ.out]
  go_wp2
  go_loopw [5, 31] (fun ov iv wr => ∃ k : Nat, k ≤ 32 ∧ iv = .int .i64 k ∧ Hid (OGO w3 wr ov (optK C p at_ m k))) (fun _ iv _ => 32 - (intOf iv).toNat)
  case atStart => exact ⟨0, Nat.zero_le _, rfl, OGO.start _ _ (Below.refl _ _)⟩
  case round =>
    obtain ⟨k, hk, rfl, hO⟩ := hrel
    by_cases hlt : k < 32
    · have HE : Hid (tb.extract (k * 3) (k * 3 + 3) = (ent m k).toArray) := by show _ = _; rw [HTB.out]; exact row_ent m k hlt
      have HK : Hid (optK C p at_ m (k + 1) = optK C p at_ m k ++ optN C p at_ m k) := rfl
      have HN : Hid (optN C p at_ m k = if kindF m k = 1 then (if preB p at_ (charF m k) = true then [⟨k, -1, 0, false, widthN m, at_ + (charF m k).size, m⟩] else [])
          else if kindF m k = 2 then [⟨k, -1, 0, false, widthN m, at_, modeF m k⟩]
          else if kindF m k = 3 then optSK p at_ m k (modeF m k) 32
          else if kindF m k = 4 then [binOpt C k at_ m (p.size - at_)]
          else []) := rfl
      have HL := Lib.hid (optK_len C p at_ m k)
      have hcs := charF_le_all m hm k hlt
      have hml := modeF_lt m k
      obtain ⟨f1, f2⟩ := CF3.out wr hO.out.B
      have f3 : w.heap.size < wr.heap.size := World.block_lt_of_cell? _ _ f1
      obtain ⟨kd, hkd⟩ : ∃ kd, kd = kindF m k := ⟨_, rfl⟩
      obtain ⟨md, hmd⟩ : ∃ md, md = modeF m k := ⟨_, rfl⟩
      obtain ⟨tx, htx⟩ : ∃ tx, tx = charF m k := ⟨_, rfl⟩
      rw [← hkd, ← hmd, ← htx] at HN
      unfold ent at HE
      rw [← hkd, ← hmd, ← htx] at HE
      rw [← hmd] at hml
      rw [← htx] at hcs
      clear hkd hmd htx
      by_cases k1 : kd = 1
      · subst k1
        cases hpr : preB p at_ tx with
        | true =>
          obtain ⟨no, hno⟩ : ∃ no : Opt, no = ⟨k, -1, 0, false, widthN m, at_ + tx.size, m⟩ := ⟨_, rfl⟩
          have HNO := Lib.hid hno
          have HR : Hid (optK C p at_ m (k + 1) = optK C p at_ m k ++ [no]) := by show _ = _; rw [HK.out, HN.out, if_pos rfl, hpr, if_pos rfl, hno]
          have HPR : Hid (Lib.hasPrefix q.data.toList tx.data.toList = true) := by show _ = _; rw [HQ.out]; exact hpr
          have hw : IntKind.i64.wrap ((at_ : Int) + (tx.size : Int)) = ((at_ + tx.size : Nat) : Int) := by rw [wr64 _ (by omega) (by omega)]; omega
          clear hpr HK HN HS3 hno
          go_wp2_with (first
            | (go_at_call 215; refine (Tryz.strings_HasPrefix _ _ _).mono ?_; rintro e w' ⟨rfl, hw'⟩; rw [hw', HPR.out]; clear hw')
            | (with_reducible show wpList _ _ _ (⟨_, Op.index 169 _ _, _, _, _, _⟩ :: _) _ _; refine wpList_indexAgg rfl 169 _ _ rfl 32 168 Tryz.underlying169 _ Tryz.underlying168 rfl 3 meanSz tb .i64 k k rfl rfl rfl hlt _ HE.out ?_)
            | (with_reducible show wpList _ _ _ (⟨_, Op.alloc 168, _, _, _, _⟩ :: _) _ _; refine wpList_allocAgg rfl 168 rfl _ meanInfo ?_)
            | (with_reducible show wpList _ _ _ (⟨_, Op.alloc 179, _, _, _, _⟩ :: _) _ _; refine wpList_allocAgg rfl 179 rfl _ stateInfo ?_)
            | (with_reducible show wpList _ _ _ (⟨_, Op.store 168 _ _, _, _, _, _⟩ :: _) _ _; refine wpList_storeNew rfl 168 _ _ rfl 168 _ _ rfl rfl meanSz rfl (mc_one _ _ _) ?_)
            | (with_reducible show wpList _ _ _ (⟨_, Op.store 179 _ _, _, _, _, _⟩ :: _) _ _; refine wpList_storeNew rfl 179 _ _ rfl 179 _ [_, _] rfl rfl stateSz rfl (state_one _ _) ?_)
            | (with_reducible show wpList _ _ _ (⟨_, Op.load 179 _, _, _, _, _⟩ :: _) _ _; refine wpList_loadAgg rfl 179 _ rfl _ Tryz.underlying179 rfl _ [_, _] stateSz rfl (load_cells (CellsAt.new _ #[_, _] _ _ (by simp))) ?_)
            | (at_builtin; refine wpList_append_opt hO.out (bwAlloc (bwAlloc (bwA _ _) _) _) rfl _ _ rfl rfl _ _ no (by rfl) (by rw [HNO.out]; exact new_opt _ ⟨k, -1, 0, false, widthN m, at_ + tx.size, m⟩ _ _ (by simp)) (by have := HL.out; omega) ?_; intro v5 w5 HP))
          exact ⟨⟨k + 1, by omega, by go_num, by rw [HR.out]; exact HP.out⟩, by simp [intOf]; omega⟩
        | false => 
          have HR : Hid (optK C p at_ m (k + 1) = optK C p at_ m k) := by show _ = _; rw [HK.out, HN.out, if_pos rfl, hpr, if_neg (by simp), List.append_nil]
          have HPR : Hid (Lib.hasPrefix q.data.toList tx.data.toList = false) := by show _ = _; rw [HQ.out]; exact hpr
          clear hpr HK HN HS3
          go_wp2_with (first
            | (go_at_call 215; refine (Tryz.strings_HasPrefix _ _ _).mono ?_; rintro e w' ⟨rfl, hw'⟩; rw [hw', HPR.out]; clear hw')
            | (with_reducible show wpList _ _ _ (⟨_, Op.index 169 _ _, _, _, _, _⟩ :: _) _ _; refine wpList_indexAgg rfl 169 _ _ rfl 32 168 Tryz.underlying169 _ Tryz.underlying168 rfl 3 meanSz tb .i64 k k rfl rfl rfl hlt _ HE.out ?_)
            | (with_reducible show wpList _ _ _ (⟨_, Op.alloc 168, _, _, _, _⟩ :: _) _ _; refine wpList_allocAgg rfl 168 rfl _ meanInfo ?_)
            | (with_reducible show wpList _ _ _ (⟨_, Op.store 168 _ _, _, _, _, _⟩ :: _) _ _; refine wpList_storeNew rfl 168 _ _ rfl 168 _ _ rfl rfl meanSz rfl (mc_one _ _ _) ?_))
          exact ⟨⟨k + 1, by omega, by go_num, by rw [HR.out]; exact hO.out.below (bwA _ _)⟩, by simp [intOf]; omega⟩
      have z1 : ((kd : Int) == 1) = false := by rw [beq_eq_false_iff_ne]; omega
      by_cases k2 : kd = 2
      · subst k2
        obtain ⟨no, hno⟩ : ∃ no : Opt, no = ⟨k, -1, 0, false, widthN m, at_, md⟩ := ⟨_, rfl⟩
        have HNO := Lib.hid hno
        have HR : Hid (optK C p at_ m (k + 1) = optK C p at_ m k ++ [no]) := by show _ = _; rw [HK.out, HN.out, if_neg (by omega), if_pos rfl, hno]
        clear HK HN HS3 hno
        go_wp2_with (first
            | (with_reducible show wpList _ _ _ (⟨_, Op.index 169 _ _, _, _, _, _⟩ :: _) _ _; refine wpList_indexAgg rfl 169 _ _ rfl 32 168 Tryz.underlying169 _ Tryz.underlying168 rfl 3 meanSz tb .i64 k k rfl rfl rfl hlt _ HE.out ?_)
            | (with_reducible show wpList _ _ _ (⟨_, Op.alloc 168, _, _, _, _⟩ :: _) _ _; refine wpList_allocAgg rfl 168 rfl _ meanInfo ?_)
            | (with_reducible show wpList _ _ _ (⟨_, Op.store 168 _ _, _, _, _, _⟩ :: _) _ _; refine wpList_storeNew rfl 168 _ _ rfl 168 _ _ rfl rfl meanSz rfl (mc_one _ _ _) ?_)
            | (at_builtin; refine wpList_append_opt hO.out (bwAlloc (bwA _ _) _) rfl _ _ rfl rfl _ _ no (by rfl) (by rw [HNO.out]; exact new_opt _ ⟨k, -1, 0, false, widthN m, at_, md⟩ _ _ (by simp)) (by have := HL.out; omega) ?_; intro v5 w5 HP))
        exact ⟨⟨k + 1, by omega, by go_num, by rw [HR.out]; exact HP.out⟩, by simp [intOf]; omega⟩
      have z2 : ((kd : Int) == 2) = false := by rw [beq_eq_false_iff_ne]; omega
      by_cases k3 : kd = 3
      · subst k3
        have HR : Hid (optK C p at_ m (k + 1) = optK C p at_ m k ++ optSK p at_ m k md 32) := by show _ = _; rw [HK.out, HN.out, if_neg (by omega), if_neg (by omega), if_pos rfl]
        have HS5 : Hid (SW (wr.alloc (.cells #[.int .i64 3, .int .i64 (md : Int), .string tx] 168)) sb cb cap hb p C) := (HS3.out.below hO.out.B).below (bwA _ _)
        have HC9 : Hid (CellsAt (wr.alloc (.cells #[.int .i64 3, .int .i64 (md : Int), .string tx] 168)) wr.heap.size [.int .i64 3, .int .i64 (md : Int), .string tx]) := CellsAt.new _ #[.int .i64 3, .int .i64 (md : Int), .string tx] _ _ rfl
        have HO9 : Hid (OGO w3 (wr.alloc (.cells #[.int .i64 3, .int .i64 (md : Int), .string tx] 168)) u5 (optK C p at_ m k)) := hO.out.below (bwA _ _)
        have HNE : Hid (∀ q, u5.ownBlock = some q → q ≠ wr.heap.size) := fun q hq => by have := (hO.out.O.lt q hq).2; omega
        clear HK HN HS3 hO
        go_wp2_with (first
            | (with_reducible show wpList _ _ _ (⟨_, Op.index 169 _ _, _, _, _, _⟩ :: _) _ _; refine wpList_indexAgg rfl 169 _ _ rfl 32 168 Tryz.underlying169 _ Tryz.underlying168 rfl 3 meanSz tb .i64 k k rfl rfl rfl hlt _ HE.out ?_)
            | (with_reducible show wpList _ _ _ (⟨_, Op.alloc 168, _, _, _, _⟩ :: _) _ _; refine wpList_allocAgg rfl 168 rfl _ meanInfo ?_)
            | (with_reducible show wpList _ _ _ (⟨_, Op.store 168 _ _, _, _, _, _⟩ :: _) _ _; refine wpList_storeNew rfl 168 _ _ rfl 168 _ _ rfl rfl meanSz rfl (mc_one _ _ _) ?_))
        generalize wr.alloc (.cells #[.int .i64 3, .int .i64 (md : Int), .string tx] 168) = w5 at *
        generalize wr.heap.size = b9 at *
        have CF5 : Hid (∀ W, Abv w5 W → W.cell? ⟨b9, 1, none⟩ = some (.int .i64 (md : Int))) := fun W hW => (HC9.out.below hW).2 1 (by simp)
        have hml3 : (md : Int) < 5 := by omega
        refine wp_region_W (S := Abv w5) [(false, 0), (false, 1), (false, 2), (false, 3), (false, 4), (false, 5), (false, 6), (false, 7)] (by kernel_rfl) (by kernel_rfl) (bwDrew (Below.refl _ _)) ?_
        simp only [attachW, List.getElem?_cons_zero, List.getElem?_cons_succ]
        refine' wpHX_val rfl (fun W hW => ?_) ?_
        rotate_left
        · have hcf := CF5.out W hW; go_simp; rfl
        simp only [Act.put, List.setIfInBounds_toArray, List.set_cons_zero, List.set_cons_succ]
        refine' wpHX_val rfl (fun W hW => ?_) ?_
        rotate_left
        · have hcf := CF5.out W hW; go_simp; rfl
        simp only [Act.put, List.setIfInBounds_toArray, List.set_cons_zero, List.set_cons_succ]
        refine' wpHX_val rfl (fun W hW => ?_) ?_
        rotate_left
        · have hcf := CF5.out W hW; go_simp; rfl
        simp only [Act.put, List.setIfInBounds_toArray, List.set_cons_zero, List.set_cons_succ]
        refine' wpHX_val rfl (fun W hW => ?_) ?_
        rotate_left
        · have hcf := CF5.out W hW; go_simp; rfl
        simp only [Act.put, List.setIfInBounds_toArray, List.set_cons_zero, List.set_cons_succ]
        refine' wpHX_val rfl (fun W hW => ?_) ?_
        rotate_left
        · have hcf := CF5.out W hW; go_simp; rfl
        simp only [Act.put, List.setIfInBounds_toArray, List.set_cons_zero, List.set_cons_succ]
        refine' wpHX_val rfl (fun W hW => ?_) ?_
        rotate_left
        · have hcf := CF5.out W hW; go_simp; rfl
        simp only [Act.put, List.setIfInBounds_toArray, List.set_cons_zero, List.set_cons_succ]
        refine' wpHX_val rfl (fun W hW => exec_loadRow (HS5.out.below hW) rfl _ md rfl (by omega) hml) ?_
        simp only [Act.put, List.setIfInBounds_toArray, List.set_cons_zero, List.set_cons_succ]
        repeat
          refine' wpHX_val rfl (fun W hW => ?_) ?_
          rotate_left
          · have hcf := CF5.out W hW; go_simp; rfl
          simp only [Act.put, List.setIfInBounds_toArray, List.set_cons_zero, List.set_cons_succ]
        refine wpHX_nil ?_
        have HC10 : Hid (CellsAt w5.drew b9 [.int .i64 3, .int .i64 (md : Int), .string tx]) := HC9.out.below (bwDrew (Below.refl _ _))
        have HO10 : Hid (OGO w3 w5.drew u5 (optK C p at_ m k)) := HO9.out.below (bwDrew (Below.refl _ _))
        clear HS5 HC9 HO9 CF5
        generalize w5.drew = w6 at *
        obtain ⟨tr, HTR⟩ : ∃ tr, Hid (tr = (rowF md).toArray) := ⟨_, rfl⟩
        rw [← HTR.out]
        go_wp2
        go_loopw [5, 81] (fun ov iv wr => ∃ j : Nat, j ≤ 32 ∧ iv = .int .i64 j ∧ Hid (OGO w3 wr ov (optK C p at_ m k ++ optSK p at_ m k md j)) ∧ Hid (CellsAt wr b9 [.int .i64 3, .int .i64 (md : Int), .string tx]) ∧ Hid (∀ q, ov.ownBlock = some q → q ≠ b9)) (fun _ iv _ => 32 - (intOf iv).toNat)
        case atStart => exact ⟨0, Nat.zero_le _, rfl, by show OGO _ _ _ _; rw [show optSK p at_ m k md 0 = [] from rfl, List.append_nil]; exact HO10.out, HC10.out, HNE.out⟩
        case round =>
          clear HO10 HC10 HNE f1 f2 f3
          obtain ⟨j, hj, rfl, hO, hC, hNE⟩ := hrel
          by_cases hlt2 : j < 32
          · have HE2 : Hid (tr.extract (j * 3) (j * 3 + 3) = (ent md j).toArray) := by show _ = _; rw [HTR.out]; exact row_ent md j hlt2
            have HK2 : Hid (optSK p at_ m k md (j + 1) = optSK p at_ m k md j ++ optS p at_ m k md j) := rfl
            have HN2 : Hid (optS p at_ m k md j = if kindF md j = 1 ∧ preB p at_ (charF md j) = true then [⟨k, (j : Int), 0, false, widthN m + widthN md, at_ + (charF md j).size, m⟩] else []) := rfl
            have HL2 := Lib.hid (optSK_len p at_ m k md j)
            have hcs2 := charF_le_all md hml j hlt2
            obtain ⟨f1, f2⟩ := CF3.out wr hO.out.B
            have f3 : w.heap.size < wr.heap.size := World.block_lt_of_cell? _ _ f1
            obtain ⟨kd, hkd⟩ : ∃ kd, kd = kindF md j := ⟨_, rfl⟩
            obtain ⟨me, hme⟩ : ∃ me, me = modeF md j := ⟨_, rfl⟩
            obtain ⟨ty, hty⟩ : ∃ ty, ty = charF md j := ⟨_, rfl⟩
            rw [← hkd, ← hty] at HN2
            unfold ent at HE2
            rw [← hkd, ← hme, ← hty] at HE2
            rw [← hty] at hcs2
            clear hkd hme hty
            by_cases k1 : kd = 1
            · subst k1
              cases hpr : preB p at_ ty with
              | true =>
                obtain ⟨no, hno⟩ : ∃ no : Opt, no = ⟨k, (j : Int), 0, false, widthN m + widthN md, at_ + ty.size, m⟩ := ⟨_, rfl⟩
                have HNO := Lib.hid hno
                have HR2 : Hid (optSK p at_ m k md (j + 1) = optSK p at_ m k md j ++ [no]) := by show _ = _; rw [HK2.out, HN2.out, if_pos ⟨rfl, hpr⟩, hno]
                have HPR : Hid (Lib.hasPrefix q.data.toList ty.data.toList = true) := by show _ = _; rw [HQ.out]; exact hpr
                have hw : IntKind.i64.wrap ((at_ : Int) + (ty.size : Int)) = ((at_ + ty.size : Nat) : Int) := by rw [wr64 _ (by omega) (by omega)]; omega
                have hwz : IntKind.i64.wrap ((widthN m : Int) + (widthN md : Int)) = ((widthN m + widthN md : Nat) : Int) := by have := widthN_le m; have := widthN_le md; rw [wr64 _ (by omega) (by omega)]; omega
                have HHL : Hid ((optK C p at_ m k ++ optSK p at_ m k md j).length ≤ 2000) := by show _ ≤ _; rw [List.length_append]; have := HL.out; have := HL2.out; omega
                clear hpr HK2 HN2 hno
                go_wp2_with (first
                  | (go_at_call 215; refine (Tryz.strings_HasPrefix _ _ _).mono ?_; rintro e w' ⟨rfl, hw'⟩; rw [hw', HPR.out]; clear hw')
                  | (with_reducible show wpList _ _ _ (⟨_, Op.index 169 _ _, _, _, _, _⟩ :: _) _ _; refine wpList_indexAgg rfl 169 _ _ rfl 32 168 Tryz.underlying169 _ Tryz.underlying168 rfl 3 meanSz tr .i64 j j rfl rfl rfl hlt2 _ HE2.out ?_)
                  | (with_reducible show wpList _ _ _ (⟨_, Op.alloc 168, _, _, _, _⟩ :: _) _ _; refine wpList_allocAgg rfl 168 rfl _ meanInfo ?_)
                  | (with_reducible show wpList _ _ _ (⟨_, Op.store 168 _ _, _, _, _, _⟩ :: _) _ _; refine wpList_storeNew rfl 168 _ _ rfl 168 _ _ rfl rfl meanSz rfl (mc_one _ _ _) ?_)
                  | (with_reducible show wpList _ _ _ (⟨_, Op.alloc 179, _, _, _, _⟩ :: _) _ _; refine wpList_allocAgg rfl 179 rfl _ stateInfo ?_)
                  | (with_reducible show wpList _ _ _ (⟨_, Op.store 179 _ _, _, _, _, _⟩ :: _) _ _; refine wpList_storeNew rfl 179 _ _ rfl 179 _ [_, _] rfl rfl stateSz rfl (state_one _ _) ?_))
                have HOX : Hid (OGO w3 ((wr.alloc (.cells #[.int .i64 1, .int .i64 (me : Int), .string ty] 168)).alloc (.cells #[.int .i64 ((at_ : Int) + (ty.size : Int)), .int .i64 (m : Int)] 179)) u5 (optK C p at_ m k ++ optSK p at_ m k md j)) := hO.out.below (bwAlloc (bwA _ _) _)
                have HC9 : Hid (CellsAt ((wr.alloc (.cells #[.int .i64 1, .int .i64 (me : Int), .string ty] 168)).alloc (.cells #[.int .i64 ((at_ : Int) + (ty.size : Int)), .int .i64 (m : Int)] 179)) b9 [.int .i64 3, .int .i64 (md : Int), .string tx]) := (hC.out.alloc _).alloc _
                have HC13 : Hid (CellsAt ((wr.alloc (.cells #[.int .i64 1, .int .i64 (me : Int), .string ty] 168)).alloc (.cells #[.int .i64 ((at_ : Int) + (ty.size : Int)), .int .i64 (m : Int)] 179)) (wr.heap.size + 1) [.int .i64 ((at_ : Int) + (ty.size : Int)), .int .i64 (m : Int)]) := CellsAt.new _ #[.int .i64 ((at_ : Int) + (ty.size : Int)), .int .i64 (m : Int)] _ _ (by simp)
                have HNE2 : Hid (∀ q, u5.ownBlock = some q → q ≠ b9 ∧ q ≠ wr.heap.size + 1) := fun q hq => ⟨hNE.out q hq, by have := (hO.out.O.lt q hq).2; omega⟩
                clear hO hC hNE
                generalize (wr.alloc (.cells #[.int .i64 1, .int .i64 (me : Int), .string ty] 168)).alloc (.cells #[.int .i64 ((at_ : Int) + (ty.size : Int)), .int .i64 (m : Int)] 179) = X at *
                generalize wr.heap.size + 1 = b13 at *
                have CFX : Hid (∀ W, (Abv w3 W ∧ CellsAt W b9 [.int .i64 3, .int .i64 (md : Int), .string tx] ∧ CellsAt W b13 [.int .i64 ((at_ : Int) + (ty.size : Int)), .int .i64 (m : Int)]) → W.cell? ⟨b9, 1, none⟩ = some (.int .i64 (md : Int))) := fun W hW => hW.2.1.2 1 (by simp)
                refine wp_region_W (S := (fun W => Abv w3 W ∧ CellsAt W b9 [.int .i64 3, .int .i64 (md : Int), .string tx] ∧ CellsAt W b13 [.int .i64 ((at_ : Int) + (ty.size : Int)), .int .i64 (m : Int)])) [(false, 0), (false, 1), (false, 2), (false, 3), (false, 4), (false, 5), (false, 8), (true, 6), (false, 7), (true, 9), (true, 10), (true, 11), (false, 12)] (by kernel_rfl) (by kernel_rfl) ⟨bwDrew HOX.out.B, HC9.out.drew, HC13.out.drew⟩ ?_
                simp only [attachW, List.getElem?_cons_zero, List.getElem?_cons_succ]
                refine' wpHX_val rfl (fun W hW => ?_) ?_
                rotate_left
                · have hcf := CFX.out W hW; go_simp; rfl
                simp only [Act.put, List.setIfInBounds_toArray, List.set_cons_zero, List.set_cons_succ]
                refine' wpHX_val rfl (fun W hW => ?_) ?_
                rotate_left
                · have hcf := CFX.out W hW; go_simp; rfl
                simp only [Act.put, List.setIfInBounds_toArray, List.set_cons_zero, List.set_cons_succ]
                refine' wpHX_val rfl (fun W hW => ?_) ?_
                rotate_left
                · have hcf := CFX.out W hW; go_simp; rfl
                simp only [Act.put, List.setIfInBounds_toArray, List.set_cons_zero, List.set_cons_succ]
                refine' wpHX_val rfl (fun W hW => ?_) ?_
                rotate_left
                · have hcf := CFX.out W hW; go_simp; rfl
                simp only [Act.put, List.setIfInBounds_toArray, List.set_cons_zero, List.set_cons_succ]
                refine' wpHX_val rfl (fun W hW => ?_) ?_
                rotate_left
                · have hcf := CFX.out W hW; go_simp; rfl
                simp only [Act.put, List.setIfInBounds_toArray, List.set_cons_zero, List.set_cons_succ]
                refine' wpHX_val rfl (fun W hW => ?_) ?_
                rotate_left
                · have hcf := CFX.out W hW; go_simp; rfl
                simp only [Act.put, List.setIfInBounds_toArray, List.set_cons_zero, List.set_cons_succ]
                refine' wpHX_val rfl (fun W hW => exec_loadAgg 179 _ Tryz.underlying179 rfl rfl b13 [_, _] stateSz rfl hW.2.2) ?_
                simp only [Act.put, List.setIfInBounds_toArray, List.set_cons_zero, List.set_cons_succ]
                refine' wpHX_acall rfl (fun W => ?_) ?_
                rotate_left 2
                · go_simp; exact ⟨rfl, rfl⟩
                refine (numberBits_any md _).mono ?_
                rintro e W1 ⟨rfl, hw'⟩
                rw [hw']
                clear hw'
                refine ⟨_, rfl, ⟨bwDrew HOX.out.B, HC9.out.drew, HC13.out.drew⟩, ?_⟩
                simp only [Act.put, List.setIfInBounds_toArray, List.set_cons_zero, List.set_cons_succ]
                refine' wpHX_val rfl (fun W hW => ?_) ?_
                rotate_left
                · have hcf := CFX.out W hW; go_simp; rfl
                simp only [Act.put, List.setIfInBounds_toArray, List.set_cons_zero, List.set_cons_succ]
                refine' wpHX_aval rfl (by go_simp; rfl) ⟨bwDrew HOX.out.B, HC9.out.drew, HC13.out.drew⟩ ?_
                simp only [Act.put, List.setIfInBounds_toArray, List.set_cons_zero, List.set_cons_succ]
                have HOD : Hid (OGO w3 X.drew u5 (optK C p at_ m k ++ optSK p at_ m k md j)) := HOX.out.below (bwDrew (Below.refl _ _))
                have HC9D : Hid (CellsAt X.drew b9 [.int .i64 3, .int .i64 (md : Int), .string tx]) := HC9.out.drew
                have HC13D : Hid (CellsAt X.drew b13 [.int .i64 ((at_ : Int) + (ty.size : Int)), .int .i64 (m : Int)]) := HC13.out.drew
                clear HOX HC9 HC13 CFX
                generalize X.drew = Y at *
                refine' wpHX_aval (v := .slice (some ⟨Y.heap.size, 0, none⟩) 1 1) (w' := Y.alloc (.cells no.vals.toArray 181)) rfl (by rw [HNO.out]; go_simp; rfl) ⟨bwAlloc HOD.out.B _, HC9D.out.alloc _, HC13D.out.alloc _⟩ ?_
                simp only [Act.put, List.setIfInBounds_toArray, List.set_cons_zero, List.set_cons_succ]
                refine' wpHX_append_opt HOD.out (bwA _ _) rfl _ _ rfl rfl _ _ no rfl (new_opt _ no _ _ rfl) (by have := HHL.out; omega) ?_
                intro v5 w7 hov hg hor
                have HP := Lib.hid hov
                have HNE3 : Hid (∀ q, v5.ownBlock = some q → q ≠ b9) := by
                  show ∀ q, _
                  intro q hq
                  rcases hor with e | e
                  · exact (HNE2.out q (by rw [← e]; exact hq)).1
                  · rw [e] at hq
                    injection hq with hq
                    have := HC9D.out.1
                    have e2 : (Y.alloc (.cells no.vals.toArray 181)).heap.size = Y.heap.size + 1 := by simp
                    omega
                have hC7 : CellsAt w7 b9 [.int .i64 3, .int .i64 (md : Int), .string tx] := (HC9D.out.alloc _).grown hg (fun q hq => (HNE2.out q hq).1)
                have hC8 : CellsAt w7 b13 [.int .i64 ((at_ : Int) + (ty.size : Int)), .int .i64 (m : Int)] := (HC13D.out.alloc _).grown hg (fun q hq => (HNE2.out q hq).2)
                refine ⟨⟨hov.B, hC7, hC8⟩, ?_⟩
                have HC7 := Lib.hid hC7
                clear hov hg hor hC7 hC8
                repeat
                  refine' wpHX_val rfl (fun W hW => ?_) ?_
                  rotate_left
                  · go_simp; rfl
                  simp only [Act.put, List.setIfInBounds_toArray, List.set_cons_zero, List.set_cons_succ]
                refine wpHX_nil ?_
                go_wp2
                exact ⟨⟨j + 1, by omega, by go_num, by rw [HR2.out, ← List.append_assoc]; exact HP.out, HC7.out, HNE3.out⟩, by simp [intOf]; omega⟩
              | false =>
                have HR2 : Hid (optSK p at_ m k md (j + 1) = optSK p at_ m k md j) := by show _ = _; rw [HK2.out, HN2.out, hpr, if_neg (by simp), List.append_nil]
                have HPR : Hid (Lib.hasPrefix q.data.toList ty.data.toList = false) := by show _ = _; rw [HQ.out]; exact hpr
                clear hpr HK2 HN2
                go_wp2_with (first
                  | (go_at_call 215; refine (Tryz.strings_HasPrefix _ _ _).mono ?_; rintro e w' ⟨rfl, hw'⟩; rw [hw', HPR.out]; clear hw')
                  | (with_reducible show wpList _ _ _ (⟨_, Op.index 169 _ _, _, _, _, _⟩ :: _) _ _; refine wpList_indexAgg rfl 169 _ _ rfl 32 168 Tryz.underlying169 _ Tryz.underlying168 rfl 3 meanSz tr .i64 j j rfl rfl rfl hlt2 _ HE2.out ?_)
                  | (with_reducible show wpList _ _ _ (⟨_, Op.alloc 168, _, _, _, _⟩ :: _) _ _; refine wpList_allocAgg rfl 168 rfl _ meanInfo ?_)
                  | (with_reducible show wpList _ _ _ (⟨_, Op.store 168 _ _, _, _, _, _⟩ :: _) _ _; refine wpList_storeNew rfl 168 _ _ rfl 168 _ _ rfl rfl meanSz rfl (mc_one _ _ _) ?_))
                exact ⟨⟨j + 1, by omega, by go_num, by rw [HR2.out]; exact hO.out.below (bwA _ _), hC.out.alloc _, hNE.out⟩, by simp [intOf]; omega⟩
            have z1 : ((kd : Int) == 1) = false := by rw [beq_eq_false_iff_ne]; omega
            have HR2 : Hid (optSK p at_ m k md (j + 1) = optSK p at_ m k md j) := by show _ = _; rw [HK2.out, HN2.out, if_neg (fun h => k1 h.1), List.append_nil]
            clear k1 HK2 HN2
            go_wp2_with (first
              | (with_reducible show wpList _ _ _ (⟨_, Op.index 169 _ _, _, _, _, _⟩ :: _) _ _; refine wpList_indexAgg rfl 169 _ _ rfl 32 168 Tryz.underlying169 _ Tryz.underlying168 rfl 3 meanSz tr .i64 j j rfl rfl rfl hlt2 _ HE2.out ?_)
              | (with_reducible show wpList _ _ _ (⟨_, Op.alloc 168, _, _, _, _⟩ :: _) _ _; refine wpList_allocAgg rfl 168 rfl _ meanInfo ?_)
              | (with_reducible show wpList _ _ _ (⟨_, Op.store 168 _ _, _, _, _, _⟩ :: _) _ _; refine wpList_storeNew rfl 168 _ _ rfl 168 _ _ rfl rfl meanSz rfl (mc_one _ _ _) ?_))
            exact ⟨⟨j + 1, by omega, by go_num, by rw [HR2.out]; exact hO.out.below (bwA _ _), hC.out.alloc _, hNE.out⟩, by simp [intOf]; omega⟩
          · have hj2 : j = 32 := by omega
            have HO11 : Hid (OGO w3 wr u5 (optK C p at_ m k ++ optSK p at_ m k md 32)) := by rw [← hj2]; exact hO.out
            have f0 := (hC.out.2 0 (by simp))
            simp only [List.getD, List.getElem?_cons_zero, Option.getD_some] at f0
            clear hO hC hNE
            go_wp2
            exact ⟨⟨k + 1, by omega, by go_num, by rw [HR.out]; exact HO11.out⟩, by simp [intOf]; omega⟩
      have z3 : ((kd : Int) == 3) = false := by rw [beq_eq_false_iff_ne]; omega
      by_cases k4 : kd = 4
      · subst k4
        have HR : Hid (optK C p at_ m (k + 1) = optK C p at_ m k ++ [binOpt C k at_ m (p.size - at_)]) := by show _ = _; rw [HK.out, HN.out, if_neg (by omega), if_neg (by omega), if_neg (by omega), if_pos rfl]
        have HS4 : Hid (∀ W, Abv wr W → SW W sb cb cap hb p C) := fun W hW => HS3.out.below (bwStep hO.out.B hW)
        clear HK HN HS3
        go_wp2_with (first
            | (with_reducible show wpList _ _ _ (⟨_, Op.index 169 _ _, _, _, _, _⟩ :: _) _ _; refine wpList_indexAgg rfl 169 _ _ rfl 32 168 Tryz.underlying169 _ Tryz.underlying168 rfl 3 meanSz tb .i64 k k rfl rfl rfl hlt _ HE.out ?_)
            | (with_reducible show wpList _ _ _ (⟨_, Op.alloc 168, _, _, _, _⟩ :: _) _ _; refine wpList_allocAgg rfl 168 rfl _ meanInfo ?_)
            | (with_reducible show wpList _ _ _ (⟨_, Op.store 168 _ _, _, _, _, _⟩ :: _) _ _; refine wpList_storeNew rfl 168 _ _ rfl 168 _ _ rfl rfl meanSz rfl (mc_one _ _ _) ?_)
            | (with_reducible show wpList _ _ _ (⟨_, Op.load 179 _, _, _, _, _⟩ :: _) _ _; refine wpList_loadAgg rfl 179 _ rfl _ Tryz.underlying179 rfl ⟨w.heap.size, 0, none⟩ [.int .i64 (at_ : Int), .int .i64 (m : Int)] stateSz rfl (load_cells ((CF3c.out wr hO.out.B).alloc _)) ?_)
            | (go_at_call 216; refine (binaryOption_any k at_ m _ sb cb cap hb p C (HS4.out _ (bwA _ _)) ha hm hlt).mono ?_; rintro e w6 ⟨rfl, hb6⟩; have HB6 := Lib.hid ((bwA _ _).trans (hb6.mono (by simp))); clear hb6; generalize binOpt C k at_ m (p.size - at_) = no at *; rw [no.val_eq])
            | (at_builtin; refine wpList_append_opt hO.out (bwAlloc HB6.out _) rfl _ _ rfl rfl _ _ no (by rfl) (new_opt _ no _ _ (by simp)) (by have := HL.out; omega) ?_; intro v5 w5 HP))
        exact ⟨⟨k + 1, by omega, by go_num, by rw [HR.out]; exact HP.out⟩, by simp [intOf]; omega⟩
      have z4 : ((kd : Int) == 4) = false := by rw [beq_eq_false_iff_ne]; omega
      have HR : Hid (optK C p at_ m (k + 1) = optK C p at_ m k) := by show _ = _; rw [HK.out, HN.out, if_neg k1, if_neg k2, if_neg k3, if_neg k4, List.append_nil]
      clear k1 k2 k3 k4 HK HN HS3
      go_wp2_with (first
        | (with_reducible show wpList _ _ _ (⟨_, Op.index 169 _ _, _, _, _, _⟩ :: _) _ _; refine wpList_indexAgg rfl 169 _ _ rfl 32 168 Tryz.underlying169 _ Tryz.underlying168 rfl 3 meanSz tb .i64 k k rfl rfl rfl hlt _ HE.out ?_)
        | (with_reducible show wpList _ _ _ (⟨_, Op.alloc 168, _, _, _, _⟩ :: _) _ _; refine wpList_allocAgg rfl 168 rfl _ meanInfo ?_)
        | (with_reducible show wpList _ _ _ (⟨_, Op.store 168 _ _, _, _, _, _⟩ :: _) _ _; refine wpList_storeNew rfl 168 _ _ rfl 168 _ _ rfl rfl meanSz rfl (mc_one _ _ _) ?_))
      exact ⟨⟨k + 1, by omega, by go_num, by rw [HR.out]; exact hO.out.below (bwA _ _)⟩, by simp [intOf]; omega⟩
    · have hk2 : k = 32 := by omega
      have HR : Hid (OGO w wr u5 (optK C p at_ m 32)) := by rw [← hk2]; exact hO.out.lift HB3.out
      clear hO HS3
      go_wp2
      go_ret
      exact ⟨_, rfl, HR.out⟩
end Go.Proofs.YtmnlkganmgcpbaaGreatDoor
