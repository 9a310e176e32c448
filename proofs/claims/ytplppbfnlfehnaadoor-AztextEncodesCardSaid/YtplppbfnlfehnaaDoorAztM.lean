import Derived.Test.YtplppbfnlfehnaaDoorAztL
namespace Go.Proofs.YtplppbfnlfehnaaDoor
open Go.RowKit
set_option linter.unusedVariables false
/-! the options of a state -/
/-- does the payload go on with these bytes? -/
def preB (p : ByteArray) (at_ : Nat) (t : ByteArray) : Bool := Lib.hasPrefix (p.extract at_ p.size).data.toList t.data.toList
def optS (p : ByteArray) (at_ m n md s : Nat) : List Opt :=
  if kindF md s = 1 ∧ preB p at_ (charF md s) = true then [⟨n, (s : Int), 0, false, widthN m + widthN md, at_ + (charF md s).size, m⟩] else []
def optSK (p : ByteArray) (at_ m n md : Nat) : Nat → List Opt
  | 0 => []
  | k + 1 => optSK p at_ m n md k ++ optS p at_ m n md k
def optN (C : Nat → Nat → Nat) (p : ByteArray) (at_ m n : Nat) : List Opt :=
  if kindF m n = 1 then (if preB p at_ (charF m n) = true then [⟨n, -1, 0, false, widthN m, at_ + (charF m n).size, m⟩] else [])
  else if kindF m n = 2 then [⟨n, -1, 0, false, widthN m, at_, modeF m n⟩]
  else if kindF m n = 3 then optSK p at_ m n (modeF m n) 32
  else if kindF m n = 4 then [binOpt C n at_ m (p.size - at_)]
  else []
def optK (C : Nat → Nat → Nat) (p : ByteArray) (at_ m : Nat) : Nat → List Opt
  | 0 => []
  | k + 1 => optK C p at_ m k ++ optN C p at_ m k
theorem optS_len (p : ByteArray) (at_ m n md s : Nat) : (optS p at_ m n md s).length ≤ 1 := by unfold optS; split <;> simp
theorem optSK_len (p : ByteArray) (at_ m n md : Nat) : ∀ k, (optSK p at_ m n md k).length ≤ k
  | 0 => Nat.le_refl _
  | k + 1 => by
    have h1 := optSK_len p at_ m n md k
    have h2 := optS_len p at_ m n md k
    unfold optSK
    rw [List.length_append]; omega
theorem optN_len (C : Nat → Nat → Nat) (p : ByteArray) (at_ m n : Nat) : (optN C p at_ m n).length ≤ 32 := by
  have h := optSK_len p at_ m n (modeF m n) 32
  unfold optN
  generalize optSK p at_ m n (modeF m n) 32 = l at *
  generalize binOpt C n at_ m (p.size - at_) = q
  generalize preB p at_ (charF m n) = z
  generalize kindF m n = kd
  by_cases h1 : kd = 1
  · rw [if_pos h1]; cases z <;> simp
  · rw [if_neg h1]
    by_cases h2 : kd = 2
    · rw [if_pos h2]; simp
    · rw [if_neg h2]
      by_cases h3 : kd = 3
      · rw [if_pos h3]; exact h
      · rw [if_neg h3]; split <;> simp
theorem optK_len (C : Nat → Nat → Nat) (p : ByteArray) (at_ m : Nat) : ∀ k, (optK C p at_ m k).length ≤ 32 * k
  | 0 => Nat.le_refl _
  | k + 1 => by
    have h1 := optK_len C p at_ m k
    have h2 := optN_len C p at_ m k
    unfold optK
    rw [List.length_append]; omega
theorem modeF_lt (m n : Nat) : modeF m n < 5 := by unfold modeF; split <;> omega
theorem charF_le_all : ∀ m, m < 5 → ∀ n, n < 32 → (charF m n).size ≤ 2 := of_decide_eq_true (by kernel_rfl)
/-! a list of options that grows -/
theorem optInfo2 : (Tryd.prog.info? 87).map (fun i => (i.zero, i.size, i.bytes)) = some (some (.agg #[.int .i64 0, .int .i64 0, .int .i64 0, .bool false, .int .i64 0, .int .i64 0, .int .i64 0]), 7, 56) := by kernel_rfl
structure OGO (w wr : World) (v : Value) (l : List Opt) : Prop where
  B : Abv w wr
  O : wr.ownsRow w.heap.size 87 7 v l.length (l.flatMap Opt.vals)
theorem OGO.start (w wr : World) (h : Abv w wr) : OGO w wr (.slice none 0 0) [] := ⟨h, World.ownsRow_nil _ _ _ _⟩
theorem OGO.below {w wr W : World} {v : Value} {l : List Opt} (h : OGO w wr v l) (hW : Below wr.heap.size wr W) : OGO w W v l := ⟨bwStep h.B hW, ownsRow_below h.O hW⟩
theorem OGO.lift {w w3 wr : World} {v : Value} {l : List Opt} (h : OGO w3 wr v l) (hW : Abv w w3) : OGO w wr v l := by
  refine ⟨bwStep hW h.B, h.O.1, ?_⟩
  rcases h.O.2 with h2 | ⟨g, cap, cur, h1, h2, h3⟩
  · exact .inl h2
  · exact .inr ⟨g, cap, cur, h1, Nat.le_trans hW.size h2, h3⟩
theorem append_opt {w wr W : World} {v : Value} {l : List Opt} (h : OGO w wr v l) (hW : Below wr.heap.size wr W) (ty : TypeId) (ad : Addr) (c : Nat) (x : Opt) (hc : ∀ j u, x.vals[j]? = some u → W.cell? (ad.add j) = some u) (hl : l.length ≤ 5000) :
    ∃ v' w', (Builtin.append_ #[104, 104] ty #[v, .slice (some ad) 1 c]).run Tryd.prog W = .ok v' w' ∧ OGO w w' v' (l ++ [x]) ∧ W.grownBy w' v.ownBlock ∧ (v'.ownBlock = v.ownBlock ∨ v'.ownBlock = some W.heap.size) := by
  obtain ⟨i0, hi, hz0, hz1, hz2⟩ := info_parts optInfo2
  have hO := ownsRow_below h.O hW
  have hB := bwStep h.B hW
  obtain ⟨v', w', hrun, h2, h3, _, h5⟩ := run_append_own_at (P := Tryd.prog) W w.heap.size 104 ty 87 i0 _ 7 56 Tryd.underlying104 hi hz0 hz1 hz2 rfl (by omega) v l.length _ hO ad 1 c x.vals (by rfl) hc (Opt.one x) (by unfold maxLen; omega) (by omega) hB.size
  refine ⟨v', w', hrun, ⟨hB.grown h3 hB.size (fun k hk => (hO.lt k hk).1), ?_⟩, h3, h5⟩
  rw [List.length_append, List.flatMap_append, List.flatMap_singleton]
  exact h2
theorem wpList_append_opt {ops : Array Oper} {rest : List Oper} {o : Oper} {a : Act} {Q : Exit → Act → World → Prop} {w wr W : World} {v : Value} {l : List Opt} (h : OGO w wr v l) (hW : Below wr.heap.size wr W) (hgd : o.guard = none) (s y : Operand)
    (ho : o.op = .call { callee := .builtin .append, args := #[s, y], argTypes := #[104, 104] }) (hs : a.eval s = v) (ad : Addr) (c : Nat) (x : Opt) (hy : a.eval y = .slice (some ad) 1 c)
    (hc : ∀ j u, x.vals[j]? = some u → W.cell? (ad.add j) = some u) (hl : l.length ≤ 5000) (hk : ∀ v' w', Hid (OGO w w' v' (l ++ [x])) → wpList Tryd.prog ops Q rest (a.put o.dst v') w') : wpList Tryd.prog ops Q (o :: rest) a W := by
  refine wpList_plain hgd fun K hK => ?_
  obtain ⟨v', w', hrun, h2, h3⟩ := append_opt h hW o.type ad c x hc hl
  unfold Oper.wp execOp
  simp only [ho, resolve, invoke, builtin, Sem.run_bind, Sem.run_pure, Result.andThen_ok, List.map_toArray, List.map_cons, List.map_nil, hs, hy, hrun]
  exact hK _ _ (hk v' w' h2)
theorem exec_append_opt {o : Oper} {a : Act} {w wr W : World} {v : Value} {l : List Opt} (h : OGO w wr v l) (hW : Below wr.heap.size wr W) (s y : Operand)
    (ho : o.op = .call { callee := .builtin .append, args := #[s, y], argTypes := #[104, 104] }) (hs : a.eval s = v) (ad : Addr) (c : Nat) (x : Opt) (hy : a.eval y = .slice (some ad) 1 c)
    (hc : ∀ j u, x.vals[j]? = some u → W.cell? (ad.add j) = some u) (hl : l.length ≤ 5000) : ∃ v' w', (execOp a.eval o).run Tryd.prog W = .ok (.value v') w' ∧ OGO w w' v' (l ++ [x]) ∧ W.grownBy w' v.ownBlock ∧ (v'.ownBlock = v.ownBlock ∨ v'.ownBlock = some W.heap.size) := by
  obtain ⟨v', w', hrun, h2, h3⟩ := append_opt h hW o.type ad c x hc hl
  refine ⟨v', w', ?_, h2, h3⟩
  unfold execOp
  simp only [ho, resolve, invoke, builtin, Sem.run_bind, Sem.run_pure, Result.andThen_ok, List.map_toArray, List.map_cons, List.map_nil, hs, hy, hrun]
theorem wpHX_append_opt {ops : Array Oper} {S : World → Prop} {K : Act → World → Prop} {r : List (Bool × Nat × Oper)} {k : Nat} {o : Oper} {a : Act} {w wr W : World} {v : Value} {l : List Opt} (h : OGO w wr v l) (hW : Below wr.heap.size wr W)
    (hgd : Region.wanted o (yielded ops a.tmps) = true) (s y : Operand)
    (ho : o.op = .call { callee := .builtin .append, args := #[s, y], argTypes := #[104, 104] }) (hs : a.eval s = v) (ad : Addr) (c : Nat) (x : Opt) (hy : a.eval y = .slice (some ad) 1 c)
    (hc : ∀ j u, x.vals[j]? = some u → W.cell? (ad.add j) = some u) (hl : l.length ≤ 5000)
    (hk : ∀ v' w', OGO w w' v' (l ++ [x]) → W.grownBy w' v.ownBlock → (v'.ownBlock = v.ownBlock ∨ v'.ownBlock = some W.heap.size) → S w' ∧ wpHX Tryd.prog ops S K r (a.put o.dst v') w') : wpHX Tryd.prog ops S K ((true, k, o) :: r) a W := by
  obtain ⟨v', w', hrun, h2, h3, h4⟩ := exec_append_opt h hW s y ho hs ad c x hy hc hl
  have h5 := hk v' w' h2 h3 h4
  exact wpHX_aval hgd hrun h5.1 h5.2
theorem load_cells {W : World} {b : Nat} {vs : List Value} (h : CellsAt W b vs) : ∀ j v, vs[j]? = some v → W.cell? ((⟨b, 0, none⟩ : Addr).add j) = some v := by
  intro j v hj
  have hl : j < vs.length := by
    rcases Nat.lt_or_ge j vs.length with h1 | h1
    · exact h1
    · rw [List.getElem?_eq_none h1] at hj; cases hj
  rw [add_plain, Nat.zero_add, h.2 j hl]
  simp [List.getD, hj]
theorem Opt.val_eq (o : Opt) : o.val = .agg #[.int .i64 (o.num : Int), .int .i64 o.sec, .int .i64 (o.run : Int), .bool o.long, .int .i64 (o.size : Int), .int .i64 (o.at_ : Int), .int .i64 (o.mode : Int)] := rfl
theorem new_opt (W : World) (x : Opt) (t : TypeId) (b : Nat) (hb : b = W.heap.size) : ∀ j u, x.vals[j]? = some u → (W.alloc (.cells x.vals.toArray t)).cell? ((⟨b, 0, none⟩ : Addr).add j) = some u := load_opt (Opt.cells W x t b hb)
theorem exec_loadRow {a : Act} {o : Oper} {W : World} {sb cb cap hb : Nat} {p : ByteArray} {C : Nat → Nat → Nat} {q : Operand} (h : SW W sb cb cap hb p C) (ho : o.op = .load 63 q) (f m : Nat) (hp : a.eval q = .pointer (some ⟨sb, f, none⟩)) (hf : f = 1 + m * 96) (hm : m < 5) :
    (execOp a.eval o).run Tryd.prog W = .ok (.value (.agg (rowF m).toArray)) W := by
  subst hf
  have hrun := run_loadVar_cells (P := Tryd.prog) W 63 _ ⟨sb, 1 + m * 96, none⟩ (rowF m) Tryd.underlying63 rfl (by rw [rowF_len]; kernel_rfl) (fun j v hj => by
    have hl : j < 96 := by
      rcases Nat.lt_or_ge j 96 with h1 | h1
      · exact h1
      · rw [List.getElem?_eq_none (by rw [rowF_len]; exact h1)] at hj; cases hj
    rw [add_plain, Nat.add_assoc]
    refine h.ct _ _ ?_
    rw [theTab_get m j hm hl]; exact hj)
  unfold execOp
  simp only [ho, hp, Instr.loadAt, Instr.sureAddr, Sem.run_bind, Sem.run_pure, Result.andThen_ok, hrun]
theorem exec_loadAgg {a : Act} {o : Oper} {W : World} (t : TypeId) (d : TypeDesc) (hu : Tryd.prog.underlying t = some d) (hd : aggD d = true) {q : Operand} (ho : o.op = .load t q) (b : Nat) (cs : List Value) (hi : (Tryd.prog.info? t).map (·.size) = some cs.length) (hp : a.eval q = .pointer (some ⟨b, 0, none⟩)) (h : CellsAt W b cs) :
    (execOp a.eval o).run Tryd.prog W = .ok (.value (.agg cs.toArray)) W := by
  have hrun := run_loadVar_cells (P := Tryd.prog) W t d ⟨b, 0, none⟩ cs hu hd hi (load_cells h)
  unfold execOp
  simp only [ho, hp, Instr.loadAt, Instr.sureAddr, Sem.run_bind, Sem.run_pure, Result.andThen_ok, hrun]
theorem CellsAt.grown {W W' : World} {b : Nat} {vs : List Value} {row : Option Nat} (h : CellsAt W b vs) (hg : W.grownBy W' row) (hne : ∀ q, row = some q → q ≠ b) : CellsAt W' b vs :=
  ⟨Nat.lt_of_lt_of_le h.1 hg.size, fun i hi => (hg.cell_far ⟨b, i, none⟩ h.1 (fun e => hne b e.symm rfl)).trans (h.2 i hi)⟩
theorem meanInfo : (Tryd.prog.info? 62).map (·.zero) = some (some (.agg #[.int .i64 0, .int .i64 0, .string ByteArray.empty])) := by kernel_rfl
theorem stateInfo : (Tryd.prog.info? 85).map (·.zero) = some (some (.agg #[.int .i64 0, .int .i64 0])) := by kernel_rfl
theorem stateSz : (Tryd.prog.info? 85).map (·.size) = some 2 := by kernel_rfl
theorem state_one (a b : Int) : ∀ v ∈ [Value.int .i64 a, .int .i64 b], v.oneCell' = true := by
  intro v hv
  simp only [List.mem_cons, List.not_mem_nil, or_false] at hv
  rcases hv with rfl | rfl <;> rfl
end Go.Proofs.YtplppbfnlfehnaaDoor
