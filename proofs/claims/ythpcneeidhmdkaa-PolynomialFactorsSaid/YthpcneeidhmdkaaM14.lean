import Derived.Test.YthpcneeidhmdkaaM13
namespace Go.Proofs.Ythpcneeidhmdkaa
open Go.RowKit
set_option linter.unusedVariables false
/-! a region that draws its order, walked once in an order of one's own: an operation that leaves the world alone and has one value in all worlds that meet S is taken as soon as it is ready; any other when no other is ready -/
section
variable {P : Program} {ops : Array Oper} {md : Region.Mode} {S : World → Prop}
def givW (P : Program) (k : Value → World → Prop) : Result Next → Prop
  | .ok (.value u) w' => k u w'
  | .ok .skip w' => k undef w'
  | .ok (.enter f args) w' => Calls P f args w' (fun e w'' => ∃ v, e = .returned v ∧ k v w'')
  | _ => False
theorem givW_mono {k k' : Value → World → Prop} (h : ∀ v w, k v w → k' v w) : ∀ {r : Result Next}, givW P k r → givW P k' r
  | .ok (.value u) w', hh => h _ _ hh
  | .ok .skip w', hh => h _ _ hh
  | .ok (.enter f args) w', hh => Calls.mono hh fun e w'' ⟨v, h1, h2⟩ => ⟨v, h1, h _ _ h2⟩
  | .halt _ _, hh => hh.elim
def YieldsW (P : Program) (ops : Array Oper) (S : World → Prop) (o : Oper) (v : Value) (a : Act) : Prop :=
  (Region.wanted o (yielded ops a.tmps) = true ∧ ∀ w, S w → (execOp a.eval o).run P w = .ok (.value v) w) ∨ (Region.wanted o (yielded ops a.tmps) = false ∧ v = undef)
theorem YieldsW.of_same {o : Oper} {v : Value} {a a' : Act} (hy : YieldsW P ops S o v a) (he : execOp a'.eval o = execOp a.eval o)
    (hw : Region.wanted o (yielded ops a'.tmps) = Region.wanted o (yielded ops a.tmps)) : YieldsW P ops S o v a' := by
  unfold YieldsW at *
  rw [he, hw]
  exact hy
def stW (P : Program) (ops : Array Oper) (S : World → Prop) (i : Nat) (K : Act → World → Prop) (a : Act) (w : World) : Prop :=
  ∃ o, ops[i]? = some o ∧ ((Region.wanted o (yielded ops a.tmps) = true ∧ givW P (fun v w' => S w' ∧ K (a.put o.dst v) w') ((execOp a.eval o).run P w)) ∨
    (Region.wanted o (yielded ops a.tmps) = false ∧ S w ∧ K (a.put o.dst undef) w))
theorem stW_mono {i : Nat} {a : Act} {w : World} {K K' : Act → World → Prop} (h : ∀ a w, S w → K a w → K' a w) (hh : stW P ops S i K a w) : stW P ops S i K' a w := by
  obtain ⟨o, ho, h1 | h1⟩ := hh
  · exact ⟨o, ho, .inl ⟨h1.1, givW_mono (fun v w' h2 => ⟨h2.1, h _ _ h2.1 h2.2⟩) h1.2⟩⟩
  · exact ⟨o, ho, .inr ⟨h1.1, h1.2.1, h _ _ h1.2.1 h1.2.2⟩⟩
theorem stW_put {j : Nat} {oi oj : Oper} {v : Value} (hj : ops[j]? = some oj) (hap : oi.apart ops oj = true)
    (hsi : ∀ cs b, oi.op ≠ .select cs b) (hsj : ∀ cs b, oj.op ≠ .select cs b) {K : Act → World → Prop} {a : Act} {w : World}
    (hy : YieldsW P ops S oi v a) (h : stW P ops S j K (a.put oi.dst v) w) :
    stW P ops S j (fun a' w' => YieldsW P ops S oi v a' ∧ K (a'.put oi.dst v) w') a w := by
  obtain ⟨h1, h2, h3⟩ := Oper.apart_spec hap
  obtain ⟨o, ho, hh⟩ := h
  obtain rfl : o = oj := Option.some.inj (ho.symm.trans hj)
  have e1 : execOp (a.put oi.dst v).eval o = execOp a.eval o := execOp_put o hsj a oi.dst v h1
  have e2 : Region.wanted o (yielded ops (a.put oi.dst v).tmps) = Region.wanted o (yielded ops a.tmps) := wanted_put o a oi.dst v h1
  rw [e1, e2] at hh
  have key : ∀ u, YieldsW P ops S oi v (a.put o.dst u) := fun u => hy.of_same (execOp_put oi hsi a o.dst u h3) (wanted_put oi a o.dst u h3)
  refine ⟨o, ho, ?_⟩
  rcases hh with hh | hh
  · refine .inl ⟨hh.1, givW_mono (fun u w' h4 => ⟨h4.1, key u, ?_⟩) hh.2⟩
    rw [← Act.put_comm a v u h2]; exact h4.2
  · refine .inr ⟨hh.1, hh.2.1, key undef, ?_⟩
    rw [← Act.put_comm a v undef h2]; exact hh.2.2
theorem wpOp_of_stW {i : Nat} {a : Act} {w : World} {K : Act → World → Prop} {K' : Act → World → Prop} {Q' : Exit → Act → World → Prop}
    (h : ∀ a w, K a w → K' a w) (hh : stW P ops S i K a w) : wpOp P ops Q' i K' a w := by
  obtain ⟨o, ho, hh⟩ := hh
  unfold wpOp
  simp only [ho]
  rcases hh with ⟨hw, h1⟩ | ⟨hw, _, h1⟩
  · simp only [hw, if_true]
    refine .inl ?_
    unfold Oper.wp
    generalize (execOp a.eval o).run P w = r at *
    cases r with
    | ok n w' =>
      cases n <;> simp only [givW] at h1 <;> simp only [Oper.upon]
      case value u => exact h _ _ h1.2
      case skip => exact h _ _ h1.2
      case enter f args => exact h1.mono fun e w'' ⟨v, he, _, h2⟩ => by subst he; exact h _ _ h2
    | halt x w' => simp only [givW] at h1
  · simp only [hw, Bool.false_eq_true, if_false]; exact h _ _ h1
def wpAnyW (P : Program) (md : Region.Mode) (ops : Array Oper) (S : World → Prop) (K : Act → World → Prop) : Nat → Array Bool → Act → World → Prop
  | 0, listed, a, w => Region.ready md ops listed = [] ∧ K a w
  | f + 1, listed, a, w => Region.ready md ops listed ≠ [] ∧ ∀ i ∈ Region.ready md ops listed, stW P ops S i (wpAnyW P md ops S K f (listed.setIfInBounds i true)) a w
theorem wpAny_of_W {Q' : Exit → Act → World → Prop} : ∀ (f : Nat) (listed : Array Bool) (a : Act) (w : World), wpAnyW P md ops S (Q' .normal) f listed a w → wpAny P md ops Q' f listed a w
  | 0, listed, a, w, h => h
  | f + 1, listed, a, w, h => ⟨fun h0 => absurd h0 h.1, fun i hi => wpOp_of_stW (fun a' w' h' => wpAny_of_W f _ a' w' h') (h.2 i hi)⟩
theorem wpAnyW_first {i : Nat} {oi : Oper} {v : Value} {K : Act → World → Prop} (hi : ops[i]? = some oi) (hsel : ∀ (j : Nat) (o : Oper) cs b, ops[j]? = some o → o.op ≠ .select cs b) :
    ∀ (f : Nat) (listed : Array Bool) (a : Act) (w : World), S w →
      (∀ j oj, ops[j]? = some oj → j ≠ i → listed.getD j true = false → (∀ e ∈ oj.after, Region.binds md e = true → e.on ≠ i) → oi.apart ops oj = true) →
      i ∈ Region.ready md ops listed → YieldsW P ops S oi v a →
      wpAnyW P md ops S K f (listed.setIfInBounds i true) (a.put oi.dst v) w → wpAnyW P md ops S K (f + 1) listed a w := by
  have st : ∀ (a : Act) (w : World) (K : Act → World → Prop), S w → YieldsW P ops S oi v a → K (a.put oi.dst v) w → stW P ops S i K a w := fun a w K hS hy hK => by
    refine ⟨oi, hi, ?_⟩
    rcases hy with ⟨h1, h2⟩ | ⟨h1, rfl⟩
    · refine .inl ⟨h1, ?_⟩
      rw [h2 w hS]; exact ⟨hS, hK⟩
    · exact .inr ⟨h1, hS, hK⟩
  intro f
  induction f with
  | zero =>
    intro listed a w hS _ hr hy H
    refine ⟨fun h => (by rw [h] at hr; cases hr), fun j hj => ?_⟩
    by_cases hji : j = i
    · subst hji; exact st _ _ _ hS hy H
    · have := ready_mono hj hji
      rw [H.1] at this; cases this
  | succ f ih =>
    intro listed a w hS hfree hr hy H
    have hun := (mem_ready.1 hr).1
    refine ⟨fun h => (by rw [h] at hr; cases hr), fun j hj => ?_⟩
    by_cases hji : j = i
    · subst hji; exact st _ _ _ hS hy H
    · have h1 := H.2 j (ready_mono hj hji)
      obtain ⟨hjun, oj, hoj, hall⟩ := mem_ready.1 hj
      have hnot : ∀ e ∈ oj.after, Region.binds md e = true → e.on ≠ i := fun e he hb heq => by
        have h1 := hall e he hb
        rw [heq, getD_both hun] at h1
        cases h1
      have h2 := stW_put hoj (hfree j oj hoj hji hjun hnot) (fun cs b => hsel i oi cs b hi) (fun cs b => hsel j oj cs b hoj) hy h1
      have hfree' : ∀ k ok, ops[k]? = some ok → k ≠ i → (listed.setIfInBounds j true).getD k true = false →
          (∀ e ∈ ok.after, Region.binds md e = true → e.on ≠ i) → oi.apart ops ok = true := fun k ok hk hki hun hno => by
        refine hfree k ok hk hki ?_ hno
        by_cases hjk : j = k
        · subst hjk; exact hjun
        · rw [getD_set_ne true hjk] at hun; exact hun
      refine stW_mono (fun a' w' hS' h3 => ih (listed.setIfInBounds j true) a' w' hS' hfree' (ready_mono hr (Ne.symm hji)) h3.1 ?_) h2
      rw [Array.setIfInBounds_comm _ _ hji]
      exact h3.2
theorem wpAnyW_alone {i : Nat} {K : Act → World → Prop} {f : Nat} {listed : Array Bool} {a : Act} {w : World} (hr : Region.ready md ops listed = [i])
    (h : stW P ops S i (wpAnyW P md ops S K f (listed.setIfInBounds i true)) a w) : wpAnyW P md ops S K (f + 1) listed a w :=
  ⟨fun h0 => (by rw [h0] at hr; cases hr), fun j hj => by
    rw [hr] at hj
    obtain rfl : j = i := by simpa using hj
    exact h⟩
/-- the walk: (true, k): no other is ready; (false, k): one value in all worlds of S -/
def wpHW (P : Program) (ops : Array Oper) (S : World → Prop) (K : Act → World → Prop) : List (Bool × Nat) → Act → World → Prop
  | [], a, w => K a w
  | (true, k) :: r, a, w => stW P ops S k (wpHW P ops S K r) a w
  | (false, k) :: r, a, w => ∃ o, ops[k]? = some o ∧ ∃ v, YieldsW P ops S o v a ∧ wpHW P ops S K r (a.put o.dst v) w
def ordB (md : Region.Mode) (ops : Array Oper) : List (Bool × Nat) → Array Bool → Bool
  | [], listed => (Region.ready md ops listed).isEmpty
  | (true, k) :: r, listed => decide (Region.ready md ops listed = [k]) && ordB md ops r (listed.setIfInBounds k true)
  | (false, k) :: r, listed => (Region.ready md ops listed).contains k && Region.free md ops listed k && ordB md ops r (listed.setIfInBounds k true)
theorem wpAnyW_ord {K : Act → World → Prop} (hsel : Region.noSelect ops = true) : ∀ (l : List (Bool × Nat)) (listed : Array Bool) (a : Act) (w : World), S w → ordB md ops l listed = true → wpHW P ops S K l a w →
    wpAnyW P md ops S K l.length listed a w
  | [], listed, a, w, hS, hB, h => ⟨by simpa [ordB] using hB, h⟩
  | (true, k) :: r, listed, a, w, hS, hB, h => by
    simp only [ordB, Bool.and_eq_true, decide_eq_true_eq] at hB
    exact wpAnyW_alone hB.1 (stW_mono (fun a' w' hS' h' => wpAnyW_ord hsel r _ a' w' hS' hB.2 h') h)
  | (false, k) :: r, listed, a, w, hS, hB, h => by
    simp only [ordB, Bool.and_eq_true] at hB
    obtain ⟨o, ho, v, hy, hK⟩ := h
    exact wpAnyW_first ho (Region.noSelect_spec hsel) r.length listed a w hS (Region.free_spec ho hB.1.2) (by simpa using hB.1.1) hy (wpAnyW_ord hsel r _ _ w hS hB.2 hK)
/-- the same walk with the operations beside their numbers -/
def attachW (l : List Oper) : List (Bool × Nat) → List (Bool × Nat × Oper)
  | [] => []
  | (b, k) :: r => match l[k]? with
    | some o => (b, k, o) :: attachW l r
    | none => []
def wpHX (P : Program) (ops : Array Oper) (S : World → Prop) (K : Act → World → Prop) : List (Bool × Nat × Oper) → Act → World → Prop
  | [], a, w => K a w
  | (true, _, o) :: r, a, w => (Region.wanted o (yielded ops a.tmps) = true ∧ givW P (fun v w' => S w' ∧ wpHX P ops S K r (a.put o.dst v) w') ((execOp a.eval o).run P w)) ∨
    (Region.wanted o (yielded ops a.tmps) = false ∧ S w ∧ wpHX P ops S K r (a.put o.dst undef) w)
  | (false, _, o) :: r, a, w => ∃ v, YieldsW P ops S o v a ∧ wpHX P ops S K r (a.put o.dst v) w
theorem wpHW_of_X {l : List Oper} {K : Act → World → Prop} : ∀ (ord : List (Bool × Nat)) (listed : Array Bool) (a : Act) (w : World), ordB md l.toArray ord listed = true → wpHX P l.toArray S K (attachW l ord) a w → wpHW P l.toArray S K ord a w
  | [], _, _, _, _, h => h
  | (true, k) :: r, listed, a, w, hB, h => by
    simp only [ordB, Bool.and_eq_true, decide_eq_true_eq] at hB
    have hk : k < l.toArray.size := ready_lt (md := md) (listed := listed) (by rw [hB.1]; simp)
    have ho : l[k]? = some l[k] := List.getElem?_eq_getElem (by simpa using hk)
    simp only [attachW, ho] at h
    refine ⟨l[k], by simp, ?_⟩
    rcases h with h | h
    · exact .inl ⟨h.1, givW_mono (fun v w' h2 => ⟨h2.1, wpHW_of_X r _ _ _ hB.2 h2.2⟩) h.2⟩
    · exact .inr ⟨h.1, h.2.1, wpHW_of_X r _ _ _ hB.2 h.2.2⟩
  | (false, k) :: r, listed, a, w, hB, h => by
    simp only [ordB, Bool.and_eq_true] at hB
    have hk : k < l.toArray.size := ready_lt (md := md) (listed := listed) (by simpa using hB.1.1)
    have ho : l[k]? = some l[k] := List.getElem?_eq_getElem (by simpa using hk)
    simp only [attachW, ho] at h
    obtain ⟨v, h1, h2⟩ := h
    exact ⟨l[k], by simp, v, h1, wpHW_of_X r _ _ _ hB.2 h2⟩
theorem wp_region_W {id : Nat} {Q : Exit → Act → World → Prop} {a : Act} {w : World} {l : List Oper} (ord : List (Bool × Nat)) (hm : P.follows .mixedOrders = true) (hB : (Region.noSelect l.toArray && decide (ord.length = l.toArray.size) && ordB .any l.toArray ord (Array.replicate l.toArray.size false)) = true)
    (hS : S w.drew) (h : wpHX P l.toArray S (fun a' W => wpList P l.toArray Q [] a' W) (attachW l ord) a w.drew) : (Code.region id l.toArray true).wp P Q a w := by
  simp only [Bool.and_eq_true, decide_eq_true_eq] at hB
  refine wp_region_any hm ?_
  rw [← hB.1.2]
  refine wpAny_of_W (S := S) _ _ _ _ ?_
  have := wpAnyW_ord (P := P) (K := Q .normal) hB.1.1 ord _ a w.drew hS hB.2 (wpHW_of_X ord _ a w.drew hB.2 h)
  rw [← hB.1.2] at this
  exact this
/-! steps of the walk -/
section
variable {K : Act → World → Prop} {a : Act} {w : World} {r : List (Bool × Nat × Oper)} {k : Nat} {o : Oper} {v : Value}
theorem wpHX_nil (h : K a w) : wpHX P ops S K [] a w := h
theorem wpHX_val (hg : o.guard = none) (hv : ∀ W, S W → (execOp a.eval o).run P W = .ok (.value v) W) (h : wpHX P ops S K r (a.put o.dst v) w) : wpHX P ops S K ((false, k, o) :: r) a w :=
  ⟨v, .inl ⟨by simp [Region.wanted, hg], hv⟩, h⟩
theorem wpHX_gval (hg : Region.wanted o (yielded ops a.tmps) = true) (hv : ∀ W, S W → (execOp a.eval o).run P W = .ok (.value v) W) (h : wpHX P ops S K r (a.put o.dst v) w) : wpHX P ops S K ((false, k, o) :: r) a w :=
  ⟨v, .inl ⟨hg, hv⟩, h⟩
theorem wpHX_not (hg : Region.wanted o (yielded ops a.tmps) = false) (h : wpHX P ops S K r (a.put o.dst undef) w) : wpHX P ops S K ((false, k, o) :: r) a w :=
  ⟨undef, .inr ⟨hg, rfl⟩, h⟩
/-- alone: a value of this world -/
theorem wpHX_aval (hg : Region.wanted o (yielded ops a.tmps) = true) {w' : World} (hv : (execOp a.eval o).run P w = .ok (.value v) w') (hS : S w') (h : wpHX P ops S K r (a.put o.dst v) w') : wpHX P ops S K ((true, k, o) :: r) a w :=
  .inl ⟨hg, by rw [hv]; exact ⟨hS, h⟩⟩
theorem wpHX_anot (hg : Region.wanted o (yielded ops a.tmps) = false) (hS : S w) (h : wpHX P ops S K r (a.put o.dst undef) w) : wpHX P ops S K ((true, k, o) :: r) a w :=
  .inr ⟨hg, hS, h⟩
theorem wpHX_acall (hg : Region.wanted o (yielded ops a.tmps) = true) {f : FuncId} {args : Array Value} (hv : ∀ W, (execOp a.eval o).run P W = .ok (.enter f args) W)
    (hc : Calls P f args w (fun e W' => ∃ v, e = .returned v ∧ S W' ∧ wpHX P ops S K r (a.put o.dst v) W')) : wpHX P ops S K ((true, k, o) :: r) a w :=
  .inl ⟨hg, by rw [hv w]; exact hc⟩
end
end
end Go.Proofs.Ythpcneeidhmdkaa
namespace Go.Proofs.Ythpcneeidhmdkaa
open Go.RowKit
set_option linter.unusedVariables false
/-! the program's Add, Scale and Derive -/
set_option maxHeartbeats 1000000 in
theorem add1_any (C S P be bl : Nat) (b : List Nat) (B : Option Addr) (m cb rb ab x k : Nat) (w : World) (hv : VF C S P) (hx : x < S) (hb : LtAll S b) (hm : m = b.length) (hm2 : m ≤ 4097) (hk : k ≤ 8193)
    (hr : CellsAt w rb (arcv C S be bl)) (ha : CellsAt w ab [.slice B m cb]) (hrd : RD w B (zl b)) :
    Calls Try.prog 71 #[.int .i64 (k : Nat), .int .i64 x, .pointer (some ⟨ab, 0, none⟩), .pointer (some ⟨rb, 0, none⟩)] w fun e w' => e = .returned (.int .i64 ((faddN S P x (b.getD k 0) : Nat) : Int)) ∧ Below w.heap.size w w' := by
  have HV := Lib.hid hv
  have HX := Lib.hid hx
  have HM := Lib.hid hm
  have HBL := Lib.hid hb
  have HR := Lib.hid hr
  have hab : w.cell? ⟨ab, 0, none⟩ = some (.slice B m cb) := ha.2 0 (by simp)
  have HA := Lib.hid ha
  have HRD := Lib.hid hrd
  clear hv hx hm hb hr ha hrd
  by_cases hlt : k < m
  · obtain ⟨bd, rfl, hbdw, hcb⟩ := HRD.out (by rw [zl_length, ← HM.out]; omega)
    have CF : Hid (∀ W, Abv w W → (W.cell? ⟨rb, 0, none⟩ = some (.int .i64 C) ∧ W.cell? ⟨rb, 1, none⟩ = some (.int .i64 S) ∧ W.cell? ⟨rb, 2, none⟩ = some (.slice (some ⟨be, 0, none⟩) (S - 1) (S - 1)) ∧ W.cell? ⟨rb, 3, none⟩ = some (.slice (some ⟨bl, 0, none⟩) S S)) ∧ W.cell? ⟨ab, 0, none⟩ = some (.slice (some bd) m cb) ∧ W.cell? (bd.add k) = some (.int .i64 ((b.getD k 0 : Nat) : Int))) := by
      show ∀ W, _
      intro W hW
      refine ⟨arcv_cells (HR.out.below hW), (HA.out.below hW).2 0 (by simp), ?_⟩
      rw [hW.cell (by rw [block_of_add]; exact hbdw), hcb k (by rw [zl_length, ← HM.out]; exact hlt), zl_getD]
    have HY : Hid (b.getD k 0 < S) := HBL.out k
    clear hcb
    generalize b.getD k 0 = y at *
    go_enter Try.func71, Try.ntmps71
    go_wp2
    refine wp_region_S (S := Abv w) 7 (by kernel_rfl) (by kernel_rfl) (bwDrew (Below.refl _ _)) ?_
    simp only [List.take_succ_cons, List.take_zero, List.drop_succ_cons, List.drop_zero]
    repeat
      refine' wpHS_val rfl (fun W hW => ?_) ?_
      rotate_left
      · have hcf := CF.out W hW; go_simp; rfl
      simp only [Act.put, List.setIfInBounds_toArray, List.set_cons_zero, List.set_cons_succ]
    refine' wpHS_call rfl (fun W => ?_) (fun W hW => ?_) ?_
    rotate_left 3
    · go_simp; exact ⟨rfl, rfl⟩
    · exact (aadd_any C S P be bl x y W HV.out HX.out HY.out).mono (fun e W1 h => ⟨h.1, bwStep hW h.2⟩)
    simp only [Act.put, List.setIfInBounds_toArray, List.set_cons_zero, List.set_cons_succ]
    refine wpHS_nil ?_
    intro w1 hb1
    have HB1 := Lib.hid hb1
    clear hb1
    go_wp2
    go_ret
    exact ⟨rfl, HB1.out⟩
  · have HE : Hid (faddN S P x (b.getD k 0) = x) := by
      show _ = _
      rw [getD_ge (by rw [← HM.out]; omega), addN_zero HV.out HX.out]
    go_enter Try.func71, Try.ntmps71
    go_wp2
    go_ret
    exact ⟨congrArg (fun z : Nat => Ending.returned (.int .i64 (z : Int))) HE.out.symm, Below.refl _ _⟩
theorem addL_of (s p : Nat) (a b : List Nat) (n m : Nat) (hn : n = a.length) (hm : m = b.length) (h : m ≤ n) : trimL ((List.range n).map fun k => faddN s p (a.getD k 0) (b.getD k 0)) = addL s p a b := by
  subst hn hm
  unfold addL
  rw [Nat.max_eq_left h]
set_option maxRecDepth 100000 in
set_option maxHeartbeats 2000000 in
theorem pAdd_any (c s p : Int) (q r : Sl) (w : World) (hp : p ≤ 9223372036854775807) (hq : q.R w) (hr : r.R w) :
    Calls Try.prog 35 #[fldv c s p, q.v, r.v] w (RetL w (addRes c s p q.xs r.xs)) := by
  obtain ⟨A, n, ca, xs⟩ := q
  obtain ⟨B, m, cb, ys⟩ := r
  have hbx : Below w.heap.size w ((w.alloc (fldB c s p)).alloc (.cells #[.slice B m cb] 24)) := ((Below.refl _ _).alloc (Nat.le_refl _) _).alloc (by simp) _
  have HBX := Lib.hid hbx
  have HQ := Lib.hid (hq.below hbx)
  have HR := Lib.hid (hr.below hbx)
  show Calls Try.prog 35 #[fldv c s p, .slice A n ca, .slice B m cb] w (RetL w (addRes c s p xs ys))
  have CB : Hid (CellsAt ((w.alloc (fldB c s p)).alloc (.cells #[.slice B m cb] 24)) w.heap.size (fldC c s p)) := (CellsAt.new _ _ _ _ rfl).alloc _
  have CA : Hid (CellsAt ((w.alloc (fldB c s p)).alloc (.cells #[.slice B m cb] 24)) (w.heap.size + 1) [.slice B m cb]) := CellsAt.new _ _ _ _ (by simp)
  cases hV : (pvB c s p xs && pvB c s p ys) with
  | false =>
    have HV := Lib.hid hV
    have HF : Hid (addRes c s p xs ys = ([], 1)) := by show _ = _; unfold addRes; rw [hV]; rfl
    clear hV hq hr hbx
    go_enter Try.func35, Try.ntmps35
    go_wp2_with (go_at_call 49; refine (pvalid2 c s p A B n ca m cb xs ys _ _ 24 hp (by simp) HQ.out HR.out).mono ?_; rintro e w1 ⟨rfl, hb1⟩; rw [HV.out]; have HB1 := Lib.hid hb1; clear hb1)
    go_ret2
    exact RetL.mk HF.out (Ints.nil_ _) (bwStep HBX.out HB1.out)
  | true =>
    have hV' := hV
    rw [Bool.and_eq_true] at hV'
    obtain ⟨C, S, P, a, rfl, rfl, rfl, rfl, hv, hla, hta, hna⟩ := pvB_nat hV'.1
    obtain ⟨C', S', P', b, e1, e2, e3, rfl, -, hlb, htb, hnb⟩ := pvB_nat hV'.2
    obtain rfl : S = S' := by omega
    have HV := Lib.hid hV
    have HVF := Lib.hid hv
    have HLA := Lib.hid hla
    have HLB := Lib.hid hlb
    have HNN : Hid (n = a.length) := hq.hn.trans (zl_length a)
    have HMM : Hid (m = b.length) := hr.hn.trans (zl_length b)
    have hn7 : n ≤ 4097 := by have := HNN.out; omega
    have hm7 : m ≤ 4097 := by have := HMM.out; omega
    have HF : Hid (addRes C S P (zl a) (zl b) = (zl (addL S P a b), 0)) := addRes_ok hv hla hta hna hlb htb hnb
    have HAF : Hid (((w.alloc (fldB C S P)).alloc (.cells #[.slice B m cb] 24)).frozen? ⟨w.heap.size + 1, 0, none⟩ = false) := World.frozen?_alloc_at _ _ _ _ (by simp)
    clear hV hV' e1 e2 e3 hv hla hlb hta htb hna hnb hq hr hbx
    by_cases hlt : n < m
    · have HG : Hid (trimL ((List.range m).map fun k => faddN S P (b.getD k 0) (a.getD k 0)) = addL S P a b) := by
        show _ = _
        rw [addL_of S P b a m n HMM.out HNN.out (by omega)]
        unfold addL
        rw [Nat.max_comm]
        refine congrArg trimL (List.map_congr_left fun k _ => addN_comm HVF.out (HLB.out k) (HLA.out k))
      go_enter Try.func35, Try.ntmps35
      go_wp2_with (first
          | (go_at_call 49; refine (pvalid2 C S P A B n ca m cb _ _ _ _ 24 hp (by simp) HQ.out HR.out).mono ?_; rintro e w1 ⟨rfl, hb1⟩; rw [HV.out]; have HB1 := Lib.hid hb1; clear hb1; obtain ⟨f0, f1, f2⟩ := fldC_cells (CB.out.below HB1.out); have hc1 := (CA.out.below HB1.out).2 0 (by simp); have st2 : w1.frozen? ⟨w.heap.size + 1, 0, none⟩ = false := (HB1.out.frozen CA.out.1).trans HAF.out)
          | (go_at_call 50; refine (newA_any C S P _ HVF.out).mono ?_; rintro e w2 ⟨be, bl, rfl, ht, hb2⟩; have HT := Lib.hid ht; have HB2 := Lib.hid hb2; clear ht hb2))
      clear f0 f1 f2 hc1 st2
      have HX3 : Hid (CellsAt (w2.alloc (arc C S be bl)) w2.heap.size (arcv C S be bl)) := CellsAt.new _ _ _ _ rfl
      have HC3 : Hid (CellsAt (w2.alloc (arc C S be bl)) (w.heap.size + 1) [.slice A n ca]) := (((CA.out.below HB1.out).one).below HB2.out).alloc _
      have RA3 : Hid (RD (w2.alloc (arc C S be bl)) A (zl a)) := ((((HQ.out.below HB1.out).rd).setOther _ _ _ ((CA.out.below HB1.out).2 0 (by simp)) (fun z h => by cases h)).below HB2.out).alloc _
      have RB3 : Hid (RD (w2.alloc (arc C S be bl)) B (zl b)) := ((((HR.out.below HB1.out).rd).setOther _ _ _ ((CA.out.below HB1.out).2 0 (by simp)) (fun z h => by cases h)).below HB2.out).alloc _
      have HBF : Hid (Below w.heap.size w (w2.alloc (arc C S be bl))) := bwAlloc (bwStep ((bwStep HBX.out HB1.out).setCell (by simp) _) HB2.out) _
      generalize w2.alloc (arc C S be bl) = w3 at *
      generalize w2.heap.size = rb at *
      have HCL : Hid (∀ W k, Abv w3 W → k < m → Calls Try.prog 71 #[.int .i64 (k : Nat), .int .i64 ((b.getD k 0 : Nat) : Int), .pointer (some ⟨w.heap.size + 1, 0, none⟩), .pointer (some ⟨rb, 0, none⟩)] W (fun e W' => e = .returned (.int .i64 ((faddN S P (b.getD k 0) (a.getD k 0) : Nat) : Int)) ∧ Below W.heap.size W W')) := by
        show ∀ W k, _
        intro W k hW hk
        exact add1_any C S P be bl a A n ca rb _ _ k W HVF.out (HLB.out k) HLA.out HNN.out (by omega) (by omega) (HX3.out.below hW) (HC3.out.below hW) (RA3.out.below hW)
      refine (transAdd_any _ _ (fun k => faddN S P (b.getD k 0) (a.getD k 0)) b m HMM.out B cb _ (by omega) RB3.out HCL.out).mono ?_
      rintro e w4 ⟨v4, rfl, hI, hb4⟩
      obtain ⟨A4, n4, c4, rfl, hn4, hnc4, -, hrd4⟩ := hI.n
      have HB4 := Lib.hid hb4
      have HN4 := Lib.hid hn4
      have HRD4 := Lib.hid hrd4
      have hn47 : n4 ≤ 100000 := by rw [hn4, List.length_map, List.length_range]; omega
      clear hI hb4 hn4 hrd4
      go_wp2_with (go_at_call 34; refine (Trim_n _ n4 HN4.out A4 c4 _ hn47 hnc4 HRD4.out).mono ?_; rintro e w5 ⟨v5, rfl, hI5, hb5⟩; rw [HG.out] at hI5; have HI5 := Lib.hid hI5; have HB5 := Lib.hid hb5; clear hI5 hb5)
      go_ret2
      exact RetL.mk HF.out HI5.out (bwStep (bwStep HBF.out HB4.out) HB5.out)
    · have HG : Hid (trimL ((List.range n).map fun k => faddN S P (a.getD k 0) (b.getD k 0)) = addL S P a b) := addL_of S P a b n m HNN.out HMM.out (by omega)
      go_enter Try.func35, Try.ntmps35
      go_wp2_with (first
          | (go_at_call 49; refine (pvalid2 C S P A B n ca m cb _ _ _ _ 24 hp (by simp) HQ.out HR.out).mono ?_; rintro e w1 ⟨rfl, hb1⟩; rw [HV.out]; have HB1 := Lib.hid hb1; clear hb1; obtain ⟨f0, f1, f2⟩ := fldC_cells (CB.out.below HB1.out); have hc1 := (CA.out.below HB1.out).2 0 (by simp))
          | (go_at_call 50; refine (newA_any C S P _ HVF.out).mono ?_; rintro e w2 ⟨be, bl, rfl, ht, hb2⟩; have HT := Lib.hid ht; have HB2 := Lib.hid hb2; clear ht hb2))
      clear f0 f1 f2 hc1
      have HX3 : Hid (CellsAt (w2.alloc (arc C S be bl)) w2.heap.size (arcv C S be bl)) := CellsAt.new _ _ _ _ rfl
      have HC3 : Hid (CellsAt (w2.alloc (arc C S be bl)) (w.heap.size + 1) [.slice B m cb]) := ((CA.out.below HB1.out).below HB2.out).alloc _
      have RA3 : Hid (RD (w2.alloc (arc C S be bl)) A (zl a)) := ((((HQ.out.below HB1.out).rd)).below HB2.out).alloc _
      have RB3 : Hid (RD (w2.alloc (arc C S be bl)) B (zl b)) := ((((HR.out.below HB1.out).rd)).below HB2.out).alloc _
      have HBF : Hid (Below w.heap.size w (w2.alloc (arc C S be bl))) := bwAlloc (bwStep (bwStep HBX.out HB1.out) HB2.out) _
      generalize w2.alloc (arc C S be bl) = w3 at *
      generalize w2.heap.size = rb at *
      have HCL : Hid (∀ W k, Abv w3 W → k < n → Calls Try.prog 71 #[.int .i64 (k : Nat), .int .i64 ((a.getD k 0 : Nat) : Int), .pointer (some ⟨w.heap.size + 1, 0, none⟩), .pointer (some ⟨rb, 0, none⟩)] W (fun e W' => e = .returned (.int .i64 ((faddN S P (a.getD k 0) (b.getD k 0) : Nat) : Int)) ∧ Below W.heap.size W W')) := by
        show ∀ W k, _
        intro W k hW hk
        exact add1_any C S P be bl b B m cb rb _ _ k W HVF.out (HLA.out k) HLB.out HMM.out (by omega) (by omega) (HX3.out.below hW) (HC3.out.below hW) (RB3.out.below hW)
      refine (transAdd_any _ _ (fun k => faddN S P (a.getD k 0) (b.getD k 0)) a n HNN.out A ca _ (by omega) RA3.out HCL.out).mono ?_
      rintro e w4 ⟨v4, rfl, hI, hb4⟩
      obtain ⟨A4, n4, c4, rfl, hn4, hnc4, -, hrd4⟩ := hI.n
      have HB4 := Lib.hid hb4
      have HN4 := Lib.hid hn4
      have HRD4 := Lib.hid hrd4
      have hn47 : n4 ≤ 100000 := by rw [hn4, List.length_map, List.length_range]; omega
      clear hI hb4 hn4 hrd4
      go_wp2_with (go_at_call 34; refine (Trim_n _ n4 HN4.out A4 c4 _ hn47 hnc4 HRD4.out).mono ?_; rintro e w5 ⟨v5, rfl, hI5, hb5⟩; rw [HG.out] at hI5; have HI5 := Lib.hid hI5; have HB5 := Lib.hid hb5; clear hI5 hb5)
      go_ret2
      exact RetL.mk HF.out HI5.out (bwStep (bwStep HBF.out HB4.out) HB5.out)
end Go.Proofs.Ythpcneeidhmdkaa
namespace Go.Proofs.Ythpcneeidhmdkaa
open Go.RowKit
set_option linter.unusedVariables false
/-! the program's Derive -/
theorem drop_getD (a : List Nat) (i : Nat) : (a.drop 1).getD i 0 = a.getD (i + 1) 0 := by
  simp [List.getD]
def derL (s p c : Nat) (a : List Nat) : List Nat := trimL (rgL (fun i => fmulN s p ((i + 1) % c) (a.getD (i + 1) 0)) (a.length - 1))
def derRes (c s p : Int) (xs : List Int) : List Int × Int := if pvB c s p xs = true then (zl (derL s.toNat p.toNat c.toNat (nl xs)), 0) else ([], 1)
theorem derRes_ok {C S P : Nat} (hv : VF C S P) {a : List Nat} (ha : LtAll S a) (ta : Trimmed a) (na : a.length ≤ 4097) : derRes C S P (zl a) = (zl (derL S P C a), 0) := by
  unfold derRes
  rw [show pvB C S P (zl a) = true from by unfold pvB; rw [vld_of hv, polB_zl ha na ta]; rfl, nl_zl]; rfl
set_option maxHeartbeats 1000000 in
theorem derive1_any (C S P be bl rb x k : Nat) (w : World) (hv : VF C S P) (hx : x < S) (hk : k ≤ 8193) (ht : TabAt w S P be bl)
    (hr : CellsAt w rb (arcv C S be bl)) :
    Calls Try.prog 78 #[.int .i64 (k : Nat), .int .i64 x, .pointer (some ⟨rb, 0, none⟩)] w fun e w' => e = .returned (.int .i64 ((fmulN S P ((k + 1) % C) x : Nat) : Int)) ∧ Below w.heap.size w w' := by
  have HV := Lib.hid hv
  have HX := Lib.hid hx
  have HR := Lib.hid hr
  have HT := Lib.hid ht
  have hC := hv.two_le
  have CF : Hid (∀ W, Abv w W → (W.cell? ⟨rb, 0, none⟩ = some (.int .i64 C) ∧ W.cell? ⟨rb, 1, none⟩ = some (.int .i64 S) ∧ W.cell? ⟨rb, 2, none⟩ = some (.slice (some ⟨be, 0, none⟩) (S - 1) (S - 1)) ∧ W.cell? ⟨rb, 3, none⟩ = some (.slice (some ⟨bl, 0, none⟩) S S))) := fun W hW => arcv_cells (HR.out.below hW)
  have hCS : 2 ≤ C ∧ C ≤ S := by
    rcases hv with ⟨_, rfl, h3, _, _⟩ | ⟨d, h1, _, _, rfl, rfl, _⟩
    · exact ⟨by omega, Nat.le_refl _⟩
    · exact ⟨by omega, Nat.pow_le_pow_right (n := 2) (by omega) h1⟩
  have HM : Hid ((k + 1) % C < S) := by have := Nat.mod_lt (k + 1) (show 0 < C by omega); show _ < _; omega
  have e1 : ((k : Int) + 1).tmod (C : Int) = (((k + 1) % C : Nat) : Int) := by
    rw [show (k : Int) + 1 = ((k + 1 : Nat) : Int) from by omega]
    exact (Int.ofNat_tmod _ _).symm
  generalize (k + 1) % C = mm at *
  have z1 : ((C : Int) == 0) = false := by rw [beq_eq_false_iff_ne]; omega
  have z2 : (C : Int) ≠ 0 := by omega
  have z3 : C ≠ 0 := by omega
  clear hv hx hr ht hC hCS
  have hw1 : IntKind.i64.wrap ((k : Int) + 1) = (k : Int) + 1 := wr64 _ (by omega) (by omega)
  go_enter Try.func78, Try.ntmps78
  go_wp2
  refine wp_region_S (S := Abv w) 8 (by kernel_rfl) (by kernel_rfl) (bwDrew (Below.refl _ _)) ?_
  simp only [List.take_succ_cons, List.take_zero, List.drop_succ_cons, List.drop_zero]
  repeat
    refine' wpHS_val rfl (fun W hW => ?_) ?_
    rotate_left
    · have hcf := CF.out W hW; go_simp; rfl
    simp only [Act.put, List.setIfInBounds_toArray, List.set_cons_zero, List.set_cons_succ]
  refine' wpHS_call rfl (fun W => ?_) (fun W hW => ?_) ?_
  rotate_left 3
  · go_simp; exact ⟨rfl, rfl⟩
  · exact (amul_any C S P be bl mm x W HV.out HM.out HX.out (HT.out.below hW)).mono (fun e W1 h => ⟨h.1, bwStep hW h.2⟩)
  simp only [Act.put, List.setIfInBounds_toArray, List.set_cons_zero, List.set_cons_succ]
  refine wpHS_nil ?_
  intro w1 hb1
  have HB1 := Lib.hid hb1
  clear hb1
  go_wp2
  go_ret
  exact ⟨rfl, HB1.out⟩
theorem RD.tail {w : World} {ad : Addr} {a : List Nat} (h : RD w (some ad) (zl a)) : RD w (some (ad.add 1)) (zl (a.drop 1)) := fun hn => by
  rw [zl_length, List.length_drop] at hn
  obtain ⟨ad', e, h1, h2⟩ := h (by rw [zl_length]; omega)
  injection e with e
  subst e
  refine ⟨_, rfl, by rw [block_of_add]; exact h1, fun j hj => ?_⟩
  rw [zl_length, List.length_drop] at hj
  rw [add_of_add, Nat.add_comm 1 j, h2 (j + 1) (by rw [zl_length]; omega), zl_getD, zl_getD, drop_getD]
set_option maxRecDepth 100000 in
set_option maxHeartbeats 2000000 in
theorem pDerive_any (c s p : Int) (q : Sl) (w : World) (hp : p ≤ 9223372036854775807) (hq : q.R w) :
    Calls Try.prog 43 #[fldv c s p, q.v] w (RetL w (derRes c s p q.xs)) := by
  obtain ⟨A, n, ca, xs⟩ := q
  have hbx : Below w.heap.size w (w.alloc (fldB c s p)) := (Below.refl _ _).alloc (Nat.le_refl _) _
  have HQ := Lib.hid (hq.below hbx)
  show Calls Try.prog 43 #[fldv c s p, .slice A n ca] w (RetL w (derRes c s p xs))
  have CB : Hid (CellsAt (w.alloc (fldB c s p)) w.heap.size (fldC c s p)) := CellsAt.new _ _ _ _ rfl
  cases hV : pvB c s p xs with
  | false =>
    have HV := Lib.hid hV
    have HF : Hid (derRes c s p xs = ([], 1)) := by show _ = _; unfold derRes; rw [hV]; rfl
    clear hV hq hbx
    go_enter Try.func43, Try.ntmps43
    go_wp2_with (go_at_call 49; refine (pvalid1 c s p A n ca xs _ _ 24 hp (by simp) HQ.out).mono ?_; rintro e w1 ⟨rfl, hb1⟩; rw [HV.out]; have HB1 := Lib.hid hb1; clear hb1)
    go_ret2
    exact RetL.mk HF.out (Ints.nil_ _) (bw1 HB1.out)
  | true =>
    obtain ⟨C, S, P, a, rfl, rfl, rfl, rfl, hv, hla, hta, hna⟩ := pvB_nat hV
    have HV := Lib.hid hV
    have HVF := Lib.hid hv
    have HLA := Lib.hid hla
    have HNN : Hid (n = a.length) := hq.hn.trans (zl_length a)
    have hn7 : n ≤ 4097 := by have := HNN.out; omega
    have hnc : n ≤ ca := hq.hc
    have HF : Hid (derRes C S P (zl a) = (zl (derL S P C a), 0)) := derRes_ok hv hla hta hna
    clear hV hv hla hta hna hq hbx
    by_cases h0 : n = 0
    · subst h0
      have HF0 : Hid (derRes C S P (zl a) = ([], 0)) := by
        show _ = _
        rw [HF.out, List.eq_nil_of_length_eq_zero HNN.out.symm]; rfl
      go_enter Try.func43, Try.ntmps43
      go_wp2_with (go_at_call 49; refine (pvalid1 C S P A 0 ca (zl a) _ _ 24 hp (by simp) HQ.out).mono ?_; rintro e w1 ⟨rfl, hb1⟩; rw [HV.out]; have HB1 := Lib.hid hb1; clear hb1)
      go_ret2
      exact RetL.mk HF0.out (Ints.nil_ _) (bw1 HB1.out)
    · have h1 : 1 ≤ n := by omega
      have hd0 : ((n : Int) == 0) = false := by rw [beq_eq_false_iff_ne]; omega
      obtain ⟨ad, rfl, -, -⟩ := HQ.out.rd (by rw [zl_length, ← HNN.out]; omega)
      have HN1 : Hid (n - 1 = (a.drop 1).length) := by show _ = _; rw [List.length_drop, HNN.out]
      have HG : Hid (trimL ((List.range (n - 1)).map fun k => fmulN S P ((k + 1) % C) (a.getD (k + 1) 0)) = derL S P C a) := by show _ = _; rw [HNN.out]; rfl
      by_cases hca : ca = 1
      · subst hca
        obtain rfl : n = 1 := by omega
        have HN1 : Hid (0 = (a.drop 1).length) := HN1.out
        have HG : Hid (trimL ((List.range 0).map fun k => fmulN S P ((k + 1) % C) (a.getD (k + 1) 0)) = derL S P C a) := HG.out
        have HDR : Hid (RD (w.alloc (fldB C S P)) (some ad) (zl (a.drop 1))) := by
          have : a.drop 1 = [] := List.eq_nil_of_length_eq_zero HN1.out.symm
          rw [this]; exact RD.nil_ _ _
        go_enter Try.func43, Try.ntmps43
        go_wp2_with (first
            | (go_at_call 49; refine (pvalid1 C S P (some ad) 1 1 _ _ _ 24 hp (by simp) HQ.out).mono ?_; rintro e w1 ⟨rfl, hb1⟩; rw [HV.out]; have HB1 := Lib.hid hb1; clear hb1; obtain ⟨f0, f1, f2⟩ := fldC_cells (CB.out.below HB1.out))
            | (go_at_call 50; refine (newA_any C S P _ HVF.out).mono ?_; rintro e w2 ⟨be, bl, rfl, ht, hb2⟩; have HT := Lib.hid ht; have HB2 := Lib.hid hb2; clear ht hb2))
        have HX3 : Hid (CellsAt (w2.alloc (arc C S be bl)) w2.heap.size (arcv C S be bl)) := CellsAt.new _ _ _ _ rfl
        have RA3 : Hid (RD (w2.alloc (arc C S be bl)) (some ad) (zl (a.drop 1))) := ((HDR.out.below HB1.out).below HB2.out).alloc _
        have HT3 : Hid (TabAt (w2.alloc (arc C S be bl)) S P be bl) := HT.out.alloc _
        have HBF : Hid (Below w.heap.size w (w2.alloc (arc C S be bl))) := bwAlloc (bw1 (bwStep HB1.out HB2.out)) _
        clear f0 f1 f2
        generalize w2.alloc (arc C S be bl) = w3 at *
        generalize w2.heap.size = rb at *
        have HCL : Hid (∀ W k, Abv w3 W → k < 0 → Calls Try.prog 78 #[.int .i64 (k : Nat), .int .i64 (((a.drop 1).getD k 0 : Nat) : Int), .pointer (some ⟨rb, 0, none⟩)] W (fun e W' => e = .returned (.int .i64 ((fmulN S P ((k + 1) % C) (a.getD (k + 1) 0) : Nat) : Int)) ∧ Below W.heap.size W W')) := by
          show ∀ W k, _
          intro W k hW hk
          rw [drop_getD]
          exact derive1_any C S P be bl rb _ k W HVF.out (HLA.out _) (by omega) (HT3.out.below hW) (HX3.out.below hW)
        refine (transDerive_any _ (fun k => fmulN S P ((k + 1) % C) (a.getD (k + 1) 0)) (a.drop 1) 0 HN1.out (some ad) 0 _ (by omega) RA3.out HCL.out).mono ?_
        rintro e w4 ⟨v4, rfl, hI, hb4⟩
        obtain ⟨A4, n4, c4, rfl, hn4, hnc4, -, hrd4⟩ := hI.n
        have HB4 := Lib.hid hb4
        have HN4 := Lib.hid hn4
        have HRD4 := Lib.hid hrd4
        have hn47 : n4 ≤ 100000 := by rw [hn4, List.length_map, List.length_range]; omega
        clear hI hb4 hn4 hrd4
        go_wp2_with (go_at_call 34; refine (Trim_n _ n4 HN4.out A4 c4 _ hn47 hnc4 HRD4.out).mono ?_; rintro e w5 ⟨v5, rfl, hI5, hb5⟩; rw [HG.out] at hI5; have HI5 := Lib.hid hI5; have HB5 := Lib.hid hb5; clear hI5 hb5)
        go_ret2
        exact RetL.mk HF.out HI5.out (bwStep (bwStep HBF.out HB4.out) HB5.out)
      · have HDR : Hid (RD (w.alloc (fldB C S P)) (some ⟨ad.block, ad.off + 1, none⟩) (zl (a.drop 1))) := HQ.out.rd.tail
        go_enter Try.func43, Try.ntmps43
        go_wp2_with (first
            | (go_at_call 49; refine (pvalid1 C S P (some ad) n ca _ _ _ 24 hp (by simp) HQ.out).mono ?_; rintro e w1 ⟨rfl, hb1⟩; rw [HV.out]; have HB1 := Lib.hid hb1; clear hb1; obtain ⟨f0, f1, f2⟩ := fldC_cells (CB.out.below HB1.out))
            | (go_at_call 50; refine (newA_any C S P _ HVF.out).mono ?_; rintro e w2 ⟨be, bl, rfl, ht, hb2⟩; have HT := Lib.hid ht; have HB2 := Lib.hid hb2; clear ht hb2))
        have HX3 : Hid (CellsAt (w2.alloc (arc C S be bl)) w2.heap.size (arcv C S be bl)) := CellsAt.new _ _ _ _ rfl
        have RA3 : Hid (RD (w2.alloc (arc C S be bl)) (some ⟨ad.block, ad.off + 1, none⟩) (zl (a.drop 1))) := ((HDR.out.below HB1.out).below HB2.out).alloc _
        have HT3 : Hid (TabAt (w2.alloc (arc C S be bl)) S P be bl) := HT.out.alloc _
        have HBF : Hid (Below w.heap.size w (w2.alloc (arc C S be bl))) := bwAlloc (bw1 (bwStep HB1.out HB2.out)) _
        clear f0 f1 f2
        generalize w2.alloc (arc C S be bl) = w3 at *
        generalize w2.heap.size = rb at *
        have HCL : Hid (∀ W k, Abv w3 W → k < n - 1 → Calls Try.prog 78 #[.int .i64 (k : Nat), .int .i64 (((a.drop 1).getD k 0 : Nat) : Int), .pointer (some ⟨rb, 0, none⟩)] W (fun e W' => e = .returned (.int .i64 ((fmulN S P ((k + 1) % C) (a.getD (k + 1) 0) : Nat) : Int)) ∧ Below W.heap.size W W')) := by
          show ∀ W k, _
          intro W k hW hk
          rw [drop_getD]
          exact derive1_any C S P be bl rb _ k W HVF.out (HLA.out _) (by omega) (HT3.out.below hW) (HX3.out.below hW)
        refine (transDerive_any _ (fun k => fmulN S P ((k + 1) % C) (a.getD (k + 1) 0)) (a.drop 1) (n - 1) HN1.out (some ⟨ad.block, ad.off + 1, none⟩) (ca - 1) _ (by omega) RA3.out HCL.out).mono ?_
        rintro e w4 ⟨v4, rfl, hI, hb4⟩
        obtain ⟨A4, n4, c4, rfl, hn4, hnc4, -, hrd4⟩ := hI.n
        have HB4 := Lib.hid hb4
        have HN4 := Lib.hid hn4
        have HRD4 := Lib.hid hrd4
        have hn47 : n4 ≤ 100000 := by rw [hn4, List.length_map, List.length_range]; omega
        clear hI hb4 hn4 hrd4
        go_wp2_with (go_at_call 34; refine (Trim_n _ n4 HN4.out A4 c4 _ hn47 hnc4 HRD4.out).mono ?_; rintro e w5 ⟨v5, rfl, hI5, hb5⟩; rw [HG.out] at hI5; have HI5 := Lib.hid hI5; have HB5 := Lib.hid hb5; clear hI5 hb5)
        go_ret2
        exact RetL.mk HF.out HI5.out (bwStep (bwStep HBF.out HB4.out) HB5.out)
/-! the law's short hands -/
def RetV (w : World) (L : List Int) (e : Ending) (w' : World) : Prop := ∃ v, e = .returned v ∧ Ints w' v L ∧ Below w.heap.size w w'
theorem RetV.mk {w w' : World} {v : Value} {L : List Int} (hi : Ints w' v L) (hb : Below w.heap.size w w') : RetV w L (.returned v) w' := ⟨v, rfl, hi, hb⟩
theorem pAdd_n (c s p : Int) (A : Option Addr) (n ca : Nat) (xs : List Int) (B : Option Addr) (m cb : Nat) (ys : List Int) (w : World) (hp : p ≤ 9223372036854775807) (hq : (⟨A, n, ca, xs⟩ : Sl).R w) (hr : (⟨B, m, cb, ys⟩ : Sl).R w) :
    Calls Try.prog 35 #[fldv c s p, .slice A n ca, .slice B m cb] w (RetL w (addRes c s p xs ys)) := pAdd_any c s p ⟨A, n, ca, xs⟩ ⟨B, m, cb, ys⟩ w hp hq hr
set_option maxHeartbeats 1000000 in
theorem ladd_any (c s p : Int) (q r : Sl) (w : World) (hp : p ≤ 9223372036854775807) (hq : q.R w) (hr : r.R w) :
    Calls Try.prog 36 #[fldv c s p, q.v, r.v] w (RetV w (addRes c s p q.xs r.xs).1) := by
  have hbx := bwA w (fldB c s p)
  have HQ := Lib.hid (hq.below hbx)
  have HR := Lib.hid (hr.below hbx)
  clear hq hr hbx
  go_enter Try.func36, Try.ntmps36
  go_wp2_with (go_at_call 35; refine (pAdd_any c s p q r _ hp HQ.out HR.out).mono ?_; rintro e w1 ⟨v1, rfl, hI, hb1⟩; have HI := Lib.hid hI; have HB1 := Lib.hid hb1; clear hI hb1)
  go_ret
  exact RetV.mk HI.out (bw1 HB1.out)
set_option maxHeartbeats 1000000 in
theorem lmul_any (c s p : Int) (q r : Sl) (w : World) (hp : p ≤ 9223372036854775807) (hq : q.R w) (hr : r.R w) :
    Calls Try.prog 27 #[fldv c s p, q.v, r.v] w (RetV w (mulRes c s p q.xs r.xs).1) := by
  have hbx := bwA w (fldB c s p)
  have HQ := Lib.hid (hq.below hbx)
  have HR := Lib.hid (hr.below hbx)
  clear hq hr hbx
  go_enter Try.func27, Try.ntmps27
  go_wp2_with (go_at_call 15; refine (pMul_any c s p q r _ hp HQ.out HR.out).mono ?_; rintro e w1 ⟨v1, rfl, hI, hb1⟩; have HI := Lib.hid hI; have HB1 := Lib.hid hb1; clear hI hb1)
  go_ret
  exact RetV.mk HI.out (bw1 HB1.out)
set_option maxHeartbeats 1000000 in
theorem lderive_any (c s p : Int) (q : Sl) (w : World) (hp : p ≤ 9223372036854775807) (hq : q.R w) :
    Calls Try.prog 37 #[fldv c s p, q.v] w (RetV w (derRes c s p q.xs).1) := by
  have hbx := bwA w (fldB c s p)
  have HQ := Lib.hid (hq.below hbx)
  clear hq hbx
  go_enter Try.func37, Try.ntmps37
  go_wp2_with (go_at_call 43; refine (pDerive_any c s p q _ hp HQ.out).mono ?_; rintro e w1 ⟨v1, rfl, hI, hb1⟩; have HI := Lib.hid hI; have HB1 := Lib.hid hb1; clear hI hb1)
  go_ret
  exact RetV.mk HI.out (bw1 HB1.out)
end Go.Proofs.Ythpcneeidhmdkaa
