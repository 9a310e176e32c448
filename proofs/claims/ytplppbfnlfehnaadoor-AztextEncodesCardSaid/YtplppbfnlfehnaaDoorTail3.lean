import Derived.Test.YtplppbfnlfehnaaDoorTail2
namespace Go.Proofs.YtplppbfnlfehnaaDoor
open Go.RowKit
set_option linter.unusedVariables false
/-! a region that draws its order, walked once in an order of one's own: an operation that leaves the world alone and has one value in all worlds that meet S is taken as soon as it is ready; any other when no other is ready -/
section
variable {P : Program} {ops : Array Oper} {md : Region.Mode} {S : World → Prop}
def givW (P : Program) (k : Value → World → Prop) : Result Next → Prop
  | .ok (.value u) w' => k u w'
  | .ok .skip w' => k undef w'
  | .ok (.enter f args) w' => Calls P f args w' (fun e w'' => ∃ v, e = .returned v ∧ k v w'')
  | _ => False
theorem givW_mono {k k' : Value → World → Prop} (h : ∀ v w, k v w → k' v w) : ∀ {r : Result Next}, givW P k r → givW P k' r
  | .ok (.value u) w', hh => h _ _ hh
  | .ok .skip w', hh => h _ _ hh
  | .ok (.enter f args) w', hh => Calls.mono hh fun e w'' ⟨v, h1, h2⟩ => ⟨v, h1, h _ _ h2⟩
  | .halt _ _, hh => hh.elim
def YieldsW (P : Program) (ops : Array Oper) (S : World → Prop) (o : Oper) (v : Value) (a : Act) : Prop :=
  (Region.wanted o (yielded ops a.tmps) = true ∧ ∀ w, S w → (execOp a.eval o).run P w = .ok (.value v) w) ∨ (Region.wanted o (yielded ops a.tmps) = false ∧ v = undef)
theorem YieldsW.of_same {o : Oper} {v : Value} {a a' : Act} (hy : YieldsW P ops S o v a) (he : execOp a'.eval o = execOp a.eval o)
    (hw : Region.wanted o (yielded ops a'.tmps) = Region.wanted o (yielded ops a.tmps)) : YieldsW P ops S o v a' := by
  unfold YieldsW at *
  rw [he, hw]
  exact hy
def stW (P : Program) (ops : Array Oper) (S : World → Prop) (i : Nat) (K : Act → World → Prop) (a : Act) (w : World) : Prop :=
  ∃ o, ops[i]? = some o ∧ ((Region.wanted o (yielded ops a.tmps) = true ∧ givW P (fun v w' => S w' ∧ K (a.put o.dst v) w') ((execOp a.eval o).run P w)) ∨
    (Region.wanted o (yielded ops a.tmps) = false ∧ S w ∧ K (a.put o.dst undef) w))
theorem stW_mono {i : Nat} {a : Act} {w : World} {K K' : Act → World → Prop} (h : ∀ a w, S w → K a w → K' a w) (hh : stW P ops S i K a w) : stW P ops S i K' a w := by
  obtain ⟨o, ho, h1 | h1⟩ := hh
  · exact ⟨o, ho, .inl ⟨h1.1, givW_mono (fun v w' h2 => ⟨h2.1, h _ _ h2.1 h2.2⟩) h1.2⟩⟩
  · exact ⟨o, ho, .inr ⟨h1.1, h1.2.1, h _ _ h1.2.1 h1.2.2⟩⟩
theorem stW_put {j : Nat} {oi oj : Oper} {v : Value} (hj : ops[j]? = some oj) (hap : oi.apart ops oj = true)
    (hsi : ∀ cs b, oi.op ≠ .select cs b) (hsj : ∀ cs b, oj.op ≠ .select cs b) {K : Act → World → Prop} {a : Act} {w : World}
    (hy : YieldsW P ops S oi v a) (h : stW P ops S j K (a.put oi.dst v) w) :
    stW P ops S j (fun a' w' => YieldsW P ops S oi v a' ∧ K (a'.put oi.dst v) w') a w := by
  obtain ⟨h1, h2, h3⟩ := Oper.apart_spec hap
  obtain ⟨o, ho, hh⟩ := h
  obtain rfl : o = oj := Option.some.inj (ho.symm.trans hj)
  have e1 : execOp (a.put oi.dst v).eval o = execOp a.eval o := execOp_put o hsj a oi.dst v h1
  have e2 : Region.wanted o (yielded ops (a.put oi.dst v).tmps) = Region.wanted o (yielded ops a.tmps) := wanted_put o a oi.dst v h1
  rw [e1, e2] at hh
  have key : ∀ u, YieldsW P ops S oi v (a.put o.dst u) := fun u => hy.of_same (execOp_put oi hsi a o.dst u h3) (wanted_put oi a o.dst u h3)
  refine ⟨o, ho, ?_⟩
  rcases hh with hh | hh
  · refine .inl ⟨hh.1, givW_mono (fun u w' h4 => ⟨h4.1, key u, ?_⟩) hh.2⟩
    rw [← Act.put_comm a v u h2]; exact h4.2
  · refine .inr ⟨hh.1, hh.2.1, key undef, ?_⟩
    rw [← Act.put_comm a v undef h2]; exact hh.2.2
theorem wpOp_of_stW {i : Nat} {a : Act} {w : World} {K : Act → World → Prop} {K' : Act → World → Prop} {Q' : Exit → Act → World → Prop}
    (h : ∀ a w, K a w → K' a w) (hh : stW P ops S i K a w) : wpOp P ops Q' i K' a w := by
  obtain ⟨o, ho, hh⟩ := hh
  unfold wpOp
  simp only [ho]
  rcases hh with ⟨hw, h1⟩ | ⟨hw, _, h1⟩
  · simp only [hw, if_true]
    refine .inl ?_
    unfold Oper.wp
    generalize (execOp a.eval o).run P w = r at *
    cases r with
    | ok n w' =>
      cases n <;> simp only [givW] at h1 <;> simp only [Oper.upon]
      case value u => exact h _ _ h1.2
      case skip => exact h _ _ h1.2
      case enter f args => exact h1.mono fun e w'' ⟨v, he, _, h2⟩ => by subst he; exact h _ _ h2
    | halt x w' => simp only [givW] at h1
  · simp only [hw, Bool.false_eq_true, if_false]; exact h _ _ h1
def wpAnyW (P : Program) (md : Region.Mode) (ops : Array Oper) (S : World → Prop) (K : Act → World → Prop) : Nat → Array Bool → Act → World → Prop
  | 0, listed, a, w => Region.ready md ops listed = [] ∧ K a w
  | f + 1, listed, a, w => Region.ready md ops listed ≠ [] ∧ ∀ i ∈ Region.ready md ops listed, stW P ops S i (wpAnyW P md ops S K f (listed.setIfInBounds i true)) a w
theorem wpAny_of_W {Q' : Exit → Act → World → Prop} : ∀ (f : Nat) (listed : Array Bool) (a : Act) (w : World), wpAnyW P md ops S (Q' .normal) f listed a w → wpAny P md ops Q' f listed a w
  | 0, listed, a, w, h => h
  | f + 1, listed, a, w, h => ⟨fun h0 => absurd h0 h.1, fun i hi => wpOp_of_stW (fun a' w' h' => wpAny_of_W f _ a' w' h') (h.2 i hi)⟩
theorem wpAnyW_first {i : Nat} {oi : Oper} {v : Value} {K : Act → World → Prop} (hi : ops[i]? = some oi) (hsel : ∀ (j : Nat) (o : Oper) cs b, ops[j]? = some o → o.op ≠ .select cs b) :
    ∀ (f : Nat) (listed : Array Bool) (a : Act) (w : World), S w →
      (∀ j oj, ops[j]? = some oj → j ≠ i → listed.getD j true = false → (∀ e ∈ oj.after, Region.binds md e = true → e.on ≠ i) → oi.apart ops oj = true) →
      i ∈ Region.ready md ops listed → YieldsW P ops S oi v a →
      wpAnyW P md ops S K f (listed.setIfInBounds i true) (a.put oi.dst v) w → wpAnyW P md ops S K (f + 1) listed a w := by
  have st : ∀ (a : Act) (w : World) (K : Act → World → Prop), S w → YieldsW P ops S oi v a → K (a.put oi.dst v) w → stW P ops S i K a w := fun a w K hS hy hK => by
    refine ⟨oi, hi, ?_⟩
    rcases hy with ⟨h1, h2⟩ | ⟨h1, rfl⟩
    · refine .inl ⟨h1, ?_⟩
      rw [h2 w hS]; exact ⟨hS, hK⟩
    · exact .inr ⟨h1, hS, hK⟩
  intro f
  induction f with
  | zero =>
    intro listed a w hS _ hr hy H
    refine ⟨fun h => (by rw [h] at hr; cases hr), fun j hj => ?_⟩
    by_cases hji : j = i
    · subst hji; exact st _ _ _ hS hy H
    · have := ready_mono hj hji
      rw [H.1] at this; cases this
  | succ f ih =>
    intro listed a w hS hfree hr hy H
    have hun := (mem_ready.1 hr).1
    refine ⟨fun h => (by rw [h] at hr; cases hr), fun j hj => ?_⟩
    by_cases hji : j = i
    · subst hji; exact st _ _ _ hS hy H
    · have h1 := H.2 j (ready_mono hj hji)
      obtain ⟨hjun, oj, hoj, hall⟩ := mem_ready.1 hj
      have hnot : ∀ e ∈ oj.after, Region.binds md e = true → e.on ≠ i := fun e he hb heq => by
        have h1 := hall e he hb
        rw [heq, getD_both hun] at h1
        cases h1
      have h2 := stW_put hoj (hfree j oj hoj hji hjun hnot) (fun cs b => hsel i oi cs b hi) (fun cs b => hsel j oj cs b hoj) hy h1
      have hfree' : ∀ k ok, ops[k]? = some ok → k ≠ i → (listed.setIfInBounds j true).getD k true = false →
          (∀ e ∈ ok.after, Region.binds md e = true → e.on ≠ i) → oi.apart ops ok = true := fun k ok hk hki hun hno => by
        refine hfree k ok hk hki ?_ hno
        by_cases hjk : j = k
        · subst hjk; exact hjun
        · rw [getD_set_ne true hjk] at hun; exact hun
      refine stW_mono (fun a' w' hS' h3 => ih (listed.setIfInBounds j true) a' w' hS' hfree' (ready_mono hr (Ne.symm hji)) h3.1 ?_) h2
      rw [Array.setIfInBounds_comm _ _ hji]
      exact h3.2
theorem wpAnyW_alone {i : Nat} {K : Act → World → Prop} {f : Nat} {listed : Array Bool} {a : Act} {w : World} (hr : Region.ready md ops listed = [i])
    (h : stW P ops S i (wpAnyW P md ops S K f (listed.setIfInBounds i true)) a w) : wpAnyW P md ops S K (f + 1) listed a w :=
  ⟨fun h0 => (by rw [h0] at hr; cases hr), fun j hj => by
    rw [hr] at hj
    obtain rfl : j = i := by simpa using hj
    exact h⟩
/-- the walk: (true, k): no other is ready; (false, k): one value in all worlds of S -/
def wpHW (P : Program) (ops : Array Oper) (S : World → Prop) (K : Act → World → Prop) : List (Bool × Nat) → Act → World → Prop
  | [], a, w => K a w
  | (true, k) :: r, a, w => stW P ops S k (wpHW P ops S K r) a w
  | (false, k) :: r, a, w => ∃ o, ops[k]? = some o ∧ ∃ v, YieldsW P ops S o v a ∧ wpHW P ops S K r (a.put o.dst v) w
def ordB (md : Region.Mode) (ops : Array Oper) : List (Bool × Nat) → Array Bool → Bool
  | [], listed => (Region.ready md ops listed).isEmpty
  | (true, k) :: r, listed => decide (Region.ready md ops listed = [k]) && ordB md ops r (listed.setIfInBounds k true)
  | (false, k) :: r, listed => (Region.ready md ops listed).contains k && Region.free md ops listed k && ordB md ops r (listed.setIfInBounds k true)
theorem wpAnyW_ord {K : Act → World → Prop} (hsel : Region.noSelect ops = true) : ∀ (l : List (Bool × Nat)) (listed : Array Bool) (a : Act) (w : World), S w → ordB md ops l listed = true → wpHW P ops S K l a w →
    wpAnyW P md ops S K l.length listed a w
  | [], listed, a, w, hS, hB, h => ⟨by simpa [ordB] using hB, h⟩
  | (true, k) :: r, listed, a, w, hS, hB, h => by
    simp only [ordB, Bool.and_eq_true, decide_eq_true_eq] at hB
    exact wpAnyW_alone hB.1 (stW_mono (fun a' w' hS' h' => wpAnyW_ord hsel r _ a' w' hS' hB.2 h') h)
  | (false, k) :: r, listed, a, w, hS, hB, h => by
    simp only [ordB, Bool.and_eq_true] at hB
    obtain ⟨o, ho, v, hy, hK⟩ := h
    exact wpAnyW_first ho (Region.noSelect_spec hsel) r.length listed a w hS (Region.free_spec ho hB.1.2) (by simpa using hB.1.1) hy (wpAnyW_ord hsel r _ _ w hS hB.2 hK)
/-- the same walk with the operations beside their numbers -/
def attachW (l : List Oper) : List (Bool × Nat) → List (Bool × Nat × Oper)
  | [] => []
  | (b, k) :: r => match l[k]? with
    | some o => (b, k, o) :: attachW l r
    | none => []
def wpHX (P : Program) (ops : Array Oper) (S : World → Prop) (K : Act → World → Prop) : List (Bool × Nat × Oper) → Act → World → Prop
  | [], a, w => K a w
  | (true, _, o) :: r, a, w => (Region.wanted o (yielded ops a.tmps) = true ∧ givW P (fun v w' => S w' ∧ wpHX P ops S K r (a.put o.dst v) w') ((execOp a.eval o).run P w)) ∨
    (Region.wanted o (yielded ops a.tmps) = false ∧ S w ∧ wpHX P ops S K r (a.put o.dst undef) w)
  | (false, _, o) :: r, a, w => ∃ v, YieldsW P ops S o v a ∧ wpHX P ops S K r (a.put o.dst v) w
theorem wpHW_of_X {l : List Oper} {K : Act → World → Prop} : ∀ (ord : List (Bool × Nat)) (listed : Array Bool) (a : Act) (w : World), ordB md l.toArray ord listed = true → wpHX P l.toArray S K (attachW l ord) a w → wpHW P l.toArray S K ord a w
  | [], _, _, _, _, h => h
  | (true, k) :: r, listed, a, w, hB, h => by
    simp only [ordB, Bool.and_eq_true, decide_eq_true_eq] at hB
    have hk : k < l.toArray.size := ready_lt (md := md) (listed := listed) (by rw [hB.1]; simp)
    have ho : l[k]? = some l[k] := List.getElem?_eq_getElem (by simpa using hk)
    simp only [attachW, ho] at h
    refine ⟨l[k], by simp, ?_⟩
    rcases h with h | h
    · exact .inl ⟨h.1, givW_mono (fun v w' h2 => ⟨h2.1, wpHW_of_X r _ _ _ hB.2 h2.2⟩) h.2⟩
    · exact .inr ⟨h.1, h.2.1, wpHW_of_X r _ _ _ hB.2 h.2.2⟩
  | (false, k) :: r, listed, a, w, hB, h => by
    simp only [ordB, Bool.and_eq_true] at hB
    have hk : k < l.toArray.size := ready_lt (md := md) (listed := listed) (by simpa using hB.1.1)
    have ho : l[k]? = some l[k] := List.getElem?_eq_getElem (by simpa using hk)
    simp only [attachW, ho] at h
    obtain ⟨v, h1, h2⟩ := h
    exact ⟨l[k], by simp, v, h1, wpHW_of_X r _ _ _ hB.2 h2⟩
theorem wp_region_W {id : Nat} {Q : Exit → Act → World → Prop} {a : Act} {w : World} {l : List Oper} (ord : List (Bool × Nat)) (hm : P.follows .mixedOrders = true) (hB : (Region.noSelect l.toArray && decide (ord.length = l.toArray.size) && ordB .any l.toArray ord (Array.replicate l.toArray.size false)) = true)
    (hS : S w.drew) (h : wpHX P l.toArray S (fun a' W => wpList P l.toArray Q [] a' W) (attachW l ord) a w.drew) : (Code.region id l.toArray true).wp P Q a w := by
  simp only [Bool.and_eq_true, decide_eq_true_eq] at hB
  refine wp_region_any hm ?_
  rw [← hB.1.2]
  refine wpAny_of_W (S := S) _ _ _ _ ?_
  have := wpAnyW_ord (P := P) (K := Q .normal) hB.1.1 ord _ a w.drew hS hB.2 (wpHW_of_X ord _ a w.drew hB.2 h)
  rw [← hB.1.2] at this
  exact this
/-! steps of the walk -/
section
variable {K : Act → World → Prop} {a : Act} {w : World} {r : List (Bool × Nat × Oper)} {k : Nat} {o : Oper} {v : Value}
theorem wpHX_nil (h : K a w) : wpHX P ops S K [] a w := h
theorem wpHX_val (hg : o.guard = none) (hv : ∀ W, S W → (execOp a.eval o).run P W = .ok (.value v) W) (h : wpHX P ops S K r (a.put o.dst v) w) : wpHX P ops S K ((false, k, o) :: r) a w :=
  ⟨v, .inl ⟨by simp [Region.wanted, hg], hv⟩, h⟩
theorem wpHX_gval (hg : Region.wanted o (yielded ops a.tmps) = true) (hv : ∀ W, S W → (execOp a.eval o).run P W = .ok (.value v) W) (h : wpHX P ops S K r (a.put o.dst v) w) : wpHX P ops S K ((false, k, o) :: r) a w :=
  ⟨v, .inl ⟨hg, hv⟩, h⟩
theorem wpHX_not (hg : Region.wanted o (yielded ops a.tmps) = false) (h : wpHX P ops S K r (a.put o.dst undef) w) : wpHX P ops S K ((false, k, o) :: r) a w :=
  ⟨undef, .inr ⟨hg, rfl⟩, h⟩
/-- alone: a value of this world -/
theorem wpHX_aval (hg : Region.wanted o (yielded ops a.tmps) = true) {w' : World} (hv : (execOp a.eval o).run P w = .ok (.value v) w') (hS : S w') (h : wpHX P ops S K r (a.put o.dst v) w') : wpHX P ops S K ((true, k, o) :: r) a w :=
  .inl ⟨hg, by rw [hv]; exact ⟨hS, h⟩⟩
theorem wpHX_anot (hg : Region.wanted o (yielded ops a.tmps) = false) (hS : S w) (h : wpHX P ops S K r (a.put o.dst undef) w) : wpHX P ops S K ((true, k, o) :: r) a w :=
  .inr ⟨hg, hS, h⟩
theorem wpHX_acall (hg : Region.wanted o (yielded ops a.tmps) = true) {f : FuncId} {args : Array Value} (hv : ∀ W, (execOp a.eval o).run P W = .ok (.enter f args) W)
    (hc : Calls P f args w (fun e W' => ∃ v, e = .returned v ∧ S W' ∧ wpHX P ops S K r (a.put o.dst v) W')) : wpHX P ops S K ((true, k, o) :: r) a w :=
  .inl ⟨hg, by rw [hv w]; exact hc⟩
end
end
end Go.Proofs.YtplppbfnlfehnaaDoor
