import Derived.Test.YtmnlkganmgcpbaaGreatDoorQa1
namespace Go.Proofs.YtmnlkganmgcpbaaGreatDoor
open Go.RowKit
set_option linter.unusedVariables false
section
variable {P : Program} {ops : Array Oper} {md : Region.Mode} {S : World → Prop}
def givW (P : Program) (k : Value → World → Prop) : Result Next → Prop
  | .ok (.value u) w' => k u w'
  | .ok .skip w' => k undef w'
  | .ok (.enter f args) w' => Calls P f args w' (fun e w'' => ∃ v, e = .returned v ∧ k v w'')
  | _ => False
theorem givW_mono {k k' : Value → World → Prop} (h : ∀ v w, k v w → k' v w) : ∀ {r : Result Next}, givW P k r → givW P k' r
  | .ok (.value u) w', hh => h _ _ hh
  | .ok .skip w', hh => h _ _ hh
  | .ok (.enter f args) w', hh => Calls.mono hh fun e w'' ⟨v, h1, h2⟩ => ⟨v, h1, h _ _ h2⟩
  | .halt _ _, hh => hh.elim
def YieldsW (P : Program) (ops : Array Oper) (S : World → Prop) (o : Oper) (v : Value) (a : Act) : Prop :=
  (Region.wanted o (yielded ops a.tmps) = true ∧ ∀ w, S w → (execOp a.eval o).run P w = .ok (.value v) w) ∨ (Region.wanted o (yielded ops a.tmps) = false ∧ v = undef)
theorem YieldsW.of_same {o : Oper} {v : Value} {a a' : Act} (hy : YieldsW P ops S o v a) (he : execOp a'.eval o = execOp a.eval o)
    (hw : Region.wanted o (yielded ops a'.tmps) = Region.wanted o (yielded ops a.tmps)) : YieldsW P ops S o v a' := by
  unfold YieldsW at *
  rw [he, hw]
  exact hy
def stW (P : Program) (ops : Array Oper) (S : World → Prop) (i : Nat) (K : Act → World → Prop) (a : Act) (w : World) : Prop :=
  ∃ o, ops[i]? = some o ∧ ((Region.wanted o (yielded ops a.tmps) = true ∧ givW P (fun v w' => S w' ∧ K (a.put o.dst v) w') ((execOp a.eval o).run P w)) ∨
    (Region.wanted o (yielded ops a.tmps) = false ∧ S w ∧ K (a.put o.dst undef) w))
theorem stW_mono {i : Nat} {a : Act} {w : World} {K K' : Act → World → Prop} (h : ∀ a w, S w → K a w → K' a w) (hh : stW P ops S i K a w) : stW P ops S i K' a w := by
  obtain ⟨o, ho, h1 | h1⟩ := hh
  · exact ⟨o, ho, .inl ⟨h1.1, givW_mono (fun v w' h2 => ⟨h2.1, h _ _ h2.1 h2.2⟩) h1.2⟩⟩
  · exact ⟨o, ho, .inr ⟨h1.1, h1.2.1, h _ _ h1.2.1 h1.2.2⟩⟩
theorem stW_put {j : Nat} {oi oj : Oper} {v : Value} (hj : ops[j]? = some oj) (hap : oi.apart ops oj = true)
    (hsi : ∀ cs b, oi.op ≠ .select cs b) (hsj : ∀ cs b, oj.op ≠ .select cs b) {K : Act → World → Prop} {a : Act} {w : World}
    (hy : YieldsW P ops S oi v a) (h : stW P ops S j K (a.put oi.dst v) w) :
    stW P ops S j (fun a' w' => YieldsW P ops S oi v a' ∧ K (a'.put oi.dst v) w') a w := by
  obtain ⟨h1, h2, h3⟩ := Oper.apart_spec hap
  obtain ⟨o, ho, hh⟩ := h
  obtain rfl : o = oj := Option.some.inj (ho.symm.trans hj)
  have e1 : execOp (a.put oi.dst v).eval o = execOp a.eval o := execOp_put o hsj a oi.dst v h1
  have e2 : Region.wanted o (yielded ops (a.put oi.dst v).tmps) = Region.wanted o (yielded ops a.tmps) := wanted_put o a oi.dst v h1
  rw [e1, e2] at hh
  have key : ∀ u, YieldsW P ops S oi v (a.put o.dst u) := fun u => hy.of_same (execOp_put oi hsi a o.dst u h3) (wanted_put oi a o.dst u h3)
  refine ⟨o, ho, ?_⟩
  rcases hh with hh | hh
  · refine .inl ⟨hh.1, givW_mono (fun u w' h4 => ⟨h4.1, key u, ?_⟩) hh.2⟩
    rw [← Act.put_comm a v u h2]; exact h4.2
  · refine .inr ⟨hh.1, hh.2.1, key undef, ?_⟩
    rw [← Act.put_comm a v undef h2]; exact hh.2.2
theorem wpOp_of_stW {i : Nat} {a : Act} {w : World} {K : Act → World → Prop} {K' : Act → World → Prop} {Q' : Exit → Act → World → Prop}
    (h : ∀ a w, K a w → K' a w) (hh : stW P ops S i K a w) : wpOp P ops Q' i K' a w := by
  obtain ⟨o, ho, hh⟩ := hh
  unfold wpOp
  simp only [ho]
  rcases hh with ⟨hw, h1⟩ | ⟨hw, _, h1⟩
  · simp only [hw, if_true]
    refine .inl ?_
    unfold Oper.wp
    generalize (execOp a.eval o).run P w = r at *
    cases r with
    | ok n w' =>
      cases n <;> simp only [givW] at h1 <;> simp only [Oper.upon]
      case value u => exact h _ _ h1.2
      case skip => exact h _ _ h1.2
      case enter f args => exact h1.mono fun e w'' ⟨v, he, _, h2⟩ => by subst he; exact h _ _ h2
    | halt x w' => simp only [givW] at h1
  · simp only [hw, Bool.false_eq_true, if_false]; exact h _ _ h1
def wpAnyW (P : Program) (md : Region.Mode) (ops : Array Oper) (S : World → Prop) (K : Act → World → Prop) : Nat → Array Bool → Act → World → Prop
  | 0, listed, a, w => Region.ready md ops listed = [] ∧ K a w
  | f + 1, listed, a, w => Region.ready md ops listed ≠ [] ∧ ∀ i ∈ Region.ready md ops listed, stW P ops S i (wpAnyW P md ops S K f (listed.setIfInBounds i true)) a w
theorem wpAny_of_W {Q' : Exit → Act → World → Prop} : ∀ (f : Nat) (listed : Array Bool) (a : Act) (w : World), wpAnyW P md ops S (Q' .normal) f listed a w → wpAny P md ops Q' f listed a w
  | 0, listed, a, w, h => h
  | f + 1, listed, a, w, h => ⟨fun h0 => absurd h0 h.1, fun i hi => wpOp_of_stW (fun a' w' h' => wpAny_of_W f _ a' w' h') (h.2 i hi)⟩
theorem wpAnyW_first {i : Nat} {oi : Oper} {v : Value} {K : Act → World → Prop} (hi : ops[i]? = some oi) (hsel : ∀ (j : Nat) (o : Oper) cs b, ops[j]? = some o → o.op ≠ .select cs b) :
    ∀ (f : Nat) (listed : Array Bool) (a : Act) (w : World), S w →
      (∀ j oj, ops[j]? = some oj → j ≠ i → listed.getD j true = false → (∀ e ∈ oj.after, Region.binds md e = true → e.on ≠ i) → oi.apart ops oj = true) →
      i ∈ Region.ready md ops listed → YieldsW P ops S oi v a →
      wpAnyW P md ops S K f (listed.setIfInBounds i true) (a.put oi.dst v) w → wpAnyW P md ops S K (f + 1) listed a w := by
  have st : ∀ (a : Act) (w : World) (K : Act → World → Prop), S w → YieldsW P ops S oi v a → K (a.put oi.dst v) w → stW P ops S i K a w := fun a w K hS hy hK => by
    refine ⟨oi, hi, ?_⟩
    rcases hy with ⟨h1, h2⟩ | ⟨h1, rfl⟩
    · refine .inl ⟨h1, ?_⟩
      rw [h2 w hS]; exact ⟨hS, hK⟩
    · exact .inr ⟨h1, hS, hK⟩
  intro f
  induction f with
  | zero =>
    intro listed a w hS _ hr hy H
    refine ⟨fun h => (by rw [h] at hr; cases hr), fun j hj => ?_⟩
    by_cases hji : j = i
    · subst hji; exact st _ _ _ hS hy H
    · have := ready_mono hj hji
      rw [H.1] at this; cases this
  | succ f ih =>
    intro listed a w hS hfree hr hy H
    have hun := (mem_ready.1 hr).1
    refine ⟨fun h => (by rw [h] at hr; cases hr), fun j hj => ?_⟩
    by_cases hji : j = i
    · subst hji; exact st _ _ _ hS hy H
    · have h1 := H.2 j (ready_mono hj hji)
      obtain ⟨hjun, oj, hoj, hall⟩ := mem_ready.1 hj
      have hnot : ∀ e ∈ oj.after, Region.binds md e = true → e.on ≠ i := fun e he hb heq => by
        have h1 := hall e he hb
        rw [heq, getD_both hun] at h1
        cases h1
      have h2 := stW_put hoj (hfree j oj hoj hji hjun hnot) (fun cs b => hsel i oi cs b hi) (fun cs b => hsel j oj cs b hoj) hy h1
      have hfree' : ∀ k ok, ops[k]? = some ok → k ≠ i → (listed.setIfInBounds j true).getD k true = false →
          (∀ e ∈ ok.after, Region.binds md e = true → e.on ≠ i) → oi.apart ops ok = true := fun k ok hk hki hun hno => by
        refine hfree k ok hk hki ?_ hno
        by_cases hjk : j = k
        · subst hjk; exact hjun
        · rw [getD_set_ne true hjk] at hun; exact hun
      refine stW_mono (fun a' w' hS' h3 => ih (listed.setIfInBounds j true) a' w' hS' hfree' (ready_mono hr (Ne.symm hji)) h3.1 ?_) h2
      rw [Array.setIfInBounds_comm _ _ hji]
      exact h3.2
theorem wpAnyW_alone {i : Nat} {K : Act → World → Prop} {f : Nat} {listed : Array Bool} {a : Act} {w : World} (hr : Region.ready md ops listed = [i])
    (h : stW P ops S i (wpAnyW P md ops S K f (listed.setIfInBounds i true)) a w) : wpAnyW P md ops S K (f + 1) listed a w :=
  ⟨fun h0 => (by rw [h0] at hr; cases hr), fun j hj => by
    rw [hr] at hj
    obtain rfl : j = i := by simpa using hj
    exact h⟩
def wpHW (P : Program) (ops : Array Oper) (S : World → Prop) (K : Act → World → Prop) : List (Bool × Nat) → Act → World → Prop
  | [], a, w => K a w
  | (true, k) :: r, a, w => stW P ops S k (wpHW P ops S K r) a w
  | (false, k) :: r, a, w => ∃ o, ops[k]? = some o ∧ ∃ v, YieldsW P ops S o v a ∧ wpHW P ops S K r (a.put o.dst v) w
def ordB (md : Region.Mode) (ops : Array Oper) : List (Bool × Nat) → Array Bool → Bool
  | [], listed => (Region.ready md ops listed).isEmpty
  | (true, k) :: r, listed => decide (Region.ready md ops listed = [k]) && ordB md ops r (listed.setIfInBounds k true)
  | (false, k) :: r, listed => (Region.ready md ops listed).contains k && Region.free md ops listed k && ordB md ops r (listed.setIfInBounds k true)
theorem wpAnyW_ord {K : Act → World → Prop} (hsel : Region.noSelect ops = true) : ∀ (l : List (Bool × Nat)) (listed : Array Bool) (a : Act) (w : World), S w → ordB md ops l listed = true → wpHW P ops S K l a w →
    wpAnyW P md ops S K l.length listed a w
  | [], listed, a, w, hS, hB, h => ⟨by simpa [ordB] using hB, h⟩
  | (true, k) :: r, listed, a, w, hS, hB, h => by
    simp only [ordB, Bool.and_eq_true, decide_eq_true_eq] at hB
    exact wpAnyW_alone hB.1 (stW_mono (fun a' w' hS' h' => wpAnyW_ord hsel r _ a' w' hS' hB.2 h') h)
  | (false, k) :: r, listed, a, w, hS, hB, h => by
    simp only [ordB, Bool.and_eq_true] at hB
    obtain ⟨o, ho, v, hy, hK⟩ := h
    exact wpAnyW_first ho (Region.noSelect_spec hsel) r.length listed a w hS (Region.free_spec ho hB.1.2) (by simpa using hB.1.1) hy (wpAnyW_ord hsel r _ _ w hS hB.2 hK)
def attachW (l : List Oper) : List (Bool × Nat) → List (Bool × Nat × Oper)
  | [] => []
  | (b, k) :: r => match l[k]? with
    | some o => (b, k, o) :: attachW l r
    | none => []
def wpHX (P : Program) (ops : Array Oper) (S : World → Prop) (K : Act → World → Prop) : List (Bool × Nat × Oper) → Act → World → Prop
  | [], a, w => K a w
  | (true, _, o) :: r, a, w => (Region.wanted o (yielded ops a.tmps) = true ∧ givW P (fun v w' => S w' ∧ wpHX P ops S K r (a.put o.dst v) w') ((execOp a.eval o).run P w)) ∨
    (Region.wanted o (yielded ops a.tmps) = false ∧ S w ∧ wpHX P ops S K r (a.put o.dst undef) w)
  | (false, _, o) :: r, a, w => ∃ v, YieldsW P ops S o v a ∧ wpHX P ops S K r (a.put o.dst v) w
theorem wpHW_of_X {l : List Oper} {K : Act → World → Prop} : ∀ (ord : List (Bool × Nat)) (listed : Array Bool) (a : Act) (w : World), ordB md l.toArray ord listed = true → wpHX P l.toArray S K (attachW l ord) a w → wpHW P l.toArray S K ord a w
  | [], _, _, _, _, h => h
  | (true, k) :: r, listed, a, w, hB, h => by
    simp only [ordB, Bool.and_eq_true, decide_eq_true_eq] at hB
    have hk : k < l.toArray.size := ready_lt (md := md) (listed := listed) (by rw [hB.1]; simp)
    have ho : l[k]? = some l[k] := List.getElem?_eq_getElem (by simpa using hk)
    simp only [attachW, ho] at h
    refine ⟨l[k], by simp, ?_⟩
    rcases h with h | h
    · exact .inl ⟨h.1, givW_mono (fun v w' h2 => ⟨h2.1, wpHW_of_X r _ _ _ hB.2 h2.2⟩) h.2⟩
    · exact .inr ⟨h.1, h.2.1, wpHW_of_X r _ _ _ hB.2 h.2.2⟩
  | (false, k) :: r, listed, a, w, hB, h => by
    simp only [ordB, Bool.and_eq_true] at hB
    have hk : k < l.toArray.size := ready_lt (md := md) (listed := listed) (by simpa using hB.1.1)
    have ho : l[k]? = some l[k] := List.getElem?_eq_getElem (by simpa using hk)
    simp only [attachW, ho] at h
    obtain ⟨v, h1, h2⟩ := h
    exact ⟨l[k], by simp, v, h1, wpHW_of_X r _ _ _ hB.2 h2⟩
theorem wp_region_W {id : Nat} {Q : Exit → Act → World → Prop} {a : Act} {w : World} {l : List Oper} (ord : List (Bool × Nat)) (hm : P.follows .mixedOrders = true) (hB : (Region.noSelect l.toArray && decide (ord.length = l.toArray.size) && ordB .any l.toArray ord (Array.replicate l.toArray.size false)) = true)
    (hS : S w.drew) (h : wpHX P l.toArray S (fun a' W => wpList P l.toArray Q [] a' W) (attachW l ord) a w.drew) : (Code.region id l.toArray true).wp P Q a w := by
  simp only [Bool.and_eq_true, decide_eq_true_eq] at hB
  refine wp_region_any hm ?_
  rw [← hB.1.2]
  refine wpAny_of_W (S := S) _ _ _ _ ?_
  have := wpAnyW_ord (P := P) (K := Q .normal) hB.1.1 ord _ a w.drew hS hB.2 (wpHW_of_X ord _ a w.drew hB.2 h)
  rw [← hB.1.2] at this
  exact this
section
variable {K : Act → World → Prop} {a : Act} {w : World} {r : List (Bool × Nat × Oper)} {k : Nat} {o : Oper} {v : Value}
theorem wpHX_nil (h : K a w) : wpHX P ops S K [] a w := h
theorem wpHX_val (hg : o.guard = none) (hv : ∀ W, S W → (execOp a.eval o).run P W = .ok (.value v) W) (h : wpHX P ops S K r (a.put o.dst v) w) : wpHX P ops S K ((false, k, o) :: r) a w :=
  ⟨v, .inl ⟨by simp [Region.wanted, hg], hv⟩, h⟩
theorem wpHX_gval (hg : Region.wanted o (yielded ops a.tmps) = true) (hv : ∀ W, S W → (execOp a.eval o).run P W = .ok (.value v) W) (h : wpHX P ops S K r (a.put o.dst v) w) : wpHX P ops S K ((false, k, o) :: r) a w :=
  ⟨v, .inl ⟨hg, hv⟩, h⟩
theorem wpHX_not (hg : Region.wanted o (yielded ops a.tmps) = false) (h : wpHX P ops S K r (a.put o.dst undef) w) : wpHX P ops S K ((false, k, o) :: r) a w :=
  ⟨undef, .inr ⟨hg, rfl⟩, h⟩
theorem wpHX_aval (hg : Region.wanted o (yielded ops a.tmps) = true) {w' : World} (hv : (execOp a.eval o).run P w = .ok (.value v) w') (hS : S w') (h : wpHX P ops S K r (a.put o.dst v) w') : wpHX P ops S K ((true, k, o) :: r) a w :=
  .inl ⟨hg, by rw [hv]; exact ⟨hS, h⟩⟩
theorem wpHX_anot (hg : Region.wanted o (yielded ops a.tmps) = false) (hS : S w) (h : wpHX P ops S K r (a.put o.dst undef) w) : wpHX P ops S K ((true, k, o) :: r) a w :=
  .inr ⟨hg, hS, h⟩
theorem wpHX_acall (hg : Region.wanted o (yielded ops a.tmps) = true) {f : FuncId} {args : Array Value} (hv : ∀ W, (execOp a.eval o).run P W = .ok (.enter f args) W)
    (hc : Calls P f args w (fun e W' => ∃ v, e = .returned v ∧ S W' ∧ wpHX P ops S K r (a.put o.dst v) W')) : wpHX P ops S K ((true, k, o) :: r) a w :=
  .inl ⟨hg, by rw [hv w]; exact hc⟩
end
end
end Go.Proofs.YtmnlkganmgcpbaaGreatDoor
namespace Go.Proofs.YtmnlkganmgcpbaaGreatDoor
open Go.RowKit
set_option linter.unusedVariables false
def widthN (mode : Nat) : Nat := if mode = 4 then 4 else 5
theorem numberBits_any (m : Nat) (w : World) :
    Calls Tryz.prog 132 #[.int .i64 m] w fun e w' => e = .returned (.int .i64 ((widthN m : Nat) : Int)) ∧ w' = w := by
  by_cases h : m = 4
  · subst h
    go_enter Tryz.func132, Tryz.ntmps132
    go_wp2
    go_ret
    exact ⟨rfl, rfl⟩
  · have hz : ((m : Int) == 4) = false := by rw [beq_eq_false_iff_ne]; omega
    have HE : Hid (widthN m = 5) := by show _ = _; unfold widthN; rw [if_neg h]
    clear h
    go_enter Tryz.func132, Tryz.ntmps132
    go_wp2
    go_ret
    exact ⟨by rw [HE.out]; rfl, rfl⟩
def bitN (b : List Bool) (at_ : Nat) : Nat := if at_ < b.length ∧ b.getD at_ false = false then 0 else 1
theorem bitAt_any (A : Option Addr) (n c : Nat) (b : List Bool) (k : Nat) (w : World) (hb : SR vB false w A n c b) (hk : k ≤ 100000000) :
    Calls Tryz.prog 82 #[.slice A n c, .int .i64 k] w fun e w' => e = .returned (.int .i64 ((bitN b k : Nat) : Int)) ∧ w' = w := by
  have HN : Hid (n = b.length) := hb.hn
  have HR := Lib.hid hb.rd
  clear hb
  by_cases hlt : k < n
  · obtain ⟨ad, rfl, hadw, hca⟩ := HR.out (by rw [← HN.out]; omega)
    have hx := hca k (by rw [← HN.out]; omega)
    have HE : Hid (bitN b k = if b.getD k false = false then 0 else 1) := by
      show _ = _
      unfold bitN
      have h1 : k < b.length := by rw [← HN.out]; exact hlt
      simp only [h1, true_and]
    clear hca
    generalize b.getD k false = y at *
    cases y with
    | false =>
      go_enter Tryz.func82, Tryz.ntmps82
      go_wp2
      go_ret
      exact ⟨by rw [HE.out]; rfl, rfl⟩
    | true =>
      go_enter Tryz.func82, Tryz.ntmps82
      go_wp2
      go_ret
      exact ⟨by rw [HE.out]; rfl, rfl⟩
  · have HE : Hid (bitN b k = 1) := by
      show _ = _
      unfold bitN
      rw [if_neg]
      have := HN.out
      omega
    go_enter Tryz.func82, Tryz.ntmps82
    go_wp2
    go_ret
    exact ⟨by rw [HE.out]; rfl, rfl⟩
end Go.Proofs.YtmnlkganmgcpbaaGreatDoor
namespace Go.Proofs.YtmnlkganmgcpbaaGreatDoor
open Go.RowKit
set_option linter.unusedVariables false
abbrev vN : Nat → Value := fun n => Value.int .i64 (n : Int)
theorem oneN (x : Nat) : (vN x).oneCell' = true := rfl
theorem bitN_le (b : List Bool) (k : Nat) : bitN b k ≤ 1 := by unfold bitN; split <;> omega
def sfV (b : List Bool) (k : Nat) : Nat → Nat
  | 0 => 0
  | j + 1 => 2 * sfV b k j + bitN b (k + j)
theorem sfV_lt (b : List Bool) (k j : Nat) : sfV b k j < 2 ^ j := by
  induction j with
  | zero => simp [sfV]
  | succ j ih =>
    have := bitN_le b (k + j)
    show 2 * sfV b k j + bitN b (k + j) < 2 ^ (j + 1)
    rw [Nat.pow_succ]; omega
def sfW (b : List Bool) (s k : Nat) : Nat × Nat :=
  if sfV b k (s - 1) = 0 then (1, k + (s - 1)) else if sfV b k (s - 1) = 2 ^ (s - 1) - 1 then (2 * sfV b k (s - 1), k + (s - 1)) else (2 * sfV b k (s - 1) + bitN b (k + (s - 1)), k + s)
def stuffFrom (b : List Bool) (s : Nat) : Nat → Nat → List Nat
  | 0, _ => []
  | f + 1, k => if k < b.length then (sfW b s k).1 :: stuffFrom b s f (sfW b s k).2 else []
def stuffL (b : List Bool) (s : Nat) : List Nat := stuffFrom b s b.length 0
theorem stuff_end (b : List Bool) (s f k : Nat) (h : b.length ≤ k) : stuffFrom b s f k = [] := by
  cases f with
  | zero => rfl
  | succ f => unfold stuffFrom; rw [if_neg (by omega)]
theorem stuff_step (b : List Bool) (s f k : Nat) (hs : 2 ≤ s) (h : k < b.length) (hf : b.length ≤ f + k) : ∃ f', stuffFrom b s f k = (sfW b s k).1 :: stuffFrom b s f' (sfW b s k).2 ∧ b.length ≤ f' + (sfW b s k).2 := by
  cases f with
  | zero => omega
  | succ f =>
    refine ⟨f, ?_, ?_⟩
    · show (if k < b.length then _ else _) = _
      rw [if_pos h]
    · have : k + 1 ≤ (sfW b s k).2 := by unfold sfW; split; · show k + 1 ≤ k + (s - 1); omega
                                         · split
                                           · show k + 1 ≤ k + (s - 1); omega
                                           · show k + 1 ≤ k + s; omega
      omega
theorem pow_lt13 {s : Nat} (h : s ≤ 12) : 2 ^ s ≤ 4096 := by
  have := Nat.pow_le_pow_right (n := 2) (by omega) h
  simpa using this
theorem pow_wrap {j : Nat} (h : j ≤ 12) : wrap64 (wrap64 ((2 : Int) ^ j) - 1) = ((2 ^ j - 1 : Nat) : Int) := by
  have h1 : (2 : Int) ^ j = ((2 ^ j : Nat) : Int) := by simp
  have h2 := pow_lt13 h
  have h3 : 1 ≤ 2 ^ j := Nat.one_le_two_pow
  rw [h1]
  have e1 : wrap64 ((2 ^ j : Nat) : Int) = ((2 ^ j : Nat) : Int) := by unfold wrap64; omega
  have e2 : wrap64 (((2 ^ j : Nat) : Int) - 1) = ((2 ^ j : Nat) : Int) - 1 := by unfold wrap64; omega
  rw [e1, e2]
  omega
set_option maxRecDepth 100000 in
set_option maxHeartbeats 4000000 in
theorem Stuff_yes (A : Option Addr) (n c s : Nat) (b : List Bool) (w : World) (hb : SR vB false w A n c b) (h1 : 2 ≤ s) (h2 : s ≤ 12) (hn : n ≤ 1048576) :
    Calls Tryz.prog 32 #[.slice A n c, .int .i64 s] w fun e w' => ∃ v, e = .returned (.tuple #[v, .int .i64 0]) ∧ SG vN 0 w' v (stuffL b s) ∧ Below w.heap.size w w' := by
  obtain ⟨i0, hi, hz0, hz1, hz2⟩ := info_parts intInfo
  have HB := Lib.hid hb
  have HN : Hid (n = b.length) := hb.hn
  obtain ⟨t, ht⟩ : ∃ t, t = s - 1 := ⟨_, rfl⟩
  have ht1 : ((s : Int) - 1) = (t : Int) := by omega
  have ht2 : t ≤ 11 := by omega
  have ht3 : 1 ≤ t := by omega
  have HT := Lib.hid ht
  have hsz : decide ((s : Int) < 2) = false := by simp; omega
  have hsz2 : decide ((12 : Int) < (s : Int)) = false := by simp; omega
  clear hb ht h1 h2
  go_enter Tryz.func32, Tryz.ntmps32
  go_wp2
  go_loopw [6, 7] (fun ov iv wr => ∃ (k f : Nat) (acc : List Nat), iv = .int .i64 k ∧ k ≤ n + 12 ∧ Hid (OG vN 3 w wr ov acc) ∧ Hid (acc.length ≤ k) ∧ Hid (acc ++ stuffFrom b s f k = stuffL b s) ∧ Hid (n ≤ f + k)) (fun _ iv _ => n + 12 - (intOf iv).toNat)
  case atStart => exact ⟨0, b.length, [], rfl, by omega, OG.start _ _, Nat.le_refl _, rfl, by show _ ≤ _; rw [HN.out]; omega⟩
  case round =>
    obtain ⟨k, f, acc, rfl, hk, hO, hL, hE, hF⟩ := hrel
    by_cases hlt : k < n
    · go_wp2
      obtain ⟨wo, rfl⟩ : ∃ wo : World, wo = wr := ⟨_, rfl⟩
      go_loopw [7, 8, 24] (fun av vv iv wr => ∃ j K x : Nat, j ≤ t ∧ K ≤ n + 12 ∧ x ≤ 4096 ∧ av = .int .i64 K ∧ vv = .int .i64 x ∧ iv = .int .i64 j ∧ Hid (Abv wo wr) ∧ Hid (K = k + j) ∧ Hid (x = sfV b k j)) (fun _ _ iv _ => t - (intOf iv).toNat)
      case atStart => exact ⟨0, k, 0, Nat.zero_le _, by omega, by omega, rfl, rfl, rfl, Below.refl _ _, rfl, rfl⟩
      case round =>
        obtain ⟨j, K, x, hj, hK, hx, rfl, rfl, rfl, hw, HK, HX⟩ := hrel
        have HO := Lib.hid (hO.out.below hw.out)
        by_cases hlt2 : j < t
        · have hy := bitN_le b K
          have HY : Hid (2 * x + bitN b K = sfV b k (j + 1)) := by
            show _ = _
            rw [HX.out, HK.out]; rfl
          have hx2 : 2 * x + bitN b K ≤ 4096 := by
            rw [HY.out]
            have := sfV_lt b k (j + 1)
            have := pow_lt13 (s := j + 1) (by omega)
            omega
          have HBA : Hid (Calls Tryz.prog 82 #[.slice A n c, .int .i64 K] wr fun e w' => e = .returned (.int .i64 ((bitN b K : Nat) : Int)) ∧ w' = wr) := bitAt_any A n c b K wr (HB.out.below HO.out.B) (by omega)
          generalize bitN b K = y at *
          go_wp2_with (go_at_call 82; refine HBA.out.mono ?_; rintro e w' ⟨rfl, rfl⟩)
          exact ⟨⟨j + 1, K + 1, 2 * x + y, by omega, by have := HK.out; omega, by omega, by go_num, by go_num, by go_num, hw.out, by rw [HK.out]; rfl, HY.out⟩, by simp [intOf]; omega⟩
        · obtain rfl : j = t := by omega
          have HST : Hid (x = sfV b k (s - 1)) := by show _ = _; rw [HX.out, HT.out]
          have HAP : Hid (∃ f', stuffFrom b s f k = (sfW b s k).1 :: stuffFrom b s f' (sfW b s k).2 ∧ b.length ≤ f' + (sfW b s k).2) := stuff_step b s f k (by have := HT.out; omega) (by rw [← HN.out]; exact hlt) (by rw [← HN.out]; exact hF.out)
          have HLL : Hid (acc.length ≤ 1048577) := by have := hL.out; show _ ≤ _; omega
          by_cases hx0 : x = 0
          · subst hx0
            have HWW : Hid (sfW b s k = (1, K)) := by
              show _ = _
              unfold sfW
              rw [← HST.out, if_pos rfl, HK.out, HT.out]
            clear hx hj hlt2
            go_wp2_with (at_builtin; refine wpList_append_G (f := vN) (d := 0) oneN rfl _ _ _ rfl w.heap.size 3 i0 _ 8 Tryz.underlying64 hi hz0 hz1 hz2 rfl _ acc.length acc rfl ((ownsRow_below HO.out.O (Below.refl _ _)).alloc _) (some ⟨wr.heap.size, 0, none⟩) 1 1 [1] rfl rfl (RG.one _ _ _ _ rfl) (by unfold maxLen; have := HLL.out; omega) (by have := HLL.out; omega) (by have := HO.out.B.size; simp; omega) ?_; intro v5 w5 hown hg; have HP := Lib.hid (HO.out.grow (bwA _ _) hown hg); clear hown hg)
            obtain ⟨f', e1, e2⟩ := HAP.out
            rw [HWW.out] at e1 e2
            refine ⟨⟨K, f', acc ++ [1], rfl, by omega, HP.out, by rw [List.length_append]; have := hL.out; have := HK.out; show _ + 1 ≤ K; omega, by rw [List.append_assoc]; have h := hE.out; rw [e1] at h; exact h, by show n ≤ _; rw [HN.out]; exact e2⟩, ?_⟩
            have := HK.out
            simp [intOf]; omega
          · have hz : ((x : Int) == 0) = false := by rw [beq_eq_false_iff_ne]; omega
            have hpw := pow_wrap (j := j) (by omega)
            by_cases hx1 : x = 2 ^ j - 1
            · have z3 : ((x : Int) == wrap64 (wrap64 (2 ^ j) - 1)) = true := by rw [hpw, hx1]; simp
              have HWW : Hid (sfW b s k = (2 * x, K)) := by
                show _ = _
                unfold sfW
                rw [← HST.out, if_neg hx0, ← HT.out, if_pos hx1, HK.out]
              obtain ⟨X, hX⟩ : ∃ X, X = 2 * x := ⟨_, rfl⟩
              have e2 : 2 * (x : Int) = (X : Int) := by omega
              rw [← hX] at HWW
              clear hpw hx1 hX
              go_wp2_with (at_builtin; refine wpList_append_G (f := vN) (d := 0) oneN rfl _ _ _ rfl w.heap.size 3 i0 _ 8 Tryz.underlying64 hi hz0 hz1 hz2 rfl _ acc.length acc rfl ((ownsRow_below HO.out.O (Below.refl _ _)).alloc _) (some ⟨wr.heap.size, 0, none⟩) 1 1 [X] rfl rfl (RG.one _ _ _ _ rfl) (by unfold maxLen; have := HLL.out; omega) (by have := HLL.out; omega) (by have := HO.out.B.size; simp; omega) ?_; intro v5 w5 hown hg; have HP := Lib.hid (HO.out.grow (bwA _ _) hown hg); clear hown hg)
              obtain ⟨f', e1, e3⟩ := HAP.out
              rw [HWW.out] at e1 e3
              refine ⟨⟨K, f', acc ++ [X], rfl, by have := HK.out; omega, HP.out, by rw [List.length_append]; have := hL.out; have := HK.out; show _ + 1 ≤ _; omega, by rw [List.append_assoc]; have h := hE.out; rw [e1] at h; exact h, by show n ≤ _; rw [HN.out]; exact e3⟩, ?_⟩
              have := HK.out
              simp [intOf]; omega
            · have z3 : ((x : Int) == wrap64 (wrap64 (2 ^ j) - 1)) = false := by rw [hpw, beq_eq_false_iff_ne]; omega
              have HWW : Hid (sfW b s k = (2 * x + bitN b K, K + 1)) := by
                show _ = _
                unfold sfW
                rw [← HST.out, if_neg hx0, ← HT.out, if_neg hx1, ← HK.out]
                have := HT.out
                have := HK.out
                congr 1
                omega
              have hy := bitN_le b K
              have HBA : Hid (Calls Tryz.prog 82 #[.slice A n c, .int .i64 K] wr fun e w' => e = .returned (.int .i64 ((bitN b K : Nat) : Int)) ∧ w' = wr) := bitAt_any A n c b K wr (HB.out.below HO.out.B) (by omega)
              clear hpw hx1
              generalize bitN b K = y at *
              obtain ⟨X, hX⟩ : ∃ X, X = 2 * x + y := ⟨_, rfl⟩
              have e2 : 2 * (x : Int) + (y : Int) = (X : Int) := by omega
              rw [← hX] at HWW
              clear hX
              go_wp2_with (first
                | (go_at_call 82; refine HBA.out.mono ?_; rintro e w' ⟨rfl, hw'⟩; rw [hw']; clear hw')
                | (at_builtin; refine wpList_append_G (f := vN) (d := 0) oneN rfl _ _ _ rfl w.heap.size 3 i0 _ 8 Tryz.underlying64 hi hz0 hz1 hz2 rfl _ acc.length acc rfl ((ownsRow_below HO.out.O (Below.refl _ _)).alloc _) (some ⟨wr.heap.size, 0, none⟩) 1 1 [X] rfl rfl (RG.one _ _ _ _ rfl) (by unfold maxLen; have := HLL.out; omega) (by have := HLL.out; omega) (by have := HO.out.B.size; simp; omega) ?_; intro v5 w5 hown hg; have HP := Lib.hid (HO.out.grow (bwA _ _) hown hg); clear hown hg))
              obtain ⟨f', e1, e3⟩ := HAP.out
              rw [HWW.out] at e1 e3
              refine ⟨⟨K + 1, f', acc ++ [X], by go_num, by have := HK.out; omega, HP.out, by rw [List.length_append]; have := hL.out; have := HK.out; show _ + 1 ≤ _; omega, by rw [List.append_assoc]; have h := hE.out; rw [e1] at h; exact h, by show n ≤ _; rw [HN.out]; exact e3⟩, ?_⟩
              have := HK.out
              simp [intOf]; omega
    · have HE : Hid (acc = stuffL b s) := by
        have h := hE.out
        rw [stuff_end b s f k (by rw [← HN.out]; omega), List.append_nil] at h
        exact h
      go_wp2
      go_ret2
      exact ⟨_, rfl, by rw [← HE.out]; exact hO.out.sg, hO.out.B⟩
end Go.Proofs.YtmnlkganmgcpbaaGreatDoor
namespace Go.Proofs.YtmnlkganmgcpbaaGreatDoor
open Go.RowKit
set_option linter.unusedVariables false
def RT {α : Type} (f : α → Value) (d : α) (w : World) (L : List α × Int) (e : Ending) (w' : World) : Prop := ∃ v, e = .returned (.tuple #[v, .int .i64 L.2]) ∧ SG f d w' v L.1 ∧ Below w.heap.size w w'
theorem RT.mk {α : Type} {f : α → Value} {d : α} {w w' : World} {R : List α × Int} {v : Value} {L : List α} {err : Int} (h : R = (L, err)) (hi : SG f d w' v L) (hb : Below w.heap.size w w') : RT f d w R (.returned (.tuple #[v, .int .i64 err])) w' := by
  subst h; exact ⟨v, rfl, hi, hb⟩
def stuffRes (b : List Bool) (size : Int) : List Nat × Int :=
  if size < 2 ∨ 12 < size then ([], 3) else if 1048576 < b.length then ([], 4) else (stuffL b size.toNat, 0)
set_option maxRecDepth 100000 in
set_option maxHeartbeats 1000000 in
theorem Stuff_any (A : Option Addr) (n c : Nat) (size : Int) (b : List Bool) (w : World) (hb : SR vB false w A n c b) :
    Calls Tryz.prog 32 #[.slice A n c, .int .i64 size] w (RT vN 0 w (stuffRes b size)) := by
  have hn : n = b.length := hb.hn
  have hn63 : n ≤ 9223372036854775807 := by have := hb.hm; have := hb.hc; unfold maxLen at *; omega
  by_cases h1 : size < 2
  · have HF : Hid (stuffRes b size = ([], 3)) := by show _ = _; unfold stuffRes; rw [if_pos (.inl h1)]
    clear hb hn
    go_enter Tryz.func32, Tryz.ntmps32
    go_wp2
    go_ret2
    exact RT.mk HF.out (SG.nil_ _) (Below.refl _ _)
  by_cases h2 : 12 < size
  · have HF : Hid (stuffRes b size = ([], 3)) := by show _ = _; unfold stuffRes; rw [if_pos (.inr h2)]
    clear hb hn
    go_enter Tryz.func32, Tryz.ntmps32
    go_wp2
    go_ret2
    exact RT.mk HF.out (SG.nil_ _) (Below.refl _ _)
  by_cases h3 : n ≤ 1048576
  · obtain ⟨s, rfl⟩ := Int.eq_ofNat_of_zero_le (show 0 ≤ size by omega)
    have HF : stuffRes b s = (stuffL b s, 0) := by unfold stuffRes; rw [if_neg (by omega), if_neg (by omega)]; rfl
    rw [HF]
    exact Stuff_yes A n c s b w hb (by omega) (by omega) h3
  · have HF : Hid (stuffRes b size = ([], 4)) := by show _ = _; unfold stuffRes; rw [if_neg (by omega), if_pos (by omega)]
    have hd : decide ((1048576 : Int) < (n : Int)) = true := by simp; omega
    clear hb hn
    go_enter Tryz.func32, Tryz.ntmps32
    go_wp2
    go_ret2
    exact RT.mk HF.out (SG.nil_ _) (Below.refl _ _)
end Go.Proofs.YtmnlkganmgcpbaaGreatDoor
