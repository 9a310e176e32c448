import Derived.Test.YthpcneeidhmdkaaM6
import Derived.Test.YthpcneeidhmdkaaRows
import Derived.StillTail
import Derived.WalkKit
import Derived.ProofKit
namespace Go.Proofs.Ythpcneeidhmdkaa
open Go.RowKit
set_option linter.unusedVariables false
/-! a region that draws its order, walked once in the order of its text, in any world that meets S: loads and calls whose values do not hang on the world, then a tail -/
section
variable {P : Program} {ops : Array Oper} {md : Region.Mode} {S : World → Prop}
/-- what a run leaves: the value v and a world that meets S -/
def givS (P : Program) (S : World → Prop) (v : Value) : Result Next → Prop
  | .ok (.value u) w' => u = v ∧ S w'
  | .ok .skip w' => v = undef ∧ S w'
  | .ok (.enter f args) w' => Calls P f args w' (fun e w'' => e = .returned v ∧ S w'')
  | _ => False
def YieldsS (P : Program) (ops : Array Oper) (S : World → Prop) (o : Oper) (v : Value) (a : Act) : Prop :=
  (Region.wanted o (yielded ops a.tmps) = true ∧ ∀ w, S w → givS P S v ((execOp a.eval o).run P w)) ∨ (Region.wanted o (yielded ops a.tmps) = false ∧ v = undef)
theorem YieldsS.of_same {o : Oper} {v : Value} {a a' : Act} (hy : YieldsS P ops S o v a) (he : execOp a'.eval o = execOp a.eval o)
    (hw : Region.wanted o (yielded ops a'.tmps) = Region.wanted o (yielded ops a.tmps)) : YieldsS P ops S o v a' := by
  unfold YieldsS at *
  rw [he, hw]
  exact hy
def stOpS (P : Program) (ops : Array Oper) (S : World → Prop) (i : Nat) (K : Act → Prop) (a : Act) : Prop :=
  ∀ o, ops[i]? = some o → ∃ v, YieldsS P ops S o v a ∧ K (a.put o.dst v)
theorem stOpS_mono {i : Nat} {a : Act} {K K' : Act → Prop} (h : ∀ a, K a → K' a) (hh : stOpS P ops S i K a) : stOpS P ops S i K' a := fun o ho => by
  obtain ⟨v, h1, h2⟩ := hh o ho
  exact ⟨v, h1, h _ h2⟩
theorem stOpS_put {j : Nat} {oi oj : Oper} {v : Value} (hj : ops[j]? = some oj) (hap : oi.apart ops oj = true)
    (hsi : ∀ cs b, oi.op ≠ .select cs b) (hsj : ∀ cs b, oj.op ≠ .select cs b) {K : Act → Prop} {a : Act}
    (hy : YieldsS P ops S oi v a) (h : stOpS P ops S j K (a.put oi.dst v)) :
    stOpS P ops S j (fun a' => YieldsS P ops S oi v a' ∧ K (a'.put oi.dst v)) a := by
  obtain ⟨h1, h2, h3⟩ := Oper.apart_spec hap
  intro o ho
  obtain rfl : o = oj := Option.some.inj (ho.symm.trans hj)
  obtain ⟨u, hu, hK⟩ := h o ho
  refine ⟨u, hu.of_same (execOp_put o hsj a oi.dst v h1).symm (wanted_put o a oi.dst v h1).symm, hy.of_same (execOp_put oi hsi a o.dst u h3) (wanted_put oi a o.dst u h3), ?_⟩
  rw [← Act.put_comm a v u h2]; exact hK
theorem wpOp_of_stOpS {i : Nat} {a : Act} {w : World} {K : Act → Prop} {K' : Act → World → Prop} {Q' : Exit → Act → World → Prop} (hi : i < ops.size) (hS : S w)
    (h : ∀ a w, S w → K a → K' a w) (hh : stOpS P ops S i K a) : wpOp P ops Q' i K' a w := by
  unfold wpOp
  obtain ⟨o, ho⟩ : ∃ o, ops[i]? = some o := ⟨_, Array.getElem?_eq_getElem hi⟩
  simp only [ho]
  obtain ⟨v, hy, hK⟩ := hh o ho
  rcases hy with ⟨hw, hv⟩ | ⟨hw, rfl⟩
  · simp only [hw, if_true]
    have h1 := hv w hS
    refine .inl ?_
    unfold Oper.wp
    generalize (execOp a.eval o).run P w = r at *
    cases r with
    | ok n w' =>
      cases n <;> simp only [givS] at h1 <;> simp only [Oper.upon]
      case value u => obtain ⟨rfl, h2⟩ := h1; exact h _ _ h2 hK
      case skip => obtain ⟨rfl, h2⟩ := h1; exact h _ _ h2 hK
      case enter f args => exact h1.mono fun e w'' ⟨he, h2⟩ => by subst he; exact h _ _ h2 hK
    | halt x w' => simp only [givS] at h1
  · simp only [hw, Bool.false_eq_true, if_false]; exact h _ _ hS hK
def wpAnyLS (P : Program) (md : Region.Mode) (ops : Array Oper) (S : World → Prop) (n : Nat) (L : Array Bool → Act → Prop) : Nat → Array Bool → Act → Prop
  | 0, listed, a => L listed a
  | f + 1, listed, a =>
    Region.ready md ops listed ≠ [] ∧ ∀ i ∈ Region.ready md ops listed, i < n ∧ stOpS P ops S i (wpAnyLS P md ops S n L f (listed.setIfInBounds i true)) a
theorem ready_lt {i : Nat} {listed : Array Bool} (h : i ∈ Region.ready md ops listed) : i < ops.size := by
  unfold Region.ready at h
  rw [List.mem_filter, List.mem_range] at h
  exact h.1
theorem wpAny_of_headS {n g : Nat} {L : Array Bool → Act → Prop} {Q' : Exit → Act → World → Prop} (hL : ∀ listed a w, S w → L listed a → wpAny P md ops Q' g listed a w) :
    ∀ (f : Nat) (listed : Array Bool) (a : Act) (w : World), S w → wpAnyLS P md ops S n L f listed a → wpAny P md ops Q' (f + g) listed a w
  | 0, listed, a, w, hS, h => by rw [Nat.zero_add]; exact hL _ _ _ hS h
  | f + 1, listed, a, w, hS, h => by
    rw [show f + 1 + g = (f + g) + 1 by omega]
    exact ⟨fun h0 => absurd h0 h.1, fun i hi => wpOp_of_stOpS (ready_lt hi) hS (fun a' w' hS' h' => wpAny_of_headS hL f _ a' w' hS' h') (h.2 i hi).2⟩
theorem wpAnyLS_first {n i : Nat} {oi : Oper} {v : Value} {L : Array Bool → Act → Prop} (hi : ops[i]? = some oi) (hsel : ∀ (j : Nat) (o : Oper) cs b, ops[j]? = some o → o.op ≠ .select cs b)
    (hs : Region.sinkB md ops n = true) (hc : Region.chainB md ops n = true) (hn : n < ops.size) (hin : i < n)
    (hdone : ∀ listed a, L listed a → ∀ j ∈ Region.ready md ops listed, n ≤ j) :
    ∀ (f : Nat) (listed : Array Bool) (a : Act), HeadInv md ops n listed →
      (∀ j oj, ops[j]? = some oj → j ≠ i → listed.getD j true = false → (∀ e ∈ oj.after, Region.binds md e = true → e.on ≠ i) → oi.apart ops oj = true) →
      i ∈ Region.ready md ops listed → YieldsS P ops S oi v a →
      wpAnyLS P md ops S n L f (listed.setIfInBounds i true) (a.put oi.dst v) → wpAnyLS P md ops S n L (f + 1) listed a := by
  have st : ∀ (a : Act) (K : Act → Prop), YieldsS P ops S oi v a → K (a.put oi.dst v) → stOpS P ops S i K a := fun a K hy hK o ho => by
    obtain rfl : o = oi := Option.some.inj (ho.symm.trans hi)
    exact ⟨v, hy, hK⟩
  intro f
  induction f with
  | zero =>
    intro listed a inv _ hr hy H
    have hun := (mem_ready.1 hr).1
    refine ⟨fun h => (by rw [h] at hr; cases hr), fun j hj => ?_⟩
    have hjn : j < n := by
      rcases Nat.lt_or_ge j n with h | h
      · exact h
      · exact absurd hj (tail_waits hs hc hn inv _ i rfl hin hun j h)
    refine ⟨hjn, ?_⟩
    by_cases hji : j = i
    · subst hji; exact st _ _ hy H
    · have := hdone _ _ H j (ready_mono hj hji)
      omega
  | succ f ih =>
    intro listed a inv hfree hr hy H
    have hun := (mem_ready.1 hr).1
    refine ⟨fun h => (by rw [h] at hr; cases hr), fun j hj => ?_⟩
    have hjn : j < n := by
      rcases Nat.lt_or_ge j n with h | h
      · exact h
      · exact absurd hj (tail_waits hs hc hn inv _ i rfl hin hun j h)
    refine ⟨hjn, ?_⟩
    by_cases hji : j = i
    · subst hji; exact st _ _ hy H
    · have h1 := (H.2 j (ready_mono hj hji)).2
      obtain ⟨hjun, oj, hoj, hall⟩ := mem_ready.1 hj
      have hnot : ∀ e ∈ oj.after, Region.binds md e = true → e.on ≠ i := fun e he hb heq => by
        have h1 := hall e he hb
        rw [heq, getD_both hun] at h1
        cases h1
      have h2 := stOpS_put hoj (hfree j oj hoj hji hjun hnot) (fun cs b => hsel i oi cs b hi) (fun cs b => hsel j oj cs b hoj) hy h1
      have hfree' : ∀ k ok, ops[k]? = some ok → k ≠ i → (listed.setIfInBounds j true).getD k true = false →
          (∀ e ∈ ok.after, Region.binds md e = true → e.on ≠ i) → oi.apart ops ok = true := fun k ok hk hki hun hno => by
        refine hfree k ok hk hki ?_ hno
        by_cases hjk : j = k
        · subst hjk; exact hjun
        · rw [getD_set_ne true hjk] at hun; exact hun
      refine stOpS_mono (fun a' h3 => ih (listed.setIfInBounds j true) a' (inv.set hj hjn) hfree' (ready_mono hr (Ne.symm hji)) h3.1 ?_) h2
      rw [Array.setIfInBounds_comm _ _ hji]
      exact h3.2
/-- the walk in the order of the text -/
def wpHS (P : Program) (ops : Array Oper) (S : World → Prop) (K : Act → Prop) : List Oper → Act → Prop
  | [], a => K a
  | o :: rest, a => ∃ v, YieldsS P ops S o v a ∧ wpHS P ops S K rest (a.put o.dst v)
theorem wpAnyLS_lex {n g : Nat} {Lq : Act → Prop} (hsel : Region.noSelect ops = true) (hs : Region.sinkB md ops n = true) (hc : Region.chainB md ops n = true) (hn : n < ops.size) :
    ∀ (l : List Oper) (k : Nat) (listed : Array Bool) (a : Act), (∀ j, j < l.length → l[j]? = ops[k + j]?) → k + l.length = n → HeadInv md ops n listed →
    Region.lexHead md ops g l.length k listed = true → wpHS P ops S Lq l a →
    wpAnyLS P md ops S n (fun listed' a' => Region.seqB md ops g n listed' = true ∧ Lq a') l.length listed a
  | [], k, listed, a, _, hk, _, hB, h => by
    have : k = n := by simpa using hk
    subst this
    exact ⟨by simpa [Region.lexHead] using hB, h⟩
  | o :: l, k, listed, a, hl, hk, inv, hB, h => by
    have h0 : ops[k]? = some o := by simpa using (hl 0 (by simp)).symm
    simp only [List.length_cons, Region.lexHead, Bool.and_eq_true] at hB
    obtain ⟨⟨hr, hf⟩, hB'⟩ := hB
    have hkn : k < n := by simp only [List.length_cons] at hk; omega
    have hr' : k ∈ Region.ready md ops listed := by simpa using hr
    obtain ⟨v, hy, hK⟩ := h
    exact wpAnyLS_first h0 (Region.noSelect_spec hsel) hs hc hn hkn (fun listed' a' hL => seqB_ready hL.1) l.length listed a inv (Region.free_spec h0 hf) hr' hy
      (wpAnyLS_lex hsel hs hc hn l (k + 1) _ _ (fun j hj => by have := hl (j + 1) (by simp; omega); simpa [Nat.add_assoc, Nat.add_comm 1 j] using this) (by simp only [List.length_cons] at hk; omega) (inv.set hr' hkn) hB' hK)
theorem wp_region_S {id : Nat} {Q : Exit → Act → World → Prop} {a : Act} {w : World} {l : List Oper} (n : Nat) (hm : P.follows .mixedOrders = true) (hB : Region.lexTailB .any l.toArray n = true) (hS : S w.drew)
    (h : wpHS P l.toArray S (fun a' => ∀ W, S W → wpList P l.toArray Q (l.drop n) a' W) (l.take n) a) : (Code.region id l.toArray true).wp P Q a w := by
  simp only [Region.lexTailB, Bool.and_eq_true, decide_eq_true_eq] at hB
  obtain ⟨⟨⟨⟨hsel, hn⟩, hs⟩, hc⟩, hlex⟩ := hB
  have hn' : n < l.length := by simpa using hn
  have htl : (l.take n).length = n := by simp; omega
  have hdl : (l.drop n).length = l.toArray.size - n := by simp
  have inv0 : HeadInv .any l.toArray n (Array.replicate l.toArray.size false) :=
    ⟨by simp, fun j oj _ hl => (by rw [getD_replicate_false] at hl; cases hl), fun t _ ht => getD_in (by simpa using ht) (getD_replicate_false _ _)⟩
  have H := wpAnyLS_lex (md := .any) (g := l.toArray.size - n) hsel hs hc hn (l.take n) 0 _ a (fun j hj => by
    have hj' : j < n := by rw [htl] at hj; exact hj
    simp [hj']) (by simpa using htl) inv0 (by rw [htl]; exact hlex) h
  refine wp_region_any hm ?_
  have := wpAny_of_headS (Q' := Q) (g := l.toArray.size - n) (fun listed a' W hSW hL => by
    have := wpAny_of_seq (md := .any) (Q' := Q) (l.drop n) n listed a' W (fun j => by simp [List.getElem?_drop]) (by rw [hdl]; exact hL.1) (hL.2 W hSW)
    rwa [hdl] at this) _ _ _ w.drew hS H
  rw [htl, show n + (l.toArray.size - n) = l.toArray.size by omega] at this
  exact this
theorem wpHS_nil {K : Act → Prop} {a : Act} (h : K a) : wpHS P ops S K [] a := h
/-- an operation that leaves the world alone -/
theorem wpHS_val {K : Act → Prop} {a : Act} {o : Oper} {rest : List Oper} {v : Value} (hg : o.guard = none)
    (hv : ∀ W, S W → (execOp a.eval o).run P W = .ok (.value v) W) (h : wpHS P ops S K rest (a.put o.dst v)) : wpHS P ops S K (o :: rest) a :=
  ⟨v, .inl ⟨by simp [Region.wanted, hg], fun W hW => by rw [hv W hW]; exact ⟨rfl, hW⟩⟩, h⟩
/-- a call -/
theorem wpHS_call {K : Act → Prop} {a : Act} {o : Oper} {rest : List Oper} {v : Value} {f : FuncId} {args : Array Value} (hg : o.guard = none)
    (hv : ∀ W, (execOp a.eval o).run P W = .ok (.enter f args) W) (hc : ∀ W, S W → Calls P f args W (fun e W' => e = .returned v ∧ S W'))
    (h : wpHS P ops S K rest (a.put o.dst v)) : wpHS P ops S K (o :: rest) a :=
  ⟨v, .inl ⟨by simp [Region.wanted, hg], fun W hW => by rw [hv W]; exact hc W hW⟩, h⟩
/-- a guarded operation that does not come up -/
theorem wpHS_not {K : Act → Prop} {a : Act} {o : Oper} {rest : List Oper} (hg : Region.wanted o (yielded ops a.tmps) = false)
    (h : wpHS P ops S K rest (a.put o.dst undef)) : wpHS P ops S K (o :: rest) a :=
  ⟨undef, .inr ⟨hg, rfl⟩, h⟩
/-- a guarded operation that comes up and leaves the world alone -/
theorem wpHS_gval {K : Act → Prop} {a : Act} {o : Oper} {rest : List Oper} {v : Value} (hg : Region.wanted o (yielded ops a.tmps) = true)
    (hv : ∀ W, S W → (execOp a.eval o).run P W = .ok (.value v) W) (h : wpHS P ops S K rest (a.put o.dst v)) : wpHS P ops S K (o :: rest) a :=
  ⟨v, .inl ⟨hg, fun W hW => by rw [hv W hW]; exact ⟨rfl, hW⟩⟩, h⟩
theorem wpHS_gcall {K : Act → Prop} {a : Act} {o : Oper} {rest : List Oper} {v : Value} {f : FuncId} {args : Array Value} (hg : Region.wanted o (yielded ops a.tmps) = true)
    (hv : ∀ W, (execOp a.eval o).run P W = .ok (.enter f args) W) (hc : ∀ W, S W → Calls P f args W (fun e W' => e = .returned v ∧ S W'))
    (h : wpHS P ops S K rest (a.put o.dst v)) : wpHS P ops S K (o :: rest) a :=
  ⟨v, .inl ⟨hg, fun W hW => by rw [hv W]; exact hc W hW⟩, h⟩
end
end Go.Proofs.Ythpcneeidhmdkaa
namespace Go.Proofs.Ythpcneeidhmdkaa
open Go.RowKit
set_option linter.unusedVariables false
/-! the value of a polynomial -/
def hornN (s p x : Nat) : List Nat → Nat
  | [] => 0
  | c :: t => faddN s p (fmulN s p (hornN s p x t) x) c
theorem hornN_lt {c s p : Nat} (h : VF c s p) (x : Nat) (l : List Nat) (hl : ∀ y ∈ l, y < s) : hornN s p x l < s := by
  induction l with
  | nil => have := h.two_le; unfold hornN; omega
  | cons a t ih => exact fadd_lt h _ _ (fmul_lt h _ _) (hl a (by simp))
theorem hornN_drop (s p x : Nat) (l : List Nat) (m : Nat) (hm : m < l.length) : hornN s p x (l.drop m) = faddN s p (fmulN s p (hornN s p x (l.drop (m + 1))) x) (l.getD m 0) := by
  rw [List.drop_eq_getElem_cons hm]
  show faddN s p (fmulN s p (hornN s p x (l.drop (m + 1))) x) l[m] = _
  simp [List.getD, hm]
theorem ltAll_mem {s : Nat} {l : List Nat} (h : LtAll s l) : ∀ y ∈ l, y < s := by
  intro y hy
  obtain ⟨i, hi, rfl⟩ := List.getElem_of_mem hy
  have := h i
  simpa [List.getD, hi] using this
abbrev Abv (w : World) : World → Prop := Below w.heap.size w
abbrev arcv (C S be bl : Nat) : List Value := [.int .i64 C, .int .i64 S, .slice (some ⟨be, 0, none⟩) (S - 1) (S - 1), .slice (some ⟨bl, 0, none⟩) S S]
theorem arcv_cells {W : World} {b C S be bl : Nat} (h : CellsAt W b (arcv C S be bl)) : W.cell? ⟨b, 0, none⟩ = some (.int .i64 C) ∧ W.cell? ⟨b, 1, none⟩ = some (.int .i64 S) ∧ W.cell? ⟨b, 2, none⟩ = some (.slice (some ⟨be, 0, none⟩) (S - 1) (S - 1)) ∧ W.cell? ⟨b, 3, none⟩ = some (.slice (some ⟨bl, 0, none⟩) S S) :=
  ⟨h.2 0 (by simp), h.2 1 (by simp), h.2 2 (by simp), h.2 3 (by simp)⟩
set_option maxHeartbeats 1000000 in
theorem value_any (C S P be bl x : Nat) (l : List Nat) (A : Option Addr) (ca : Nat) (w : World) (hv : VF C S P) (hx : x < S) (hl : LtAll S l) (hn : l.length ≤ 4097) (ht : TabAt w S P be bl) (ha : RD w A (zl l)) :
    Calls Try.prog 64 #[arv C S be bl, .slice A l.length ca, .int .i64 x] w fun e w' => e = .returned (.int .i64 ((hornN S P x l : Nat) : Int)) ∧ Below w.heap.size w w' := by
  have HV := Lib.hid hv
  have HL := Lib.hid hl
  have HX := Lib.hid hx
  have HA := Lib.hid (ha.alloc (arc C S be bl))
  have HT := Lib.hid (ht.alloc (arc C S be bl))
  have CB : Hid (CellsAt (w.alloc (arc C S be bl)) w.heap.size (arcv C S be bl)) := CellsAt.new _ _ _ _ rfl
  have HN : Hid (l.length = l.length) := rfl
  revert HN
  generalize hnn : l.length = n at *
  intro HN
  have HNN := Lib.hid hnn
  clear hnn hv hl hx ha ht HN
  go_enter Try.func64, Try.ntmps64
  go_wp2
  go_loopw [7, 8] (fun v i wr => ∃ (k : Nat) (j : Int), k ≤ n ∧ i = .int .i64 j ∧ Hid (j = (k : Int) - 1) ∧ v = .int .i64 ((hornN S P x (l.drop k) : Nat) : Int) ∧ Hid (Below (w.alloc (arc C S be bl)).heap.size (w.alloc (arc C S be bl)) wr)) (fun _ i _ => (intOf i + 1).toNat)
  case atStart => exact ⟨n, _, Nat.le_refl _, rfl, rfl, by rw [← HNN.out, List.drop_length]; rfl, Below.refl _ _⟩
  case round =>
    obtain ⟨k, j, hk, rfl, hj, rfl, hb⟩ := hrel
    by_cases hk0 : k = 0
    · subst hk0
      have hj0 : j < 0 := by have := hj.out; omega
      go_wp2
      go_ret
      exact ⟨rfl, bw1 hb.out⟩
    · obtain ⟨m, rfl⟩ : ∃ m, k = m + 1 := ⟨k - 1, by omega⟩
      obtain rfl : j = (m : Int) := by have := hj.out; omega
      obtain ⟨ad, rfl, -, hc1⟩ := HA.out (by rw [zl_length, HNN.out]; omega)
      have CF : Hid (∀ W, Below (w.alloc (arc C S be bl)).heap.size (w.alloc (arc C S be bl)) W → (W.cell? ⟨w.heap.size, 0, none⟩ = some (.int .i64 C) ∧ W.cell? ⟨w.heap.size, 1, none⟩ = some (.int .i64 S) ∧ W.cell? ⟨w.heap.size, 2, none⟩ = some (.slice (some ⟨be, 0, none⟩) (S - 1) (S - 1)) ∧ W.cell? ⟨w.heap.size, 3, none⟩ = some (.slice (some ⟨bl, 0, none⟩) S S)) ∧ W.cell? (ad.add m) = some (.int .i64 ((l.getD m 0 : Nat) : Int))) := by
        show ∀ W, _
        intro W hW
        refine ⟨arcv_cells (CB.out.below hW), ?_⟩
        obtain ⟨ad', e, _, hc⟩ := HA.out.below hW (by rw [zl_length, HNN.out]; omega)
        injection e with e
        subst e
        rw [hc m (by rw [zl_length, HNN.out]; omega), zl_getD]
      have HST := Lib.hid (hornN_drop S P x l m (by rw [HNN.out]; omega))
      have HB1 : Hid (hornN S P x (l.drop (m + 1)) < S) := hornN_lt HV.out x _ (fun y hy => ltAll_mem HL.out y (List.mem_of_mem_drop hy))
      have HB2 : Hid (l.getD m 0 < S) := HL.out m
      generalize hu : hornN S P x (l.drop (m + 1)) = u at *
      have hmn : m < n := by omega
      clear hu hc1
      go_wp2
      refine wp_region_S (S := Abv (w.alloc (arc C S be bl))) 10 (by kernel_rfl) (by kernel_rfl) (bwDrew hb.out) ?_
      simp only [List.take_succ_cons, List.take_zero, List.drop_succ_cons, List.drop_zero]
      repeat
        refine' wpHS_val rfl (fun W hW => ?_) ?_
        rotate_left
        · have hcf := CF.out W hW; go_simp; rfl
        simp only [Act.put, List.setIfInBounds_toArray, List.set_cons_zero, List.set_cons_succ]
      refine' wpHS_call rfl (fun W => ?_) (fun W hW => ?_) ?_
      rotate_left 3
      · go_simp; exact ⟨rfl, rfl⟩
      · exact (amul_any C S P be bl u x W HV.out HB1.out HX.out (HT.out.below hW)).mono (fun e W1 h => ⟨h.1, bwStep hW h.2⟩)
      simp only [Act.put, List.setIfInBounds_toArray, List.set_cons_zero, List.set_cons_succ]
      repeat
        refine' wpHS_val rfl (fun W hW => ?_) ?_
        rotate_left
        · have hcf := CF.out W hW; go_simp; rfl
        simp only [Act.put, List.setIfInBounds_toArray, List.set_cons_zero, List.set_cons_succ]
      refine' wpHS_call rfl (fun W => ?_) (fun W hW => ?_) ?_
      rotate_left 3
      · go_simp; exact ⟨rfl, rfl⟩
      · exact (aadd_any C S P be bl (fmulN S P u x) (l.getD m 0) W HV.out (fmul_lt HV.out _ _) HB2.out).mono (fun e W1 h => ⟨h.1, bwStep hW h.2⟩)
      simp only [Act.put, List.setIfInBounds_toArray, List.set_cons_zero, List.set_cons_succ]
      refine wpHS_nil ?_
      intro w1 hb1
      have HB := Lib.hid hb1
      clear hb1
      go_wp2
      exact ⟨⟨m, _, by omega, rfl, rfl, by rw [HST.out], HB⟩, by simp [intOf]⟩
end Go.Proofs.Ythpcneeidhmdkaa
namespace Go.Proofs.Ythpcneeidhmdkaa
open Go.RowKit
set_option linter.unusedVariables false
/-! a row of numbers of the call's own: its first cells -/
def RowAt (w : World) (b : Nat) (l : List Nat) : Prop := b < w.heap.size ∧ ∀ i, i < l.length → w.cell? ⟨b, i, none⟩ = some (.int .i64 ((l.getD i 0 : Nat) : Int)) ∧ w.frozen? ⟨b, i, none⟩ = false
theorem RowAt.below {W W' : World} {b : Nat} {l : List Nat} (h : RowAt W b l) (hb : Below W.heap.size W W') : RowAt W' b l :=
  ⟨Nat.lt_of_lt_of_le h.1 hb.size, fun i hi => ⟨(hb.cell h.1).trans (h.2 i hi).1, (hb.frozen h.1).trans (h.2 i hi).2⟩⟩
theorem RowAt.set {W : World} {b : Nat} {l : List Nat} (h : RowAt W b l) (i v : Nat) : RowAt (W.setCell ⟨b, i, none⟩ (.int .i64 (v : Int))) b (l.set i v) := by
  refine ⟨by simpa using h.1, fun j hj => ?_⟩
  have hj' : j < l.length := by simpa using hj
  refine ⟨?_, by rw [World.frozen?_setCell]; exact (h.2 j hj').2⟩
  by_cases e : i = j
  · subst e
    rw [World.cell?_setCell_same W _ _ (h.2 i hj').1]
    simp [List.getD, hj']
  · rw [World.cell?_setCell_other W _ _ _ (fun e2 => e (by injection e2))]
    rw [(h.2 j hj').1]
    simp [List.getD, List.getElem?_set_ne e]
theorem RowAt.other {W : World} {b : Nat} {l : List Nat} (h : RowAt W b l) (p : Addr) (u : Value) (hp : b ≠ p.block) : RowAt (W.setCell p u) b l := by
  refine ⟨by simpa using h.1, fun j hj => ⟨?_, by rw [World.frozen?_setCell]; exact (h.2 j hj).2⟩⟩
  rw [World.cell?_setCell_other W _ _ _ (fun e => hp (by rw [e]))]
  exact (h.2 j hj).1
theorem CellsAt.other {W : World} {b : Nat} {l : List Value} (h : CellsAt W b l) (p : Addr) (u : Value) (hp : b ≠ p.block) : CellsAt (W.setCell p u) b l := by
  refine ⟨by simpa using h.1, fun j hj => ?_⟩
  rw [World.cell?_setCell_other W _ _ _ (fun e => hp (by rw [e]))]
  exact h.2 j hj
theorem RowAt.new (W : World) (b : Nat) (l : List Nat) (t : TypeId) (hb : b = W.heap.size) : RowAt (W.alloc (.cells (cellsN l) t)) b l := by
  have hh : (W.alloc (.cells (cellsN l) t)).heap[b]? = some (.cells (cellsN l) t) := by
    rw [hb]; exact heap_alloc_new _ _
  refine ⟨lt_of_heap hh, fun i hi => ⟨?_, frozen_of_row _ _ _ _ _ hh⟩⟩
  rw [cell_of_row _ _ _ _ _ _ hh, cellsN_get]
  simp [List.getD, hi]
theorem RowAt.made (W : World) (b n : Nat) (t : TypeId) (hb : b = W.heap.size) : RowAt (W.alloc (.cells (madeCells #[Value.int .i64 0] n) t)) b (List.replicate n 0) := by
  have hh : (W.alloc (.cells (madeCells #[Value.int .i64 0] n) t)).heap[b]? = some (.cells (cellsN (List.replicate n 0)) t) := by
    rw [hb, ← cellsN_zero]; exact heap_alloc_new _ _
  refine ⟨lt_of_heap hh, fun i hi => ⟨?_, frozen_of_row _ _ _ _ _ hh⟩⟩
  rw [cell_of_row _ _ _ _ _ _ hh, cellsN_get]
  simp at hi
  simp [List.getD, hi]
theorem RowAt.rd {W : World} {b : Nat} {l : List Nat} (h : RowAt W b l) : RD W (some ⟨b, 0, none⟩) (zl l) := fun hn => by
  refine ⟨_, rfl, h.1, fun j hj => ?_⟩
  rw [add_plain, Nat.zero_add, zl_getD]
  exact (h.2 j (by rw [zl_length] at hj; exact hj)).1
theorem RowAt.ints {W : World} {b c n : Nat} {l : List Nat} (h : RowAt W b l) (hn : n = l.length) (hc : n ≤ c) (hm : c ≤ maxLen) : Ints W (.slice (some ⟨b, 0, none⟩) n c) (zl l) :=
  ⟨_, c, by rw [zl_length, hn], by rw [zl_length, ← hn]; exact hc, hm, h.rd⟩
/-- an own row's slice value -/
theorem RowAt.of_own {W : World} {base g : Nat} {e : TypeId} {n : Nat} {c : Nat} {l : List Nat} (h : W.ownsRow base e 1 (.slice (some ⟨g, 0, none⟩) n c) n ((zl l).map (Value.int .i64))) (hn : 0 < n) : RowAt W g l := by
  have hl : l.length = n := by have := h.1; simpa [zl_length] using this
  obtain ⟨g', cap, hv, _, hlt⟩ := h.form hn
  have : g' = g := by injection hv with h1; injection h1 with h1; injection h1 with h1; exact h1.symm
  subst this
  refine ⟨hlt, fun i hi => ⟨?_, ?_⟩⟩
  · have := h.cells (g := g') rfl i (.int .i64 ((l.getD i 0 : Nat) : Int)) (by unfold zl; simp [List.getD, hi])
    rw [add_plain, Nat.zero_add] at this
    exact this
  · rcases h.2 with ⟨h1, h2⟩ | ⟨g2, cap2, cur, h1, h2, h3, _⟩
    · cases h1
    · injection h1 with h1
      injection h1 with h1
      injection h1 with h1
      subst h1
      exact frozen_of_row _ _ _ _ _ h3
end Go.Proofs.Ythpcneeidhmdkaa
namespace Go.Proofs.Ythpcneeidhmdkaa
open Go.RowKit
set_option linter.unusedVariables false
/-! the product -/
/-- a box and a row of the call's own, side by side at the call's begin -/
structure OutR (w wr : World) (bx : List Value) (l : List Nat) : Prop where
  B : Below w.heap.size w wr
  X : CellsAt wr w.heap.size bx
  O : RowAt wr (w.heap.size + 1) l
theorem OutR.below {w wr W : World} {bx : List Value} {l : List Nat} (h : OutR w wr bx l) (hb : Below wr.heap.size wr W) : OutR w W bx l := ⟨bwStep h.B hb, h.X.below hb, h.O.below hb⟩
theorem OutR.set {w wr : World} {bx : List Value} {l : List Nat} (h : OutR w wr bx l) (i v : Nat) : OutR w (wr.setCell ⟨w.heap.size + 1, i, none⟩ (.int .i64 (v : Int))) bx (l.set i v) :=
  ⟨h.B.setCell (by simp) _, h.X.other _ _ (by simp), h.O.set i v⟩
theorem OutR.start (w : World) (C S be bl n : Nat) (t : TypeId) : OutR w ((w.alloc (arc C S be bl)).alloc (.cells (madeCells #[Value.int .i64 0] n) t)) (arcv C S be bl) (List.replicate n 0) :=
  ⟨((Below.refl _ _).alloc (Nat.le_refl _) _).alloc (by simp) _, (CellsAt.new _ _ _ _ rfl).alloc _, RowAt.made _ _ _ _ (by simp)⟩
theorem OutR.start' (w : World) (C S be bl : Nat) (l : List Nat) (t : TypeId) : OutR w ((w.alloc (arc C S be bl)).alloc (.cells (cellsN l) t)) (arcv C S be bl) l :=
  ⟨((Below.refl _ _).alloc (Nat.le_refl _) _).alloc (by simp) _, (CellsAt.new _ _ _ _ rfl).alloc _, RowAt.new _ _ _ _ (by simp)⟩
theorem accL_length (s p : Nat) (a b : List Nat) (i j : Nat) : (accL s p a b i j).length = a.length + b.length - 1 := by unfold accL; simp
set_option maxHeartbeats 2000000 in
theorem aproduct_any (C S P be bl : Nat) (a b : List Nat) (A B : Option Addr) (ca cb : Nat) (w : World) (hv : VF C S P) (hla : LtAll S a) (hlb : LtAll S b) (hna : a.length ≤ 4097) (hnb : b.length ≤ 4097)
    (ht : TabAt w S P be bl) (ha : RD w A (zl a)) (hb : RD w B (zl b)) :
    Calls Try.prog 51 #[arv C S be bl, .slice A a.length ca, .slice B b.length cb] w fun e w' => ∃ v, e = .returned v ∧ Ints w' v (zl (mulL S P a b)) ∧ Below w.heap.size w w' := by
  have hfin : Hid (Below w.heap.size w (w.alloc (arc C S be bl))) := (Below.refl _ _).alloc (Nat.le_refl _) _
  by_cases ha0 : a.length = 0
  · have HR : Hid (mulL S P a b = []) := by show _ = _; unfold mulL; rw [if_pos (.inl (List.eq_nil_of_length_eq_zero ha0))]
    generalize a.length = n at *
    subst ha0
    go_enter Try.func51, Try.ntmps51
    go_wp2
    go_ret
    exact ⟨_, rfl, by rw [HR.out]; exact Ints.nil_ _, hfin.out⟩
  by_cases hb0 : b.length = 0
  · have HR : Hid (mulL S P a b = []) := by show _ = _; unfold mulL; rw [if_pos (.inr (List.eq_nil_of_length_eq_zero hb0))]
    have z1 : ((a.length : Int) == 0) = false := by rw [beq_eq_false_iff_ne]; omega
    generalize a.length = n at *
    generalize b.length = m at *
    subst hb0
    go_enter Try.func51, Try.ntmps51
    go_wp2
    go_ret
    exact ⟨_, rfl, by rw [HR.out]; exact Ints.nil_ _, hfin.out⟩
  obtain ⟨T, hT⟩ : ∃ T, T = a.length + b.length - 1 := ⟨_, rfl⟩
  have hmk := run_make_row' (P := Try.prog) 24 3 (.int .i64 0) 8 Try.underlying24 intInfo rfl .i64 .i64 T (by omega) (by omega)
  have hs2 : ((a.length : Int) + b.length - 1) = (T : Int) := by omega
  have HV := Lib.hid hv
  have HLA := Lib.hid hla
  have HLB := Lib.hid hlb
  have HA := Lib.hid ha
  have HB := Lib.hid hb
  have HT := Lib.hid ht
  have HTT := Lib.hid hT
  have HR : Hid (mulL S P a b = accL S P a b a.length 0) := by
    show _ = _
    unfold mulL; rw [if_neg]
    rintro (e | e)
    · rw [e] at ha0; simp at ha0
    · rw [e] at hb0; simp at hb0
  have HZ := Lib.hid (accL_start hv a b)
  have HLEN : Hid (∀ i j, (accL S P a b i j).length = T) := fun i j => by rw [accL_length, hT]
  have H1 := fun (i j : Nat) (hi : i < a.length) (hj : j < b.length) => accL_step hv a b hi hj
  have HSTEP := Lib.hid H1
  have HNEXT : Hid (∀ i, accL S P a b i b.length = accL S P a b (i + 1) 0) := accL_next hv a b hla hlb
  have HLT : Hid (∀ i j, LtAll S (accL S P a b i j)) := accL_lt hv a b
  have z1 : ((a.length : Int) == 0) = false := by rw [beq_eq_false_iff_ne]; omega
  have z2 : ((b.length : Int) == 0) = false := by rw [beq_eq_false_iff_ne]; omega
  have hT1 : 1 ≤ T := by omega
  have hT2 : T ≤ 8193 := by omega
  have hT3 : Hid (∀ i j : Nat, i < a.length → j < b.length → i + j < T) := by show ∀ i j : Nat, _; omega
  clear hv hla hlb ha hb ht H1
  rw [← HTT.out] at HZ
  generalize hn : a.length = n at *
  generalize hm : b.length = m at *
  have HN := Lib.hid hn
  have HM := Lib.hid hm
  clear hn hm hT
  go_enter Try.func51, Try.ntmps51
  go_wp2
  clear hs2
  go_loopw [29] (fun i wr => ∃ k : Nat, k ≤ n ∧ i = .int .i64 k ∧ Hid (OutR w wr (arcv C S be bl) (accL S P a b k 0))) (fun i _ => n - (intOf i).toNat)
  case atStart => exact ⟨0, Nat.zero_le _, rfl, by rw [HZ.out]; exact OutR.start w C S be bl T _⟩
  case round =>
    obtain ⟨k, hk, rfl, hO⟩ := hrel
    by_cases hlt : k < n
    · obtain ⟨ad, rfl, -, hc1⟩ := (HA.out.below hO.out.B) (by rw [zl_length, HN.out]; omega)
      have hx := hc1 k (by rw [zl_length, HN.out]; exact hlt)
      rw [zl_getD] at hx
      have HX : Hid (a.getD k 0 < S) := HLA.out k
      generalize hxe : a.getD k 0 = x at *
      have HXE := Lib.hid hxe
      clear hxe hc1
      go_wp2
      clear hx
      obtain ⟨wo, rfl⟩ : ∃ wo : World, wo = wr := ⟨_, rfl⟩
      go_loopw [36] (fun j wr => ∃ q : Nat, q ≤ m ∧ j = .int .i64 q ∧ Hid (OutR w wr (arcv C S be bl) (accL S P a b k q))) (fun j _ => m - (intOf j).toNat)
      case atStart => exact ⟨0, Nat.zero_le _, rfl, hO⟩
      case round =>
        obtain ⟨q, hq, rfl, hO2⟩ := hrel
        by_cases hlt2 : q < m
        · obtain ⟨bd, rfl, -, hc1⟩ := (HB.out.below hO2.out.B) (by rw [zl_length, HM.out]; omega)
          have hy := hc1 q (by rw [zl_length, HM.out]; exact hlt2)
          rw [zl_getD] at hy
          have HY : Hid (b.getD q 0 < S) := HLB.out q
          have hkq : k + q < T := hT3.out k q hlt hlt2
          have HSTQ : Hid (_ = _) := HSTEP.out k q hlt hlt2
          rw [HXE.out] at HSTQ
          have HU : Hid ((accL S P a b k q).getD (k + q) 0 < S) := HLT.out k q _
          have hOc := hO2.out.O.2 (k + q) (by rw [HLEN.out]; omega)
          generalize hye : b.getD q 0 = y at *
          generalize hue : (accL S P a b k q).getD (k + q) 0 = u at *
          have CF : Hid (∀ W, Abv wr W → (W.cell? ⟨w.heap.size, 0, none⟩ = some (.int .i64 C) ∧ W.cell? ⟨w.heap.size, 1, none⟩ = some (.int .i64 S) ∧ W.cell? ⟨w.heap.size, 2, none⟩ = some (.slice (some ⟨be, 0, none⟩) (S - 1) (S - 1)) ∧ W.cell? ⟨w.heap.size, 3, none⟩ = some (.slice (some ⟨bl, 0, none⟩) S S)) ∧ W.cell? ⟨w.heap.size + 1, k + q, none⟩ = some (.int .i64 (u : Int)) ∧ W.frozen? ⟨w.heap.size + 1, k + q, none⟩ = false) := by
            show ∀ W, _
            intro W hW
            exact ⟨arcv_cells (hO2.out.X.below hW), (hW.cell hO2.out.O.1).trans hOc.1, (hW.frozen hO2.out.O.1).trans hOc.2⟩
          clear hye hue hc1 hOc
          have hi1 : (0 : Int) ≤ (k : Int) + q := by omega
          have hi2 : (k : Int) + q < (T : Int) := by omega
          have hto : ((k : Int) + q).toNat = k + q := by omega
          have hwr : IntKind.i64.wrap ((k : Int) + q) = (k : Int) + q := wr64 _ (by omega) (by omega)
          go_wp2
          clear hy
          refine wp_region_S (S := Abv wr) 17 (by kernel_rfl) (by kernel_rfl) (bwDrew (Below.refl _ _)) ?_
          simp only [List.take_succ_cons, List.take_zero, List.drop_succ_cons, List.drop_zero]
          repeat
            refine' wpHS_val rfl (fun W hW => ?_) ?_
            rotate_left
            · have hcf := CF.out W hW; go_simp; rfl
            simp only [Act.put, List.setIfInBounds_toArray, List.set_cons_zero, List.set_cons_succ]
          refine' wpHS_call rfl (fun W => ?_) (fun W hW => ?_) ?_
          rotate_left 3
          · go_simp; exact ⟨rfl, rfl⟩
          · exact (amul_any C S P be bl x y W HV.out HX.out HY.out ((HT.out.below hO2.out.B).below hW)).mono (fun e W1 h => ⟨h.1, bwStep hW h.2⟩)
          simp only [Act.put, List.setIfInBounds_toArray, List.set_cons_zero, List.set_cons_succ]
          repeat
            refine' wpHS_val rfl (fun W hW => ?_) ?_
            rotate_left
            · have hcf := CF.out W hW; go_simp; rfl
            simp only [Act.put, List.setIfInBounds_toArray, List.set_cons_zero, List.set_cons_succ]
          refine' wpHS_call rfl (fun W => ?_) (fun W hW => ?_) ?_
          rotate_left 3
          · go_simp; exact ⟨rfl, rfl⟩
          · exact (aadd_any C S P be bl u (fmulN S P x y) W HV.out HU.out (fmul_lt HV.out _ _)).mono (fun e W1 h => ⟨h.1, bwStep hW h.2⟩)
          simp only [Act.put, List.setIfInBounds_toArray, List.set_cons_zero, List.set_cons_succ]
          repeat
            refine' wpHS_val rfl (fun W hW => ?_) ?_
            rotate_left
            · have hcf := CF.out W hW; go_simp; rfl
            simp only [Act.put, List.setIfInBounds_toArray, List.set_cons_zero, List.set_cons_succ]
          refine wpHS_nil ?_
          intro w1 hb1
          have HB1 := Lib.hid hb1
          clear hb1
          obtain ⟨-, st1, st2⟩ := CF.out w1 HB1.out
          go_wp2
          clear hwr
          exact ⟨⟨q + 1, by omega, by go_num, by rw [← HSTQ.out]; exact (hO2.out.below HB1.out).set _ _⟩, by simp [intOf]; omega⟩
        · obtain rfl : q = m := by omega
          go_wp2
          exact ⟨⟨k + 1, by omega, by go_num, by rw [← HNEXT.out]; exact hO2⟩, by simp [intOf]; omega⟩
    · obtain rfl : k = n := by omega
      go_wp2
      go_ret
      refine ⟨_, rfl, ?_, hO.out.B⟩
      rw [HR.out]
      exact hO.out.O.ints (HLEN.out _ _).symm (by omega) (by unfold maxLen; omega)
end Go.Proofs.Ythpcneeidhmdkaa
namespace Go.Proofs.Ythpcneeidhmdkaa
open Go.RowKit
set_option linter.unusedVariables false
/-! division and extension: what the loops compute -/
/-- j steps of r - c * x^i * b -/
def subRow (s p c : Nat) (b r : List Nat) (i : Nat) : Nat → List Nat
  | 0 => r
  | j + 1 => (subRow s p c b r i j).set (i + j) (fsubN s p ((subRow s p c b r i j).getD (i + j) 0) (fmulN s p c (b.getD j 0)))
/-- the rest behind k rounds of M -/
def rL (s p : Nat) (a b : List Nat) (M : Nat) : Nat → List Nat
  | 0 => a
  | k + 1 => subRow s p (fmulN s p ((rL s p a b M k).getD (M - 1 - k + (b.length - 1)) 0) (finvN s p (b.getD (b.length - 1) 0))) b (rL s p a b M k) (M - 1 - k) b.length
def cL (s p : Nat) (a b : List Nat) (M k : Nat) : Nat := fmulN s p ((rL s p a b M k).getD (M - 1 - k + (b.length - 1)) 0) (finvN s p (b.getD (b.length - 1) 0))
/-- the quotient behind k rounds, in n0 places -/
def qL (s p : Nat) (a b : List Nat) (M n0 : Nat) : Nat → List Nat
  | 0 => List.replicate n0 0
  | k + 1 => (qL s p a b M n0 k).set (M - 1 - k) (cL s p a b M k)
def divM (a b : List Nat) : Nat := a.length - (b.length - 1)
def divQ (s p : Nat) (a b : List Nat) : List Nat := qL s p a b (divM a b) (divM a b) (divM a b)
def divRest (s p : Nat) (a b : List Nat) : List Nat := trimL (rL s p a b (divM a b) (divM a b))
theorem subRow_length (s p c : Nat) (b r : List Nat) (i j : Nat) : (subRow s p c b r i j).length = r.length := by
  induction j with
  | zero => rfl
  | succ j ih => unfold subRow; rw [List.length_set, ih]
theorem rL_length (s p : Nat) (a b : List Nat) (M k : Nat) : (rL s p a b M k).length = a.length := by
  induction k with
  | zero => rfl
  | succ k ih => unfold rL; rw [subRow_length, ih]
theorem qL_length (s p : Nat) (a b : List Nat) (M n0 k : Nat) : (qL s p a b M n0 k).length = n0 := by
  induction k with
  | zero => simp [qL]
  | succ k ih => unfold qL; rw [List.length_set, ih]
theorem ltAll_set {s : Nat} {l : List Nat} (h : LtAll s l) (i v : Nat) (hv : v < s) : LtAll s (l.set i v) := by
  intro j
  have hj := h j
  simp only [List.getD, List.getElem?_set] at hj ⊢
  by_cases e : i = j
  · subst e
    by_cases hl : i < l.length
    · simp [hl, hv]
    · have := h i
      simp [hl]
      omega
  · simp [e]; exact hj
theorem ltAll_replicate {s n : Nat} (hs : 0 < s) : LtAll s (List.replicate n 0) := by
  intro j
  by_cases h : j < n
  · simp [List.getD, h, hs]
  · simp [List.getD, h, hs]
section
variable {c s p : Nat} (h : VF c s p)
include h
theorem subRow_lt {d : Nat} {b r : List Nat} (hr : LtAll s r) (i j : Nat) : LtAll s (subRow s p d b r i j) := by
  induction j with
  | zero => exact hr
  | succ j ih => exact ltAll_set ih _ _ (subN_lt h (ih _) (fmul_lt h _ _))
theorem rL_lt {a b : List Nat} (ha : LtAll s a) (M k : Nat) : LtAll s (rL s p a b M k) := by
  induction k with
  | zero => exact ha
  | succ k ih => exact subRow_lt h ih _ _
theorem qL_lt (a b : List Nat) (M n0 k : Nat) : LtAll s (qL s p a b M n0 k) := by
  induction k with
  | zero => exact ltAll_replicate (by have := h.two_le; omega)
  | succ k ih => exact ltAll_set ih _ _ (fmul_lt h _ _)
end
/-- p * (x - r) + c behind k rounds -/
def eL (s p : Nat) (l : List Nat) (r c : Nat) : Nat → List Nat
  | 0 => (List.replicate (l.length + 1) 0).set 0 c
  | k + 1 => ((eL s p l r c k).set k (fsubN s p ((eL s p l r c k).getD k 0) (fmulN s p (l.getD k 0) r))).set (k + 1) (l.getD k 0)
def extL (s p : Nat) (l : List Nat) (r c : Nat) : List Nat := eL s p l r c l.length
theorem eL_length (s p : Nat) (l : List Nat) (r c k : Nat) : (eL s p l r c k).length = l.length + 1 := by
  induction k with
  | zero => simp [eL]
  | succ k ih => unfold eL; rw [List.length_set, List.length_set, ih]
theorem eL_lt {c s p : Nat} (h : VF c s p) {l : List Nat} (hl : LtAll s l) {r d : Nat} (hr : r < s) (hd : d < s) (k : Nat) : LtAll s (eL s p l r d k) := by
  induction k with
  | zero => exact ltAll_set (ltAll_replicate (by have := h.two_le; omega)) _ _ hd
  | succ k ih => exact ltAll_set (ltAll_set ih _ _ (subN_lt h (ih _) (fmul_lt h _ _))) _ _ (hl k)
set_option maxHeartbeats 2000000 in
theorem aextend_any (C S P be bl r c : Nat) (l : List Nat) (A : Option Addr) (ca : Nat) (w : World) (hv : VF C S P) (hl : LtAll S l) (hr : r < S) (hc : c < S) (hn : l.length ≤ 8193)
    (ht : TabAt w S P be bl) (ha : RD w A (zl l)) :
    Calls Try.prog 58 #[arv C S be bl, .slice A l.length ca, .int .i64 r, .int .i64 c] w fun e w' => ∃ v, e = .returned v ∧ Ints w' v (zl (extL S P l r c)) ∧ Below w.heap.size w w' := by
  obtain ⟨T, hT⟩ : ∃ T, T = l.length + 1 := ⟨_, rfl⟩
  have hmk := run_make_row' (P := Try.prog) 24 3 (.int .i64 0) 8 Try.underlying24 intInfo rfl .i64 .i64 T (by omega) (by omega)
  have hs2 : ((l.length : Int) + 1) = (T : Int) := by omega
  have HV := Lib.hid hv
  have HL := Lib.hid hl
  have HA := Lib.hid ha
  have HT := Lib.hid ht
  have HRR := Lib.hid hr
  have HLEN : Hid (∀ k, (eL S P l r c k).length = T) := fun k => by rw [eL_length, hT]
  have HLT : Hid (∀ k, LtAll S (eL S P l r c k)) := eL_lt hv hl hr hc
  have HR : Hid (extL S P l r c = eL S P l r c l.length) := rfl
  have HZ : Hid (eL S P l r c 0 = (List.replicate T 0).set 0 c) := by show _ = _; rw [hT]; rfl
  have hT1 : 0 < T := by omega
  have hT2 : T ≤ 8194 := by omega
  have hT3 : l.length < T := by omega
  clear hv hl ha ht hr hc hT
  generalize hn' : l.length = n at *
  have HN := Lib.hid hn'
  clear hn'
  have HS0 : Hid (OutR w ((w.alloc (arc C S be bl)).alloc (.cells ((madeCells #[Value.int .i64 0] T).setIfInBounds 0 (.int .i64 (c : Int))) 3)) (arcv C S be bl) (eL S P l r c 0)) := by
    rw [HZ.out, cellsN_zero, cellsN_set]; exact OutR.start' w C S be bl _ _
  have HZ0 : Hid ((((w.alloc (arc C S be bl)).alloc (.cells (madeCells #[Value.int .i64 0] T) 3)).cell? ⟨w.heap.size + 1, 0, none⟩ = some (.int .i64 ((0 : Nat) : Int))) ∧ ((w.alloc (arc C S be bl)).alloc (.cells (madeCells #[Value.int .i64 0] T) 3)).frozen? ⟨w.heap.size + 1, 0, none⟩ = false) := by
    have h := (OutR.start w C S be bl T 3).O.2 0 (by simpa using hT1)
    have e : (List.replicate T 0).getD 0 0 = 0 := by simp [List.getD, hT1]
    rw [e] at h
    exact h
  obtain ⟨hz0, hz1⟩ := HZ0.out
  go_enter Try.func58, Try.ntmps58
  go_wp2
  clear hs2 hz0 hz1
  go_loopw [21] (fun i wr => ∃ k : Nat, k ≤ n ∧ i = .int .i64 k ∧ Hid (OutR w wr (arcv C S be bl) (eL S P l r c k))) (fun i _ => n - (intOf i).toNat)
  case atStart => exact ⟨0, Nat.zero_le _, rfl, HS0⟩
  case round =>
    obtain ⟨k, hk, rfl, hO⟩ := hrel
    by_cases hlt : k < n
    · obtain ⟨ad, rfl, -, hc1⟩ := (HA.out.below hO.out.B) (by rw [zl_length, HN.out]; omega)
      have hx := hc1 k (by rw [zl_length, HN.out]; exact hlt)
      rw [zl_getD] at hx
      have HX : Hid (l.getD k 0 < S) := HL.out k
      have HST : Hid (eL S P l r c (k + 1) = ((eL S P l r c k).set k (fsubN S P ((eL S P l r c k).getD k 0) (fmulN S P (l.getD k 0) r))).set (k + 1) (l.getD k 0)) := rfl
      have HU : Hid ((eL S P l r c k).getD k 0 < S) := HLT.out k _
      have hOc := hO.out.O.2 k (by rw [HLEN.out]; omega)
      have hOd := hO.out.O.2 (k + 1) (by rw [HLEN.out]; omega)
      generalize hxe : l.getD k 0 = x at *
      generalize hue : (eL S P l r c k).getD k 0 = u at *
      generalize hue2 : (eL S P l r c k).getD (k + 1) 0 = u2 at *
      have CF : Hid (∀ W, Abv wr W → (W.cell? ⟨w.heap.size, 0, none⟩ = some (.int .i64 C) ∧ W.cell? ⟨w.heap.size, 1, none⟩ = some (.int .i64 S) ∧ W.cell? ⟨w.heap.size, 2, none⟩ = some (.slice (some ⟨be, 0, none⟩) (S - 1) (S - 1)) ∧ W.cell? ⟨w.heap.size, 3, none⟩ = some (.slice (some ⟨bl, 0, none⟩) S S)) ∧ W.cell? ⟨w.heap.size + 1, k, none⟩ = some (.int .i64 (u : Int)) ∧ W.frozen? ⟨w.heap.size + 1, k, none⟩ = false ∧ W.cell? ⟨w.heap.size + 1, k + 1, none⟩ = some (.int .i64 (u2 : Int)) ∧ W.frozen? ⟨w.heap.size + 1, k + 1, none⟩ = false) := by
        show ∀ W, _
        intro W hW
        exact ⟨arcv_cells (hO.out.X.below hW), (hW.cell hO.out.O.1).trans hOc.1, (hW.frozen hO.out.O.1).trans hOc.2, (hW.cell hO.out.O.1).trans hOd.1, (hW.frozen hO.out.O.1).trans hOd.2⟩
      have hkT : k < T := by omega
      have hkT1 : k + 1 < T := by omega
      clear hxe hue hue2 hc1 hOc hOd
      go_wp2
      clear hx
      refine wp_region_S (S := Abv wr) 13 (by kernel_rfl) (by kernel_rfl) (bwDrew (Below.refl _ _)) ?_
      simp only [List.take_succ_cons, List.take_zero, List.drop_succ_cons, List.drop_zero]
      repeat
        refine' wpHS_val rfl (fun W hW => ?_) ?_
        rotate_left
        · have hcf := CF.out W hW; go_simp; rfl
        simp only [Act.put, List.setIfInBounds_toArray, List.set_cons_zero, List.set_cons_succ]
      refine' wpHS_call rfl (fun W => ?_) (fun W hW => ?_) ?_
      rotate_left 3
      · go_simp; exact ⟨rfl, rfl⟩
      · exact (amul_any C S P be bl x r W HV.out HX.out HRR.out ((HT.out.below hO.out.B).below hW)).mono (fun e W1 h => ⟨h.1, bwStep hW h.2⟩)
      simp only [Act.put, List.setIfInBounds_toArray, List.set_cons_zero, List.set_cons_succ]
      repeat
        refine' wpHS_val rfl (fun W hW => ?_) ?_
        rotate_left
        · have hcf := CF.out W hW; go_simp; rfl
        simp only [Act.put, List.setIfInBounds_toArray, List.set_cons_zero, List.set_cons_succ]
      refine' wpHS_call rfl (fun W => ?_) (fun W hW => ?_) ?_
      rotate_left 3
      · go_simp; exact ⟨rfl, rfl⟩
      · exact (asub_any C S P be bl u (fmulN S P x r) W HV.out HU.out (fmul_lt HV.out _ _)).mono (fun e W1 h => ⟨h.1, bwStep hW h.2⟩)
      simp only [Act.put, List.setIfInBounds_toArray, List.set_cons_zero, List.set_cons_succ]
      repeat
        refine' wpHS_val rfl (fun W hW => ?_) ?_
        rotate_left
        · have hcf := CF.out W hW; go_simp; rfl
        simp only [Act.put, List.setIfInBounds_toArray, List.set_cons_zero, List.set_cons_succ]
      refine wpHS_nil ?_
      intro w1 hb1
      have HB1 := Lib.hid hb1
      clear hb1
      obtain ⟨-, st1, st2, st3, st4⟩ := CF.out w1 HB1.out
      have st5 : ∀ v, (w1.setCell ⟨w.heap.size + 1, k, none⟩ v).cell? ⟨w.heap.size + 1, k + 1, none⟩ = some (.int .i64 (u2 : Int)) := fun v => (World.cell?_setCell_other w1 _ _ _ (fun e => by injection e; omega)).trans st3
      go_wp2
      exact ⟨⟨k + 1, by omega, by go_num, by rw [HST.out]; exact ((hO.out.below HB1.out).set _ _).set _ _⟩, by simp [intOf]; omega⟩
    · obtain rfl : k = n := by omega
      go_wp2
      go_ret
      refine ⟨_, rfl, ?_, hO.out.B⟩
      rw [HR.out]
      exact hO.out.O.ints (HLEN.out _).symm (by omega) (by unfold maxLen; omega)
end Go.Proofs.Ythpcneeidhmdkaa
namespace Go.Proofs.Ythpcneeidhmdkaa
open Go.RowKit
set_option linter.unusedVariables false
/-! division -/
theorem own_row {w : World} {base : Nat} {e : TypeId} {v : Value} {n : Nat} {l : List Nat} (h : w.ownsRow base e 1 v n ((zl l).map (Value.int .i64))) (hn : 0 < n) :
    ∃ g cap, v = .slice (some ⟨g, 0, none⟩) n cap ∧ base ≤ g ∧ n ≤ cap ∧ cap ≤ maxLen ∧ RowAt w g l := by
  rcases h.2 with ⟨_, h2⟩ | ⟨g, cap, cur, rfl, h2, h3, h4, h5, _⟩
  · omega
  · exact ⟨g, cap, rfl, h2, h4, h5, RowAt.of_own h hn⟩
theorem own_any {w : World} {base : Nat} {e : TypeId} {v : Value} {n : Nat} {l : List Nat} (h : w.ownsRow base e 1 v n ((zl l).map (Value.int .i64))) :
    ∃ A cap, v = .slice A n cap ∧ n ≤ cap ∧ cap ≤ maxLen ∧ RD w A (zl l) := by
  rcases h.2 with ⟨rfl, rfl⟩ | ⟨g, cap, cur, rfl, h2, h3, h4, h5, _⟩
  · have hl : l.length = 0 := by have := h.1; simpa [zl_length] using this
    have : l = [] := List.eq_nil_of_length_eq_zero hl
    subst this
    exact ⟨none, 0, rfl, Nat.le_refl _, by simp [maxLen], RD.nil_ _ _⟩
  · rcases Nat.eq_zero_or_pos n with h0 | h0
    · subst h0
      have hl : l.length = 0 := by have := h.1; simpa [zl_length] using this
      have : l = [] := List.eq_nil_of_length_eq_zero hl
      subst this
      exact ⟨_, cap, rfl, h4, h5, RD.nil_ _ _⟩
    · exact ⟨_, cap, rfl, h4, h5, (RowAt.of_own h h0).rd⟩
theorem Trim_n (l : List Nat) (n : Nat) (hn : n = l.length) (A : Option Addr) (ca : Nat) (w : World) (h1 : n ≤ 100000) (hca : n ≤ ca) (ha : RD w A (zl l)) :
    Calls Try.prog 34 #[.slice A n ca] w fun e w' => ∃ v, e = .returned v ∧ Ints w' v (zl (trimL l)) ∧ Below w.heap.size w w' := by
  have e : n = (zl l).length := by rw [zl_length]; exact hn
  rw [e] at h1 hca ⊢
  rw [← trimI_zl]
  exact Trim_any _ _ _ _ (by omega) hca ha
structure DivR (w wr : World) (bx : List Value) (g q : Nat) (r qs : List Nat) : Prop where
  B : Below w.heap.size w wr
  X : CellsAt wr w.heap.size bx
  R : RowAt wr g r
  Q : RowAt wr q qs
  hg : w.heap.size < g
  hq : w.heap.size < q
  n : g ≠ q
theorem DivR.below {w wr W : World} {bx : List Value} {g q : Nat} {r qs : List Nat} (h : DivR w wr bx g q r qs) (hb : Below wr.heap.size wr W) : DivR w W bx g q r qs :=
  ⟨bwStep h.B hb, h.X.below hb, h.R.below hb, h.Q.below hb, h.hg, h.hq, h.n⟩
theorem DivR.setR {w wr : World} {bx : List Value} {g q : Nat} {r qs : List Nat} (h : DivR w wr bx g q r qs) (i v : Nat) : DivR w (wr.setCell ⟨g, i, none⟩ (.int .i64 (v : Int))) bx g q (r.set i v) qs :=
  ⟨h.B.setCell (by have := h.hg; simp; omega) _, h.X.other _ _ (by have := h.hg; simp; omega), h.R.set i v, h.Q.other _ _ (Ne.symm h.n), h.hg, h.hq, h.n⟩
theorem DivR.setQ {w wr : World} {bx : List Value} {g q : Nat} {r qs : List Nat} (h : DivR w wr bx g q r qs) (i v : Nat) : DivR w (wr.setCell ⟨q, i, none⟩ (.int .i64 (v : Int))) bx g q r (qs.set i v) :=
  ⟨h.B.setCell (by have := h.hq; simp; omega) _, h.X.other _ _ (by have := h.hq; simp; omega), h.R.other _ _ h.n, h.Q.set i v, h.hg, h.hq, h.n⟩
set_option maxHeartbeats 2000000 in
theorem adivide_none (C S P be bl : Nat) (a b : List Nat) (A B : Option Addr) (ca cb : Nat) (w : World) (hv : VF C S P) (hna : a.length ≤ 8193) (hnb : b.length ≤ 4097) (hb1 : 1 ≤ b.length) (hM : a.length ≤ b.length - 1)
    (ha : RD w A (zl a)) :
    Calls Try.prog 65 #[arv C S be bl, .slice A a.length ca, .slice B b.length cb] w fun e w' => ∃ vq vr, e = .returned (.tuple #[vq, vr]) ∧ Ints w' vq (zl (divQ S P a b)) ∧ Ints w' vr (zl (divRest S P a b)) ∧ Below w.heap.size w w' := by
  obtain ⟨i0, hi, hz0, hz1, hz2⟩ := info_parts intInfo
  have HA := Lib.hid (ha.alloc (arc C S be bl))
  have HD : Hid (divM a b = 0) := by show _ = _; unfold divM; omega
  have HQ : Hid (divQ S P a b = []) := by show _ = _; unfold divQ; rw [HD.out]; rfl
  have HR : Hid (divRest S P a b = trimL a) := by show _ = _; unfold divRest; rw [HD.out]; rfl
  have HZ : Hid (a.length = (zl a).length) := (zl_length a).symm
  clear ha
  obtain ⟨tp, htp⟩ : ∃ tp, tp = b.length - 1 := ⟨_, rfl⟩
  have hs1 : ((b.length : Int) - 1) = (tp : Int) := by omega
  have hle : a.length ≤ tp := by omega
  generalize hn : a.length = n at *
  generalize hm : b.length = m at *
  have HN := Lib.hid hn
  clear hn hm htp
  go_enter Try.func65, Try.ntmps65
  go_wp2_with (at_builtin; refine wpList_append_read rfl _ _ _ rfl (w.heap.size + 1) 3 i0 _ Try.underlying24 hi hz0 hz1 hz2 rfl (.slice none 0 0) 0 [] rfl (World.ownsRow_nil _ _ _ _) A n _ (zl a) rfl HZ.out HA.out (by omega) (by simp) ?_; intro v1 w1 hown hg hat; have HB1 : Hid (Below w.heap.size w w1) := ((Below.refl _ _).alloc (Nat.le_refl _) _).grown hg (by simp) (fun j hj => by cases hj); obtain ⟨A1, c1, rfl, hc1, hc2, hrd⟩ := own_any (l := a) (n := n) (by simpa using hown); have HRD := Lib.hid hrd; clear hown hg hat hrd)
  go_loopw [9] (fun i wr => ∃ j : Int, i = .int .i64 j ∧ Hid (j < 0) ∧ Hid (wr = w1)) (fun _ _ => 0)
  case atStart => exact ⟨_, rfl, by show _ < _; omega, rfl⟩
  case round =>
    obtain ⟨j, rfl, hj, hw⟩ := hrel
    obtain rfl := hw.out
    have hj0 := hj.out
    go_wp2_with (go_at_call 34; refine (Trim_n a n HN.out.symm A1 c1 _ (by omega) hc1 HRD.out).mono ?_; rintro e w2 ⟨v2, rfl, hI2, hb2⟩; have HI2 := Lib.hid hI2; have HB2 := Lib.hid hb2; clear hI2 hb2)
    go_ret2
    refine ⟨_, _, rfl, ?_, ?_, bwStep HB1.out HB2.out⟩
    · rw [HQ.out]; exact Ints.nil_ _
    · rw [HR.out]; exact HI2.out
set_option maxHeartbeats 4000000 in
theorem adivide_some (C S P be bl : Nat) (a b : List Nat) (A B : Option Addr) (ca cb : Nat) (w : World) (hv : VF C S P) (hla : LtAll S a) (hlb : LtAll S b) (hna : a.length ≤ 8193) (hnb : b.length ≤ 4097) (hb1 : 1 ≤ b.length) (hM : b.length ≤ a.length)
    (hb0 : b.getD (b.length - 1) 0 ≠ 0) (ht : TabAt w S P be bl) (ha : RD w A (zl a)) (hb : RD w B (zl b)) :
    Calls Try.prog 65 #[arv C S be bl, .slice A a.length ca, .slice B b.length cb] w fun e w' => ∃ vq vr, e = .returned (.tuple #[vq, vr]) ∧ Ints w' vq (zl (divQ S P a b)) ∧ Ints w' vr (zl (divRest S P a b)) ∧ Below w.heap.size w w' := by
  obtain ⟨i0, hi, hz0, hz1, hz2⟩ := info_parts intInfo
  obtain ⟨M, hMe⟩ : ∃ M, M = divM a b := ⟨_, rfl⟩
  obtain ⟨tp, htp⟩ : ∃ tp, tp = b.length - 1 := ⟨_, rfl⟩
  have hMe2 : M = a.length - (b.length - 1) := hMe
  have hmk := run_make_row' (P := Try.prog) 24 3 (.int .i64 0) 8 Try.underlying24 intInfo rfl .i64 .i64 M (by omega) (by omega)
  have HA := Lib.hid (ha.alloc (arc C S be bl))
  have HB := Lib.hid hb
  have HT := Lib.hid ht
  have HV := Lib.hid hv
  have HLB := Lib.hid hlb
  have HQ : Hid (divQ S P a b = qL S P a b M M M) := by show _ = _; rw [hMe]; rfl
  have HR : Hid (divRest S P a b = trimL (rL S P a b M M)) := by show _ = _; rw [hMe]; rfl
  have HRS : Hid (∀ k, rL S P a b M (k + 1) = subRow S P (cL S P a b M k) b (rL S P a b M k) (M - 1 - k) b.length) := fun k => rfl
  have HCS : Hid (∀ k, cL S P a b M k = fmulN S P ((rL S P a b M k).getD (M - 1 - k + tp) 0) (finvN S P (b.getD tp 0))) := fun k => by rw [htp]; rfl
  have HQS : Hid (∀ k, qL S P a b M M (k + 1) = (qL S P a b M M k).set (M - 1 - k) (cL S P a b M k)) := fun k => rfl
  have HLR : Hid (∀ k, LtAll S (rL S P a b M k)) := fun k => rL_lt hv hla _ _
  have HRLEN : Hid (∀ k, (rL S P a b M k).length = a.length) := fun k => rL_length _ _ _ _ _ _
  have HQLEN : Hid (∀ k, (qL S P a b M M k).length = M) := fun k => qL_length _ _ _ _ _ _ _
  have HZ : Hid (a.length = (zl a).length) := (zl_length a).symm
  have HB0 : Hid (b.getD tp 0 ≠ 0) := by rw [htp]; exact hb0
  have hs1 : ((b.length : Int) - 1) = (tp : Int) := by omega
  have hs2 : ((a.length : Int) - (tp : Int)) = (M : Int) := by omega
  have hlt : (tp : Int) < (a.length : Int) := by omega
  have hM1 : 1 ≤ M := by omega
  have hM2 : M ≤ 8193 := by omega
  have hMt : M + tp ≤ a.length := by omega
  have htm : tp < b.length := by omega
  have htm2 : b.length ≤ tp + 1 := by omega
  clear ha hb ht hv hla hlb hb0 hMe hMe2 htp
  generalize hn : a.length = n at *
  generalize hm : b.length = m at *
  have HN := Lib.hid hn
  have HM := Lib.hid hm
  clear hn hm
  go_enter Try.func65, Try.ntmps65
  go_wp2_with (at_builtin; refine wpList_append_read rfl _ _ _ rfl (w.heap.size + 1) 3 i0 _ Try.underlying24 hi hz0 hz1 hz2 rfl (.slice none 0 0) 0 [] rfl (World.ownsRow_nil _ _ _ _) A n _ (zl a) rfl HZ.out HA.out (by omega) (by simp) ?_; intro v1 w1 hown hg hat; have HB1 : Hid (Below (w.alloc (arc C S be bl)).heap.size (w.alloc (arc C S be bl)) w1) := (Below.refl _ _).grown hg (Nat.le_refl _) (fun j hj => by cases hj); obtain ⟨g, c1, rfl, hg1, hc1, hc2, hrow⟩ := own_row (l := a) (n := n) (by simpa using hown) (by omega); have HROW := Lib.hid hrow; clear hown hg hat hrow)
  clear hs1 hs2
  have HS0 : Hid (DivR w (w1.alloc (.cells (madeCells #[Value.int .i64 0] M) 3)) (arcv C S be bl) g w1.heap.size a (List.replicate M 0)) := by
    have hlt := HB1.out.size
    simp at hlt
    exact ⟨bwAlloc (bw1 HB1.out) _, ((CellsAt.new _ _ _ _ rfl).below HB1.out).alloc _, HROW.out.below ((Below.refl _ _).alloc (Nat.le_refl _) _), RowAt.made _ _ _ _ rfl, by omega, by omega, Nat.ne_of_lt HROW.out.1⟩
  generalize hq : w1.heap.size = q at *
  clear hq
  clear hmk HZ HA
  go_loopw [9] (fun i wr => ∃ (k : Nat) (j : Int), k ≤ M ∧ i = .int .i64 j ∧ Hid (j = (M : Int) - 1 - k) ∧ Hid (DivR w wr (arcv C S be bl) g q (rL S P a b M k) (qL S P a b M M k))) (fun i _ => (intOf i + 1).toNat)
  case atStart => exact ⟨0, _, Nat.zero_le _, rfl, by show _ = _; omega, HS0⟩
  case round =>
    obtain ⟨k, j, hk, rfl, hj, hD⟩ := hrel
    by_cases hlt1 : k < M
    · obtain ⟨i, hi1⟩ : ∃ i, i = M - 1 - k := ⟨_, rfl⟩
      have hiM : i < M := by omega
      have hin : i + tp < n := by omega
      obtain rfl : j = (i : Int) := by have := hj.out; omega
      have hHR := HRS.out k
      have hHQ := HQS.out k
      have hHC := HCS.out k
      rw [← hi1] at hHR hHQ hHC
      obtain ⟨bd, rfl, -, hcb⟩ := HB.out (by rw [zl_length, HM.out]; omega)
      have HBC : Hid (∀ W, Abv w W → ∀ t, t < m → W.cell? (bd.add t) = some (.int .i64 ((b.getD t 0 : Nat) : Int))) := by
        show ∀ W, _
        intro W hW t ht
        obtain ⟨bd', e, _, hc⟩ := HB.out.below hW (by rw [zl_length, HM.out]; omega)
        injection e with e
        subst e
        rw [hc t (by rw [zl_length, HM.out]; omega), zl_getD]
      have hRc := hD.out.R.2 (i + tp) (by rw [HRLEN.out]; omega)
      have hQc := hD.out.Q.2 i (by rw [HQLEN.out]; omega)
      have HU : Hid ((rL S P a b M k).getD (i + tp) 0 < S) := HLR.out k _
      have HT0 : Hid (b.getD tp 0 < S) := HLB.out tp
      have HLRk := Lib.hid (HLR.out k)
      have HRkn := Lib.hid (HRLEN.out k)
      generalize hRk : rL S P a b M k = Rk at *
      generalize hQk : qL S P a b M M k = Qk at *
      generalize hCk : cL S P a b M k = ck at *
      generalize hue : Rk.getD (i + tp) 0 = u at *
      generalize hbe : b.getD tp 0 = bt at *
      generalize hqe : Qk.getD i 0 = qi at *
      have CF : Hid (∀ W, Abv wr W → ((W.cell? ⟨w.heap.size, 0, none⟩ = some (.int .i64 C) ∧ W.cell? ⟨w.heap.size, 1, none⟩ = some (.int .i64 S) ∧ W.cell? ⟨w.heap.size, 2, none⟩ = some (.slice (some ⟨be, 0, none⟩) (S - 1) (S - 1)) ∧ W.cell? ⟨w.heap.size, 3, none⟩ = some (.slice (some ⟨bl, 0, none⟩) S S)) ∧ W.cell? ⟨g, i + tp, none⟩ = some (.int .i64 (u : Int)) ∧ W.cell? (bd.add tp) = some (.int .i64 (bt : Int))) ∧ W.cell? ⟨q, i, none⟩ = some (.int .i64 (qi : Int)) ∧ W.frozen? ⟨q, i, none⟩ = false) := by
        show ∀ W, _
        intro W hW
        refine ⟨⟨arcv_cells (hD.out.X.below hW), (hW.cell hD.out.R.1).trans hRc.1, ?_⟩, (hW.cell hD.out.Q.1).trans hQc.1, (hW.frozen hD.out.Q.1).trans hQc.2⟩
        rw [HBC.out W (bwStep hD.out.B hW) tp htm, hbe]
      have HRE := Lib.hid hHR
      have HQE := Lib.hid hHQ
      have HCE := Lib.hid hHC
      have HBT := Lib.hid hbe
      have HIE := Lib.hid hi1
      clear hHR hHQ hHC hcb hRc hQc hRk hQk hCk hue hbe hqe hi1
      have hj1 : (0 : Int) ≤ (i : Int) + tp := by omega
      have hj2 : (i : Int) + tp < (n : Int) := by omega
      have hto : ((i : Int) + tp).toNat = i + tp := by omega
      have hwr : IntKind.i64.wrap ((i : Int) + tp) = (i : Int) + tp := wr64 _ (by omega) (by omega)
      go_wp2
      refine wp_region_S (S := Abv wr) 12 (by kernel_rfl) (by kernel_rfl) (bwDrew (Below.refl _ _)) ?_
      simp only [List.take_succ_cons, List.take_zero, List.drop_succ_cons, List.drop_zero]
      repeat
        refine' wpHS_val rfl (fun W hW => ?_) ?_
        rotate_left
        · have hcf := CF.out W hW; go_simp; rfl
        simp only [Act.put, List.setIfInBounds_toArray, List.set_cons_zero, List.set_cons_succ]
      refine' wpHS_call rfl (fun W => ?_) (fun W hW => ?_) ?_
      rotate_left 3
      · go_simp; exact ⟨rfl, rfl⟩
      · exact (adiv_any C S P be bl u bt W HV.out HU.out HT0.out HB0.out ((HT.out.below hD.out.B).below hW)).mono (fun e W1 h => ⟨h.1, bwStep hW h.2⟩)
      simp only [Act.put, List.setIfInBounds_toArray, List.set_cons_zero, List.set_cons_succ]
      repeat
        refine' wpHS_val rfl (fun W hW => ?_) ?_
        rotate_left
        · have hcf := CF.out W hW; go_simp; rfl
        simp only [Act.put, List.setIfInBounds_toArray, List.set_cons_zero, List.set_cons_succ]
      refine wpHS_nil ?_
      intro w2 hb1
      have HB2 := Lib.hid hb1
      clear hb1
      clear hwr hto hj1 hj2
      rw [← HCE.out]
      have HCK : Hid (ck < S) := by rw [HCE.out]; exact fmul_lt HV.out _ _
      obtain ⟨-, st1, st2⟩ := CF.out w2 HB2.out
      have HD2 : Hid (DivR w (w2.setCell ⟨q, i, none⟩ (.int .i64 (ck : Int))) (arcv C S be bl) g q Rk (qL S P a b M M (k + 1))) := by
        rw [HQE.out]; exact (hD.out.below HB2.out).setQ i ck
      have HSB : Hid (∀ x, subRow S P ck b Rk i (x + 1) = (subRow S P ck b Rk i x).set (i + x) (fsubN S P ((subRow S P ck b Rk i x).getD (i + x) 0) (fmulN S P ck (b.getD x 0)))) := fun x => rfl
      have HSL : Hid (∀ x, LtAll S (subRow S P ck b Rk i x)) := fun x => subRow_lt HV.out HLRk.out i x
      have HSN : Hid (∀ x, (subRow S P ck b Rk i x).length = n) := fun x => (subRow_length _ _ _ _ _ _ _).trans HRkn.out
      go_wp2
      clear st1 st2
      generalize w2.setCell ⟨q, i, none⟩ (.int .i64 (ck : Int)) = wo at *
      go_loopw [52] (fun t wr => ∃ x : Nat, x ≤ m ∧ t = .int .i64 x ∧ Hid (DivR w wr (arcv C S be bl) g q (subRow S P ck b Rk i x) (qL S P a b M M (k + 1)))) (fun t _ => m - (intOf t).toNat)
      case atStart => exact ⟨0, Nat.zero_le _, rfl, HD2⟩
      case round =>
        obtain ⟨x, hx, rfl, hE⟩ := hrel
        by_cases hlt2 : x < m
        · have hy := HBC.out _ hE.out.B x hlt2
          have HY : Hid (b.getD x 0 < S) := HLB.out x
          have hSx := HSB.out x
          have HU2 : Hid ((subRow S P ck b Rk i x).getD (i + x) 0 < S) := HSL.out x _
          have hEc := hE.out.R.2 (i + x) (by rw [HSN.out]; omega)
          generalize hye : b.getD x 0 = y at *
          generalize hue : (subRow S P ck b Rk i x).getD (i + x) 0 = u2 at *
          have HSX := Lib.hid hSx
          have CF2 : Hid (∀ W, Abv wr W → (W.cell? ⟨w.heap.size, 0, none⟩ = some (.int .i64 C) ∧ W.cell? ⟨w.heap.size, 1, none⟩ = some (.int .i64 S) ∧ W.cell? ⟨w.heap.size, 2, none⟩ = some (.slice (some ⟨be, 0, none⟩) (S - 1) (S - 1)) ∧ W.cell? ⟨w.heap.size, 3, none⟩ = some (.slice (some ⟨bl, 0, none⟩) S S)) ∧ W.cell? ⟨g, i + x, none⟩ = some (.int .i64 (u2 : Int)) ∧ W.frozen? ⟨g, i + x, none⟩ = false) := by
            show ∀ W, _
            intro W hW
            exact ⟨arcv_cells (hE.out.X.below hW), (hW.cell hE.out.R.1).trans hEc.1, (hW.frozen hE.out.R.1).trans hEc.2⟩
          clear hye hue hEc hSx
          have hj1 : (0 : Int) ≤ (i : Int) + x := by omega
          have hj2 : (i : Int) + x < (n : Int) := by omega
          have hto : ((i : Int) + x).toNat = i + x := by omega
          have hwr : IntKind.i64.wrap ((i : Int) + x) = (i : Int) + x := wr64 _ (by omega) (by omega)
          go_wp2
          clear hy
          refine wp_region_S (S := Abv wr) 17 (by kernel_rfl) (by kernel_rfl) (bwDrew (Below.refl _ _)) ?_
          simp only [List.take_succ_cons, List.take_zero, List.drop_succ_cons, List.drop_zero]
          repeat
            refine' wpHS_val rfl (fun W hW => ?_) ?_
            rotate_left
            · have hcf := CF2.out W hW; go_simp; rfl
            simp only [Act.put, List.setIfInBounds_toArray, List.set_cons_zero, List.set_cons_succ]
          refine' wpHS_call rfl (fun W => ?_) (fun W hW => ?_) ?_
          rotate_left 3
          · go_simp; exact ⟨rfl, rfl⟩
          · exact (amul_any C S P be bl ck y W HV.out HCK.out HY.out ((HT.out.below hE.out.B).below hW)).mono (fun e W1 h => ⟨h.1, bwStep hW h.2⟩)
          simp only [Act.put, List.setIfInBounds_toArray, List.set_cons_zero, List.set_cons_succ]
          repeat
            refine' wpHS_val rfl (fun W hW => ?_) ?_
            rotate_left
            · have hcf := CF2.out W hW; go_simp; rfl
            simp only [Act.put, List.setIfInBounds_toArray, List.set_cons_zero, List.set_cons_succ]
          refine' wpHS_call rfl (fun W => ?_) (fun W hW => ?_) ?_
          rotate_left 3
          · go_simp; exact ⟨rfl, rfl⟩
          · exact (asub_any C S P be bl u2 (fmulN S P ck y) W HV.out HU2.out (fmul_lt HV.out _ _)).mono (fun e W1 h => ⟨h.1, bwStep hW h.2⟩)
          simp only [Act.put, List.setIfInBounds_toArray, List.set_cons_zero, List.set_cons_succ]
          repeat
            refine' wpHS_val rfl (fun W hW => ?_) ?_
            rotate_left
            · have hcf := CF2.out W hW; go_simp; rfl
            simp only [Act.put, List.setIfInBounds_toArray, List.set_cons_zero, List.set_cons_succ]
          refine wpHS_nil ?_
          intro w3 hb1
          have HB3 := Lib.hid hb1
          clear hb1
          obtain ⟨-, st1, st2⟩ := CF2.out w3 HB3.out
          go_wp2
          clear hwr
          exact ⟨⟨x + 1, by omega, by go_num, by rw [HSX.out]; exact (hE.out.below HB3.out).setR _ _⟩, by simp [intOf]; omega⟩
        · obtain rfl : x = m := by omega
          go_wp2
          exact ⟨⟨k + 1, _, by omega, rfl, by have := HIE.out; show _ = _; omega, by rw [HRE.out]; exact hE⟩, by simp [intOf]⟩
    · obtain rfl : k = M := by omega
      have hj0 : j < 0 := by have := hj.out; omega
      go_wp2_with (go_at_call 34; refine (Trim_n (rL S P a b k k) n (HRLEN.out k).symm _ _ _ (by omega) hc1 hD.out.R.rd).mono ?_; rintro e w2 ⟨v2, rfl, hI2, hb2⟩; have HI2 := Lib.hid hI2; have HB2 := Lib.hid hb2; clear hI2 hb2)
      go_ret2
      refine ⟨_, _, rfl, ?_, ?_, bwStep hD.out.B HB2.out⟩
      · rw [HQ.out]; exact (hD.out.Q.ints (HQLEN.out _).symm (Nat.le_refl _) (by unfold maxLen; omega)).below HB2.out
      · rw [HR.out]; exact HI2.out
end Go.Proofs.Ythpcneeidhmdkaa
