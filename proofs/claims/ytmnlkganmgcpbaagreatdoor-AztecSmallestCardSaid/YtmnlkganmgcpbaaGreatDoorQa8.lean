import Derived.Test.YtmnlkganmgcpbaaGreatDoorQa7
namespace Go.Proofs.YtmnlkganmgcpbaaGreatDoor
open Go.RowKit Go.WideMaps Go.Maps
set_option linter.unusedVariables false
theorem ownsRow_base {w : World} {b1 b2 : Nat} {e : TypeId} {sz : Nat} {v : Value} {k : Nat} {xs : List Value} (h : w.ownsRow b1 e sz v k xs) (hb : b2 ≤ b1) : w.ownsRow b2 e sz v k xs := by
  refine ⟨h.1, ?_⟩
  rcases h.2 with h2 | ⟨g, cap, cur, h1, h2, h3⟩
  · exact .inl h2
  · exact .inr ⟨g, cap, cur, h1, Nat.le_trans hb h2, h3⟩
theorem ownsRow_shape {w : World} {b1 : Nat} {e : TypeId} {sz : Nat} {v : Value} {k : Nat} {xs : List Value} (h : w.ownsRow b1 e sz v k xs) : ∃ A c, v = .slice A k c := by
  rcases h.2 with ⟨rfl, rfl⟩ | ⟨g, cap, cur, rfl, _⟩
  · exact ⟨_, _, rfl⟩
  · exact ⟨_, _, rfl⟩
def SetPost (C C' : Nat → Nat → Nat) (p : ByteArray) (at_ : Nat) : Prop :=
  (∀ a m, a ≠ at_ → C' a m = C a m) ∧ (∀ m, m < 5 → ∀ o ∈ optK C' p at_ m 32, C' at_ m ≤ o.tot C') ∧ (∀ m, m < 5 → C' at_ m = 1073741824 ∨ ∃ o ∈ optK C' p at_ m 32, o.tot C' = C' at_ m)
def FixAt (C : Nat → Nat → Nat) (p : ByteArray) (at_ : Nat) : Prop :=
  (∀ m, m < 5 → ∀ o ∈ optK C p at_ m 32, C at_ m ≤ o.tot C) ∧ (∀ m, m < 5 → C at_ m = 1073741824 ∨ ∃ o ∈ optK C p at_ m 32, o.tot C = C at_ m)
theorem SetPost.fix {C C' : Nat → Nat → Nat} {p : ByteArray} {at_ : Nat} (h : SetPost C C' p at_) : FixAt C' p at_ := h.2
def stepF (C : Nat → Nat → Nat) (p : ByteArray) (at_ m : Nat) : Option Opt := (optK C p at_ m 32).find? (fun o => o.tot C == C at_ m)
theorem FixAt.congr {C C' : Nat → Nat → Nat} {p : ByteArray} {at_ : Nat} (h : ∀ a m, at_ ≤ a → C' a m = C a m) (hf : FixAt C p at_) : FixAt C' p at_ := by
  have e : ∀ m, optK C' p at_ m 32 = optK C p at_ m 32 := fun m => optK_congr (fun a m ha => h a m (by omega)) 32
  have et : ∀ m, ∀ o ∈ optK C p at_ m 32, o.tot C' = o.tot C := fun m o ho => by unfold Opt.tot; rw [h _ _ (optK_at 32 ho)]
  refine ⟨fun m hm o ho => ?_, fun m hm => ?_⟩
  · rw [e m] at ho
    rw [et m o ho, h _ _ (Nat.le_refl _)]
    exact hf.1 m hm o ho
  · rw [h _ _ (Nat.le_refl _), e m]
    rcases hf.2 m hm with h1 | ⟨o, h1, h2⟩
    · exact .inl h1
    · exact .inr ⟨o, h1, by rw [et m o h1]; exact h2⟩
theorem find_congr {l : List Opt} {q q' : Opt → Bool} (h : ∀ o ∈ l, q o = q' o) : l.find? q = l.find? q' := by
  induction l with
  | nil => rfl
  | cons x l ih =>
    rw [List.find?_cons, List.find?_cons, h x (List.mem_cons_self ..), ih (fun o ho => h o (List.mem_cons_of_mem _ ho))]
theorem stepF.congr {C C' : Nat → Nat → Nat} {p : ByteArray} {at_ : Nat} (h : ∀ a m, at_ ≤ a → C' a m = C a m) (m : Nat) : stepF C' p at_ m = stepF C p at_ m := by
  unfold stepF
  rw [optK_congr (C := C') (C' := C) (fun a m ha => h a m (by omega)) 32]
  refine find_congr fun o ho => ?_
  unfold Opt.tot
  rw [h _ _ (optK_at 32 ho), h _ _ (Nat.le_refl _)]
theorem seen_step {L : List Opt} {C : Nat → Nat → Nat} {x j : Nat} {o : Opt} (h : ∀ j', j' < j → ∀ o, L[j']? = some o → x ≤ o.tot C) (ho : L[j]? = some o) (hx : x ≤ o.tot C) : ∀ j', j' < j + 1 → ∀ o, L[j']? = some o → x ≤ o.tot C := by
  intro j' hj' o' ho'
  rcases Nat.lt_or_ge j' j with h1 | h1
  · exact h j' h1 o' ho'
  · obtain rfl : j' = j := by omega
    rw [ho] at ho'
    injection ho' with ho'
    rw [← ho']; exact hx
theorem find_first {l : List Opt} {q : Opt → Bool} : ∀ {j : Nat} {o : Opt}, (∀ j', j' < j → ∀ o', l[j']? = some o' → q o' = false) → l[j]? = some o → q o = true → l.find? q = some o := by
  induction l with
  | nil => intro j o _ h; simp at h
  | cons x l ih =>
    intro j o h ho hq
    cases j with
    | zero =>
      simp only [List.getElem?_cons_zero, Option.some.injEq] at ho
      subst ho
      rw [List.find?_cons_of_pos hq]
    | succ j =>
      have h0 : q x = false := h 0 (Nat.succ_pos _) x rfl
      rw [List.find?_cons_of_neg (by rw [h0]; simp)]
      exact ih (fun j' hj' o' ho' => h (j' + 1) (Nat.succ_lt_succ hj') o' (by simpa using ho')) (by simpa using ho) hq
theorem find_none {l : List Opt} {q : Opt → Bool} (h : ∀ j', j' < l.length → ∀ o', l[j']? = some o' → q o' = false) : l.find? q = none := by
  rw [List.find?_eq_none]
  intro o ho
  obtain ⟨j, hj, e⟩ := List.getElem_of_mem ho
  rw [h j hj o (by rw [List.getElem?_eq_getElem hj, e])]
  simp
def TT (C : Nat → Nat → Nat) (p : ByteArray) (at_ : Nat) (T : Nat → Nat → Option Opt) (i : Nat) : Nat → Nat → Option Opt := fun a m => if a = at_ then (if m < i then stepF C p at_ m else none) else T a m
theorem TT.zero {C : Nat → Nat → Nat} {p : ByteArray} {at_ : Nat} {T : Nat → Nat → Option Opt} {a m : Nat} {o : Opt} (h : TT C p at_ T 0 a m = some o) : T a m = some o := by
  unfold TT at h
  by_cases e : a = at_
  · rw [if_pos e, if_neg (by omega)] at h; cases h
  · rwa [if_neg e] at h
theorem TT.none_ {C : Nat → Nat → Nat} {p : ByteArray} {at_ i : Nat} {T : Nat → Nat → Option Opt} (hn : stepF C p at_ i = none) {a m : Nat} {o : Opt} (h : TT C p at_ T (i + 1) a m = some o) : TT C p at_ T i a m = some o := by
  unfold TT at h ⊢
  by_cases e : a = at_
  · rw [if_pos e] at h ⊢
    by_cases e2 : m < i
    · rw [if_pos (by omega)] at h; rw [if_pos e2]; exact h
    · by_cases e3 : m < i + 1
      · rw [if_pos e3] at h
        obtain rfl : m = i := by omega
        rw [hn] at h; cases h
      · rw [if_neg e3] at h; cases h
  · rw [if_neg e] at h ⊢; exact h
theorem TT.some_ {C : Nat → Nat → Nat} {p : ByteArray} {at_ i : Nat} {T : Nat → Nat → Option Opt} {x : Opt} (hn : stepF C p at_ i = some x) {a m : Nat} {o : Opt} (h : TT C p at_ T (i + 1) a m = some o) : updT (TT C p at_ T i) at_ i x a m = some o := by
  unfold updT
  by_cases e0 : a = at_ ∧ m = i
  · rw [if_pos e0]
    unfold TT at h
    rw [if_pos e0.1, if_pos (by omega), e0.2, hn] at h
    exact h
  · rw [if_neg e0]
    unfold TT at h ⊢
    by_cases e : a = at_
    · rw [if_pos e] at h ⊢
      by_cases e2 : m < i
      · rw [if_pos (by omega)] at h; rw [if_pos e2]; exact h
      · rw [if_neg (by omega)] at h; cases h
    · rw [if_neg e] at h ⊢; exact h
theorem QS.weak {w wr : World} {n ob base sb cb cap hb : Nat} {p : ByteArray} {C : Nat → Nat → Nat} {vs : List Value} {L : Nat → List Opt} {μ cnt cnt' : Nat} {T T' : Nat → Nat → Option Opt} (h : QS w wr n ob base sb cb cap hb p C vs L μ cnt T)
    (hc : cnt ≤ cnt') (hT : ∀ a m o, a ≤ 4096 → m < 5 → T' a m = some o → T a m = some o) : QS w wr n ob base sb cb cap hb p C vs L μ cnt' T' :=
  ⟨h.B, h.S, h.A, h.F, h.V, h.M.weak hc hT, h.l5, h.n1, h.n2, h.n3, h.n4⟩
theorem wpHX_mapUpd {ops : Array Oper} {S : World → Prop} {K : Act → World → Prop} {r : List (Bool × Nat × Oper)} {k : Nat} {o : Oper} {a : Act} {W : World} {hb cnt : Nat} {T : Nat → Nat → Option Opt} (h : MapIs W hb cnt T)
    (hgd : Region.wanted o (yielded ops a.tmps) = true) (m x v : Operand) (ho : o.op = .mapUpdate 173 m x v) (hm : a.eval m = .map (some hb)) (at_ i : Nat) (hx : a.eval x = .agg #[.int .i64 (at_ : Int), .int .i64 (i : Int)]) (y : Opt) (hv : a.eval v = y.val)
    (ha : at_ ≤ 4096) (hi : i < 5) (hc : cnt < maxLen)
    (hk : ∀ w', MapIs w' hb (cnt + 1) (updT T at_ i y) → W.grownBy w' (some hb) → S w' ∧ wpHX Tryz.prog ops S K r (a.put o.dst undef) w') : wpHX Tryz.prog ops S K ((true, k, o) :: r) a W := by
  obtain ⟨w', hrun, h2, h3⟩ := h.put at_ i y ha hi hc
  have h5 := hk w' h2 h3
  refine .inl ⟨hgd, ?_⟩
  unfold execOp
  simp only [ho, hm, hx, hv, hrun, Sem.run_bind, Sem.run_pure, Result.andThen_ok]
  exact h5
set_option maxRecDepth 100000 in
set_option maxHeartbeats 8000000 in
theorem settle_any (at_ : Nat) (w : World) (n sb cb cap hb cnt : Nat) (p : ByteArray) (C : Nat → Nat → Nat) (T : Nat → Nat → Option Opt) (hS : SQ w sb cb cap hb p C) (hM : MapIs w hb cnt T) (ha : at_ < p.size) (hn : n ≤ sb ∧ n ≤ cb ∧ n ≤ hb) (hcnt : cnt ≤ 30000) :
    Calls Tryz.prog 130 #[.pointer (some ⟨sb, 0, none⟩), .int .i64 (at_ : Int)] w
      fun e w' => e = .returned (.tuple #[]) ∧ ∃ C', SQ w' sb cb cap hb p C' ∧ SetPost C C' p at_ ∧ MapIs w' hb (cnt + 5) (fun a m => if a = at_ then stepF C' p at_ m else T a m) ∧ Below n w w' := by
  have hp := hS.S.hp
  have ha2 : at_ ≤ 4096 := by omega
  have ha3 : (at_ : Int) < (p.size : Int) + 1 := by omega
  have hcap := hS.S.hc
  obtain ⟨L, hL⟩ : ∃ L : Nat → List Opt, L = fun m => optK C p at_ m 32 := ⟨_, rfl⟩
  have HL := Lib.hid hL
  have HLC : Hid (∀ C', (∀ a m, a ≠ at_ → C' a m = C a m) → ∀ m, optK C' p at_ m 32 = L m) := by
    show ∀ C', _
    intro C' h m
    rw [HL.out]
    exact optK_congr (fun a m ha => h a m (by omega)) 32
  have HLK : Hid (∀ m, m < 5 → ∀ o ∈ L m, okO p o) := by
    show ∀ m, _
    intro m hm o ho
    rw [HL.out] at ho
    exact okO_all ha hp hm 32 ho
  have HQ0 : Hid (QS w (w.alloc (.cells #[.slice none 0 0, .slice none 0 0, .slice none 0 0, .slice none 0 0, .slice none 0 0] 219)) n w.heap.size (w.heap.size + 1) sb cb cap hb p C [.slice none 0 0, .slice none 0 0, .slice none 0 0, .slice none 0 0, .slice none 0 0] L 0 cnt T) :=
    ⟨(bwA _ _).mono (by have := hS.S.lt; omega), hS.below (bwA _ _), CellsAt.new _ #[.slice none 0 0, .slice none 0 0, .slice none 0 0, .slice none 0 0, .slice none 0 0] _ _ rfl, FZ.new _ _ _ _ _ rfl, fun i hi => by omega, hM.below (bwA _ _), rfl, hn, ⟨hS.S.lt, hS.S.cl, hM.lt⟩, by omega, by simp⟩
  clear hS hM hL hn
  go_enter Tryz.func130, Tryz.ntmps130
  go_wp2_with ((with_reducible show wpList _ _ _ (⟨_, Op.alloc 219, _, _, _, _⟩ :: _) _ _); refine wpList_allocAgg rfl 219 rfl _ optsInfo ?_)
  generalize w.alloc (.cells #[.slice none 0 0, .slice none 0 0, .slice none 0 0, .slice none 0 0, .slice none 0 0] 219) = w1 at *
  obtain ⟨ob, hob⟩ : ∃ ob, ob = w.heap.size := ⟨_, rfl⟩
  obtain ⟨base, hbase⟩ : ∃ base, base = w.heap.size + 1 := ⟨_, rfl⟩
  rw [← hbase, ← hob] at HQ0
  rw [← hob]
  have HBB := Lib.hid hbase
  have HOB := Lib.hid hob
  clear hob hbase
  go_loopw [16] (fun iv wr => ∃ (μ : Nat) (C' : Nat → Nat → Nat) (vs : List Value), μ ≤ 5 ∧ iv = .int .i64 μ ∧ Hid (QS w wr n ob base sb cb cap hb p C' vs L μ cnt T) ∧ Hid (∀ a m, a ≠ at_ → C' a m = C a m) ∧ Hid (∀ m, m < μ → C' at_ m = 1073741824)) (fun iv _ => 5 - (intOf iv).toNat)
  case atStart => exact ⟨0, C, _, by omega, rfl, HQ0.out, fun _ _ _ => rfl, fun m hm => by omega⟩
  case round =>
    clear HQ0
    obtain ⟨μ, C1, vs, hμ, rfl, hQ, hOff, hU⟩ := hrel
    by_cases hlt : μ < 5
    · have c1 := hQ.out.S.S.cc
      have c2 := hQ.out.S.S.cz at_ μ (by omega) hlt
      have c3 := hQ.out.S.F.2 (at_ * 5 + μ) (by omega)
      have hμ3 : (μ : Int) < 5 := by omega
      have HQ1 : Hid (QS w (wr.setCell ⟨cb, at_ * 5 + μ, none⟩ (.int .i64 1073741824)) n ob base sb cb cap hb p (updC C1 at_ μ 1073741824) vs L μ cnt T) := hQ.out.cost at_ μ 1073741824 (by omega) hlt (Nat.le_refl _)
      have HOff1 : Hid (∀ a m, a ≠ at_ → updC C1 at_ μ 1073741824 a m = C a m) := by
        show ∀ a m, _
        intro a m h
        rw [updC_off _ _ _ _ _ _ (fun e => h e.1)]; exact hOff.out a m h
      have HU1 : Hid (∀ m, m < μ + 1 → updC C1 at_ μ 1073741824 at_ m = 1073741824) := by
        show ∀ m, _
        intro m hm
        by_cases e : m = μ
        · subst e; exact updC_same _ _ _ _
        · rw [updC_off _ _ _ _ _ _ (fun h => e h.2)]; exact hU.out m (by omega)
      clear hQ hOff hU
      generalize updC C1 at_ μ 1073741824 = C2 at *
      go_wp2_with (go_at_call 179; refine (options_any at_ μ _ sb cb cap hb p C2 HQ1.out.S.S ha hlt).mono ?_; rintro e w6 ⟨v, rfl, ho⟩; obtain ⟨A6, c6, rfl⟩ := ownsRow_shape ho.O; have HQ2 := Lib.hid (HQ1.out.below ho.B); have HO2 := Lib.hid ho.O; have f1 := HQ2.out.F.2 μ hlt; have f2 := HQ2.out.A.2 μ (by rw [HQ2.out.l5]; exact hlt); generalize vs.getD μ undef = ov at *; clear ho)
      have HQ3 : Hid (QS w (w6.setCell ⟨ob, μ, none⟩ (.slice A6 (optK C2 p at_ μ 32).length c6)) n ob base sb cb cap hb p C2 (vs.set μ (.slice A6 (optK C2 p at_ μ 32).length c6)) L (μ + 1) cnt T) := by
        refine HQ2.out.slot _ hlt ?_
        have h9 := ownsRow_base HO2.out HQ1.out.n4
        have e9 := HLC.out C2 HOff1.out μ
        rw [← e9]; exact h9
      exact ⟨⟨μ + 1, C2, _, by omega, by go_num, HQ3.out, HOff1.out, HU1.out⟩, by simp [intOf]; omega⟩
    · have h5 : μ = 5 := by omega
      have HQ : Hid (QS w wr n ob base sb cb cap hb p C1 vs L 5 cnt T) := by rw [← h5]; exact hQ.out
      have HIV : Hid (InvC C1 L at_) := by
        show InvC _ _ _
        intro m hm
        exact .inl (hU.out m (by omega))
      clear hQ hU
      go_wp2
      clear hlt hμ h5
      go_loopw [6] (fun bv wr => ∃ (ch : Bool) (C' : Nat → Nat → Nat), bv = .bool ch ∧ Hid (QS w wr n ob base sb cb cap hb p C' vs L 5 cnt T) ∧ Hid (∀ a m, a ≠ at_ → C' a m = C a m) ∧ Hid (InvC C' L at_) ∧ Hid (ch = false → ∀ m, m < 5 → ∀ o ∈ L m, C' at_ m ≤ o.tot C')) (fun bv wr => 2 * sumW wr cb at_ + boolOf bv)
      case atStart => exact ⟨true, C1, rfl, HQ.out, hOff.out, HIV.out, fun h => by cases h⟩
      case round =>
        clear HQ HIV hOff
        obtain ⟨ch, C2, rfl, hQ, hOff, hIV, hFx⟩ := hrel
        cases ch with
        | true =>
          clear hFx
          have HSUM : Hid (sumW wr cb at_ = sumC C2 at_) := hQ.out.S.S.sum at_ (by omega)
          obtain ⟨sm, hsm⟩ : ∃ sm, sm = sumC C2 at_ := ⟨_, rfl⟩
          rw [← hsm] at HSUM
          have HSM := Lib.hid hsm
          clear hsm
          go_wp2_with ((with_reducible show wpList _ _ _ (⟨_, Op.load 219 _, _, _, _, _⟩ :: _) _ _); refine wpList_loadAgg rfl 219 _ rfl _ Tryz.underlying219 rfl ⟨ob, 0, none⟩ vs (by rw [hQ.out.l5]; exact optsSz) rfl (load_cells hQ.out.A) ?_)
          obtain ⟨wo, rfl⟩ : ∃ wo : World, wo = wr := ⟨_, rfl⟩
          go_loopw [6, 37] (fun bv iv wr => ∃ (i : Nat) (ch : Bool) (C' : Nat → Nat → Nat), i ≤ 5 ∧ iv = .int .i64 i ∧ bv = .bool ch ∧ Hid (QS w wr n ob base sb cb cap hb p C' vs L 5 cnt T) ∧ Hid (∀ a m, a ≠ at_ → C' a m = C a m) ∧ Hid (InvC C' L at_) ∧ Hid (ch = false → C' = C2 ∧ ∀ m, m < i → ∀ o ∈ L m, C' at_ m ≤ o.tot C') ∧ Hid (ch = true → sumC C' at_ < sm)) (fun _ iv _ => 5 - (intOf iv).toNat)
          case atStart => exact ⟨0, false, C2, by omega, rfl, rfl, hQ.out, hOff.out, hIV.out, fun _ => ⟨rfl, fun m hm => by omega⟩, fun h => by cases h⟩
          case round =>
            clear hQ hOff hIV
            obtain ⟨i, ch, C3, hi, rfl, rfl, hQ, hOff, hIV, hF, hT⟩ := hrel
            by_cases hlt : i < 5
            · obtain ⟨A, c, hrow, hcells⟩ := hQ.out.row i hlt
              have hrow2 : vs.toArray[i]? = some (.slice A (L i).length c) := by simpa using hrow
              have HROW := Lib.hid hrow
              obtain ⟨len, hlen⟩ : ∃ len, len = (L i).length := ⟨_, rfl⟩
              have HLEN := Lib.hid hlen
              have hlen3 : len ≤ 1024 := by rw [hlen, HL.out]; exact optK_len C p at_ i 32
              rw [← hlen] at hrow2
              have HCELLS : Hid (∀ j, j < len → ∃ g, A = some ⟨g, 0, none⟩ ∧ ∀ o, (L i)[j]? = some o → ∀ k u, o.vals[k]? = some u → wr.cell? ⟨g, j * 7 + k, none⟩ = some u) := by
                show ∀ j, _
                intro j hj
                obtain ⟨g, e, h⟩ := hcells j (by rw [← hlen]; exact hj)
                exact ⟨g, e, h wr (Below.refl _ _)⟩
              clear hcells hrow hlen HCELLS
              go_wp2_with ((with_reducible show wpList _ _ _ (⟨_, Op.index 219 _ _, _, _, _, _⟩ :: _) _ _); refine wpList_indexOne rfl 219 _ _ rfl 5 218 Tryz.underlying219 _ Tryz.underlying218 rfl osliceSz vs.toArray .i64 i i rfl rfl rfl hlt _ hrow2 ?_)
              go_loopw [6, 43] (fun bv iv wr => ∃ (j : Nat) (ch : Bool) (C' : Nat → Nat → Nat), j ≤ len ∧ iv = .int .i64 j ∧ bv = .bool ch ∧ Hid (QS w wr n ob base sb cb cap hb p C' vs L 5 cnt T) ∧ Hid (∀ a m, a ≠ at_ → C' a m = C a m) ∧ Hid (InvC C' L at_) ∧ Hid (ch = false → C' = C2 ∧ (∀ m, m < i → ∀ o ∈ L m, C' at_ m ≤ o.tot C') ∧ ∀ j', j' < j → ∀ o, (L i)[j']? = some o → C' at_ i ≤ o.tot C') ∧ Hid (ch = true → sumC C' at_ < sm)) (fun _ iv _ => len - (intOf iv).toNat)
              case atStart => exact ⟨0, ch, C3, Nat.zero_le _, rfl, rfl, hQ.out, hOff.out, hIV.out, fun h => ⟨(hF.out h).1, (hF.out h).2, fun j' h' => by omega⟩, hT.out⟩
              case round =>
                clear hQ hOff hIV hF hT
                obtain ⟨j, ch, C4, hj, rfl, rfl, hQ, hOff, hIV, hF, hT⟩ := hrel
                by_cases hlt2 : j < len
                · obtain ⟨A', c', hrow', hcells'⟩ := hQ.out.row i hlt
                  rw [HROW.out] at hrow'
                  obtain ⟨rfl, rfl⟩ : A = A' ∧ c = c' := by
                    have h9 := Option.some.inj hrow'
                    injection h9 with h7 h8 h6
                    exact ⟨h7, h6⟩
                  obtain ⟨g, rfl, hcell⟩ := hcells' j (by rw [← HLEN.out]; exact hlt2)
                  obtain ⟨o, ho⟩ : ∃ o, (L i)[j]? = some o := ⟨_, List.getElem?_eq_getElem (by rw [← HLEN.out]; exact hlt2)⟩
                  have HO := Lib.hid ho
                  have hmem : o ∈ L i := List.mem_of_getElem? ho
                  have HOK : Hid (okO p o) := HLK.out i hlt o hmem
                  have HM := Lib.hid hmem
                  have HLD : Hid (∀ k u, o.vals[k]? = some u → wr.cell? ((⟨g, j * 7, none⟩ : Addr).add k) = some u) := by
                    show ∀ k, _
                    intro k u hu
                    rw [add_plain]
                    exact hcell wr (Below.refl _ _) o ho k u hu
                  have HQA : Hid (∀ W, Abv wr W → QS w W n ob base sb cb cap hb p C4 vs L 5 cnt T) := fun W hW => hQ.out.below hW
                  clear hrow' hcells' ho hmem hcell hQ
                  obtain ⟨x1, hx1⟩ : ∃ x1, x1 = o.tot C4 := ⟨_, rfl⟩
                  obtain ⟨x2, hx2⟩ : ∃ x2, x2 = C4 at_ i := ⟨_, rfl⟩
                  have HX1 := Lib.hid hx1
                  have HX2 := Lib.hid hx2
                  have HX3 : Hid (x2 ≤ 1073741824) := by show _ ≤ _; rw [hx2]; exact (HQA.out wr (Below.refl _ _)).S.S.b _ _
                  have hi3 : (i : Int) < 5 := by omega
                  have HSLE : Hid (sumC C4 at_ ≤ sm) := by
                    show _ ≤ _
                    cases ch with
                    | true => exact Nat.le_of_lt (hT.out rfl)
                    | false => rw [(hF.out rfl).1, ← HSM.out]; exact Nat.le_refl _
                  clear hx1 hx2
                  by_cases hx : x1 < x2
                  · clear hF hT
                    go_wp2_with (first
                      | ((with_reducible show wpList _ _ _ (⟨_, Op.load 181 _, _, _, _, _⟩ :: _) _ _); first | refine wpList_loadAgg rfl 181 _ rfl _ Tryz.underlying181 rfl ⟨g, j * 7, none⟩ o.vals optSz rfl HLD.out ?_ | refine wpList_loadAgg rfl 181 _ rfl _ Tryz.underlying181 rfl ⟨wr.heap.size, 0, none⟩ o.vals optSz rfl (new_opt _ o _ _ rfl) ?_)
                      | ((with_reducible show wpList _ _ _ (⟨_, Op.alloc 181, _, _, _, _⟩ :: _) _ _); refine wpList_allocAgg rfl 181 rfl _ optInfo ?_)
                      | ((with_reducible show wpList _ _ _ (⟨_, Op.store 181 _ _, _, _, _, _⟩ :: _) _ _); refine wpList_storeNew rfl 181 _ _ rfl 181 _ o.vals rfl rfl optSz rfl o.one ?_)
                      | (go_at_call 180; refine (total_any o _ sb cb cap hb p C4 (HQA.out _ (bwA _ _)).S.S HOK.out.1 HOK.out.2.1 HOK.out.2.2.1).mono ?_; rintro e w6 ⟨rfl, hb6⟩; have HQ6 := Lib.hid (HQA.out w6 ((bwA _ _).trans (hb6.mono (by simp)))); have f1 := HQ6.out.S.S.cc; have f2 := HQ6.out.S.S.cz at_ i (by omega) hlt; have f3 := HQ6.out.S.F.2 (at_ * 5 + i) (by omega); rw [← HX2.out] at f2; rw [← HX1.out]; clear hb6))
                    have hx9 : o.tot C4 < C4 at_ i := by rw [← HX1.out, ← HX2.out]; exact hx
                    refine ⟨⟨j + 1, true, updC C4 at_ i x1, by omega, by go_num, rfl, HQ6.out.cost at_ i x1 (by omega) hlt (by have := HX3.out; omega), ?_, ?_, fun h => (by cases h), fun _ => ?_⟩, by simp [intOf]; omega⟩
                    · show ∀ a m, _
                      intro a m h
                      rw [updC_off _ _ _ _ _ _ (fun e => h e.1)]; exact hOff.out a m h
                    · have := hIV.out.upd HM.out hx9
                      rw [← HX1.out] at this
                      exact this
                    · have h9 := sumC_upd (C := C4) (a := at_) hlt hx9
                      rw [← HX1.out] at h9
                      exact Nat.lt_of_lt_of_le h9 HSLE.out
                  · go_wp2_with (first
                      | ((with_reducible show wpList _ _ _ (⟨_, Op.load 181 _, _, _, _, _⟩ :: _) _ _); first | refine wpList_loadAgg rfl 181 _ rfl _ Tryz.underlying181 rfl ⟨g, j * 7, none⟩ o.vals optSz rfl HLD.out ?_ | refine wpList_loadAgg rfl 181 _ rfl _ Tryz.underlying181 rfl ⟨wr.heap.size, 0, none⟩ o.vals optSz rfl (new_opt _ o _ _ rfl) ?_)
                      | ((with_reducible show wpList _ _ _ (⟨_, Op.alloc 181, _, _, _, _⟩ :: _) _ _); refine wpList_allocAgg rfl 181 rfl _ optInfo ?_)
                      | ((with_reducible show wpList _ _ _ (⟨_, Op.store 181 _ _, _, _, _, _⟩ :: _) _ _); refine wpList_storeNew rfl 181 _ _ rfl 181 _ o.vals rfl rfl optSz rfl o.one ?_)
                      | (go_at_call 180; refine (total_any o _ sb cb cap hb p C4 (HQA.out _ (bwA _ _)).S.S HOK.out.1 HOK.out.2.1 HOK.out.2.2.1).mono ?_; rintro e w6 ⟨rfl, hb6⟩; have HQ6 := Lib.hid (HQA.out w6 ((bwA _ _).trans (hb6.mono (by simp)))); have f1 := HQ6.out.S.S.cc; have f2 := HQ6.out.S.S.cz at_ i (by omega) hlt; have f3 := HQ6.out.S.F.2 (at_ * 5 + i) (by omega); rw [← HX2.out] at f2; rw [← HX1.out]; clear hb6))
                    have hx9 : C4 at_ i ≤ o.tot C4 := by rw [← HX1.out, ← HX2.out]; omega
                    exact ⟨⟨j + 1, ch, C4, by omega, by go_num, rfl, HQ6.out, hOff.out, hIV.out, fun h => ⟨(hF.out h).1, (hF.out h).2.1, seen_step (hF.out h).2.2 HO.out hx9⟩, hT.out⟩, by simp [intOf]; omega⟩
                · have hj2 : j = len := by omega
                  have HFF : Hid (ch = false → C4 = C2 ∧ ∀ m, m < i + 1 → ∀ o ∈ L m, C4 at_ m ≤ o.tot C4) := by
                    show _ → _
                    intro h
                    obtain ⟨h1, h2, h3⟩ := hF.out h
                    refine ⟨h1, fun m hm o ho => ?_⟩
                    rcases Nat.lt_or_ge m i with h4 | h4
                    · exact h2 m h4 o ho
                    · obtain rfl : m = i := by omega
                      obtain ⟨j', hj', e⟩ := List.getElem_of_mem ho
                      exact h3 j' (by rw [hj2, HLEN.out]; exact hj') o (by rw [List.getElem?_eq_getElem hj', e])
                  clear hF
                  subst hj2
                  go_wp2
                  exact ⟨⟨i + 1, ch, C4, by omega, by go_num, rfl, hQ.out, hOff.out, hIV.out, HFF.out, hT.out⟩, by simp [intOf]; omega⟩
            · have h5 : i = 5 := by omega
              have HF2 : Hid (ch = false → ∀ m, m < 5 → ∀ o ∈ L m, C3 at_ m ≤ o.tot C3) := fun h m hm => (hF.out h).2 m (by omega)
              have HME : Hid (2 * sumW wr cb at_ + boolOf (.bool ch) < 2 * sm + 1) := by
                show _ < _
                rw [hQ.out.S.S.sum at_ (by omega)]
                cases ch with
                | true => have := hT.out rfl; show 2 * _ + 1 < _; omega
                | false => rw [(hF.out rfl).1, ← HSM.out]; show 2 * _ + 0 < _; omega
              clear hF hT
              go_wp2
              refine ⟨⟨ch, C3, rfl, hQ.out, hOff.out, hIV.out, HF2.out⟩, ?_⟩
              show 2 * sumW wr cb at_ + boolOf (.bool ch) < 2 * sumW wo cb at_ + boolOf (.bool true)
              rw [HSUM.out]
              exact HME.out
        | false =>
          have HEQ : Hid (∀ m, optK C2 p at_ m 32 = L m) := HLC.out C2 hOff.out
          have HSP : Hid (SetPost C C2 p at_) := by
            refine ⟨hOff.out, fun m hm o ho => hFx.out rfl m hm o (by rw [HEQ.out m] at ho; exact ho), fun m hm => ?_⟩
            rcases hIV.out m hm with h1 | ⟨o, h1, h2⟩
            · exact .inl h1
            · exact .inr ⟨o, by rw [HEQ.out m]; exact h1, Nat.le_antisymm h2 (hFx.out rfl m hm o h1)⟩
          have HQT : Hid (QS w wr n ob base sb cb cap hb p C2 vs L 5 (cnt + 0) (TT C2 p at_ T 0)) := hQ.out.weak (by omega) (fun a m o _ _ h => TT.zero h)
          clear hFx hQ hOff hIV HLC HL
          go_wp2_with ((with_reducible show wpList _ _ _ (⟨_, Op.load 219 _, _, _, _, _⟩ :: _) _ _); refine wpList_loadAgg rfl 219 _ rfl _ Tryz.underlying219 rfl ⟨ob, 0, none⟩ vs (by rw [HQT.out.l5]; exact optsSz) rfl (load_cells HQT.out.A) ?_)
          go_loopw [73] (fun iv wr => ∃ (i : Nat), i ≤ 5 ∧ iv = .int .i64 i ∧ Hid (QS w wr n ob base sb cb cap hb p C2 vs L 5 (cnt + i) (TT C2 p at_ T i))) (fun iv _ => 5 - (intOf iv).toNat)
          case atStart => exact ⟨0, by omega, rfl, HQT.out⟩
          case round =>
            clear HQT
            obtain ⟨i, hi, rfl, hQ⟩ := hrel
            by_cases hlt : i < 5
            · obtain ⟨A, c, hrow, hcells⟩ := hQ.out.row i hlt
              have hrow2 : vs.toArray[i]? = some (.slice A (L i).length c) := by simpa using hrow
              have HROW := Lib.hid hrow
              obtain ⟨len, hlen⟩ : ∃ len, len = (L i).length := ⟨_, rfl⟩
              have HLEN := Lib.hid hlen
              have hlen3 : len ≤ 1024 := by rw [hlen, ← HEQ.out i]; exact optK_len C2 p at_ i 32
              rw [← hlen] at hrow2
              clear hcells hrow hlen
              go_wp2_with ((with_reducible show wpList _ _ _ (⟨_, Op.index 219 _ _, _, _, _, _⟩ :: _) _ _); refine wpList_indexOne rfl 219 _ _ rfl 5 218 Tryz.underlying219 _ Tryz.underlying218 rfl osliceSz vs.toArray .i64 i i rfl rfl rfl hlt _ hrow2 ?_)
              obtain ⟨wo, rfl⟩ : ∃ wo : World, wo = wr := ⟨_, rfl⟩
              go_loopw [79] (fun iv wr => ∃ (j : Nat), j ≤ len ∧ iv = .int .i64 j ∧ Hid (QS w wr n ob base sb cb cap hb p C2 vs L 5 (cnt + i) (TT C2 p at_ T i)) ∧ Hid (∀ j', j' < j → ∀ o, (L i)[j']? = some o → (o.tot C2 == C2 at_ i) = false)) (fun iv _ => len - (intOf iv).toNat)
              case atStart => exact ⟨0, Nat.zero_le _, rfl, hQ.out, fun j' h' => by omega⟩
              case round =>
                clear hQ
                obtain ⟨j, hj, rfl, hQ, hF⟩ := hrel
                by_cases hlt2 : j < len
                · obtain ⟨A', c', hrow', hcells'⟩ := hQ.out.row i hlt
                  rw [HROW.out] at hrow'
                  obtain ⟨rfl, rfl⟩ : A = A' ∧ c = c' := by
                    have h9 := Option.some.inj hrow'
                    injection h9 with h7 h8 h6
                    exact ⟨h7, h6⟩
                  obtain ⟨g, rfl, hcell⟩ := hcells' j (by rw [← HLEN.out]; exact hlt2)
                  obtain ⟨o, ho⟩ : ∃ o, (L i)[j]? = some o := ⟨_, List.getElem?_eq_getElem (by rw [← HLEN.out]; exact hlt2)⟩
                  have HO := Lib.hid ho
                  have hmem : o ∈ L i := List.mem_of_getElem? ho
                  have HOK : Hid (okO p o) := HLK.out i hlt o hmem
                  have HLD : Hid (∀ k u, o.vals[k]? = some u → wr.cell? ((⟨g, j * 7, none⟩ : Addr).add k) = some u) := by
                    show ∀ k, _
                    intro k u hu
                    rw [add_plain]
                    exact hcell wr (Below.refl _ _) o ho k u hu
                  have HST1 : Hid ((o.tot C2 == C2 at_ i) = true → stepF C2 p at_ i = some o) := by
                    show _ → _
                    intro h
                    unfold stepF
                    rw [HEQ.out i]
                    exact find_first hF.out ho h
                  have HST2 : Hid ((o.tot C2 == C2 at_ i) = false → ∀ j', j' < j + 1 → ∀ o, (L i)[j']? = some o → (o.tot C2 == C2 at_ i) = false) := by
                    show _ → _
                    intro h j' hj' o' ho'
                    rcases Nat.lt_or_ge j' j with h1 | h1
                    · exact hF.out j' h1 o' ho'
                    · obtain rfl : j' = j := by omega
                      rw [ho] at ho'
                      rw [← Option.some.inj ho']; exact h
                  clear hrow' hcells' ho hmem hcell hF
                  have HQX : Hid (QS w (wr.alloc (.cells o.vals.toArray 181)) n ob base sb cb cap hb p C2 vs L 5 (cnt + i) (TT C2 p at_ T i)) := hQ.out.below (bwA _ _)
                  have HCX : Hid (CellsAt (wr.alloc (.cells o.vals.toArray 181)) wr.heap.size o.vals) := CellsAt.new _ o.vals.toArray _ _ rfl
                  have HBN : Hid (hb ≠ wr.heap.size) := by show _ ≠ _; have := hQ.out.M.lt; omega
                  clear hQ
                  go_wp2_with (first
                    | ((with_reducible show wpList _ _ _ (⟨_, Op.load 181 _, _, _, _, _⟩ :: _) _ _); refine wpList_loadAgg rfl 181 _ rfl _ Tryz.underlying181 rfl ⟨g, j * 7, none⟩ o.vals optSz rfl HLD.out ?_)
                    | ((with_reducible show wpList _ _ _ (⟨_, Op.alloc 181, _, _, _, _⟩ :: _) _ _); refine wpList_allocAgg rfl 181 rfl _ optInfo ?_)
                    | ((with_reducible show wpList _ _ _ (⟨_, Op.store 181 _ _, _, _, _, _⟩ :: _) _ _); refine wpList_storeNew rfl 181 _ _ rfl 181 _ o.vals rfl rfl optSz rfl o.one ?_))
                  generalize wr.alloc (.cells o.vals.toArray 181) = X at *
                  generalize wr.heap.size = b15 at *
                  obtain ⟨x2, hx2⟩ : ∃ x2, x2 = C2 at_ i := ⟨_, rfl⟩
                  have HX2 := Lib.hid hx2
                  have hi3 : (i : Int) < 5 := by omega
                  have CFX : Hid (∀ W, Abv X W → W.cell? ⟨sb, 481, none⟩ = some (.slice (some ⟨cb, 0, none⟩) (p.size + 1) cap) ∧ W.cell? ⟨cb, at_ * 5 + i, none⟩ = some (.int .i64 (x2 : Int))) := by
                    show ∀ W, _
                    intro W hW
                    have h9 := (HQX.out.below hW).S.S
                    exact ⟨h9.cc, by rw [hx2]; exact h9.cz at_ i (by omega) hlt⟩
                  clear hx2
                  obtain ⟨x1, hx1⟩ : ∃ x1, x1 = o.tot C2 := ⟨_, rfl⟩
                  have HX1 := Lib.hid hx1
                  clear hx1
                  by_cases hx : x1 = x2
                  · have HST := Lib.hid (HST1.out (by rw [← HX1.out, ← HX2.out, hx]; simp))
                    have z1 : ((x1 : Int) == (x2 : Int)) = true := by rw [beq_iff_eq]; omega
                    clear HST1 HST2 hx
                    refine wp_region_W (S := Abv X) [(false, 0), (false, 1), (false, 3), (false, 4), (false, 5), (false, 6), (false, 7), (false, 8), (false, 9), (false, 10), (false, 11), (true, 2), (false, 12)] (by kernel_rfl) (by kernel_rfl) (bwDrew (Below.refl _ _)) ?_
                    simp only [attachW, List.getElem?_cons_zero, List.getElem?_cons_succ]
                    refine' wpHX_val rfl (fun W hW => ?_) ?_
                    rotate_left
                    · have hcf := CFX.out W hW; go_simp; rfl
                    simp only [Act.put, List.setIfInBounds_toArray, List.set_cons_zero, List.set_cons_succ]
                    refine' wpHX_val rfl (fun W hW => exec_loadAgg 181 _ Tryz.underlying181 rfl rfl b15 o.vals optSz rfl (HCX.out.below hW)) ?_
                    simp only [Act.put, List.setIfInBounds_toArray, List.set_cons_zero, List.set_cons_succ]
                    refine' wpHX_val rfl (fun W hW => ?_) ?_
                    rotate_left
                    · have hcf := CFX.out W hW; go_simp; rfl
                    simp only [Act.put, List.setIfInBounds_toArray, List.set_cons_zero, List.set_cons_succ]
                    refine' wpHX_val rfl (fun W hW => ?_) ?_
                    rotate_left
                    · have hcf := CFX.out W hW; go_simp; rfl
                    simp only [Act.put, List.setIfInBounds_toArray, List.set_cons_zero, List.set_cons_succ]
                    refine' wpHX_val rfl (fun W hW => ?_) ?_
                    rotate_left
                    · have hcf := CFX.out W hW; go_simp; rfl
                    simp only [Act.put, List.setIfInBounds_toArray, List.set_cons_zero, List.set_cons_succ]
                    refine' wpHX_val rfl (fun W hW => ?_) ?_
                    rotate_left
                    · have hcf := CFX.out W hW; go_simp; rfl
                    simp only [Act.put, List.setIfInBounds_toArray, List.set_cons_zero, List.set_cons_succ]
                    refine' wpHX_val rfl (fun W hW => ?_) ?_
                    rotate_left
                    · have hcf := CFX.out W hW; go_simp; rfl
                    simp only [Act.put, List.setIfInBounds_toArray, List.set_cons_zero, List.set_cons_succ]
                    refine' wpHX_val rfl (fun W hW => ?_) ?_
                    rotate_left
                    · have hcf := CFX.out W hW; go_simp; rfl
                    simp only [Act.put, List.setIfInBounds_toArray, List.set_cons_zero, List.set_cons_succ]
                    refine' wpHX_val rfl (fun W hW => ?_) ?_
                    rotate_left
                    · have hcf := CFX.out W hW; go_simp; rfl
                    simp only [Act.put, List.setIfInBounds_toArray, List.set_cons_zero, List.set_cons_succ]
                    refine' wpHX_val rfl (fun W hW => ?_) ?_
                    rotate_left
                    · have hcf := CFX.out W hW; go_simp; rfl
                    simp only [Act.put, List.setIfInBounds_toArray, List.set_cons_zero, List.set_cons_succ]
                    refine' wpHX_val rfl (fun W hW => ?_) ?_
                    rotate_left
                    · have hcf := CFX.out W hW; go_simp; rfl
                    simp only [Act.put, List.setIfInBounds_toArray, List.set_cons_zero, List.set_cons_succ]
                    refine' wpHX_acall rfl (fun W => ?_) ?_
                    rotate_left 2
                    · go_simp; exact ⟨rfl, rfl⟩
                    refine (total_any o _ sb cb cap hb p C2 (HQX.out.below (bwDrew (Below.refl _ _))).S.S HOK.out.1 HOK.out.2.1 HOK.out.2.2.1).mono ?_
                    rintro e w6 ⟨rfl, hb6⟩
                    rw [← HX1.out]
                    have HB6 : Hid (Abv X w6) := (bwDrew (Below.refl _ _)).trans hb6
                    clear hb6
                    refine ⟨_, rfl, HB6.out, ?_⟩
                    simp only [Act.put, List.setIfInBounds_toArray, List.set_cons_zero, List.set_cons_succ]
                    refine' wpHX_val rfl (fun W hW => ?_) ?_
                    rotate_left
                    · have hcf := CFX.out W hW; go_simp; rfl
                    simp only [Act.put, List.setIfInBounds_toArray, List.set_cons_zero, List.set_cons_succ]
                    refine wpHX_nil ?_
                    have HQ6 : Hid (QS w w6 n ob base sb cb cap hb p C2 vs L 5 (cnt + i) (TT C2 p at_ T i)) := HQX.out.below HB6.out
                    have HC6 : Hid (CellsAt w6 b15 o.vals) := HCX.out.below HB6.out
                    clear HQX HCX CFX HB6
                    go_wp2
                    have CF7 : Hid (∀ W, (W.cell? ⟨sb, 482, none⟩ = some (.map (some hb)) ∧ CellsAt W b15 o.vals) → W.cell? ⟨sb, 482, none⟩ = some (.map (some hb))) := fun W hW => hW.1
                    refine wp_region_W (S := (fun W => W.cell? ⟨sb, 482, none⟩ = some (.map (some hb)) ∧ CellsAt W b15 o.vals)) [(false, 0), (false, 1), (false, 2), (false, 3), (false, 4), (false, 5), (false, 7), (true, 6), (true, 8)] (by kernel_rfl) (by kernel_rfl) ⟨HQ6.out.S.S.cm, HC6.out.drew⟩ ?_
                    simp only [attachW, List.getElem?_cons_zero, List.getElem?_cons_succ]
                    refine' wpHX_val rfl (fun W hW => ?_) ?_
                    rotate_left
                    · have hcf := CF7.out W hW; go_simp; rfl
                    simp only [Act.put, List.setIfInBounds_toArray, List.set_cons_zero, List.set_cons_succ]
                    refine' wpHX_val rfl (fun W hW => ?_) ?_
                    rotate_left
                    · have hcf := CF7.out W hW; go_simp; rfl
                    simp only [Act.put, List.setIfInBounds_toArray, List.set_cons_zero, List.set_cons_succ]
                    refine' wpHX_val rfl (fun W hW => ?_) ?_
                    rotate_left
                    · have hcf := CF7.out W hW; go_simp; rfl
                    simp only [Act.put, List.setIfInBounds_toArray, List.set_cons_zero, List.set_cons_succ]
                    refine' wpHX_val rfl (fun W hW => ?_) ?_
                    rotate_left
                    · have hcf := CF7.out W hW; go_simp; rfl
                    simp only [Act.put, List.setIfInBounds_toArray, List.set_cons_zero, List.set_cons_succ]
                    refine' wpHX_val rfl (fun W hW => ?_) ?_
                    rotate_left
                    · have hcf := CF7.out W hW; go_simp; rfl
                    simp only [Act.put, List.setIfInBounds_toArray, List.set_cons_zero, List.set_cons_succ]
                    refine' wpHX_val rfl (fun W hW => ?_) ?_
                    rotate_left
                    · have hcf := CF7.out W hW; go_simp; rfl
                    simp only [Act.put, List.setIfInBounds_toArray, List.set_cons_zero, List.set_cons_succ]
                    refine' wpHX_val rfl (fun W hW => exec_loadAgg 181 _ Tryz.underlying181 rfl rfl b15 o.vals optSz rfl hW.2) ?_
                    simp only [Act.put, List.setIfInBounds_toArray, List.set_cons_zero, List.set_cons_succ]
                    refine' wpHX_aval (v := .agg #[.int .i64 (at_ : Int), .int .i64 (i : Int)]) (w' := w6.drew) rfl (by go_simp) ⟨HQ6.out.S.S.cm, HC6.out.drew⟩ ?_
                    simp only [Act.put, List.setIfInBounds_toArray, List.set_cons_zero, List.set_cons_succ]
                    refine' wpHX_mapUpd (HQ6.out.below (bwDrew (Below.refl _ _))).M rfl _ _ _ rfl rfl at_ i rfl o rfl (by omega) hlt (by unfold maxLen; omega) ?_
                    intro w7 hM7 hg7
                    have HQ7 : Hid (QS w w7 n ob base sb cb cap hb p C2 vs L 5 (cnt + i + 1) (updT (TT C2 p at_ T i) at_ i o)) := (HQ6.out.below (bwDrew (Below.refl _ _))).put hg7 hM7
                    refine ⟨⟨HQ7.out.S.S.cm, HC6.out.drew.grown hg7 (fun q hq => by injection hq with hq; rw [← hq]; exact HBN.out)⟩, ?_⟩
                    have HQ8 : Hid (QS w w7 n ob base sb cb cap hb p C2 vs L 5 (cnt + (i + 1)) (TT C2 p at_ T (i + 1))) := HQ7.out.weak (by omega) (fun a m o _ _ h => TT.some_ HST.out h)
                    clear HQ6 HC6 HQ7 CF7 hM7 hg7
                    simp only [Act.put]
                    refine wpHX_nil ?_
                    go_wp2
                    exact ⟨⟨i + 1, by omega, by go_num, HQ8.out⟩, by simp [intOf]; omega⟩
                  · have HST := Lib.hid (HST2.out (by rw [← HX1.out, ← HX2.out, beq_eq_false_iff_ne]; exact hx))
                    have z1 : ((x1 : Int) == (x2 : Int)) = false := by rw [beq_eq_false_iff_ne]; omega
                    clear HST1 HST2 hx
                    refine wp_region_W (S := Abv X) [(false, 0), (false, 1), (false, 3), (false, 4), (false, 5), (false, 6), (false, 7), (false, 8), (false, 9), (false, 10), (false, 11), (true, 2), (false, 12)] (by kernel_rfl) (by kernel_rfl) (bwDrew (Below.refl _ _)) ?_
                    simp only [attachW, List.getElem?_cons_zero, List.getElem?_cons_succ]
                    refine' wpHX_val rfl (fun W hW => ?_) ?_
                    rotate_left
                    · have hcf := CFX.out W hW; go_simp; rfl
                    simp only [Act.put, List.setIfInBounds_toArray, List.set_cons_zero, List.set_cons_succ]
                    refine' wpHX_val rfl (fun W hW => exec_loadAgg 181 _ Tryz.underlying181 rfl rfl b15 o.vals optSz rfl (HCX.out.below hW)) ?_
                    simp only [Act.put, List.setIfInBounds_toArray, List.set_cons_zero, List.set_cons_succ]
                    refine' wpHX_val rfl (fun W hW => ?_) ?_
                    rotate_left
                    · have hcf := CFX.out W hW; go_simp; rfl
                    simp only [Act.put, List.setIfInBounds_toArray, List.set_cons_zero, List.set_cons_succ]
                    refine' wpHX_val rfl (fun W hW => ?_) ?_
                    rotate_left
                    · have hcf := CFX.out W hW; go_simp; rfl
                    simp only [Act.put, List.setIfInBounds_toArray, List.set_cons_zero, List.set_cons_succ]
                    refine' wpHX_val rfl (fun W hW => ?_) ?_
                    rotate_left
                    · have hcf := CFX.out W hW; go_simp; rfl
                    simp only [Act.put, List.setIfInBounds_toArray, List.set_cons_zero, List.set_cons_succ]
                    refine' wpHX_val rfl (fun W hW => ?_) ?_
                    rotate_left
                    · have hcf := CFX.out W hW; go_simp; rfl
                    simp only [Act.put, List.setIfInBounds_toArray, List.set_cons_zero, List.set_cons_succ]
                    refine' wpHX_val rfl (fun W hW => ?_) ?_
                    rotate_left
                    · have hcf := CFX.out W hW; go_simp; rfl
                    simp only [Act.put, List.setIfInBounds_toArray, List.set_cons_zero, List.set_cons_succ]
                    refine' wpHX_val rfl (fun W hW => ?_) ?_
                    rotate_left
                    · have hcf := CFX.out W hW; go_simp; rfl
                    simp only [Act.put, List.setIfInBounds_toArray, List.set_cons_zero, List.set_cons_succ]
                    refine' wpHX_val rfl (fun W hW => ?_) ?_
                    rotate_left
                    · have hcf := CFX.out W hW; go_simp; rfl
                    simp only [Act.put, List.setIfInBounds_toArray, List.set_cons_zero, List.set_cons_succ]
                    refine' wpHX_val rfl (fun W hW => ?_) ?_
                    rotate_left
                    · have hcf := CFX.out W hW; go_simp; rfl
                    simp only [Act.put, List.setIfInBounds_toArray, List.set_cons_zero, List.set_cons_succ]
                    refine' wpHX_val rfl (fun W hW => ?_) ?_
                    rotate_left
                    · have hcf := CFX.out W hW; go_simp; rfl
                    simp only [Act.put, List.setIfInBounds_toArray, List.set_cons_zero, List.set_cons_succ]
                    refine' wpHX_acall rfl (fun W => ?_) ?_
                    rotate_left 2
                    · go_simp; exact ⟨rfl, rfl⟩
                    refine (total_any o _ sb cb cap hb p C2 (HQX.out.below (bwDrew (Below.refl _ _))).S.S HOK.out.1 HOK.out.2.1 HOK.out.2.2.1).mono ?_
                    rintro e w6 ⟨rfl, hb6⟩
                    rw [← HX1.out]
                    have HB6 : Hid (Abv X w6) := (bwDrew (Below.refl _ _)).trans hb6
                    clear hb6
                    refine ⟨_, rfl, HB6.out, ?_⟩
                    simp only [Act.put, List.setIfInBounds_toArray, List.set_cons_zero, List.set_cons_succ]
                    refine' wpHX_val rfl (fun W hW => ?_) ?_
                    rotate_left
                    · have hcf := CFX.out W hW; go_simp; rfl
                    simp only [Act.put, List.setIfInBounds_toArray, List.set_cons_zero, List.set_cons_succ]
                    refine wpHX_nil ?_
                    have HQ6 : Hid (QS w w6 n ob base sb cb cap hb p C2 vs L 5 (cnt + i) (TT C2 p at_ T i)) := HQX.out.below HB6.out
                    have HC6 : Hid (CellsAt w6 b15 o.vals) := HCX.out.below HB6.out
                    clear HQX HCX CFX HB6
                    go_wp2
                    exact ⟨⟨j + 1, by omega, by go_num, HQ6.out, HST.out⟩, by simp [intOf]; omega⟩
                · have hj2 : j = len := by omega
                  have HNN : Hid (stepF C2 p at_ i = none) := by
                    show _ = _
                    unfold stepF
                    rw [HEQ.out i]
                    exact find_none (fun j' hj' => hF.out j' (by rw [hj2, HLEN.out]; exact hj'))
                  have HQ8 : Hid (QS w wr n ob base sb cb cap hb p C2 vs L 5 (cnt + (i + 1)) (TT C2 p at_ T (i + 1))) := hQ.out.weak (by omega) (fun a m o _ _ h => TT.none_ HNN.out h)
                  clear hQ hF
                  go_wp2
                  exact ⟨⟨i + 1, by omega, by go_num, HQ8.out⟩, by simp [intOf]; omega⟩
            · have h5 : i = 5 := by omega
              have HR : Hid (SQ wr sb cb cap hb p C2 ∧ SetPost C C2 p at_ ∧ MapIs wr hb (cnt + 5) (fun a m => if a = at_ then stepF C2 p at_ m else T a m) ∧ Below n w wr) := by
                have h9 := hQ.out
                rw [h5] at h9
                refine ⟨h9.S, HSP.out, h9.M.weak (Nat.le_refl _) (fun a m o _ hm h => ?_), h9.B⟩
                unfold TT
                by_cases e : a = at_
                · rw [if_pos e] at h ⊢; rw [if_pos hm]; exact h
                · rw [if_neg e] at h ⊢; exact h
              clear hQ HSP HEQ
              go_wp2
              refine bodyPost_end (results_none rfl _ _ _) rfl ?_
              exact ⟨rfl, C2, HR.out⟩
end Go.Proofs.YtmnlkganmgcpbaaGreatDoor
