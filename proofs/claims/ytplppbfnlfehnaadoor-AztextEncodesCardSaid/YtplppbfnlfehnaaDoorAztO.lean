import Derived.Test.YtplppbfnlfehnaaDoorAztN
import Derived.Maps.OwnOps
namespace Go.Proofs.YtplppbfnlfehnaaDoor
open Go.RowKit Go.WideMaps Go.Maps
set_option linter.unusedVariables false
/-! cells that may be written -/
def FZ (W : World) (b n : Nat) : Prop := b < W.heap.size ∧ ∀ i, i < n → W.frozen? ⟨b, i, none⟩ = false
theorem FZ.below {W W' : World} {b n : Nat} (h : FZ W b n) (hb : Below W.heap.size W W') : FZ W' b n := ⟨Nat.lt_of_lt_of_le h.1 hb.size, fun i hi => (hb.frozen h.1).trans (h.2 i hi)⟩
theorem FZ.set {W : World} {b n : Nat} (h : FZ W b n) (a : Addr) (u : Value) : FZ (W.setCell a u) b n := ⟨by simpa using h.1, fun i hi => by rw [World.frozen?_setCell]; exact h.2 i hi⟩
theorem FZ.grown {W W' : World} {b n : Nat} {row : Option Nat} (h : FZ W b n) (hg : W.grownBy W' row) (hne : some b ≠ row) : FZ W' b n := ⟨Nat.lt_of_lt_of_le h.1 hg.size, fun i hi => (hg.frozen_far ⟨b, i, none⟩ h.1 hne).trans (h.2 i hi)⟩
theorem FZ.new (W : World) (xs : Array Value) (t : TypeId) (b n : Nat) (hb : b = W.heap.size) : FZ (W.alloc (.cells xs t)) b n := ⟨by simp; omega, fun i _ => World.frozen?_alloc_at _ _ _ _ hb⟩
theorem CellsAt.set {W : World} {b : Nat} {vs : List Value} (h : CellsAt W b vs) (i : Nat) (u : Value) (hi : i < vs.length) : CellsAt (W.setCell ⟨b, i, none⟩ u) b (vs.set i u) := by
  refine ⟨by simpa using h.1, fun j hj => ?_⟩
  rw [List.length_set] at hj
  by_cases e : j = i
  · subst e
    rw [World.cell?_setCell_same W _ _ (h.2 j hj)]
    simp [List.getD, hi]
  · rw [World.cell?_setCell_other W _ _ _ (fun h2 => e (by injection h2 with _ h3; exact h3.symm)), h.2 j hj]
    simp [List.getD, Ne.symm e]
/-! costs that fall -/
def updC (C : Nat → Nat → Nat) (a m x : Nat) : Nat → Nat → Nat := fun a' m' => if a' = a ∧ m' = m then x else C a' m'
theorem updC_same (C : Nat → Nat → Nat) (a m x : Nat) : updC C a m x a m = x := if_pos ⟨rfl, rfl⟩
theorem updC_off (C : Nat → Nat → Nat) (a m x a' m' : Nat) (h : ¬ (a' = a ∧ m' = m)) : updC C a m x a' m' = C a' m' := if_neg h
def sumC (C : Nat → Nat → Nat) (a : Nat) : Nat := C a 0 + C a 1 + C a 2 + C a 3 + C a 4
theorem sumC_upd {C : Nat → Nat → Nat} {a m x : Nat} (hm : m < 5) (hx : x < C a m) : sumC (updC C a m x) a < sumC C a := by
  have h5 : m = 0 ∨ m = 1 ∨ m = 2 ∨ m = 3 ∨ m = 4 := by omega
  unfold sumC
  rcases h5 with rfl | rfl | rfl | rfl | rfl <;> simp only [updC] <;> simp <;> omega
/-- every cost is none yet or that of an option -/
def InvC (C : Nat → Nat → Nat) (L : Nat → List Opt) (a : Nat) : Prop := ∀ m, m < 5 → C a m = 1073741824 ∨ ∃ o ∈ L m, o.tot C ≤ C a m
theorem tot_mono {C C' : Nat → Nat → Nat} (h : ∀ a m, C' a m ≤ C a m) (o : Opt) : o.tot C' ≤ o.tot C := Nat.add_le_add_left (h _ _) _
theorem updC_le {C : Nat → Nat → Nat} {a m x : Nat} (hx : x ≤ C a m) : ∀ a' m', updC C a m x a' m' ≤ C a' m' := by
  intro a' m'
  by_cases h : a' = a ∧ m' = m
  · obtain ⟨rfl, rfl⟩ := h; rw [updC_same]; exact hx
  · rw [updC_off _ _ _ _ _ _ h]; exact Nat.le_refl _
theorem InvC.upd {C : Nat → Nat → Nat} {L : Nat → List Opt} {a m : Nat} (h : InvC C L a) {o : Opt} (ho : o ∈ L m) (hlt : o.tot C < C a m) : InvC (updC C a m (o.tot C)) L a := by
  intro m' hm'
  have hle := updC_le (C := C) (a := a) (m := m) (x := o.tot C) (Nat.le_of_lt hlt)
  by_cases e : m' = m
  · subst e
    right
    exact ⟨o, ho, by rw [updC_same]; exact tot_mono hle o⟩
  · rw [updC_off _ _ _ _ _ _ (fun h => e h.2)]
    rcases h m' hm' with h1 | ⟨o', h1, h2⟩
    · exact .inl h1
    · exact .inr ⟨o', h1, Nat.le_trans (tot_mono hle o') h2⟩
/-! options look at the costs of later places alone -/
theorem tryO_congr {C C' : Nat → Nat → Nat} {num at_ m : Nat} {best : Opt} {n sz : Nat} {lg : Bool} (h : ∀ a m, at_ < a → C a m = C' a m) (hn : 0 < n) (hb : best.run = 0 ∨ at_ < best.at_) : tryO C num at_ m best n sz lg = tryO C' num at_ m best n sz lg := by
  have e1 : Opt.tot C ⟨num, -1, n, lg, sz + 8 * n, at_ + n, m⟩ = Opt.tot C' ⟨num, -1, n, lg, sz + 8 * n, at_ + n, m⟩ := by
    unfold Opt.tot; rw [h _ _ (by show at_ < at_ + n; omega)]
  unfold tryO
  rcases hb with hb | hb
  · rw [if_pos (.inl hb), if_pos (.inl hb)]
  · have e2 : best.tot C = best.tot C' := by unfold Opt.tot; rw [h _ _ hb]
    rw [e1, e2]
theorem tryO_run {C : Nat → Nat → Nat} {num at_ m : Nat} {best : Opt} {n sz : Nat} {lg : Bool} (hn : 0 < n) (hb : best.run = 0 ∨ at_ < best.at_) : at_ < (tryO C num at_ m best n sz lg).at_ := by
  unfold tryO
  split
  · show at_ < at_ + n; omega
  · rename_i h
    rcases hb with hb | hb
    · exact absurd (.inl hb) h
    · exact hb
theorem bLong_run {C : Nat → Nat → Nat} {num at_ m : Nat} : ∀ k, (bLong C num at_ m k).run = 0 ∨ at_ < (bLong C num at_ m k).at_
  | 0 => .inl rfl
  | k + 1 => .inr (tryO_run (by omega) (bLong_run k))
theorem bLong_congr {C C' : Nat → Nat → Nat} {num at_ m : Nat} (h : ∀ a m, at_ < a → C a m = C' a m) : ∀ k, bLong C num at_ m k = bLong C' num at_ m k
  | 0 => rfl
  | k + 1 => by
    show tryO C _ _ _ _ _ _ _ = tryO C' _ _ _ _ _ _ _
    rw [tryO_congr h (by omega) (bLong_run k), bLong_congr h k]
theorem bShort_run {C : Nat → Nat → Nat} {num at_ m K : Nat} : ∀ k, (bShort C num at_ m K k).run = 0 ∨ at_ < (bShort C num at_ m K k).at_
  | 0 => bLong_run K
  | k + 1 => .inr (tryO_run (by omega) (bShort_run k))
theorem bShort_congr {C C' : Nat → Nat → Nat} {num at_ m K : Nat} (h : ∀ a m, at_ < a → C a m = C' a m) : ∀ k, bShort C num at_ m K k = bShort C' num at_ m K k
  | 0 => bLong_congr h K
  | k + 1 => by
    show tryO C _ _ _ _ _ _ _ = tryO C' _ _ _ _ _ _ _
    rw [tryO_congr h (by omega) (bShort_run k), bShort_congr h k]
theorem optN_congr {C C' : Nat → Nat → Nat} {p : ByteArray} {at_ m n : Nat} (h : ∀ a m, at_ < a → C a m = C' a m) : optN C p at_ m n = optN C' p at_ m n := by
  unfold optN binOpt
  rw [bShort_congr h]
theorem optK_congr {C C' : Nat → Nat → Nat} {p : ByteArray} {at_ m : Nat} (h : ∀ a m, at_ < a → C a m = C' a m) : ∀ k, optK C p at_ m k = optK C' p at_ m k
  | 0 => rfl
  | k + 1 => by
    unfold optK
    rw [optK_congr h k, optN_congr h]
theorem bShort_at {C : Nat → Nat → Nat} {num at_ m K : Nat} : ∀ k, at_ ≤ (bShort C num at_ m K k).at_ := by
  have h1 : ∀ k, at_ ≤ (bLong C num at_ m k).at_ := fun k => by
    cases k with
    | zero => exact Nat.le_refl _
    | succ k => exact Nat.le_of_lt (tryO_run (by omega) (bLong_run k))
  intro k
  cases k with
  | zero => exact h1 K
  | succ k => exact Nat.le_of_lt (tryO_run (by omega) (bShort_run k))
theorem optN_at {C : Nat → Nat → Nat} {p : ByteArray} {at_ m n : Nat} {o : Opt} (ho : o ∈ optN C p at_ m n) : at_ ≤ o.at_ := by
  unfold optN at ho
  split at ho
  · split at ho
    · rw [List.mem_singleton] at ho; subst ho; exact Nat.le_add_right _ _
    · cases ho
  split at ho
  · rw [List.mem_singleton] at ho; subst ho; exact Nat.le_refl _
  split at ho
  · have key : ∀ k, o ∈ optSK p at_ m n (modeF m n) k → at_ ≤ o.at_ := by
      intro k
      induction k with
      | zero => intro h; cases h
      | succ k ih =>
        intro h
        unfold optSK at h
        rw [List.mem_append] at h
        rcases h with h | h
        · exact ih h
        · unfold optS at h
          split at h
          · rw [List.mem_singleton] at h; subst h; exact Nat.le_add_right _ _
          · cases h
    exact key 32 ho
  split at ho
  · rw [List.mem_singleton] at ho; subst ho; exact bShort_at _
  · cases ho
theorem optK_at {C : Nat → Nat → Nat} {p : ByteArray} {at_ m : Nat} {o : Opt} : ∀ k, o ∈ optK C p at_ m k → at_ ≤ o.at_ := by
  intro k
  induction k with
  | zero => intro h; cases h
  | succ k ih =>
    intro h
    unfold optK at h
    rw [List.mem_append] at h
    rcases h with h | h
    · exact ih h
    · exact optN_at h
/-! the options' bounds -/
theorem preB_le {p t : ByteArray} {at_ : Nat} (h : preB p at_ t = true) (ha : at_ ≤ p.size) : at_ + t.size ≤ p.size := by
  unfold preB Lib.hasPrefix at h
  rw [List.isPrefixOf_iff_prefix] at h
  have h1 := h.length_le
  have e1 : t.data.toList.length = t.size := by simp
  have e2 : (p.extract at_ p.size).data.toList.length = p.size - at_ := by
    show (p.extract at_ p.size).data.toList.length = _
    rw [Array.length_toList]
    show (p.extract at_ p.size).size = _
    rw [ByteArray.size_extract]; omega
  omega
theorem okO_opt {C : Nat → Nat → Nat} {p : ByteArray} {at_ m n : Nat} (ha : at_ < p.size) (hp : p.size ≤ 4096) (hm : m < 5) {o : Opt} (ho : o ∈ optN C p at_ m n) : okO p o := by
  have w1 := widthN_le m
  unfold optN at ho
  split at ho
  · split at ho
    · rename_i h1 h2
      rw [List.mem_singleton] at ho
      subst ho
      exact ⟨preB_le h2 (by omega), hm, by show widthN m ≤ _; omega, by show 0 ≤ _; omega⟩
    · cases ho
  split at ho
  · rw [List.mem_singleton] at ho
    subst ho
    exact ⟨by show at_ ≤ _; omega, modeF_lt _ _, by show widthN m ≤ _; omega, by show 0 ≤ _; omega⟩
  split at ho
  · have key : ∀ k, o ∈ optSK p at_ m n (modeF m n) k → okO p o := by
      intro k
      induction k with
      | zero => intro h; cases h
      | succ k ih =>
        intro h
        unfold optSK at h
        rw [List.mem_append] at h
        rcases h with h | h
        · exact ih h
        · unfold optS at h
          split at h
          · rename_i h2
            rw [List.mem_singleton] at h
            subst h
            have w2 := widthN_le (modeF m n)
            exact ⟨preB_le h2.2 (by omega), hm, by show widthN m + widthN (modeF m n) ≤ _; omega, by show 0 ≤ _; omega⟩
          · cases h
    exact key 32 ho
  split at ho
  · rw [List.mem_singleton] at ho
    subst ho
    unfold binOpt
    exact bShort_ok _ (by omega) hm hp (by omega) _ (by omega)
  · cases ho
theorem okO_all {C : Nat → Nat → Nat} {p : ByteArray} {at_ m : Nat} (ha : at_ < p.size) (hp : p.size ≤ 4096) (hm : m < 5) {o : Opt} : ∀ k, o ∈ optK C p at_ m k → okO p o := by
  intro k
  induction k with
  | zero => intro h; cases h
  | succ k ih =>
    intro h
    unfold optK at h
    rw [List.mem_append] at h
    rcases h with h | h
    · exact ih h
    · exact okO_opt ha hp hm h
theorem flat_vals_len (l : List Opt) : (l.flatMap Opt.vals).length = l.length * 7 := by
  induction l with
  | nil => rfl
  | cons o l ih => rw [List.flatMap_cons, List.length_append, ih, List.length_cons]; show 7 + _ = _; omega
theorem flat_vals_get : ∀ (l : List Opt) (j k : Nat) (o : Opt), l[j]? = some o → k < 7 → (l.flatMap Opt.vals)[j * 7 + k]? = o.vals[k]?
  | [], j, k, o, h, hk => by simp at h
  | x :: l, 0, k, o, h, hk => by
    simp only [List.getElem?_cons_zero, Option.some.injEq] at h
    subst h
    rw [List.flatMap_cons, List.getElem?_append_left (by show 0 * 7 + k < 7; omega)]
    simp
  | x :: l, j + 1, k, o, h, hk => by
    rw [List.flatMap_cons, List.getElem?_append_right (by show 7 ≤ _; omega)]
    rw [← flat_vals_get l j k o (by simpa using h) hk]
    congr 1
    show (j + 1) * 7 + k - 7 = _
    omega
/-! the search's memory, its cost cells writable -/
structure SQ (w : World) (sb cb cap hb : Nat) (p : ByteArray) (C : Nat → Nat → Nat) : Prop where
  S : SW w sb cb cap hb p C
  F : FZ w cb (5 * (p.size + 1))
  n1 : sb ≠ cb
  n2 : hb ≠ sb
  n3 : hb ≠ cb
theorem SQ.below {w W : World} {sb cb cap hb : Nat} {p : ByteArray} {C : Nat → Nat → Nat} (h : SQ w sb cb cap hb p C) (hW : Below w.heap.size w W) : SQ W sb cb cap hb p C := ⟨h.S.below hW, h.F.below hW, h.n1, h.n2, h.n3⟩
theorem SQ.set {w : World} {sb cb cap hb : Nat} {p : ByteArray} {C : Nat → Nat → Nat} (h : SQ w sb cb cap hb p C) (a m x : Nat) (ha : a ≤ p.size) (hm : m < 5) (hx : x ≤ 1073741824) :
    SQ (w.setCell ⟨cb, a * 5 + m, none⟩ (.int .i64 (x : Int))) sb cb cap hb p (updC C a m x) := by
  have hs := h.S
  have far : ∀ i, (w.setCell ⟨cb, a * 5 + m, none⟩ (.int .i64 (x : Int))).cell? ⟨sb, i, none⟩ = w.cell? ⟨sb, i, none⟩ := fun i => World.cell?_setCell_other w _ _ _ (fun e => h.n1 (by injection e with e1; exact e1.symm))
  refine ⟨⟨by simpa using hs.lt, by rw [far]; exact hs.c0, fun i v hv => by rw [far]; exact hs.ct i v hv, by rw [far]; exact hs.cc, by rw [far]; exact hs.cm, by simpa using hs.cl, fun a' m' ha' hm' => ?_, hs.hc, hs.hp, fun a' m' => ?_⟩, h.F.set _ _, h.n1, h.n2, h.n3⟩
  · by_cases e : a' = a ∧ m' = m
    · obtain ⟨rfl, rfl⟩ := e
      rw [World.cell?_setCell_same w _ _ (hs.cz a' m' ha' hm'), updC_same]
    · rw [World.cell?_setCell_other w _ _ _ (fun h2 => e (by injection h2 with _ h3; omega)), hs.cz a' m' ha' hm', updC_off _ _ _ _ _ _ e]
  · by_cases e : a' = a ∧ m' = m
    · obtain ⟨rfl, rfl⟩ := e
      rw [updC_same]; exact hx
    · rw [updC_off _ _ _ _ _ _ e]; exact hs.b a' m'
theorem SQ.grown {w W : World} {sb cb cap hb : Nat} {p : ByteArray} {C : Nat → Nat → Nat} (h : SQ w sb cb cap hb p C) {g : Nat} (hg : w.grownBy W (some g)) (h1 : g ≠ sb) (h2 : g ≠ cb) : SQ W sb cb cap hb p C := by
  have hs := h.S
  have f1 : ∀ i, W.cell? ⟨sb, i, none⟩ = w.cell? ⟨sb, i, none⟩ := fun i => hg.cell_far ⟨sb, i, none⟩ hs.lt (fun e => h1 (by injection e with e; exact e.symm))
  have f2 : ∀ i, W.cell? ⟨cb, i, none⟩ = w.cell? ⟨cb, i, none⟩ := fun i => hg.cell_far ⟨cb, i, none⟩ hs.cl (fun e => h2 (by injection e with e; exact e.symm))
  exact ⟨⟨Nat.lt_of_lt_of_le hs.lt hg.size, by rw [f1]; exact hs.c0, fun i v hv => by rw [f1]; exact hs.ct i v hv, by rw [f1]; exact hs.cc, by rw [f1]; exact hs.cm, Nat.lt_of_lt_of_le hs.cl hg.size, fun a m ha hm => by rw [f2]; exact hs.cz a m ha hm, hs.hc, hs.hp, hs.b⟩, h.F.grown hg (fun e => h2 (by injection e with e; exact e.symm)), h.n1, h.n2, h.n3⟩
/-! the map of the steps -/
theorem stLaid : laidOutB Tryd.prog = true := by kernel_rfl
theorem stRow : (85 : TypeId) < Tryd.prog.types.size := of_decide_eq_true (by kernel_rfl)
theorem stWide : (match Tryd.prog.underlying 85 with | some (.array _ _) | some (.struct _) => true | _ => false) = true := by kernel_rfl
set_option maxRecDepth 100000 in
theorem stLaw : Keyed Tryd.prog 85 := Keyed.of_law (deep_law_laid stLaid (m := 3) (by omega) stRow (by kernel_rfl) stWide)
theorem stKeyType : Tryd.prog.keyType 85 = true := by kernel_rfl
theorem stCells : Tryd.prog.cellsOf 85 = 2 := by kernel_rfl
theorem intCells : Tryd.prog.cellsOf 3 = 1 := by kernel_rfl
theorem stFuel : Tryd.prog.types.size + 1 = (Tryd.prog.types.size - 2) + 3 := by
  have h : 2 ≤ Tryd.prog.types.size := of_decide_eq_true (by kernel_rfl)
  omega
theorem kl_int (n : Nat) (a : Int) (h : (Lit.int .i64 a).wf = true) : Tryd.prog.keyLits (n + 1) 3 [.int .i64 a] = some [.int .i64 a] := by
  simp [Program.keyLits, Tryd.underlying3, h]
def kst (a m : Nat) : Lit := .string (keyBytes [.int .i64 (a : Int), .int .i64 (m : Int)])
theorem key_st (a m : Nat) (ha : a ≤ 9223372036854775807) (hm : m ≤ 9223372036854775807) : keyOf Tryd.prog 85 (.agg #[.int .i64 (a : Int), .int .i64 (m : Int)]) = some (kst a m) := by
  have h0 : (Lit.int .i64 (a : Int)).wf = true := WalkArith.wf_i64 (by omega)
  have h1 : (Lit.int .i64 (m : Int)).wf = true := WalkArith.wf_i64 (by omega)
  unfold keyOf
  have hu := Tryd.underlying85
  have hf : (Value.agg #[.int .i64 (a : Int), .int .i64 (m : Int)]).formed Tryd.prog 85 = true := by simp [Value.formed, hu, stCells]
  rw [hu]
  simp only [stKeyType, hf, Bool.and_self, if_true]
  rw [stFuel]
  generalize Tryd.prog.types.size - 2 = n
  have hl : Tryd.prog.keyLits (n + 3) 85 [.int .i64 (a : Int), .int .i64 (m : Int)] = some [.int .i64 (a : Int), .int .i64 (m : Int)] := by
    unfold Program.keyLits
    rw [hu]
    dsimp only
    rw [if_pos (by rw [stCells]; exact ⟨rfl, by kernel_rfl⟩)]
    simp only [List.mapM_cons, List.mapM_nil, intCells, List.drop_zero, List.drop_succ_cons, List.take_succ_cons, List.take_zero, kl_int _ _ h0, kl_int _ _ h1]
    rfl
  rw [show (Value.agg #[.int .i64 (a : Int), .int .i64 (m : Int)]).cells.toList = [.int .i64 (a : Int), .int .i64 (m : Int)] from rfl, hl]
  rfl
theorem kst_inj {a m a' m' : Nat} (h1 : a ≤ 9223372036854775807) (h2 : m ≤ 9223372036854775807) (h3 : a' ≤ 9223372036854775807) (h4 : m' ≤ 9223372036854775807) (h : kst a m = kst a' m') : a = a' ∧ m = m' := by
  have k1 := key_st a m h1 h2
  have k2 := key_st a' m' h3 h4
  rw [h] at k1
  have h3 := stLaw.inj k1 k2
  have h4 : (a : Int) = a' ∧ (m : Int) = m' := by simpa using h3
  omega
def optR (v : Value) : Option (DataW Value × List MemPlace) := some (.held v, [])
abbrev zOpt : Value := (Opt.val ⟨0, 0, 0, false, 0, 0, 0⟩)
theorem zeroOpt (w : World) : (zeroValue 87).run Tryd.prog w = .ok zOpt w := by kernel_rfl
def MapIs (w : World) (hb cnt : Nat) (T : Nat → Nat → Option Opt) : Prop :=
  ∃ D : DataW Value, Maps.IsMap D ∧ w.ownsMap Tryd.prog 85 optR hb cnt D ∧ ∀ a m o, a ≤ 4096 → m < 5 → T a m = some o → D.atKey (kst a m) (.held zOpt) = .held o.val
theorem MapIs.below {w W : World} {hb cnt : Nat} {T : Nat → Nat → Option Opt} (h : MapIs w hb cnt T) (hW : Below w.heap.size w W) : MapIs W hb cnt T := by
  obtain ⟨D, h1, h2, h3⟩ := h
  refine ⟨D, h1, ?_, h3⟩
  obtain ⟨es, clock, hh, F, hs, hD⟩ := h2
  exact ⟨es, clock, (hW.block hb ((Array.getElem?_eq_some_iff.1 hh).1)).trans hh, F, hs, hD⟩
theorem MapIs.set {w : World} {hb cnt : Nat} {T : Nat → Nat → Option Opt} (h : MapIs w hb cnt T) {a : Addr} (hne : hb ≠ a.block) (u : Value) : MapIs (w.setCell a u) hb cnt T := by
  obtain ⟨D, h1, h2, h3⟩ := h
  exact ⟨D, h1, h2.setCell hne u, h3⟩
theorem MapIs.weak {w : World} {hb cnt cnt' : Nat} {T T' : Nat → Nat → Option Opt} (h : MapIs w hb cnt T) (hc : cnt ≤ cnt') (hT : ∀ a m o, a ≤ 4096 → m < 5 → T' a m = some o → T a m = some o) : MapIs w hb cnt' T' := by
  obtain ⟨D, h1, h2, h3⟩ := h
  exact ⟨D, h1, h2.mono hc, fun a m o ha hm ho => h3 a m o ha hm (hT a m o ha hm ho)⟩
theorem MapIs.lt {w : World} {hb cnt : Nat} {T : Nat → Nat → Option Opt} (h : MapIs w hb cnt T) : hb < w.heap.size := by
  obtain ⟨D, h1, h2, h3⟩ := h
  exact h2.lt
def updT (T : Nat → Nat → Option Opt) (a m : Nat) (o : Opt) : Nat → Nat → Option Opt := fun a' m' => if a' = a ∧ m' = m then some o else T a' m'
theorem MapIs.put {w : World} {hb cnt : Nat} {T : Nat → Nat → Option Opt} (h : MapIs w hb cnt T) (a m : Nat) (o : Opt) (ha : a ≤ 4096) (hm : m < 5) (hc : cnt < maxLen) :
    ∃ w', (Instr.mapUpdate 66 (.map (some hb)) (.agg #[.int .i64 (a : Int), .int .i64 (m : Int)]) o.val).run Tryd.prog w = .ok () w' ∧ MapIs w' hb (cnt + 1) (updT T a m o) ∧ w.grownBy w' (some hb) := by
  obtain ⟨D, h1, h2, h3⟩ := h
  have hk := key_st a m (by omega) (by omega)
  obtain ⟨w', hrun, h4, h5⟩ := h2.update stLaw Tryd.underlying66 hc hk (show optR o.val = some (.held o.val, []) from rfl)
  refine ⟨w', hrun, ⟨_, h1.put _ _, h4, fun a' m' o' ha' hm' ho' => ?_⟩, h5⟩
  by_cases e : a' = a ∧ m' = m
  · obtain ⟨rfl, rfl⟩ := e
    rw [Maps.atKey_put_same h1 (stLaw.key hk)]
    unfold updT at ho'
    rw [if_pos ⟨rfl, rfl⟩] at ho'
    rw [Option.some.inj ho']
  · rw [Maps.atKey_put_other]
    · refine h3 a' m' o' ha' hm' ?_
      unfold updT at ho'
      rwa [if_neg e] at ho'
    · intro e2
      exact e (kst_inj (by omega) (by omega) (by omega) (by omega) e2)
theorem MapIs.lookup {w : World} {hb cnt : Nat} {T : Nat → Nat → Option Opt} (h : MapIs w hb cnt T) (a m : Nat) (o : Opt) (ha : a ≤ 4096) (hm : m < 5) (ho : T a m = some o) :
    (Instr.lookup 66 (.map (some hb)) (.agg #[.int .i64 (a : Int), .int .i64 (m : Int)]) false).run Tryd.prog w = .ok o.val w := by
  obtain ⟨D, h1, h2, h3⟩ := h
  have hk := key_st a m (by omega) (by omega)
  obtain ⟨v, ps, hrun, hv⟩ := h2.lookup stLaw Tryd.underlying66 (zeroOpt w) (show optR zOpt = some (.held zOpt, []) from rfl) hk
  rw [h3 a m o ha hm ho] at hv
  have e : v = o.val := by
    exact DataW.held.inj (Prod.mk.inj (Option.some.inj hv)).1
  rw [hrun, e]
end Go.Proofs.YtplppbfnlfehnaaDoor
