import Derived.Test.YtmnlkganmgcpbaaGreatDoorQa6
import Derived.Maps.OwnOps
import Derived.Test.YtmnlkganmgcpbaaGreatDoorQa3
import Derived.WalkKit
import Derived.WalkSpells
import Derived.Lib.Hide
import Derived.Test.YtmnlkganmgcpbaaGreatDoorProg
import Derived.Test.YtmnlkganmgcpbaaGreatDoorQa1
namespace Go.Proofs.YtmnlkganmgcpbaaGreatDoor
open Go.RowKit Go.WideMaps Go.Maps
set_option linter.unusedVariables false
def FZ (W : World) (b n : Nat) : Prop := b < W.heap.size ∧ ∀ i, i < n → W.frozen? ⟨b, i, none⟩ = false
theorem FZ.below {W W' : World} {b n : Nat} (h : FZ W b n) (hb : Below W.heap.size W W') : FZ W' b n := ⟨Nat.lt_of_lt_of_le h.1 hb.size, fun i hi => (hb.frozen h.1).trans (h.2 i hi)⟩
theorem FZ.set {W : World} {b n : Nat} (h : FZ W b n) (a : Addr) (u : Value) : FZ (W.setCell a u) b n := ⟨by simpa using h.1, fun i hi => by rw [World.frozen?_setCell]; exact h.2 i hi⟩
theorem FZ.grown {W W' : World} {b n : Nat} {row : Option Nat} (h : FZ W b n) (hg : W.grownBy W' row) (hne : some b ≠ row) : FZ W' b n := ⟨Nat.lt_of_lt_of_le h.1 hg.size, fun i hi => (hg.frozen_far ⟨b, i, none⟩ h.1 hne).trans (h.2 i hi)⟩
theorem FZ.new (W : World) (xs : Array Value) (t : TypeId) (b n : Nat) (hb : b = W.heap.size) : FZ (W.alloc (.cells xs t)) b n := ⟨by simp; omega, fun i _ => World.frozen?_alloc_at _ _ _ _ hb⟩
theorem CellsAt.set {W : World} {b : Nat} {vs : List Value} (h : CellsAt W b vs) (i : Nat) (u : Value) (hi : i < vs.length) : CellsAt (W.setCell ⟨b, i, none⟩ u) b (vs.set i u) := by
  refine ⟨by simpa using h.1, fun j hj => ?_⟩
  rw [List.length_set] at hj
  by_cases e : j = i
  · subst e
    rw [World.cell?_setCell_same W _ _ (h.2 j hj)]
    simp [List.getD, hi]
  · rw [World.cell?_setCell_other W _ _ _ (fun h2 => e (by injection h2 with _ h3; exact h3.symm)), h.2 j hj]
    simp [List.getD, Ne.symm e]
def updC (C : Nat → Nat → Nat) (a m x : Nat) : Nat → Nat → Nat := fun a' m' => if a' = a ∧ m' = m then x else C a' m'
theorem updC_same (C : Nat → Nat → Nat) (a m x : Nat) : updC C a m x a m = x := if_pos ⟨rfl, rfl⟩
theorem updC_off (C : Nat → Nat → Nat) (a m x a' m' : Nat) (h : ¬ (a' = a ∧ m' = m)) : updC C a m x a' m' = C a' m' := if_neg h
def sumC (C : Nat → Nat → Nat) (a : Nat) : Nat := C a 0 + C a 1 + C a 2 + C a 3 + C a 4
theorem sumC_upd {C : Nat → Nat → Nat} {a m x : Nat} (hm : m < 5) (hx : x < C a m) : sumC (updC C a m x) a < sumC C a := by
  have h5 : m = 0 ∨ m = 1 ∨ m = 2 ∨ m = 3 ∨ m = 4 := by omega
  unfold sumC
  rcases h5 with rfl | rfl | rfl | rfl | rfl <;> simp only [updC] <;> simp <;> omega
def InvC (C : Nat → Nat → Nat) (L : Nat → List Opt) (a : Nat) : Prop := ∀ m, m < 5 → C a m = 1073741824 ∨ ∃ o ∈ L m, o.tot C ≤ C a m
theorem tot_mono {C C' : Nat → Nat → Nat} (h : ∀ a m, C' a m ≤ C a m) (o : Opt) : o.tot C' ≤ o.tot C := Nat.add_le_add_left (h _ _) _
theorem updC_le {C : Nat → Nat → Nat} {a m x : Nat} (hx : x ≤ C a m) : ∀ a' m', updC C a m x a' m' ≤ C a' m' := by
  intro a' m'
  by_cases h : a' = a ∧ m' = m
  · obtain ⟨rfl, rfl⟩ := h; rw [updC_same]; exact hx
  · rw [updC_off _ _ _ _ _ _ h]; exact Nat.le_refl _
theorem InvC.upd {C : Nat → Nat → Nat} {L : Nat → List Opt} {a m : Nat} (h : InvC C L a) {o : Opt} (ho : o ∈ L m) (hlt : o.tot C < C a m) : InvC (updC C a m (o.tot C)) L a := by
  intro m' hm'
  have hle := updC_le (C := C) (a := a) (m := m) (x := o.tot C) (Nat.le_of_lt hlt)
  by_cases e : m' = m
  · subst e
    right
    exact ⟨o, ho, by rw [updC_same]; exact tot_mono hle o⟩
  · rw [updC_off _ _ _ _ _ _ (fun h => e h.2)]
    rcases h m' hm' with h1 | ⟨o', h1, h2⟩
    · exact .inl h1
    · exact .inr ⟨o', h1, Nat.le_trans (tot_mono hle o') h2⟩
theorem tryO_congr {C C' : Nat → Nat → Nat} {num at_ m : Nat} {best : Opt} {n sz : Nat} {lg : Bool} (h : ∀ a m, at_ < a → C a m = C' a m) (hn : 0 < n) (hb : best.run = 0 ∨ at_ < best.at_) : tryO C num at_ m best n sz lg = tryO C' num at_ m best n sz lg := by
  have e1 : Opt.tot C ⟨num, -1, n, lg, sz + 8 * n, at_ + n, m⟩ = Opt.tot C' ⟨num, -1, n, lg, sz + 8 * n, at_ + n, m⟩ := by
    unfold Opt.tot; rw [h _ _ (by show at_ < at_ + n; omega)]
  unfold tryO
  rcases hb with hb | hb
  · rw [if_pos (.inl hb), if_pos (.inl hb)]
  · have e2 : best.tot C = best.tot C' := by unfold Opt.tot; rw [h _ _ hb]
    rw [e1, e2]
theorem tryO_run {C : Nat → Nat → Nat} {num at_ m : Nat} {best : Opt} {n sz : Nat} {lg : Bool} (hn : 0 < n) (hb : best.run = 0 ∨ at_ < best.at_) : at_ < (tryO C num at_ m best n sz lg).at_ := by
  unfold tryO
  split
  · show at_ < at_ + n; omega
  · rename_i h
    rcases hb with hb | hb
    · exact absurd (.inl hb) h
    · exact hb
theorem bLong_run {C : Nat → Nat → Nat} {num at_ m : Nat} : ∀ k, (bLong C num at_ m k).run = 0 ∨ at_ < (bLong C num at_ m k).at_
  | 0 => .inl rfl
  | k + 1 => .inr (tryO_run (by omega) (bLong_run k))
theorem bLong_congr {C C' : Nat → Nat → Nat} {num at_ m : Nat} (h : ∀ a m, at_ < a → C a m = C' a m) : ∀ k, bLong C num at_ m k = bLong C' num at_ m k
  | 0 => rfl
  | k + 1 => by
    show tryO C _ _ _ _ _ _ _ = tryO C' _ _ _ _ _ _ _
    rw [tryO_congr h (by omega) (bLong_run k), bLong_congr h k]
theorem bShort_run {C : Nat → Nat → Nat} {num at_ m K : Nat} : ∀ k, (bShort C num at_ m K k).run = 0 ∨ at_ < (bShort C num at_ m K k).at_
  | 0 => bLong_run K
  | k + 1 => .inr (tryO_run (by omega) (bShort_run k))
theorem bShort_congr {C C' : Nat → Nat → Nat} {num at_ m K : Nat} (h : ∀ a m, at_ < a → C a m = C' a m) : ∀ k, bShort C num at_ m K k = bShort C' num at_ m K k
  | 0 => bLong_congr h K
  | k + 1 => by
    show tryO C _ _ _ _ _ _ _ = tryO C' _ _ _ _ _ _ _
    rw [tryO_congr h (by omega) (bShort_run k), bShort_congr h k]
theorem optN_congr {C C' : Nat → Nat → Nat} {p : ByteArray} {at_ m n : Nat} (h : ∀ a m, at_ < a → C a m = C' a m) : optN C p at_ m n = optN C' p at_ m n := by
  unfold optN binOpt
  rw [bShort_congr h]
theorem optK_congr {C C' : Nat → Nat → Nat} {p : ByteArray} {at_ m : Nat} (h : ∀ a m, at_ < a → C a m = C' a m) : ∀ k, optK C p at_ m k = optK C' p at_ m k
  | 0 => rfl
  | k + 1 => by
    unfold optK
    rw [optK_congr h k, optN_congr h]
theorem bShort_at {C : Nat → Nat → Nat} {num at_ m K : Nat} : ∀ k, at_ ≤ (bShort C num at_ m K k).at_ := by
  have h1 : ∀ k, at_ ≤ (bLong C num at_ m k).at_ := fun k => by
    cases k with
    | zero => exact Nat.le_refl _
    | succ k => exact Nat.le_of_lt (tryO_run (by omega) (bLong_run k))
  intro k
  cases k with
  | zero => exact h1 K
  | succ k => exact Nat.le_of_lt (tryO_run (by omega) (bShort_run k))
theorem optN_at {C : Nat → Nat → Nat} {p : ByteArray} {at_ m n : Nat} {o : Opt} (ho : o ∈ optN C p at_ m n) : at_ ≤ o.at_ := by
  unfold optN at ho
  split at ho
  · split at ho
    · rw [List.mem_singleton] at ho; subst ho; exact Nat.le_add_right _ _
    · cases ho
  split at ho
  · rw [List.mem_singleton] at ho; subst ho; exact Nat.le_refl _
  split at ho
  · have key : ∀ k, o ∈ optSK p at_ m n (modeF m n) k → at_ ≤ o.at_ := by
      intro k
      induction k with
      | zero => intro h; cases h
      | succ k ih =>
        intro h
        unfold optSK at h
        rw [List.mem_append] at h
        rcases h with h | h
        · exact ih h
        · unfold optS at h
          split at h
          · rw [List.mem_singleton] at h; subst h; exact Nat.le_add_right _ _
          · cases h
    exact key 32 ho
  split at ho
  · rw [List.mem_singleton] at ho; subst ho; exact bShort_at _
  · cases ho
theorem optK_at {C : Nat → Nat → Nat} {p : ByteArray} {at_ m : Nat} {o : Opt} : ∀ k, o ∈ optK C p at_ m k → at_ ≤ o.at_ := by
  intro k
  induction k with
  | zero => intro h; cases h
  | succ k ih =>
    intro h
    unfold optK at h
    rw [List.mem_append] at h
    rcases h with h | h
    · exact ih h
    · exact optN_at h
theorem preB_le {p t : ByteArray} {at_ : Nat} (h : preB p at_ t = true) (ha : at_ ≤ p.size) : at_ + t.size ≤ p.size := by
  unfold preB Lib.hasPrefix at h
  rw [List.isPrefixOf_iff_prefix] at h
  have h1 := h.length_le
  have e1 : t.data.toList.length = t.size := by simp
  have e2 : (p.extract at_ p.size).data.toList.length = p.size - at_ := by
    show (p.extract at_ p.size).data.toList.length = _
    rw [Array.length_toList]
    show (p.extract at_ p.size).size = _
    rw [ByteArray.size_extract]; omega
  omega
theorem okO_opt {C : Nat → Nat → Nat} {p : ByteArray} {at_ m n : Nat} (ha : at_ < p.size) (hp : p.size ≤ 4096) (hm : m < 5) {o : Opt} (ho : o ∈ optN C p at_ m n) : okO p o := by
  have w1 := widthN_le m
  unfold optN at ho
  split at ho
  · split at ho
    · rename_i h1 h2
      rw [List.mem_singleton] at ho
      subst ho
      exact ⟨preB_le h2 (by omega), hm, by show widthN m ≤ _; omega, by show 0 ≤ _; omega⟩
    · cases ho
  split at ho
  · rw [List.mem_singleton] at ho
    subst ho
    exact ⟨by show at_ ≤ _; omega, modeF_lt _ _, by show widthN m ≤ _; omega, by show 0 ≤ _; omega⟩
  split at ho
  · have key : ∀ k, o ∈ optSK p at_ m n (modeF m n) k → okO p o := by
      intro k
      induction k with
      | zero => intro h; cases h
      | succ k ih =>
        intro h
        unfold optSK at h
        rw [List.mem_append] at h
        rcases h with h | h
        · exact ih h
        · unfold optS at h
          split at h
          · rename_i h2
            rw [List.mem_singleton] at h
            subst h
            have w2 := widthN_le (modeF m n)
            exact ⟨preB_le h2.2 (by omega), hm, by show widthN m + widthN (modeF m n) ≤ _; omega, by show 0 ≤ _; omega⟩
          · cases h
    exact key 32 ho
  split at ho
  · rw [List.mem_singleton] at ho
    subst ho
    unfold binOpt
    exact bShort_ok _ (by omega) hm hp (by omega) _ (by omega)
  · cases ho
theorem okO_all {C : Nat → Nat → Nat} {p : ByteArray} {at_ m : Nat} (ha : at_ < p.size) (hp : p.size ≤ 4096) (hm : m < 5) {o : Opt} : ∀ k, o ∈ optK C p at_ m k → okO p o := by
  intro k
  induction k with
  | zero => intro h; cases h
  | succ k ih =>
    intro h
    unfold optK at h
    rw [List.mem_append] at h
    rcases h with h | h
    · exact ih h
    · exact okO_opt ha hp hm h
theorem flat_vals_get : ∀ (l : List Opt) (j k : Nat) (o : Opt), l[j]? = some o → k < 7 → (l.flatMap Opt.vals)[j * 7 + k]? = o.vals[k]?
  | [], j, k, o, h, hk => by simp at h
  | x :: l, 0, k, o, h, hk => by
    simp only [List.getElem?_cons_zero, Option.some.injEq] at h
    subst h
    rw [List.flatMap_cons, List.getElem?_append_left (by show 0 * 7 + k < 7; omega)]
    simp
  | x :: l, j + 1, k, o, h, hk => by
    rw [List.flatMap_cons, List.getElem?_append_right (by show 7 ≤ _; omega)]
    rw [← flat_vals_get l j k o (by simpa using h) hk]
    congr 1
    show (j + 1) * 7 + k - 7 = _
    omega
structure SQ (w : World) (sb cb cap hb : Nat) (p : ByteArray) (C : Nat → Nat → Nat) : Prop where
  S : SW w sb cb cap hb p C
  F : FZ w cb (5 * (p.size + 1))
  n1 : sb ≠ cb
  n2 : hb ≠ sb
  n3 : hb ≠ cb
theorem SQ.below {w W : World} {sb cb cap hb : Nat} {p : ByteArray} {C : Nat → Nat → Nat} (h : SQ w sb cb cap hb p C) (hW : Below w.heap.size w W) : SQ W sb cb cap hb p C := ⟨h.S.below hW, h.F.below hW, h.n1, h.n2, h.n3⟩
theorem SQ.set {w : World} {sb cb cap hb : Nat} {p : ByteArray} {C : Nat → Nat → Nat} (h : SQ w sb cb cap hb p C) (a m x : Nat) (ha : a ≤ p.size) (hm : m < 5) (hx : x ≤ 1073741824) :
    SQ (w.setCell ⟨cb, a * 5 + m, none⟩ (.int .i64 (x : Int))) sb cb cap hb p (updC C a m x) := by
  have hs := h.S
  have far : ∀ i, (w.setCell ⟨cb, a * 5 + m, none⟩ (.int .i64 (x : Int))).cell? ⟨sb, i, none⟩ = w.cell? ⟨sb, i, none⟩ := fun i => World.cell?_setCell_other w _ _ _ (fun e => h.n1 (by injection e with e1; exact e1.symm))
  refine ⟨⟨by simpa using hs.lt, by rw [far]; exact hs.c0, fun i v hv => by rw [far]; exact hs.ct i v hv, by rw [far]; exact hs.cc, by rw [far]; exact hs.cm, by simpa using hs.cl, fun a' m' ha' hm' => ?_, hs.hc, hs.hp, fun a' m' => ?_⟩, h.F.set _ _, h.n1, h.n2, h.n3⟩
  · by_cases e : a' = a ∧ m' = m
    · obtain ⟨rfl, rfl⟩ := e
      rw [World.cell?_setCell_same w _ _ (hs.cz a' m' ha' hm'), updC_same]
    · rw [World.cell?_setCell_other w _ _ _ (fun h2 => e (by injection h2 with _ h3; omega)), hs.cz a' m' ha' hm', updC_off _ _ _ _ _ _ e]
  · by_cases e : a' = a ∧ m' = m
    · obtain ⟨rfl, rfl⟩ := e
      rw [updC_same]; exact hx
    · rw [updC_off _ _ _ _ _ _ e]; exact hs.b a' m'
theorem SQ.grown {w W : World} {sb cb cap hb : Nat} {p : ByteArray} {C : Nat → Nat → Nat} (h : SQ w sb cb cap hb p C) {g : Nat} (hg : w.grownBy W (some g)) (h1 : g ≠ sb) (h2 : g ≠ cb) : SQ W sb cb cap hb p C := by
  have hs := h.S
  have f1 : ∀ i, W.cell? ⟨sb, i, none⟩ = w.cell? ⟨sb, i, none⟩ := fun i => hg.cell_far ⟨sb, i, none⟩ hs.lt (fun e => h1 (by injection e with e; exact e.symm))
  have f2 : ∀ i, W.cell? ⟨cb, i, none⟩ = w.cell? ⟨cb, i, none⟩ := fun i => hg.cell_far ⟨cb, i, none⟩ hs.cl (fun e => h2 (by injection e with e; exact e.symm))
  exact ⟨⟨Nat.lt_of_lt_of_le hs.lt hg.size, by rw [f1]; exact hs.c0, fun i v hv => by rw [f1]; exact hs.ct i v hv, by rw [f1]; exact hs.cc, by rw [f1]; exact hs.cm, Nat.lt_of_lt_of_le hs.cl hg.size, fun a m ha hm => by rw [f2]; exact hs.cz a m ha hm, hs.hc, hs.hp, hs.b⟩, h.F.grown hg (fun e => h2 (by injection e with e; exact e.symm)), h.n1, h.n2, h.n3⟩
theorem stLaid : laidOutB Tryz.prog = true := by kernel_rfl
theorem stRow : (179 : TypeId) < Tryz.prog.types.size := of_decide_eq_true (by kernel_rfl)
theorem stWide : (match Tryz.prog.underlying 179 with | some (.array _ _) | some (.struct _) => true | _ => false) = true := by kernel_rfl
set_option maxRecDepth 100000 in
theorem stLaw : Keyed Tryz.prog 179 := Keyed.of_law (deep_law_laid stLaid (m := 3) (by omega) stRow (by kernel_rfl) stWide)
theorem stKeyType : Tryz.prog.keyType 179 = true := by kernel_rfl
theorem stCells : Tryz.prog.cellsOf 179 = 2 := by kernel_rfl
theorem intCells : Tryz.prog.cellsOf 3 = 1 := by kernel_rfl
theorem stFuel : Tryz.prog.types.size + 1 = (Tryz.prog.types.size - 2) + 3 := by
  have h : 2 ≤ Tryz.prog.types.size := of_decide_eq_true (by kernel_rfl)
  omega
theorem kl_int (n : Nat) (a : Int) (h : (Lit.int .i64 a).wf = true) : Tryz.prog.keyLits (n + 1) 3 [.int .i64 a] = some [.int .i64 a] := by
  simp [Program.keyLits, Tryz.underlying3, h]
def kst (a m : Nat) : Lit := .string (keyBytes [.int .i64 (a : Int), .int .i64 (m : Int)])
theorem key_st (a m : Nat) (ha : a ≤ 9223372036854775807) (hm : m ≤ 9223372036854775807) : keyOf Tryz.prog 179 (.agg #[.int .i64 (a : Int), .int .i64 (m : Int)]) = some (kst a m) := by
  have h0 : (Lit.int .i64 (a : Int)).wf = true := WalkArith.wf_i64 (by omega)
  have h1 : (Lit.int .i64 (m : Int)).wf = true := WalkArith.wf_i64 (by omega)
  unfold keyOf
  have hu := Tryz.underlying179
  have hf : (Value.agg #[.int .i64 (a : Int), .int .i64 (m : Int)]).formed Tryz.prog 179 = true := by simp [Value.formed, hu, stCells]
  rw [hu]
  simp only [stKeyType, hf, Bool.and_self, if_true]
  rw [stFuel]
  generalize Tryz.prog.types.size - 2 = n
  have hl : Tryz.prog.keyLits (n + 3) 179 [.int .i64 (a : Int), .int .i64 (m : Int)] = some [.int .i64 (a : Int), .int .i64 (m : Int)] := by
    unfold Program.keyLits
    rw [hu]
    dsimp only
    rw [if_pos (by rw [stCells]; exact ⟨rfl, by kernel_rfl⟩)]
    simp only [List.mapM_cons, List.mapM_nil, intCells, List.drop_zero, List.drop_succ_cons, List.take_succ_cons, List.take_zero, kl_int _ _ h0, kl_int _ _ h1]
    rfl
  rw [show (Value.agg #[.int .i64 (a : Int), .int .i64 (m : Int)]).cells.toList = [.int .i64 (a : Int), .int .i64 (m : Int)] from rfl, hl]
  rfl
theorem kst_inj {a m a' m' : Nat} (h1 : a ≤ 9223372036854775807) (h2 : m ≤ 9223372036854775807) (h3 : a' ≤ 9223372036854775807) (h4 : m' ≤ 9223372036854775807) (h : kst a m = kst a' m') : a = a' ∧ m = m' := by
  have k1 := key_st a m h1 h2
  have k2 := key_st a' m' h3 h4
  rw [h] at k1
  have h3 := stLaw.inj k1 k2
  have h4 : (a : Int) = a' ∧ (m : Int) = m' := by simpa using h3
  omega
def optR (v : Value) : Option (DataW Value × List MemPlace) := some (.held v, [])
abbrev zOpt : Value := (Opt.val ⟨0, 0, 0, false, 0, 0, 0⟩)
theorem zeroOpt (w : World) : (zeroValue 181).run Tryz.prog w = .ok zOpt w := by kernel_rfl
def MapIs (w : World) (hb cnt : Nat) (T : Nat → Nat → Option Opt) : Prop :=
  ∃ D : DataW Value, Maps.IsMap D ∧ w.ownsMap Tryz.prog 179 optR hb cnt D ∧ ∀ a m o, a ≤ 4096 → m < 5 → T a m = some o → D.atKey (kst a m) (.held zOpt) = .held o.val
theorem MapIs.below {w W : World} {hb cnt : Nat} {T : Nat → Nat → Option Opt} (h : MapIs w hb cnt T) (hW : Below w.heap.size w W) : MapIs W hb cnt T := by
  obtain ⟨D, h1, h2, h3⟩ := h
  refine ⟨D, h1, ?_, h3⟩
  obtain ⟨es, clock, hh, F, hs, hD⟩ := h2
  exact ⟨es, clock, (hW.block hb ((Array.getElem?_eq_some_iff.1 hh).1)).trans hh, F, hs, hD⟩
theorem MapIs.set {w : World} {hb cnt : Nat} {T : Nat → Nat → Option Opt} (h : MapIs w hb cnt T) {a : Addr} (hne : hb ≠ a.block) (u : Value) : MapIs (w.setCell a u) hb cnt T := by
  obtain ⟨D, h1, h2, h3⟩ := h
  exact ⟨D, h1, h2.setCell hne u, h3⟩
theorem MapIs.weak {w : World} {hb cnt cnt' : Nat} {T T' : Nat → Nat → Option Opt} (h : MapIs w hb cnt T) (hc : cnt ≤ cnt') (hT : ∀ a m o, a ≤ 4096 → m < 5 → T' a m = some o → T a m = some o) : MapIs w hb cnt' T' := by
  obtain ⟨D, h1, h2, h3⟩ := h
  exact ⟨D, h1, h2.mono hc, fun a m o ha hm ho => h3 a m o ha hm (hT a m o ha hm ho)⟩
theorem MapIs.lt {w : World} {hb cnt : Nat} {T : Nat → Nat → Option Opt} (h : MapIs w hb cnt T) : hb < w.heap.size := by
  obtain ⟨D, h1, h2, h3⟩ := h
  exact h2.lt
def updT (T : Nat → Nat → Option Opt) (a m : Nat) (o : Opt) : Nat → Nat → Option Opt := fun a' m' => if a' = a ∧ m' = m then some o else T a' m'
theorem MapIs.put {w : World} {hb cnt : Nat} {T : Nat → Nat → Option Opt} (h : MapIs w hb cnt T) (a m : Nat) (o : Opt) (ha : a ≤ 4096) (hm : m < 5) (hc : cnt < maxLen) :
    ∃ w', (Instr.mapUpdate 173 (.map (some hb)) (.agg #[.int .i64 (a : Int), .int .i64 (m : Int)]) o.val).run Tryz.prog w = .ok () w' ∧ MapIs w' hb (cnt + 1) (updT T a m o) ∧ w.grownBy w' (some hb) := by
  obtain ⟨D, h1, h2, h3⟩ := h
  have hk := key_st a m (by omega) (by omega)
  obtain ⟨w', hrun, h4, h5⟩ := h2.update stLaw Tryz.underlying173 hc hk (show optR o.val = some (.held o.val, []) from rfl)
  refine ⟨w', hrun, ⟨_, h1.put _ _, h4, fun a' m' o' ha' hm' ho' => ?_⟩, h5⟩
  by_cases e : a' = a ∧ m' = m
  · obtain ⟨rfl, rfl⟩ := e
    rw [Maps.atKey_put_same h1 (stLaw.key hk)]
    unfold updT at ho'
    rw [if_pos ⟨rfl, rfl⟩] at ho'
    rw [Option.some.inj ho']
  · rw [Maps.atKey_put_other]
    · refine h3 a' m' o' ha' hm' ?_
      unfold updT at ho'
      rwa [if_neg e] at ho'
    · intro e2
      exact e (kst_inj (by omega) (by omega) (by omega) (by omega) e2)
theorem MapIs.lookup {w : World} {hb cnt : Nat} {T : Nat → Nat → Option Opt} (h : MapIs w hb cnt T) (a m : Nat) (o : Opt) (ha : a ≤ 4096) (hm : m < 5) (ho : T a m = some o) :
    (Instr.lookup 173 (.map (some hb)) (.agg #[.int .i64 (a : Int), .int .i64 (m : Int)]) false).run Tryz.prog w = .ok o.val w := by
  obtain ⟨D, h1, h2, h3⟩ := h
  have hk := key_st a m (by omega) (by omega)
  obtain ⟨v, ps, hrun, hv⟩ := h2.lookup stLaw Tryz.underlying173 (zeroOpt w) (show optR zOpt = some (.held zOpt, []) from rfl) hk
  rw [h3 a m o ha hm ho] at hv
  have e : v = o.val := by
    exact DataW.held.inj (Prod.mk.inj (Option.some.inj hv)).1
  rw [hrun, e]
end Go.Proofs.YtmnlkganmgcpbaaGreatDoor
namespace Go.Proofs.YtmnlkganmgcpbaaGreatDoor
theorem cmod_xor (x y p : Nat) (hp : p ≠ 0) : cmod (x ^^^ y) p = cmod x p ^^^ cmod y p := by
  refine (cmod_unique _ _ _ ?_ ?_).symm
  · have := cdvd_xor (cmod_dvd x p) (cmod_dvd y p)
    rw [show x ^^^ cmod x p ^^^ (y ^^^ cmod y p) = (x ^^^ y) ^^^ (cmod x p ^^^ cmod y p) from by ac_rfl] at this
    exact this
  · have h1 := cmod_lt x p hp
    have h2 := cmod_lt y p hp
    have := bl_xor_le (cmod x p) (cmod y p) (bl p - 1) (by omega) (by omega)
    omega
theorem cmod_congr (x y p : Nat) (hp : p ≠ 0) (h : cdvd p (x ^^^ y)) : cmod x p = cmod y p := by
  refine cmod_unique _ _ _ ?_ (cmod_lt _ _ hp)
  have := cdvd_xor h (cmod_dvd x p)
  rw [show x ^^^ y ^^^ (x ^^^ cmod x p) = (x ^^^ x) ^^^ (y ^^^ cmod x p) from by ac_rfl] at this
  simpa using this
theorem cmod_cmul_left (x y p : Nat) (hp : p ≠ 0) : cmod (cmul (cmod x p) y) p = cmod (cmul x y) p := by
  refine (cmod_congr _ _ _ hp ?_).symm
  rw [← xor_cmul]
  exact cdvd_mul _ (cmod_dvd x p)
theorem cmod_cmul_right (x y p : Nat) (hp : p ≠ 0) : cmod (cmul x (cmod y p)) p = cmod (cmul x y) p := by
  rw [cmul_comm, cmod_cmul_left _ _ _ hp, cmul_comm]
theorem cmod_double (a p d : Nat) (hp : bl p = d + 1) (ha : bl a ≤ d) : cmod (2 * a) p = if 2 ^ d ≤ 2 * a then (2 * a) ^^^ p else 2 * a := by
  have hp0 : p ≠ 0 := by intro h; subst h; rw [bl_zero] at hp; omega
  have h2 : bl (2 * a) ≤ d + 1 := by
    by_cases h : a = 0
    · subst h; rw [Nat.mul_zero, bl_zero]; omega
    · rw [bl_two_mul a h]; omega
  split
  · rename_i h
    have h3 : bl (2 * a) = d + 1 := by have := (lt_bl_iff (2 * a) d).2 h; omega
    refine (cmod_unique _ _ _ ?_ ?_).symm
    · rw [← Nat.xor_assoc]; simp; exact cdvd_refl p
    · have := bl_xor_lt (2 * a) p d h3 hp; omega
  · rename_i h
    exact cmod_small _ _ (by have := (bl_le_iff (2 * a) d).2 (by omega); omega)
def fmulN (s p a b : Nat) : Nat := if p = 0 then a * b % s else cmod (cmul a b) p
theorem mul_round (A B p : Nat) (hp : p ≠ 0) : cmod (cmul A B) p = (if B % 2 = 1 then cmod A p else 0) ^^^ cmod (cmul (cmod (2 * A) p) (B / 2)) p := by
  rw [cmul_eq, cmod_xor _ _ _ hp, cmod_cmul_left _ _ _ hp, two_mul_cmul]
  congr 1
  split
  · rfl
  · exact cmod_small 0 p (by rw [bl_zero]; exact bl_pos p hp)
end Go.Proofs.YtmnlkganmgcpbaaGreatDoor
namespace Go.Proofs.YtmnlkganmgcpbaaGreatDoor
open Go.RowKit
theorem bitLen_bl (x : Nat) (h : x < 2 ^ 64) : Lib.bitLen x = bl x := by
  induction x using Nat.strongRecOn with
  | _ x ih =>
    by_cases h0 : x = 0
    · subst h0; rfl
    · rw [Lib.bitLen_half x h0 h, ih (x / 2) (by omega) (by omega)]
      by_cases h1 : x = 1
      · subst h1; rfl
      · have h2 : x / 2 ≠ 0 := by omega
        obtain ⟨n, hn⟩ : ∃ n, bl (x/2) = n + 1 := ⟨bl (x/2) - 1, by have := bl_pos _ h2; omega⟩
        have g1 := (lt_bl_iff (x/2) n).1 (by omega)
        have g2 := (bl_le_iff (x/2) (n+1)).1 (by omega)
        rw [hn]
        rw [bl_eq x (n + 1) (by rw [Nat.pow_succ]; omega) (by rw [Nat.pow_succ]; omega)]; omega
theorem len_any (x : Int) (w : World) (h0 : 0 ≤ x) (h1 : x ≤ 9223372036854775807) :
    Calls Tryz.prog 219 #[.int .u64 x] w fun e w' => e = .returned (.int .i64 (bl x.toNat)) ∧ w = w' := by
  refine (Tryz.bits_Len x w h0 (by omega)).mono ?_
  rintro e w' ⟨rfl, rfl⟩
  exact ⟨by rw [bitLen_bl _ (by omega)], rfl⟩
theorem bl_le63 (x : Int) (h0 : 0 ≤ x) (h1 : x ≤ 9223372036854775807) : bl x.toNat ≤ 63 :=
  (bl_le_iff _ _).2 (by omega)
set_option maxHeartbeats 400000 in
theorem degree_any (p : Int) (w : World) (h0 : 0 ≤ p) (h1 : p ≤ 9223372036854775807) :
    Calls Tryz.prog 188 #[.int .i64 p] w fun e w' => e = .returned (.int .i64 ((bl p.toNat : Int) - 1)) ∧ w = w' := by
  have hb := bl_le63 p h0 h1
  go_enter Tryz.func188, Tryz.ntmps188
  go_wp2_with (go_at_call 219; refine (len_any _ _ (by omega) (by omega)).mono ?_; rintro e w' ⟨rfl, rfl⟩)
  go_ret
  exact ⟨rfl, rfl⟩
end Go.Proofs.YtmnlkganmgcpbaaGreatDoor
namespace Go.Proofs.YtmnlkganmgcpbaaGreatDoor
open Go.RowKit Go.WideMaps Go.Maps
set_option linter.unusedVariables false
def costAt (W : World) (cb at_ m : Nat) : Nat := match W.cell? ⟨cb, at_ * 5 + m, none⟩ with | some (.int _ x) => x.toNat | _ => 0
def sumW (W : World) (cb at_ : Nat) : Nat := costAt W cb at_ 0 + costAt W cb at_ 1 + costAt W cb at_ 2 + costAt W cb at_ 3 + costAt W cb at_ 4
theorem SW.sum {w : World} {sb cb cap hb : Nat} {p : ByteArray} {C : Nat → Nat → Nat} (h : SW w sb cb cap hb p C) (at_ : Nat) (ha : at_ ≤ p.size) : sumW w cb at_ = sumC C at_ := by
  have k : ∀ m, m < 5 → costAt w cb at_ m = C at_ m := fun m hm => by unfold costAt; rw [h.cz at_ m ha hm]; simp
  unfold sumW sumC
  rw [k 0 (by omega), k 1 (by omega), k 2 (by omega), k 3 (by omega), k 4 (by omega)]
def boolOf : Value → Nat
  | .bool true => 1
  | _ => 0
theorem optsInfo : (Tryz.prog.info? 219).map (·.zero) = some (some (.agg #[.slice none 0 0, .slice none 0 0, .slice none 0 0, .slice none 0 0, .slice none 0 0])) := by kernel_rfl
theorem optsSz : (Tryz.prog.info? 219).map (·.size) = some 5 := by kernel_rfl
theorem osliceSz : (Tryz.prog.info? 218).map (·.size) = some 1 := by kernel_rfl
structure QS (w wr : World) (n ob base sb cb cap hb : Nat) (p : ByteArray) (C : Nat → Nat → Nat) (vs : List Value) (L : Nat → List Opt) (μ cnt : Nat) (T : Nat → Nat → Option Opt) : Prop where
  B : Below n w wr
  S : SQ wr sb cb cap hb p C
  A : CellsAt wr ob vs
  F : FZ wr ob 5
  V : ∀ i, i < μ → ∃ v, vs[i]? = some v ∧ wr.ownsRow base 181 7 v (L i).length ((L i).flatMap Opt.vals)
  M : MapIs wr hb cnt T
  l5 : vs.length = 5
  n1 : n ≤ sb ∧ n ≤ cb ∧ n ≤ hb
  n2 : sb < ob ∧ cb < ob ∧ hb < ob
  n3 : ob < base
  n4 : base ≤ wr.heap.size
section
variable {w wr W : World} {n ob base sb cb cap hb : Nat} {p : ByteArray} {C : Nat → Nat → Nat} {vs : List Value} {L : Nat → List Opt} {μ cnt : Nat} {T : Nat → Nat → Option Opt}
theorem QS.below (h : QS w wr n ob base sb cb cap hb p C vs L μ cnt T) (hW : Below wr.heap.size wr W) : QS w W n ob base sb cb cap hb p C vs L μ cnt T :=
  ⟨h.B.trans (hW.mono (by have := h.n1; have := h.n2; have := h.n3; have := h.n4; omega)), h.S.below hW, h.A.below hW, h.F.below hW, fun i hi => by obtain ⟨v, h1, h2⟩ := h.V i hi; exact ⟨v, h1, ownsRow_below h2 hW⟩, h.M.below hW, h.l5, h.n1, h.n2, h.n3, Nat.le_trans h.n4 hW.size⟩
theorem ownsRow_setCell {base : Nat} {e : TypeId} {sz : Nat} {v : Value} {k : Nat} {xs : List Value} (h : wr.ownsRow base e sz v k xs) {a : Addr} (ha : a.block < base) (u : Value) : (wr.setCell a u).ownsRow base e sz v k xs := by
  refine ⟨h.1, ?_⟩
  rcases h.2 with h2 | ⟨g, cap, cur, h1, h2, h3, h4⟩
  · exact .inl h2
  · exact .inr ⟨g, cap, cur, h1, h2, (Below.heap_setCell _ _ _ _ (by omega)).trans h3, h4⟩
theorem QS.cost (h : QS w wr n ob base sb cb cap hb p C vs L μ cnt T) (a m x : Nat) (ha : a ≤ p.size) (hm : m < 5) (hx : x ≤ 1073741824) :
    QS w (wr.setCell ⟨cb, a * 5 + m, none⟩ (.int .i64 (x : Int))) n ob base sb cb cap hb p (updC C a m x) vs L μ cnt T := by
  have h1 := h.n1; have h2 := h.n2; have h3 := h.n3
  exact ⟨h.B.setCell (by show n ≤ cb; omega) _, h.S.set a m x ha hm hx, h.A.other _ _ (by show ob ≠ cb; omega), h.F.set _ _, fun i hi => by obtain ⟨v, k1, k2⟩ := h.V i hi; exact ⟨v, k1, ownsRow_setCell k2 (by show cb < base; omega) _⟩, h.M.set (by exact h.S.n3) _, h.l5, h.n1, h.n2, h.n3, by simpa using h.n4⟩
theorem QS.slot (h : QS w wr n ob base sb cb cap hb p C vs L μ cnt T) (v : Value) (hm : μ < 5) (hv : wr.ownsRow base 181 7 v (L μ).length ((L μ).flatMap Opt.vals)) :
    QS w (wr.setCell ⟨ob, μ, none⟩ v) n ob base sb cb cap hb p C (vs.set μ v) L (μ + 1) cnt T := by
  have h1 := h.n1; have h2 := h.n2; have h3 := h.n3
  have hs := h.S.S
  have f1 : ∀ b i, b < ob → (wr.setCell ⟨ob, μ, none⟩ v).cell? ⟨b, i, none⟩ = wr.cell? ⟨b, i, none⟩ := fun b i hb => World.cell?_setCell_other wr _ _ _ (fun e => by injection e with e1; omega)
  refine ⟨h.B.setCell (by show n ≤ ob; omega) _, ⟨⟨by simpa using hs.lt, by rw [f1 _ _ h2.1]; exact hs.c0, fun i u hu => by rw [f1 _ _ h2.1]; exact hs.ct i u hu, by rw [f1 _ _ h2.1]; exact hs.cc, by rw [f1 _ _ h2.1]; exact hs.cm, by simpa using hs.cl, fun a m ha hm => by rw [f1 _ _ h2.2.1]; exact hs.cz a m ha hm, hs.hc, hs.hp, hs.b⟩, h.S.F.set _ _, h.S.n1, h.S.n2, h.S.n3⟩,
    h.A.set μ v (by rw [h.l5]; exact hm), h.F.set _ _, fun i hi => ?_, h.M.set (by show hb ≠ ob; omega) _, by rw [List.length_set]; exact h.l5, h.n1, h.n2, h.n3, by simpa using h.n4⟩
  by_cases e : i = μ
  · subst e
    exact ⟨v, by rw [List.getElem?_set_self (by rw [h.l5]; exact hm)], ownsRow_setCell hv (by show ob < base; omega) _⟩
  · obtain ⟨u, k1, k2⟩ := h.V i (by omega)
    exact ⟨u, by rw [List.getElem?_set_ne (Ne.symm e)]; exact k1, ownsRow_setCell k2 (by show ob < base; omega) _⟩
theorem QS.put (h : QS w wr n ob base sb cb cap hb p C vs L μ cnt T) {T' : Nat → Nat → Option Opt} {cnt' : Nat} (hg : wr.grownBy W (some hb)) (hM : MapIs W hb cnt' T') : QS w W n ob base sb cb cap hb p C vs L μ cnt' T' := by
  have h1 := h.n1; have h2 := h.n2; have h3 := h.n3
  refine ⟨h.B.grown hg (by have := h.n4; omega) (fun k hk => by injection hk with hk; omega), h.S.grown hg h.S.n2 h.S.n3, h.A.grown hg (fun q hq => by injection hq with hq; omega), h.F.grown hg (fun e => by injection e with e; omega), fun i hi => ?_, hM, h.l5, h.n1, h.n2, h.n3, Nat.le_trans h.n4 hg.size⟩
  obtain ⟨v, k1, k2⟩ := h.V i hi
  refine ⟨v, k1, k2.kept hg ?_⟩
  cases hv : v.ownBlock with
  | none => exact .inl rfl
  | some g => right; intro e; injection e with e; have := (k2.lt g hv).1; omega
theorem QS.row (h : QS w wr n ob base sb cb cap hb p C vs L μ cnt T) (i : Nat) (hi : i < μ) : ∃ A c, vs[i]? = some (.slice A (L i).length c) ∧
    ∀ j, j < (L i).length → ∃ g, A = some ⟨g, 0, none⟩ ∧ ∀ W, Below wr.heap.size wr W → ∀ o, (L i)[j]? = some o → ∀ k u, o.vals[k]? = some u → W.cell? ⟨g, j * 7 + k, none⟩ = some u := by
  obtain ⟨v, h1, h2⟩ := h.V i hi
  rcases h2.2 with ⟨rfl, h0⟩ | ⟨g, cap, cur, rfl, hb, hg, hnc, hcm, hsz, ht⟩
  · exact ⟨none, 0, by rw [h0]; exact h1, fun j hj => by omega⟩
  · refine ⟨_, cap, h1, fun j hj => ⟨g, rfl, fun W hW o ho k u hu => ?_⟩⟩
    have hk : k < 7 := by
      rcases Nat.lt_or_ge k 7 with h5 | h5
      · exact h5
      · rw [List.getElem?_eq_none (by show 7 ≤ k; exact h5)] at hu; cases hu
    have h6 := h2.cells (g := g) rfl (j * 7 + k) u (by rw [flat_vals_get _ _ _ _ ho hk]; exact hu)
    rw [add_plain, Nat.zero_add] at h6
    exact (hW.cell (lt_of_heap hg)).trans h6
end
end Go.Proofs.YtmnlkganmgcpbaaGreatDoor
