import Derived.Test.YtplppbfnlfehnaaDoorAztW
import Derived.Lib.AppendStr
namespace Go.Proofs.YtplppbfnlfehnaaDoor
open Go.RowKit Go.WideMaps Go.Maps
set_option linter.unusedVariables false
/-! the decoder: the reader's step, with the place of its row -/
def SameB (A A' : Option Addr) : Prop := ∀ ad', A' = some ad' → ∃ ad, A = some ad ∧ ad'.block = ad.block
theorem SameB.refl (A : Option Addr) : SameB A A := fun ad h => ⟨ad, h, rfl⟩
theorem SameB.add (A : Option Addr) (m : Nat) : SameB A (A.map (fun a => a.add m)) := by
  intro ad' h
  cases A with
  | none => cases h
  | some a => injection h with h; subst h; exact ⟨a, rfl, block_of_add _ _⟩
set_option maxRecDepth 100000 in
set_option maxHeartbeats 2000000 in
theorem nextB_any (rb : Nat) (A : Option Addr) (n c m : Nat) (b : List Bool) (w : World) (h : CellsAt w rb (rdC A n c)) (hf : w.frozen? ⟨rb, 0, none⟩ = false) (hm : m ≤ 40) (hn : n ≤ 1048576) (hb : SR vB false w A n c b) :
    Calls Tryd.prog 59 #[.pointer (some ⟨rb, 0, none⟩), .int .i64 m] w fun e w' => e = .returned (.tuple #[.int .i64 (takeRes b 0 m).1, .int .i64 (takeRes b 0 m).2]) ∧
      ((b.length < m ∧ w' = w) ∨ (m ≤ b.length ∧ ∃ A' c', w' = w.setCell ⟨rb, 0, none⟩ (.slice A' (n - m) c') ∧ SR vB false w A' (n - m) c' (b.drop m) ∧ SameB A A')) := by
  obtain ⟨h0, h1⟩ := rdC_cells h
  have HB := Lib.hid hb
  have HN : Hid (n = b.length) := hb.hn
  clear h
  by_cases hlt : n < m
  · have HF : Hid (takeRes b 0 m = (0, 10)) := by show _ = _; unfold takeRes; rw [if_pos (by rw [← HN.out]; omega)]
    have HT : Hid (Calls Tryd.prog 65 #[.slice A n c, .int .i64 0, .int .i64 m] w (fun e w' => e = .returned (.tuple #[.int .i64 (takeRes b 0 m).1, .int .i64 (takeRes b 0 m).2]) ∧ w' = w)) := Take0_any A n c m b w hm hn hb
    clear hb
    go_enter Tryd.func59, Tryd.ntmps59
    go_wp2_with (go_at_call 65; refine HT.out.mono ?_; rintro e w' ⟨rfl, hw'⟩; rw [hw', HF.out]; clear hw')
    go_ret2
    rw [HF.out]
    exact ⟨rfl, .inl ⟨by rw [← HN.out]; exact hlt, rfl⟩⟩
  · have HF : Hid (takeRes b 0 m = (((numF b 0 m : Nat) : Int), 0)) := by show _ = _; unfold takeRes; rw [if_neg (by rw [← HN.out]; omega)]
    have HT : Hid (Calls Tryd.prog 65 #[.slice A n c, .int .i64 0, .int .i64 m] w (fun e w' => e = .returned (.tuple #[.int .i64 (takeRes b 0 m).1, .int .i64 (takeRes b 0 m).2]) ∧ w' = w)) := Take0_any A n c m b w hm hn hb
    have hc := hb.hc
    clear hb
    go_enter Tryd.func59, Tryd.ntmps59
    go_wp2_with (go_at_call 65; refine HT.out.mono ?_; rintro e w' ⟨rfl, hw'⟩; rw [hw', HF.out]; clear hw')
    all_goals
      go_ret2
      rw [HF.out]
      refine ⟨rfl, .inr ⟨by rw [← HN.out]; omega, _, _, rfl, ?_, ?_⟩⟩
    · exact HB.out.drop (by omega) (.inl (by omega)) (by omega)
    · exact SameB.refl _
    · rcases Nat.eq_or_lt_of_le (show m ≤ n by omega) with e | e
      · exact HB.out.drop (by omega) (.inl e.symm) rfl
      · obtain ⟨ad, rfl, _⟩ := HB.out.rd (by rw [← HN.out]; omega)
        exact HB.out.drop (by omega) (.inr ⟨ad, rfl, rfl⟩) rfl
    · exact SameB.add _ _
set_option maxRecDepth 100000 in
set_option maxHeartbeats 2000000 in
theorem RTakeB_any (rb : Nat) (A : Option Addr) (n c m : Nat) (b : List Bool) (w : World) (h : CellsAt w rb (rdC A n c)) (hf : w.frozen? ⟨rb, 0, none⟩ = false) (hm : m ≤ 40) (hn : n ≤ 1048576) (hb : SR vB false w A n c b) :
    Calls Tryd.prog 49 #[.pointer (some ⟨rb, 0, none⟩), .int .i64 m] w fun e w' => e = .returned (.tuple #[.int .i64 (takeRes b 0 m).1, .int .i64 (takeRes b 0 m).2]) ∧
      ((b.length < m ∧ w' = w) ∨ (m ≤ b.length ∧ ∃ A' c', w' = w.setCell ⟨rb, 0, none⟩ (.slice A' (n - m) c') ∧ SR vB false w A' (n - m) c' (b.drop m) ∧ SameB A A')) := by
  have HNX : Hid (Calls Tryd.prog 59 #[.pointer (some ⟨rb, 0, none⟩), .int .i64 m] w _) := nextB_any rb A n c m b w h hf hm hn hb
  obtain ⟨h0, h1⟩ := rdC_cells h
  clear h hb
  go_enter Tryd.func49, Tryd.ntmps49
  go_wp2_with (go_at_call 59; refine HNX.out.mono ?_; rintro e w' ⟨rfl, hw'⟩; have HW := Lib.hid hw'; clear hw')
  go_ret2
  exact ⟨rfl, HW.out⟩
/-! the decoder in memory -/
/-- the row of a block of this type -/
def Tag (w : World) (b : Nat) (t : TypeId) : Prop := ∃ cur : Array Value, w.heap[b]? = some (.cells cur t (0, 0))
theorem Tag.ne {w : World} {a b : Nat} {t u : TypeId} (h1 : Tag w a t) (h2 : Tag w b u) (hne : t ≠ u) : a ≠ b := by
  intro e
  subst e
  obtain ⟨c1, h1⟩ := h1
  obtain ⟨c2, h2⟩ := h2
  rw [h1] at h2
  injection h2 with h2
  injection h2 with _ h3 _
  exact hne h3
theorem Tag.below {w W : World} {b : Nat} {t : TypeId} (h : Tag w b t) (hW : Below w.heap.size w W) : Tag W b t := by
  obtain ⟨c, h⟩ := h
  exact ⟨c, (hW.block _ (lt_of_heap h)).trans h⟩
theorem RowIs.tag {w : World} {b : Nat} {cur : Array Value} {t : TypeId} (h : RowIs w b cur t) : Tag w b t := ⟨cur, h⟩
theorem Tag.setc {w : World} {b : Nat} {t : TypeId} (h : Tag w b t) (a : Addr) (ha : b ≠ a.block) (u : Value) : Tag (w.setCell a u) b t := by
  obtain ⟨c, h⟩ := h
  exact ⟨c, (Below.heap_setCell _ _ _ _ ha).trans h⟩
theorem Tag.grown {w W : World} {b : Nat} {t : TypeId} {row : Option Nat} (h : Tag w b t) (hg : w.grownBy W row) (hne : some b ≠ row) : Tag W b t := by
  obtain ⟨c, h⟩ := h
  exact ⟨c, (hg.block _ (lt_of_heap h) hne).trans h⟩
theorem own_tag {w : World} {base : Nat} {e : TypeId} {v : Value} {n q : Nat} {xs : List Value} (h : w.ownsRow base e 1 v n xs) (hq : v.ownBlock = some q) : Tag w q e := by
  rcases h.2 with ⟨rfl, _⟩ | ⟨g, cap, cur, rfl, _, hg, _⟩
  · cases hq
  · simp only [Value.ownBlock, Option.some.injEq] at hq
    subst hq
    exact ⟨cur, hg⟩
theorem SR.setc {α : Type} {f : α → Value} {d : α} {w : World} {A : Option Addr} {n c : Nat} {l : List α} (h : SR f d w A n c l) (a : Addr) (ha : ∀ ad, A = some ad → ad.block ≠ a.block) (u : Value) : SR f d (w.setCell a u) A n c l := by
  refine ⟨h.hn, h.hc, h.hm, fun hn => ?_⟩
  obtain ⟨ad, e, h1, h2⟩ := h.rd hn
  have h3 := ha ad e
  refine ⟨ad, e, by simpa using h1, fun j hj => ?_⟩
  rw [World.cell?_setCell_other w _ _ _ (fun e2 => h3 (by rw [e2, block_of_add]))]
  exact h2 j hj
theorem SR.grown {α : Type} {f : α → Value} {d : α} {w W : World} {A : Option Addr} {n c : Nat} {l : List α} {row : Option Nat} (h : SR f d w A n c l) (hg : w.grownBy W row) (ha : ∀ ad, A = some ad → some ad.block ≠ row) : SR f d W A n c l := by
  refine ⟨h.hn, h.hc, h.hm, fun hn => ?_⟩
  obtain ⟨ad, e, h1, h2⟩ := h.rd hn
  refine ⟨ad, e, Nat.lt_of_lt_of_le h1 hg.size, fun j hj => ?_⟩
  rw [hg.cell_far (ad.add j) (by rw [block_of_add]; exact h1) (by rw [block_of_add]; exact ha ad e)]
  exact h2 j hj
structure DE (n : Nat) (w wr : World) (db rb : Nat) (b0 b : List Bool) (mode : Nat) (out : List UInt8) : Prop where
  B : Below n w wr
  D : ∃ cur A0 c0 Ao co, RowIs wr db cur 74 ∧ cur.size = 484 ∧ cur[0]? = some (.slice A0 b0.length c0) ∧ cur[1]? = some (.pointer (some ⟨rb, 0, none⟩)) ∧ (∀ i v, theTab[i]? = some v → cur[2 + i]? = some v) ∧ cur[482]? = some (.int .i64 (mode : Int)) ∧ cur[483]? = some (.slice Ao out.length co) ∧
    SR vB false w A0 b0.length c0 b0 ∧ wr.ownsRow n 5 1 (.slice Ao out.length co) out.length (out.map vU)
  R : ∃ A c, RowIs wr rb #[.slice A b.length c, .bool true] 95 ∧ SR vB false wr A b.length c b ∧ ∀ ad, A = some ad → Tag wr ad.block 4
  n1 : n ≤ db ∧ n ≤ rb
  n2 : n = w.heap.size
  md : mode < 5
  lb : b.length ≤ b0.length ∧ b0.length ≤ 1048576
section
variable {n : Nat} {w wr W : World} {db rb : Nat} {b0 b : List Bool} {mode : Nat} {out : List UInt8}
theorem DE.ge (h : DE n w wr db rb b0 b mode out) : n ≤ wr.heap.size := by rw [h.n2]; exact h.B.size
theorem DE.below (h : DE n w wr db rb b0 b mode out) (hW : Below wr.heap.size wr W) : DE n w W db rb b0 b mode out := by
  obtain ⟨cur, A0, c0, Ao, co, h1, h2, h3, h4, h5, h6, h7, h8, h9⟩ := h.D
  obtain ⟨A, c, k1, k2, k3⟩ := h.R
  exact ⟨h.B.trans (hW.mono h.ge), ⟨cur, A0, c0, Ao, co, h1.below hW, h2, h3, h4, h5, h6, h7, h8, ownsRow_below h9 hW⟩, ⟨A, c, k1.below hW, k2.below hW, fun ad e => (k3 ad e).below hW⟩, h.n1, h.n2, h.md, h.lb⟩
theorem DE.ne (h : DE n w wr db rb b0 b mode out) : db ≠ rb := by
  obtain ⟨cur, A0, c0, Ao, co, h1, _⟩ := h.D
  obtain ⟨A, c, k1, _⟩ := h.R
  exact h1.tag.ne k1.tag (by decide)
theorem ownsRow_setc {base : Nat} {e : TypeId} {v : Value} {k : Nat} {xs : List Value} (h : wr.ownsRow base e 1 v k xs) (a : Addr) {t : TypeId} (ha : Tag wr a.block t) (hne : t ≠ e) (u : Value) : (wr.setCell a u).ownsRow base e 1 v k xs := by
  refine ⟨h.1, ?_⟩
  rcases h.2 with h2 | ⟨g, cap, cur, h1, h2, h3, h4⟩
  · exact .inl h2
  · refine .inr ⟨g, cap, cur, h1, h2, (Below.heap_setCell _ _ _ _ ?_).trans h3, h4⟩
    exact (Tag.ne ha ⟨cur, h3⟩ hne).symm
/-- the reader has gone on -/
theorem DE.take (h : DE n w wr db rb b0 b mode out) {m : Nat} {A' : Option Addr} {c' : Nat} (hm : m ≤ b.length) (hs : SR vB false wr A' (b.length - m) c' (b.drop m)) {A : Option Addr} {c : Nat} (hA : RowIs wr rb #[.slice A b.length c, .bool true] 95) (hsb : SameB A A') :
    DE n w (wr.setCell ⟨rb, 0, none⟩ (.slice A' (b.length - m) c')) db rb b0 (b.drop m) mode out := by
  obtain ⟨cur, A0, c0, Ao, co, h1, h2, h3, h4, h5, h6, h7, h8, h9⟩ := h.D
  obtain ⟨A1, c1, k1, k2, k3⟩ := h.R
  have hne := h.ne
  have eA : A1 = A := by
    unfold RowIs at k1 hA
    rw [k1] at hA
    injection hA with hA
    injection hA with hA _ _
    have := congrArg (fun x : Array Value => x[0]?) hA
    simp only [List.getElem?_toArray, List.getElem?_cons_zero, Option.some.injEq, Value.slice.injEq] at this
    exact this.1
  have tg : ∀ ad', A' = some ad' → Tag wr ad'.block 4 := fun ad' e => by
    obtain ⟨ad, e1, e2⟩ := hsb ad' e
    rw [e2]
    exact k3 ad (by rw [eA]; exact e1)
  have e0 : (b.drop m).length = b.length - m := List.length_drop
  refine ⟨h.B.setCell h.n1.2 _, ⟨cur, A0, c0, Ao, co, (Below.heap_setCell _ _ _ _ hne).trans h1, h2, h3, h4, h5, h6, h7, h8, ownsRow_setc h9 _ k1.tag (by decide) _⟩, ⟨A', c', ?_, ?_, fun ad e => ?_⟩, h.n1, h.n2, h.md, by rw [e0]; have := h.lb; omega⟩
  · rw [e0]
    exact k1.setc (i := 0) _
  · rw [e0]
    exact hs.setc _ (fun ad e => (tg ad e).ne k1.tag (by decide)) _
  · exact (tg ad e).setc _ ((tg ad e).ne k1.tag (by decide)) _
/-- another mode -/
theorem DE.mode_ (h : DE n w wr db rb b0 b mode out) (m' : Nat) (hm : m' < 5) : DE n w (wr.setCell ⟨db, 482, none⟩ (.int .i64 (m' : Int))) db rb b0 b m' out := by
  obtain ⟨cur, A0, c0, Ao, co, h1, h2, h3, h4, h5, h6, h7, h8, h9⟩ := h.D
  obtain ⟨A, c, k1, k2, k3⟩ := h.R
  have hne := h.ne
  refine ⟨h.B.setCell h.n1.1 _, ⟨cur.setIfInBounds 482 (.int .i64 (m' : Int)), A0, c0, Ao, co, h1.setc _, by simp [h2], by rw [Array.getElem?_setIfInBounds_ne (by omega)]; exact h3, by rw [Array.getElem?_setIfInBounds_ne (by omega)]; exact h4, fun i v hv => ?_, by rw [Array.getElem?_setIfInBounds_self_of_lt (by omega)], by rw [Array.getElem?_setIfInBounds_ne (by omega)]; exact h7, h8, ownsRow_setc h9 _ h1.tag (by decide) _⟩,
    ⟨A, c, (Below.heap_setCell _ _ _ _ (Ne.symm hne)).trans k1, k2.setc _ (fun ad e => (k3 ad e).ne h1.tag (by decide)) _, fun ad e => (k3 ad e).setc _ ((k3 ad e).ne h1.tag (by decide)) _⟩, h.n1, h.n2, hm, h.lb⟩
  have hi : i < 480 := by rw [← theTab_size]; exact (Array.getElem?_eq_some_iff.1 hv).1
  rw [Array.getElem?_setIfInBounds_ne (by omega)]
  exact h5 i v hv
/-- the payload has grown, its slice is not stored yet -/
theorem DE.grow (h : DE n w wr db rb b0 b mode out) {Ao : Option Addr} {co : Nat} (hO : wr.ownsRow n 5 1 (.slice Ao out.length co) out.length (out.map vU)) {W : World} (hg : wr.grownBy W (Value.slice Ao out.length co).ownBlock) {A' : Option Addr} {c' : Nat} {out' : List UInt8}
    (hO' : W.ownsRow n 5 1 (.slice A' out'.length c') out'.length (out'.map vU)) : RowIs W db (Classical.choose h.D) 74 ∧ DE n w (W.setCell ⟨db, 483, none⟩ (.slice A' out'.length c')) db rb b0 b mode out' := by
  have hcur := Classical.choose_spec h.D
  generalize Classical.choose h.D = cur at *
  obtain ⟨A0, c0, Ao2, co2, h1, h2, h3, h4, h5, h6, h7, h8, h9⟩ := hcur
  obtain ⟨A, c, k1, k2, k3⟩ := h.R
  have hne := h.ne
  have tq : ∀ q, (Value.slice Ao out.length co).ownBlock = some q → Tag wr q 5 := fun q hq => own_tag hO hq
  have ndb : some db ≠ (Value.slice Ao out.length co).ownBlock := fun e => (tq db e.symm).ne h1.tag (by decide) rfl
  have nrb : some rb ≠ (Value.slice Ao out.length co).ownBlock := fun e => (tq rb e.symm).ne k1.tag (by decide) rfl
  have nad : ∀ ad, A = some ad → some ad.block ≠ (Value.slice Ao out.length co).ownBlock := fun ad e e2 => (tq ad.block e2.symm).ne (k3 ad e) (by decide) rfl
  have r1 : RowIs W db cur 74 := (hg.block _ (lt_of_heap h1) ndb).trans h1
  have r2 : RowIs W rb #[.slice A b.length c, .bool true] 95 := (hg.block _ (lt_of_heap k1) nrb).trans k1
  have r3 : ∀ ad, A = some ad → Tag W ad.block 4 := fun ad e => (k3 ad e).grown hg (nad ad e)
  refine ⟨r1, (h.B.grown hg h.ge (fun q hq => (hO.lt q hq).1)).setCell h.n1.1 _, ⟨cur.setIfInBounds 483 (.slice A' out'.length c'), A0, c0, A', c', r1.setc _, by simp [h2], by rw [Array.getElem?_setIfInBounds_ne (by omega)]; exact h3, by rw [Array.getElem?_setIfInBounds_ne (by omega)]; exact h4, fun i v hv => ?_, by rw [Array.getElem?_setIfInBounds_ne (by omega)]; exact h6, by rw [Array.getElem?_setIfInBounds_self_of_lt (by omega)], h8, ownsRow_setc hO' _ r1.tag (by decide) _⟩,
    ⟨A, c, (Below.heap_setCell _ _ _ _ (Ne.symm hne)).trans r2, (k2.grown hg nad).setc _ (fun ad e => (r3 ad e).ne r1.tag (by decide)) _, fun ad e => (r3 ad e).setc _ ((r3 ad e).ne r1.tag (by decide)) _⟩, h.n1, h.n2, h.md, h.lb⟩
  have hi : i < 480 := by rw [← theTab_size]; exact (Array.getElem?_eq_some_iff.1 hv).1
  rw [Array.getElem?_setIfInBounds_ne (by omega)]
  exact h5 i v hv
end
end Go.Proofs.YtplppbfnlfehnaaDoor
