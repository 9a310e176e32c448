import Derived.Test.YtplppbfnlfehnaaDoorAztA
import Derived.Test.YtplppbfnlfehnaaDoorRows
import Derived.Test.YtplppbfnlfehnaaDoorTie
import Derived.WalkKit
import Derived.ProofKit
import Derived.OpenShut
import Derived.Carry
import Derived.Lay
import Derived.LaidMore
import Derived.SevenTiedAt
import Derived.Deep.Grids
namespace Go.Proofs.YtplppbfnlfehnaaDoor
open Go.ChangeShapes Go.WideShapes Go.ChangeAt Go.RowKit
set_option linter.unusedVariables false
/-! the frame of a law: any arguments that are only read, the answer true -/
theorem below_all {H : Type} {enc : TypeId × Value → H} {P : Program} (hl : laidOutB P = true) {W W' : World} (hb : Below W.heap.size W W') :
    ∀ (ts : List TypeId) (vs : List Value) (ds : List (DataW H)) (ps : List MemPlace), (∀ t ∈ ts, P.readableRec t = true ∧ t < P.types.size) →
      DataW.TrodAll enc P W 0 (fun _ => true) true ts vs ds ps → (∀ x ∈ ps, x.block < W.heap.size) →
      DataW.TrodAll enc P W' 0 (fun b => decide (b < W.heap.size)) true ts vs ds ps := by
  intro ts
  induction ts with
  | nil =>
    intro vs ds ps _ h _
    cases vs <;> cases ds <;> first | exact h | exact h.elim
  | cons t ts ih =>
    intro vs ds ps ht h hlt
    cases vs with
    | nil => cases ds <;> exact h.elim
    | cons v vs =>
      cases ds with
      | nil => exact h.elim
      | cons d ds =>
        obtain ⟨p, q, h1, h2, rfl⟩ := h
        have hr := ht t (by simp)
        exact ⟨p, q, Below.trod hl hr.1 hr.2 h1 hb (fun x hx => hlt x (by simp [hx])), ih vs ds q (fun t' h' => ht t' (by simp [h'])) h2 (fun x hx => hlt x (by simp [hx])), rfl⟩
theorem law_post {H : Type} {enc : TypeId × Value → H} {P : Program} (hl : laidOutB P = true) {f : Func} {s : ChangeSpec} {W W' : World} {args : Array Value} {ds gs : List (DataW H)} {before : List MemPlace} {B : TypeId}
    (hB : P.underlying B = some .bool) (hres : f.resultTypes = #[B]) (hvars : s.vars = []) (hrd : ∀ t ∈ f.params.toList, P.readableRec t = true ∧ t < P.types.size)
    (hW : DataW.Whole enc P f.params.toList s.vars false W args.toList ds gs before)
    (hs : s.fn H (ds ++ gs) = { results := [.lit (.bool true)], args := ds }) (hb : Below W.heap.size W W') :
    s.post enc P f false true false false W args (.bool true) W' := by
  have hlt := hW.lt
  obtain ⟨p, q, hA, hV, rfl, hfz, hnd⟩ := id hW
  refine ⟨ds, gs, p ++ q, [], p, q, hW, ?_, ?_, ?_, hb.frame _, fun h => by cases h⟩
  · rw [hs, hres]
    exact trodAll_cons_mk (shut_bool hB _) trodAll_mk0
  · rw [hs]
    exact below_all hl hb _ _ _ _ hrd hA (fun x hx => hlt x (by simp [hx]))
  · rw [hs]
    rw [hvars] at hV ⊢
    obtain ⟨rfl, rfl⟩ := trodVars_none hV
    rfl
theorem cell_lt {w : World} {a : Addr} {v : Value} (h : w.cell? a = some v) : a.block < w.heap.size := by
  rcases Nat.lt_or_ge a.block w.heap.size with h1 | h1
  · exact h1
  · unfold World.cell? at h
    rw [Array.getElem?_eq_none h1] at h
    cases h
theorem bd_i64 {a : Int} (h : (Lit.int .i64 a).wf = true) : -9223372036854775808 ≤ a ∧ a ≤ 9223372036854775807 := by
  simpa [Lit.wf, IntKind.min, IntKind.max, IntKind.signed, IntKind.bits] using h
theorem bd_u8 {a : Int} (h : (Lit.int .u8 a).wf = true) : 0 ≤ a ∧ a ≤ 255 := by
  simpa [Lit.wf, IntKind.min, IntKind.max, IntKind.signed, IntKind.bits] using h
theorem SR.nilV {α : Type} {f : α → Value} {d : α} (W : World) : SR f d W none 0 0 [] := ⟨rfl, Nat.le_refl _, Nat.zero_le _, RG.nil_ _ _⟩
set_option maxRecDepth 100000 in
theorem open_slU {H : Type} {enc : TypeId × Value → H} {W : World} {b0 : Nat} {r : Reach} {v : Value} {d : DataW H} {p : List MemPlace}
    (hv : Value.okWide Tryd.prog W r b0 22 v) (h : DataW.Trod enc Tryd.prog W 0 (fun _ => true) true 22 v d p) : ∃ A n c l, v = .slice A n c ∧ SR vU 0 W A n c l := by
  obtain ⟨a0, len0, cap0, rfl⟩ := okWide_slice Tryd.underlying22 hv
  obtain ⟨fuel, hf⟩ := h
  rcases open_ints Tryd.underlying22 Tryd.underlying5 (by kernel_rfl) hf with ⟨hcs, _⟩ | ⟨a, len, cap, zs, hcs, _, hl, hm, hz, hx, hcell, hwf⟩
  · simp [Value.cells] at hcs
    obtain ⟨rfl, rfl, rfl⟩ := hcs
    exact ⟨none, 0, 0, [], rfl, SR.nilV _⟩
  · simp [Value.cells] at hcs
    obtain ⟨rfl, rfl, rfl⟩ := hcs
    simp only [if_true] at hz
    refine ⟨some a, len0, cap0, (zs.take len0).map (fun z => UInt8.ofNat z.toNat), rfl, ⟨by simp; omega, hl, hm, fun hn => ?_⟩⟩
    simp only [List.length_map, List.length_take] at hn
    have h0 := hcell 0 (by omega)
    refine ⟨a, rfl, by have := cell_lt h0; rw [block_of_add] at this; exact this, fun j hj => ?_⟩
    simp only [List.length_map, List.length_take] at hj
    rw [hcell j (by omega)]
    have hj2 : j < zs.length := by omega
    have e1 : zs.getD j 0 = zs[j] := by simp [List.getD, hj2]
    have e2 : ((zs.take len0).map (fun z => UInt8.ofNat z.toNat)).getD j 0 = UInt8.ofNat (zs[j]).toNat := by
      rw [List.getD_eq_getElem?_getD, List.getElem?_map, List.getElem?_take_of_lt (by omega), List.getElem?_eq_getElem hj2]; rfl
    rw [e1, e2]
    have hb := bd_u8 (hwf _ (List.getElem_mem hj2))
    show some (Value.int .u8 zs[j]) = some (Value.int .u8 _)
    rw [UInt8.toNat_ofNat', Nat.mod_eq_of_lt (by omega), Int.toNat_of_nonneg hb.1]
set_option maxRecDepth 100000 in
theorem open_slB {H : Type} {enc : TypeId × Value → H} {W : World} {b0 : Nat} {r : Reach} {v : Value} {d : DataW H} {p : List MemPlace}
    (hv : Value.okWide Tryd.prog W r b0 24 v) (h : DataW.Trod enc Tryd.prog W 0 (fun _ => true) true 24 v d p) : ∃ A n c l, v = .slice A n c ∧ SR vB false W A n c l := by
  obtain ⟨a0, len0, cap0, rfl⟩ := okWide_slice Tryd.underlying24 hv
  obtain ⟨fuel, hf⟩ := h
  rcases Deep.open_bools Tryd.underlying24 Tryd.underlying4 (by kernel_rfl) hf with ⟨hcs, _⟩ | ⟨a, len, cap, B, hcs, _, hl, hm, hx, hcell⟩
  · simp [Value.cells] at hcs
    obtain ⟨rfl, rfl, rfl⟩ := hcs
    exact ⟨none, 0, 0, [], rfl, SR.nilV _⟩
  · simp [Value.cells] at hcs
    obtain ⟨rfl, rfl, rfl⟩ := hcs
    refine ⟨some a, len0, cap0, (List.range len0).map B, rfl, ⟨by simp, hl, hm, fun hn => ?_⟩⟩
    simp only [List.length_map, List.length_range] at hn
    have h0 := hcell 0 (by omega)
    refine ⟨a, rfl, by have := cell_lt h0; rw [block_of_add] at this; exact this, fun j hj => ?_⟩
    simp only [List.length_map, List.length_range] at hj
    rw [hcell j (by omega)]
    have e2 : ((List.range len0).map B).getD j false = B j := by
      rw [List.getD_eq_getElem?_getD, List.getElem?_map, List.getElem?_range hj]; rfl
    rw [e2]
set_option maxRecDepth 100000 in
theorem open_slI {H : Type} {enc : TypeId × Value → H} {W : World} {b0 : Nat} {r : Reach} {v : Value} {d : DataW H} {p : List MemPlace}
    (hv : Value.okWide Tryd.prog W r b0 35 v) (h : DataW.Trod enc Tryd.prog W 0 (fun _ => true) true 35 v d p) : ∃ A n c l, v = .slice A n c ∧ SR vI 0 W A n c l ∧ ∀ x ∈ l, -9223372036854775808 ≤ x ∧ x ≤ 9223372036854775807 := by
  obtain ⟨a0, len0, cap0, rfl⟩ := okWide_slice Tryd.underlying35 hv
  obtain ⟨fuel, hf⟩ := h
  rcases open_ints Tryd.underlying35 Tryd.underlying3 (by kernel_rfl) hf with ⟨hcs, _⟩ | ⟨a, len, cap, zs, hcs, _, hl, hm, hz, hx, hcell, hwf⟩
  · simp [Value.cells] at hcs
    obtain ⟨rfl, rfl, rfl⟩ := hcs
    exact ⟨none, 0, 0, [], rfl, SR.nilV _, fun x hx => by cases hx⟩
  · simp [Value.cells] at hcs
    obtain ⟨rfl, rfl, rfl⟩ := hcs
    simp only [if_true] at hz
    refine ⟨some a, len0, cap0, zs.take len0, rfl, ⟨by rw [List.length_take]; omega, hl, hm, fun hn => ?_⟩, fun x hx => bd_i64 (hwf x (List.mem_of_mem_take hx))⟩
    rw [List.length_take] at hn
    have h0 := hcell 0 (by omega)
    refine ⟨a, rfl, by have := cell_lt h0; rw [block_of_add] at this; exact this, fun j hj => ?_⟩
    rw [List.length_take] at hj
    rw [hcell j (by omega)]
    simp only [List.getD]
    rw [List.getElem?_take_of_lt (by omega)]
theorem ownK : ownKnob Tryd.prog.godebug = none := by kernel_rfl
theorem laidK : laidOutB Tryd.prog = true := by kernel_rfl
end Go.Proofs.YtplppbfnlfehnaaDoor
