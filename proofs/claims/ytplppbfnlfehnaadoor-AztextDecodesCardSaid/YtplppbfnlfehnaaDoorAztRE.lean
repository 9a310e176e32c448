import Derived.Test.YtplppbfnlfehnaaDoorAztRD
import Derived.Laws.ResultCell
namespace Go.Proofs.YtplppbfnlfehnaaDoor
open Go.RowKit Go.WideMaps Go.Maps
set_option linter.unusedVariables false
/-! the reference's scan in memory -/
abbrev scC (at_ mode : Nat) (A : Option Addr) (k c : Nat) : List Value := [.int .i64 (at_ : Int), .int .i64 (mode : Int), .slice A k c]
theorem scanInfo : (Tryd.prog.info? 77).map (·.zero) = some (some (.agg #[.int .i64 0, .int .i64 0, .slice none 0 0])) := by kernel_rfl
theorem scanSz : (Tryd.prog.info? 77).map (·.size) = some 3 := by kernel_rfl
theorem sc_one (at_ mode : Nat) (A : Option Addr) (k c : Nat) : ∀ v ∈ scC at_ mode A k c, v.oneCell' = true := by
  intro v hv
  simp only [scC, List.mem_cons, List.not_mem_nil, or_false] at hv
  rcases hv with rfl | rfl | rfl <;> rfl
/-- blocks that hold no bytes are kept -/
def notU8 : Obj → Bool
  | .cells _ t _ => !(t == 5)
  | _ => true
def Kp (w w' : World) : Prop := w.heap.size ≤ w'.heap.size ∧ ∀ (k : Nat) (o : Obj), w.heap[k]? = some o → notU8 o = true → w'.heap[k]? = some o
theorem Kp.refl (w : World) : Kp w w := ⟨Nat.le_refl _, fun _ _ h _ => h⟩
theorem Kp.trans {a b c : World} (h : Kp a b) (h2 : Kp b c) : Kp a c := ⟨Nat.le_trans h.1 h2.1, fun k o h3 h4 => h2.2 k o (h.2 k o h3 h4) h4⟩
theorem Kp.below {w W : World} (h : Below w.heap.size w W) : Kp w W := ⟨h.size, fun k o h1 _ => (h.block k (lt_of_heap h1)).trans h1⟩
theorem Kp.setc {wa wr : World} (h : Kp wa wr) (a : Addr) (ha : wa.heap.size ≤ a.block) (u : Value) : Kp wa (wr.setCell a u) :=
  ⟨by simpa using h.1, fun k o h1 h2 => by
    have := lt_of_heap h1
    exact (Below.heap_setCell _ _ _ _ (by omega)).trans (h.2 k o h1 h2)⟩
theorem Kp.setRow {wa wr : World} (h : Kp wa wr) (g : Nat) (hg : wa.heap.size ≤ g) (c : Array Value) : Kp wa (wr.setRow g c) :=
  ⟨by rw [size_setRow]; exact h.1, fun k o h1 h2 => by
    have := lt_of_heap h1
    exact (setRow_other wr g k c (by omega)).trans (h.2 k o h1 h2)⟩
theorem Kp.grown {wa wr W : World} (h : Kp wa wr) {n : Nat} {v : Value} {k : Nat} {xs : List Value} (hO : wr.ownsRow n 5 1 v k xs) (hg : wr.grownBy W v.ownBlock) : Kp wa W :=
  ⟨Nat.le_trans h.1 hg.size, fun q o h1 h2 => by
    have h3 := h.2 q o h1 h2
    refine (hg.block q (lt_of_heap h3) (fun e => ?_)).trans h3
    obtain ⟨cur, h4⟩ := own_tag hO e.symm
    rw [h3] at h4
    injection h4 with h4
    subst h4
    exact absurd h2 (by simp [notU8])⟩
theorem RowIs.kp {w w' : World} {g : Nat} {cur : Array Value} {t : TypeId} (h : RowIs w g cur t) (hk : Kp w w') (ht : notU8 (.cells cur t (0, 0)) = true) : RowIs w' g cur t := hk.2 g _ h ht
structure SCN (n : Nat) (w wa wr : World) (X Y : Nat) (at_ mode : Nat) (out : List UInt8) (Ao : Option Addr) (co : Nat) : Prop where
  B : Below n w wr
  xr : RowIs wr X (scC at_ mode Ao out.length co).toArray 77
  yr : RowIs wr Y (scC 0 0 none 0 0).toArray 77
  O : wr.ownsRow n 5 1 (.slice Ao out.length co) out.length (out.map vU)
  K : Kp wa wr
  n1 : wa.heap.size ≤ X ∧ wa.heap.size ≤ Y
  n2 : n = w.heap.size
  n3 : n ≤ wa.heap.size
  ne : X ≠ Y
section
variable {n : Nat} {w wa wr W : World} {X Y at_ mode : Nat} {out : List UInt8} {Ao : Option Addr} {co : Nat}
theorem SCN.ge (h : SCN n w wa wr X Y at_ mode out Ao co) : n ≤ wr.heap.size := by rw [h.n2]; exact h.B.size
theorem SCN.nX (h : SCN n w wa wr X Y at_ mode out Ao co) : n ≤ X := Nat.le_trans h.n3 h.n1.1
theorem SCN.nY (h : SCN n w wa wr X Y at_ mode out Ao co) : n ≤ Y := Nat.le_trans h.n3 h.n1.2
theorem SCN.below (h : SCN n w wa wr X Y at_ mode out Ao co) (hW : Below wr.heap.size wr W) : SCN n w wa W X Y at_ mode out Ao co :=
  ⟨h.B.trans (hW.mono h.ge), h.xr.below hW, h.yr.below hW, ownsRow_below h.O hW, h.K.trans (Kp.below hW), h.n1, h.n2, h.n3, h.ne⟩
theorem SCN.facts (h : SCN n w wa wr X Y at_ mode out Ao co) : wr.cell? ⟨X, 0, none⟩ = some (.int .i64 (at_ : Int)) ∧ wr.cell? ⟨X, 1, none⟩ = some (.int .i64 (mode : Int)) ∧ wr.cell? ⟨X, 2, none⟩ = some (.slice Ao out.length co) ∧ wr.frozen? ⟨X, 0, none⟩ = false ∧ wr.frozen? ⟨X, 1, none⟩ = false ∧ wr.frozen? ⟨X, 2, none⟩ = false :=
  ⟨h.xr.cell 0 _ rfl, h.xr.cell 1 _ rfl, h.xr.cell 2 _ rfl, frozen_of_row _ _ _ _ _ h.xr, frozen_of_row _ _ _ _ _ h.xr, frozen_of_row _ _ _ _ _ h.xr⟩
theorem SCN.load (h : SCN n w wa wr X Y at_ mode out Ao co) : ∀ j v, (scC at_ mode Ao out.length co)[j]? = some v → wr.cell? ((⟨X, 0, none⟩ : Addr).add j) = some v := load_cells h.xr.cells
theorem SCN.setAt (h : SCN n w wa wr X Y at_ mode out Ao co) (a' : Nat) : SCN n w wa (wr.setCell ⟨X, 0, none⟩ (.int .i64 (a' : Int))) X Y a' mode out Ao co :=
  ⟨h.B.setCell h.nX _, h.xr.setc (i := 0) _, (Below.heap_setCell _ _ _ _ (Ne.symm h.ne)).trans h.yr, ownsRow_setc h.O _ h.xr.tag (by decide) _, h.K.setc _ h.n1.1 _, h.n1, h.n2, h.n3, h.ne⟩
theorem SCN.setMode (h : SCN n w wa wr X Y at_ mode out Ao co) (m' : Nat) : SCN n w wa (wr.setCell ⟨X, 1, none⟩ (.int .i64 (m' : Int))) X Y at_ m' out Ao co :=
  ⟨h.B.setCell h.nX _, h.xr.setc (i := 1) _, (Below.heap_setCell _ _ _ _ (Ne.symm h.ne)).trans h.yr, ownsRow_setc h.O _ h.xr.tag (by decide) _, h.K.setc _ h.n1.1 _, h.n1, h.n2, h.n3, h.ne⟩
theorem SCN.grow (h : SCN n w wa wr X Y at_ mode out Ao co) (hg : wr.grownBy W (Value.slice Ao out.length co).ownBlock) {A' : Option Addr} {c' : Nat} {out' : List UInt8}
    (hO' : W.ownsRow n 5 1 (.slice A' out'.length c') out'.length (out'.map vU)) : W.cell? ⟨X, 2, none⟩ = some (.slice Ao out.length co) ∧ W.frozen? ⟨X, 2, none⟩ = false ∧ SCN n w wa (W.setCell ⟨X, 2, none⟩ (.slice A' out'.length c')) X Y at_ mode out' A' c' := by
  have tq : ∀ q, (Value.slice Ao out.length co).ownBlock = some q → Tag wr q 5 := fun q hq => own_tag h.O hq
  have nX : some X ≠ (Value.slice Ao out.length co).ownBlock := fun e => (tq X e.symm).ne h.xr.tag (by decide) rfl
  have nY : some Y ≠ (Value.slice Ao out.length co).ownBlock := fun e => (tq Y e.symm).ne h.yr.tag (by decide) rfl
  have r1 : RowIs W X (scC at_ mode Ao out.length co).toArray 77 := (hg.block _ (lt_of_heap h.xr) nX).trans h.xr
  have r2 : RowIs W Y (scC 0 0 none 0 0).toArray 77 := (hg.block _ (lt_of_heap h.yr) nY).trans h.yr
  refine ⟨r1.cell 2 _ rfl, frozen_of_row _ _ _ _ _ r1, (h.B.grown hg h.ge (fun q hq => (h.O.lt q hq).1)).setCell h.nX _, r1.setc (i := 2) _, (Below.heap_setCell _ _ _ _ (Ne.symm h.ne)).trans r2, ownsRow_setc hO' _ r1.tag (by decide) _, (h.K.grown h.O hg).setc _ h.n1.1 _, h.n1, h.n2, h.n3, h.ne⟩
/-- the result is laid into its cell -/
theorem SCN.fin (h : SCN n w wa wr X Y at_ mode out Ao co) : RowIs (wr.setRow Y (splice (scC 0 0 none 0 0).toArray.toList 0 (scC at_ mode Ao out.length co)).toArray) Y (scC at_ mode Ao out.length co).toArray 77 ∧ (Below n w (wr.setRow Y (splice (scC 0 0 none 0 0).toArray.toList 0 (scC at_ mode Ao out.length co)).toArray) ∧ Kp wa (wr.setRow Y (splice (scC 0 0 none 0 0).toArray.toList 0 (scC at_ mode Ao out.length co)).toArray)) ∧
    (wr.setRow Y (splice (scC 0 0 none 0 0).toArray.toList 0 (scC at_ mode Ao out.length co)).toArray).ownsRow n 5 1 (.slice Ao out.length co) out.length (out.map vU) := by
  rw [splice_all _ (scC at_ mode Ao out.length co) (by rfl)]
  refine ⟨h.yr.set _, ⟨below_setRow h.B h.nY _, h.K.setRow _ h.n1.2 _⟩, h.O.1, ?_⟩
  rcases h.O.2 with h2 | ⟨g, cap, cur, h1, h2, h3, h4⟩
  · exact .inl h2
  · refine .inr ⟨g, cap, cur, h1, h2, ?_, h4⟩
    have hne : g ≠ Y := fun e => Tag.ne (⟨cur, h3⟩ : Tag wr g 5) h.yr.tag (by decide) e
    exact (setRow_other wr Y g _ hne).trans h3
end
theorem results_scan {fn : Func} {p u : Tmp} {ty : TypeId} (h : fn.results = #[.cell p ty, .tmp u]) (tmps : Array Value) (w : World) (g : Nat) (cs : List Value) (d : TypeDesc) (v : Value)
    (hp : tmps.getD p undef = .pointer (some ⟨g, 0, none⟩)) (hv : tmps.getD u undef = v) (hg : CellsAt w g cs)
    (hu : Tryd.prog.underlying ty = some d) (hd : aggD d = true) (hi : (Tryd.prog.info? ty).map (·.size) = some cs.length) :
    (results fn tmps).run Tryd.prog w = .ok (.tuple #[.agg cs.toArray, v]) w := by
  have hl := run_loadVar_cells (P := Tryd.prog) w ty d ⟨g, 0, none⟩ cs hu hd hi (load_cells hg)
  rw [results_cell_tmp h, hp, hv]
  simp [asAddr, hl]
/-- what a step of the reference leaves -/
def ScanRes (n : Nat) (w wa : World) (b : List Bool) (r : Int × List Bool × List UInt8 × Nat) (e : Ending) (w' : World) : Prop := ∃ (at2 m2 n2 : Nat) (A2 : Option Addr) (c2 : Nat),
  (e = .returned (.tuple #[.agg #[.int .i64 (at2 : Int), .int .i64 (m2 : Int), .slice A2 n2 c2], .int .i64 r.1]) ∧ at2 ≤ b.length) ∧ (Below n w w' ∧ Kp wa w') ∧ (r.1 = 0 → at2 ≤ b.length ∧ b.drop at2 = r.2.1 ∧ m2 = r.2.2.2 ∧ n2 = r.2.2.1.length ∧ w'.ownsRow n 5 1 (.slice A2 n2 c2) n2 (r.2.2.1.map vU))
theorem byRes_len : ∀ (k : Nat) (b : List Bool) (out : List UInt8), (byRes k b out).1 = 0 → 8 * k ≤ b.length
  | 0, b, out, _ => by omega
  | k + 1, b, out, h => by
    unfold byRes at h
    split at h
    · simp at h
    · have := byRes_len k _ _ h
      rw [List.length_drop] at this
      omega
theorem SCN.sr {n : Nat} {w wa wr : World} {X Y at_ mode : Nat} {out : List UInt8} {Ao : Option Addr} {co : Nat} (h : SCN n w wa wr X Y at_ mode out Ao co) {A : Option Addr} {nb cb : Nat} {b : List Bool} (hS : SR vB false w A nb cb b) : SR vB false wr A nb cb b := hS.below (by have := h.B; rw [h.n2] at this; exact this)
theorem RTake_refI (A : Option Addr) (n c : Nat) (b : List Bool) (at_ m : Nat) (AT M : Int) (w : World) (hA : AT = (at_ : Int)) (hM : M = (m : Int)) (hb : SR vB false w A n c b) (ha : at_ ≤ n) (hm : m ≤ 40) (hn : n ≤ 1048576) :
    Calls Tryd.prog 52 #[.slice A n c, .int .i64 AT, .int .i64 M] w fun e w' => e = .returned (.tuple #[.int .i64 (takeRes (b.drop at_) 0 m).1, .int .i64 (takeRes (b.drop at_) 0 m).2]) ∧ w' = w := by
  subst hA hM; exact RTake_ref A n c b at_ m w hb ha hm hn
theorem SCN.start {n : Nat} {w wa : World} {at_ mode : Nat} {out : List UInt8} {Ao : Option Addr} {co : Nat} (hB : Below n w wa) (hO : wa.ownsRow n 5 1 (.slice Ao out.length co) out.length (out.map vU)) (hn : n = w.heap.size) :
    SCN n w wa ((wa.alloc (.cells #[.int .i64 (at_ : Int), .int .i64 (mode : Int), .slice Ao out.length co] 77)).alloc (.cells #[.int .i64 0, .int .i64 0, .slice none 0 0] 77)) wa.heap.size (wa.heap.size + 1) at_ mode out Ao co := by
  have hge : n ≤ wa.heap.size := by rw [hn]; exact hB.size
  have e2 : (wa.alloc (.cells #[.int .i64 (at_ : Int), .int .i64 (mode : Int), .slice Ao out.length co] 77)).heap.size = wa.heap.size + 1 := by simp
  refine ⟨(hB.alloc hge _).alloc (by rw [e2]; omega) _, (RowIs.new wa _ _ _ rfl).below (bwA _ _), RowIs.new _ _ _ _ e2.symm, ownsRow_alloc' (ownsRow_alloc' hO _) _, (Kp.below (bwA _ _)).trans (Kp.below (bwA _ _)), ⟨Nat.le_refl _, by omega⟩, hn, hge, by omega⟩
set_option maxRecDepth 100000 in
set_option maxHeartbeats 8000000 in
theorem RBinary_ref (n : Nat) (w wa : World) (A : Option Addr) (nb cb : Nat) (b : List Bool) (at_ mode : Nat) (out : List UInt8) (Ao : Option Addr) (co : Nat) (hS : SR vB false w A nb cb b) (hB : Below n w wa) (hO : wa.ownsRow n 5 1 (.slice Ao out.length co) out.length (out.map vU)) (hn : n = w.heap.size) (ha : at_ ≤ nb) (hnb : nb ≤ 1048576) (hol : out.length ≤ 80000000) :
    Calls Tryd.prog 53 #[.slice A nb cb, .agg #[.int .i64 (at_ : Int), .int .i64 (mode : Int), .slice Ao out.length co]] wa (ScanRes n w wa b ((biRes (b.drop at_) out).1, (biRes (b.drop at_) out).2.1, (biRes (b.drop at_) out).2.2, mode)) := by
  have HS := Lib.hid hS
  have HNB : Hid (nb = b.length) := hS.hn
  have HOL := Lib.hid hol
  have HSC : Hid (SCN n w wa ((wa.alloc (.cells #[.int .i64 (at_ : Int), .int .i64 (mode : Int), .slice Ao out.length co] 77)).alloc (.cells #[.int .i64 0, .int .i64 0, .slice none 0 0] 77)) wa.heap.size (wa.heap.size + 1) at_ mode out Ao co) := SCN.start hB hO hn
  clear hS hB hO hol hn
  go_enter Tryd.func53, Tryd.ntmps53
  go_wp2_with fail
  obtain ⟨X, hX⟩ : ∃ X, X = wa.heap.size := ⟨_, rfl⟩
  obtain ⟨Y, hY⟩ : ∃ Y, Y = wa.heap.size + 1 := ⟨_, rfl⟩
  rw [← hY, ← hX] at HSC
  rw [← hY, ← hX]
  generalize ((wa.alloc (.cells #[.int .i64 (at_ : Int), .int .i64 (mode : Int), .slice Ao out.length co] 77)).alloc (.cells #[.int .i64 0, .int .i64 0, .slice none 0 0] 77)) = W0 at *
  clear hX hY
  obtain ⟨f0, f1, f2, z0, z1, z2⟩ := HSC.out.facts
  refine (RTake_refI A nb cb b at_ 5 _ 5 _ rfl rfl (HSC.out.sr HS.out) ha (by omega) hnb).mono ?_
  rintro e w3 ⟨rfl, hw3⟩
  rw [hw3]
  clear hw3
  by_cases hlt : (b.drop at_).length < 5
  · have HT : Hid (takeRes (b.drop at_) 0 5 = (0, 10)) := by show _ = _; unfold takeRes; rw [if_pos (by omega)]
    have HR : Hid (biRes (b.drop at_) out = (10, b.drop at_, out)) := by show _ = _; unfold biRes; rw [if_pos hlt]
    clear hlt
    rw [HT.out]
    go_wp2_with (first
      | ((with_reducible show wpList _ _ _ (⟨_, Op.load 77 _, _, _, _, _⟩ :: _) _ _); refine wpList_loadAgg rfl 77 _ rfl _ Tryd.underlying77 rfl ⟨X, 0, none⟩ (scC at_ mode Ao out.length co) scanSz rfl HSC.out.load ?_)
      | ((with_reducible show wpList _ _ _ (⟨_, Op.store 77 _ _, _, _, _, _⟩ :: _) _ _); refine wpList_storeAgg rfl 77 _ _ rfl 77 Y 0 _ (scC at_ mode Ao out.length co) rfl rfl HSC.out.yr scanSz (by show 3 ≤ 3; omega) (sc_one _ _ _ _ _) ?_))
    (try simp only [Exit.inBlock, Exit.then])
    refine bodyPost_ret (results_scan rfl _ _ Y (scC at_ mode Ao out.length co) _ (.int .i64 10) rfl rfl HSC.out.fin.1.cells Tryd.underlying77 rfl scanSz) rfl ?_
    exact ⟨at_, mode, out.length, Ao, co, ⟨by rw [HR.out], by rw [← HNB.out]; omega⟩, HSC.out.fin.2.1, fun h => by rw [HR.out] at h; exact absurd h (by simp)⟩
  · obtain ⟨k, hk⟩ : ∃ k, k = numF (b.drop at_) 0 5 := ⟨_, rfl⟩
    have hk32 : k < 32 := by rw [hk]; exact numF_lt (b.drop at_) 0 5
    have HT : Hid (takeRes (b.drop at_) 0 5 = (((k : Nat) : Int), 0)) := by show _ = _; unfold takeRes; rw [if_neg (by omega), hk]
    have HR : Hid (biRes (b.drop at_) out = if k = 0 then (if (b.drop (at_ + 5)).length < 11 then (10, b.drop (at_ + 5), out) else byRes (numF (b.drop (at_ + 5)) 0 11 + 31) (b.drop (at_ + 5 + 11)) out) else byRes k (b.drop (at_ + 5)) out) := by
      show _ = _
      unfold biRes
      rw [if_neg hlt, hk, List.drop_drop, List.drop_drop]
    have ha5 : at_ + 5 ≤ nb := by rw [List.length_drop, ← HNB.out] at hlt; omega
    have HC5 : Hid (SCN n w wa (W0.setCell ⟨X, 0, none⟩ (.int .i64 ((at_ : Int) + 5))) X Y (at_ + 5) mode out Ao co) := by
      have h := HSC.out.setAt (at_ + 5)
      rw [Int.natCast_add] at h
      exact h
    clear hlt hk
    rw [HT.out]
    by_cases k0 : k = 0
    · subst k0
      go_wp2_with fail
      refine (RTake_refI A nb cb b (at_ + 5) 11 _ 11 _ (by rw [Int.natCast_add]; rfl) rfl (HC5.out.sr HS.out) ha5 (by omega) hnb).mono ?_
      rintro e w4 ⟨rfl, hw4⟩
      rw [hw4]
      clear hw4
      obtain ⟨p0, p1, p2, y0, y1, y2⟩ := HC5.out.facts
      by_cases hl2 : (b.drop (at_ + 5)).length < 11
      · have HT2 : Hid (takeRes (b.drop (at_ + 5)) 0 11 = (0, 10)) := by show _ = _; unfold takeRes; rw [if_pos (by omega)]
        have HR2 : Hid (biRes (b.drop at_) out = (10, b.drop (at_ + 5), out)) := by show _ = _; rw [HR.out, if_pos (by trivial), if_pos hl2]
        clear hl2 HR
        rw [HT2.out]
        go_wp2_with (first
          | ((with_reducible show wpList _ _ _ (⟨_, Op.load 77 _, _, _, _, _⟩ :: _) _ _); refine wpList_loadAgg rfl 77 _ rfl _ Tryd.underlying77 rfl ⟨X, 0, none⟩ (scC (at_ + 5) mode Ao out.length co) scanSz rfl HC5.out.load ?_)
          | ((with_reducible show wpList _ _ _ (⟨_, Op.store 77 _ _, _, _, _, _⟩ :: _) _ _); refine wpList_storeAgg rfl 77 _ _ rfl 77 Y 0 _ (scC (at_ + 5) mode Ao out.length co) rfl rfl HC5.out.yr scanSz (by show 3 ≤ 3; omega) (sc_one _ _ _ _ _) ?_))
        (try simp only [Exit.inBlock, Exit.then])
        refine bodyPost_ret (results_scan rfl _ _ Y (scC (at_ + 5) mode Ao out.length co) _ (.int .i64 10) rfl rfl HC5.out.fin.1.cells Tryd.underlying77 rfl scanSz) rfl ?_
        exact ⟨(at_ + 5), mode, out.length, Ao, co, ⟨by rw [HR2.out], by rw [← HNB.out]; omega⟩, HC5.out.fin.2.1, fun h => by rw [HR2.out] at h; exact absurd h (by simp)⟩
      · obtain ⟨j, hj⟩ : ∃ j, j = numF (b.drop (at_ + 5)) 0 11 := ⟨_, rfl⟩
        have hj2 : j < 2048 := by rw [hj]; exact numF_lt (b.drop (at_ + 5)) 0 11
        have HT2 : Hid (takeRes (b.drop (at_ + 5)) 0 11 = (((j : Nat) : Int), 0)) := by show _ = _; unfold takeRes; rw [if_neg (by omega), hj]
        have HR2 : Hid (biRes (b.drop at_) out = byRes (j + 31) (b.drop (at_ + 5 + 11)) out) := by show _ = _; rw [HR.out, if_pos (by trivial), if_neg hl2, hj]
        have ha16 : at_ + 5 + 11 ≤ nb := by rw [List.length_drop, ← HNB.out] at hl2; omega
        have HC16 : Hid (SCN n w wa ((W0.setCell ⟨X, 0, none⟩ (.int .i64 ((at_ : Int) + 5))).setCell ⟨X, 0, none⟩ (.int .i64 ((at_ : Int) + 5 + 11))) X Y (at_ + 5 + 11) mode out Ao co) := by
          have h := HC5.out.setAt (at_ + 5 + 11)
          rw [Int.natCast_add, Int.natCast_add] at h
          exact h
        clear hl2 hj HR
        rw [HT2.out]
        go_wp2
        go_loopw [8] (fun iv wr => ∃ (i at' : Nat) (out' : List UInt8) (Ao' : Option Addr) (co' : Nat), i ≤ (j + 31) ∧ iv = .int .i64 i ∧ at' ≤ nb ∧ Hid (SCN n w wa wr X Y at' mode out' Ao' co') ∧ Hid (out'.length = out.length + i) ∧ Hid (byRes ((j + 31) - i) (b.drop at') out' = biRes (b.drop at_) out)) (fun iv _ => (j + 31) - (intOf iv).toNat)
        case atStart => exact ⟨0, (at_ + 5 + 11), out, Ao, co, Nat.zero_le _, rfl, by omega, HC16.out, rfl, by show _ = _; rw [Nat.sub_zero]; exact HR2.out.symm⟩
        case round =>
          obtain ⟨i, at', out', Ao', co', hi, rfl, hat, hC, hL, hR⟩ := hrel
          obtain ⟨f0, f1, f2, z0, z1, z2⟩ := hC.out.facts
          by_cases hlt : i < (j + 31)
          · have HSS : Hid (byRes ((j + 31) - i) (b.drop at') out' = if (b.drop at').length < 8 then (10, b.drop at', out') else byRes ((j + 31) - (i + 1)) ((b.drop at').drop 8) (out' ++ [UInt8.ofNat (numF (b.drop at') 0 8)])) := by
              show _ = _
              obtain ⟨q, hq⟩ : ∃ q, q = (j + 31) - (i + 1) := ⟨_, rfl⟩
              rw [show (j + 31) - i = q + 1 from by omega, ← hq]; rfl
            by_cases h8 : (b.drop at').length < 8
            · have HT8 : Hid (takeRes (b.drop at') 0 8 = (0, 10)) := by show _ = _; unfold takeRes; rw [if_pos (by omega)]
              have HR8 : Hid (biRes (b.drop at_) out = (10, b.drop at', out')) := by show _ = _; rw [← hR.out, HSS.out, if_pos h8]
              clear h8 HSS hR
              go_wp2_with fail
              refine (RTake_refI A nb cb b at' 8 _ 8 _ rfl rfl (hC.out.sr HS.out) hat (by omega) hnb).mono ?_
              rintro e w4 ⟨rfl, hw4⟩
              rw [HT8.out, hw4]
              clear hw4
              go_wp2_with (first
                | ((with_reducible show wpList _ _ _ (⟨_, Op.load 77 _, _, _, _, _⟩ :: _) _ _); refine wpList_loadAgg rfl 77 _ rfl _ Tryd.underlying77 rfl ⟨X, 0, none⟩ (scC at' mode Ao' out'.length co') scanSz rfl hC.out.load ?_)
                | ((with_reducible show wpList _ _ _ (⟨_, Op.store 77 _ _, _, _, _, _⟩ :: _) _ _); refine wpList_storeAgg rfl 77 _ _ rfl 77 Y 0 _ (scC at' mode Ao' out'.length co') rfl rfl hC.out.yr scanSz (by show 3 ≤ 3; omega) (sc_one _ _ _ _ _) ?_))
              (try simp only [Exit.inBlock, Exit.then])
              refine bodyPost_ret (results_scan rfl _ _ Y (scC at' mode Ao' out'.length co') _ (.int .i64 10) rfl rfl hC.out.fin.1.cells Tryd.underlying77 rfl scanSz) rfl ?_
              exact ⟨at', mode, out'.length, Ao', co', ⟨by rw [HR8.out], by rw [← HNB.out]; omega⟩, hC.out.fin.2.1, fun h => by rw [HR8.out] at h; exact absurd h (by simp)⟩
            · obtain ⟨c, hc⟩ : ∃ c, c = numF (b.drop at') 0 8 := ⟨_, rfl⟩
              have hc256 : c < 256 := by rw [hc]; exact numF_lt (b.drop at') 0 8
              have HT8 : Hid (takeRes (b.drop at') 0 8 = (((c : Nat) : Int), 0)) := by show _ = _; unfold takeRes; rw [if_neg (by omega), hc]
              have HR8 : Hid (byRes ((j + 31) - (i + 1)) (b.drop (at' + 8)) (out' ++ [UInt8.ofNat c]) = biRes (b.drop at_) out) := by show _ = _; rw [← hR.out, HSS.out, if_neg h8, hc, List.drop_drop]
              have hat2 : at' + 8 ≤ nb := by rw [List.length_drop, ← HNB.out] at h8; omega
              have hcw := u8_wrap hc256
              have HC1 : Hid (SCN n w wa (wr.setCell ⟨X, 0, none⟩ (.int .i64 ((at' : Int) + 8))) X Y (at' + 8) mode out' Ao' co') := by
                have h := hC.out.setAt (at' + 8)
                rw [Int.natCast_add] at h
                exact h
              clear h8 HSS hR hc
              generalize UInt8.ofNat c = x at *
              go_wp2_with fail
              refine (RTake_refI A nb cb b at' 8 _ 8 _ rfl rfl (hC.out.sr HS.out) hat (by omega) hnb).mono ?_
              rintro e w4 ⟨rfl, hw4⟩
              rw [HT8.out, hw4]
              clear hw4
              go_wp2_with (at_builtin; refine wpList_appendU (ownsRow_alloc' HC1.out.O _) (by have := HC1.out.ge; simp at this ⊢; omega) rfl _ _ rfl rfl wr.heap.size x rfl (RG.one _ _ _ _ (by simp)) (by have := hL.out; have := HOL.out; omega) ?_; intro A8 c8 W8 ho8 hg8; obtain ⟨g1, g2, hd8⟩ := (HC1.out.below (bwA _ _)).grow hg8.out ho8.out; have HC8 := Lib.hid hd8; clear ho8 hg8 hd8)
              have hle : (out' ++ [x]).length = out'.length + 1 := by simp
              have hd9 := HC8.out
              rw [hle] at hd9
              exact ⟨⟨i + 1, at' + 8, out' ++ [x], A8, c8, by omega, by go_num, by omega, hd9, by show _ = _; rw [hle, hL.out]; omega, HR8.out⟩, by simp [intOf]; omega⟩
          · obtain rfl : i = (j + 31) := by omega
            have HR8 : Hid (biRes (b.drop at_) out = (0, b.drop at', out')) := by show _ = _; rw [← hR.out, Nat.sub_self]; rfl
            go_wp2_with (first
              | ((with_reducible show wpList _ _ _ (⟨_, Op.load 77 _, _, _, _, _⟩ :: _) _ _); refine wpList_loadAgg rfl 77 _ rfl _ Tryd.underlying77 rfl ⟨X, 0, none⟩ (scC at' mode Ao' out'.length co') scanSz rfl hC.out.load ?_)
              | ((with_reducible show wpList _ _ _ (⟨_, Op.store 77 _ _, _, _, _, _⟩ :: _) _ _); refine wpList_storeAgg rfl 77 _ _ rfl 77 Y 0 _ (scC at' mode Ao' out'.length co') rfl rfl hC.out.yr scanSz (by show 3 ≤ 3; omega) (sc_one _ _ _ _ _) ?_))
            (try simp only [Exit.inBlock, Exit.then])
            refine bodyPost_ret (results_scan rfl _ _ Y (scC at' mode Ao' out'.length co') _ (.int .i64 0) rfl rfl hC.out.fin.1.cells Tryd.underlying77 rfl scanSz) rfl ?_
            exact ⟨at', mode, out'.length, Ao', co', ⟨by rw [HR8.out], by rw [← HNB.out]; omega⟩, hC.out.fin.2.1, fun _ => by rw [HR8.out]; exact ⟨by rw [← HNB.out]; exact hat, rfl, rfl, rfl, hC.out.fin.2.2⟩⟩
    · have HR2 : Hid (biRes (b.drop at_) out = byRes k (b.drop (at_ + 5)) out) := by show _ = _; rw [HR.out, if_neg k0]
      have kz : ((k : Int) == 0) = false := by rw [beq_eq_false_iff_ne]; omega
      clear HR k0
      go_wp2
      go_loopw [8] (fun iv wr => ∃ (i at' : Nat) (out' : List UInt8) (Ao' : Option Addr) (co' : Nat), i ≤ k ∧ iv = .int .i64 i ∧ at' ≤ nb ∧ Hid (SCN n w wa wr X Y at' mode out' Ao' co') ∧ Hid (out'.length = out.length + i) ∧ Hid (byRes (k - i) (b.drop at') out' = biRes (b.drop at_) out)) (fun iv _ => k - (intOf iv).toNat)
      case atStart => exact ⟨0, (at_ + 5), out, Ao, co, Nat.zero_le _, rfl, by omega, HC5.out, rfl, by show _ = _; rw [Nat.sub_zero]; exact HR2.out.symm⟩
      case round =>
        obtain ⟨i, at', out', Ao', co', hi, rfl, hat, hC, hL, hR⟩ := hrel
        obtain ⟨f0, f1, f2, z0, z1, z2⟩ := hC.out.facts
        by_cases hlt : i < k
        · have HSS : Hid (byRes (k - i) (b.drop at') out' = if (b.drop at').length < 8 then (10, b.drop at', out') else byRes (k - (i + 1)) ((b.drop at').drop 8) (out' ++ [UInt8.ofNat (numF (b.drop at') 0 8)])) := by
            show _ = _
            obtain ⟨q, hq⟩ : ∃ q, q = k - (i + 1) := ⟨_, rfl⟩
            rw [show k - i = q + 1 from by omega, ← hq]; rfl
          by_cases h8 : (b.drop at').length < 8
          · have HT8 : Hid (takeRes (b.drop at') 0 8 = (0, 10)) := by show _ = _; unfold takeRes; rw [if_pos (by omega)]
            have HR8 : Hid (biRes (b.drop at_) out = (10, b.drop at', out')) := by show _ = _; rw [← hR.out, HSS.out, if_pos h8]
            clear h8 HSS hR
            go_wp2_with fail
            refine (RTake_refI A nb cb b at' 8 _ 8 _ rfl rfl (hC.out.sr HS.out) hat (by omega) hnb).mono ?_
            rintro e w4 ⟨rfl, hw4⟩
            rw [HT8.out, hw4]
            clear hw4
            go_wp2_with (first
              | ((with_reducible show wpList _ _ _ (⟨_, Op.load 77 _, _, _, _, _⟩ :: _) _ _); refine wpList_loadAgg rfl 77 _ rfl _ Tryd.underlying77 rfl ⟨X, 0, none⟩ (scC at' mode Ao' out'.length co') scanSz rfl hC.out.load ?_)
              | ((with_reducible show wpList _ _ _ (⟨_, Op.store 77 _ _, _, _, _, _⟩ :: _) _ _); refine wpList_storeAgg rfl 77 _ _ rfl 77 Y 0 _ (scC at' mode Ao' out'.length co') rfl rfl hC.out.yr scanSz (by show 3 ≤ 3; omega) (sc_one _ _ _ _ _) ?_))
            (try simp only [Exit.inBlock, Exit.then])
            refine bodyPost_ret (results_scan rfl _ _ Y (scC at' mode Ao' out'.length co') _ (.int .i64 10) rfl rfl hC.out.fin.1.cells Tryd.underlying77 rfl scanSz) rfl ?_
            exact ⟨at', mode, out'.length, Ao', co', ⟨by rw [HR8.out], by rw [← HNB.out]; omega⟩, hC.out.fin.2.1, fun h => by rw [HR8.out] at h; exact absurd h (by simp)⟩
          · obtain ⟨c, hc⟩ : ∃ c, c = numF (b.drop at') 0 8 := ⟨_, rfl⟩
            have hc256 : c < 256 := by rw [hc]; exact numF_lt (b.drop at') 0 8
            have HT8 : Hid (takeRes (b.drop at') 0 8 = (((c : Nat) : Int), 0)) := by show _ = _; unfold takeRes; rw [if_neg (by omega), hc]
            have HR8 : Hid (byRes (k - (i + 1)) (b.drop (at' + 8)) (out' ++ [UInt8.ofNat c]) = biRes (b.drop at_) out) := by show _ = _; rw [← hR.out, HSS.out, if_neg h8, hc, List.drop_drop]
            have hat2 : at' + 8 ≤ nb := by rw [List.length_drop, ← HNB.out] at h8; omega
            have hcw := u8_wrap hc256
            have HC1 : Hid (SCN n w wa (wr.setCell ⟨X, 0, none⟩ (.int .i64 ((at' : Int) + 8))) X Y (at' + 8) mode out' Ao' co') := by
              have h := hC.out.setAt (at' + 8)
              rw [Int.natCast_add] at h
              exact h
            clear h8 HSS hR hc
            generalize UInt8.ofNat c = x at *
            go_wp2_with fail
            refine (RTake_refI A nb cb b at' 8 _ 8 _ rfl rfl (hC.out.sr HS.out) hat (by omega) hnb).mono ?_
            rintro e w4 ⟨rfl, hw4⟩
            rw [HT8.out, hw4]
            clear hw4
            go_wp2_with (at_builtin; refine wpList_appendU (ownsRow_alloc' HC1.out.O _) (by have := HC1.out.ge; simp at this ⊢; omega) rfl _ _ rfl rfl wr.heap.size x rfl (RG.one _ _ _ _ (by simp)) (by have := hL.out; have := HOL.out; omega) ?_; intro A8 c8 W8 ho8 hg8; obtain ⟨g1, g2, hd8⟩ := (HC1.out.below (bwA _ _)).grow hg8.out ho8.out; have HC8 := Lib.hid hd8; clear ho8 hg8 hd8)
            have hle : (out' ++ [x]).length = out'.length + 1 := by simp
            have hd9 := HC8.out
            rw [hle] at hd9
            exact ⟨⟨i + 1, at' + 8, out' ++ [x], A8, c8, by omega, by go_num, by omega, hd9, by show _ = _; rw [hle, hL.out]; omega, HR8.out⟩, by simp [intOf]; omega⟩
        · obtain rfl : i = k := by omega
          have HR8 : Hid (biRes (b.drop at_) out = (0, b.drop at', out')) := by show _ = _; rw [← hR.out, Nat.sub_self]; rfl
          go_wp2_with (first
            | ((with_reducible show wpList _ _ _ (⟨_, Op.load 77 _, _, _, _, _⟩ :: _) _ _); refine wpList_loadAgg rfl 77 _ rfl _ Tryd.underlying77 rfl ⟨X, 0, none⟩ (scC at' mode Ao' out'.length co') scanSz rfl hC.out.load ?_)
            | ((with_reducible show wpList _ _ _ (⟨_, Op.store 77 _ _, _, _, _, _⟩ :: _) _ _); refine wpList_storeAgg rfl 77 _ _ rfl 77 Y 0 _ (scC at' mode Ao' out'.length co') rfl rfl hC.out.yr scanSz (by show 3 ≤ 3; omega) (sc_one _ _ _ _ _) ?_))
          (try simp only [Exit.inBlock, Exit.then])
          refine bodyPost_ret (results_scan rfl _ _ Y (scC at' mode Ao' out'.length co') _ (.int .i64 0) rfl rfl hC.out.fin.1.cells Tryd.underlying77 rfl scanSz) rfl ?_
          exact ⟨at', mode, out'.length, Ao', co', ⟨by rw [HR8.out], by rw [← HNB.out]; omega⟩, hC.out.fin.2.1, fun _ => by rw [HR8.out]; exact ⟨by rw [← HNB.out]; exact hat, rfl, rfl, rfl, hC.out.fin.2.2⟩⟩
end Go.Proofs.YtplppbfnlfehnaaDoor
