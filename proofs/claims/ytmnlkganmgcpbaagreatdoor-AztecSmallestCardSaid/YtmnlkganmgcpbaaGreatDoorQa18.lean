import Derived.Test.YtmnlkganmgcpbaaGreatDoorQa17
namespace Go.Proofs.YtmnlkganmgcpbaaGreatDoor
open Go.RowKit
set_option linter.unusedVariables false
def RowAt (w : World) (b : Nat) (l : List Nat) : Prop := b < w.heap.size ∧ ∀ i, i < l.length → w.cell? ⟨b, i, none⟩ = some (.int .i64 ((l.getD i 0 : Nat) : Int)) ∧ w.frozen? ⟨b, i, none⟩ = false
theorem RowAt.below {W W' : World} {b : Nat} {l : List Nat} (h : RowAt W b l) (hb : Below W.heap.size W W') : RowAt W' b l :=
  ⟨Nat.lt_of_lt_of_le h.1 hb.size, fun i hi => ⟨(hb.cell h.1).trans (h.2 i hi).1, (hb.frozen h.1).trans (h.2 i hi).2⟩⟩
theorem RowAt.set {W : World} {b : Nat} {l : List Nat} (h : RowAt W b l) (i v : Nat) : RowAt (W.setCell ⟨b, i, none⟩ (.int .i64 (v : Int))) b (l.set i v) := by
  refine ⟨by simpa using h.1, fun j hj => ?_⟩
  have hj' : j < l.length := by simpa using hj
  refine ⟨?_, by rw [World.frozen?_setCell]; exact (h.2 j hj').2⟩
  by_cases e : i = j
  · subst e
    rw [World.cell?_setCell_same W _ _ (h.2 i hj').1]
    simp [List.getD, hj']
  · rw [World.cell?_setCell_other W _ _ _ (fun e2 => e (by injection e2))]
    rw [(h.2 j hj').1]
    simp [List.getD, List.getElem?_set_ne e]
theorem RowAt.other {W : World} {b : Nat} {l : List Nat} (h : RowAt W b l) (p : Addr) (u : Value) (hp : b ≠ p.block) : RowAt (W.setCell p u) b l := by
  refine ⟨by simpa using h.1, fun j hj => ⟨?_, by rw [World.frozen?_setCell]; exact (h.2 j hj).2⟩⟩
  rw [World.cell?_setCell_other W _ _ _ (fun e => hp (by rw [e]))]
  exact (h.2 j hj).1
theorem RowAt.new (W : World) (b : Nat) (l : List Nat) (t : TypeId) (hb : b = W.heap.size) : RowAt (W.alloc (.cells (cellsN l) t)) b l := by
  have hh : (W.alloc (.cells (cellsN l) t)).heap[b]? = some (.cells (cellsN l) t) := by
    rw [hb]; exact heap_alloc_new _ _
  refine ⟨lt_of_heap hh, fun i hi => ⟨?_, frozen_of_row _ _ _ _ _ hh⟩⟩
  rw [cell_of_row _ _ _ _ _ _ hh, cellsN_get]
  simp [List.getD, hi]
theorem RowAt.made (W : World) (b n : Nat) (t : TypeId) (hb : b = W.heap.size) : RowAt (W.alloc (.cells (madeCells #[Value.int .i64 0] n) t)) b (List.replicate n 0) := by
  have hh : (W.alloc (.cells (madeCells #[Value.int .i64 0] n) t)).heap[b]? = some (.cells (cellsN (List.replicate n 0)) t) := by
    rw [hb, ← cellsN_zero]; exact heap_alloc_new _ _
  refine ⟨lt_of_heap hh, fun i hi => ⟨?_, frozen_of_row _ _ _ _ _ hh⟩⟩
  rw [cell_of_row _ _ _ _ _ _ hh, cellsN_get]
  simp at hi
  simp [List.getD, hi]
theorem RowAt.rd {W : World} {b : Nat} {l : List Nat} (h : RowAt W b l) : RD W (some ⟨b, 0, none⟩) (zl l) := fun hn => by
  refine ⟨_, rfl, h.1, fun j hj => ?_⟩
  rw [add_plain, Nat.zero_add, zl_getD]
  exact (h.2 j (by rw [zl_length] at hj; exact hj)).1
theorem RowAt.ints {W : World} {b c n : Nat} {l : List Nat} (h : RowAt W b l) (hn : n = l.length) (hc : n ≤ c) (hm : c ≤ maxLen) : Ints W (.slice (some ⟨b, 0, none⟩) n c) (zl l) :=
  ⟨_, c, by rw [zl_length, hn], by rw [zl_length, ← hn]; exact hc, hm, h.rd⟩
theorem RowAt.of_own {W : World} {base g : Nat} {e : TypeId} {n : Nat} {c : Nat} {l : List Nat} (h : W.ownsRow base e 1 (.slice (some ⟨g, 0, none⟩) n c) n ((zl l).map (Value.int .i64))) (hn : 0 < n) : RowAt W g l := by
  have hl : l.length = n := by have := h.1; simpa [zl_length] using this
  obtain ⟨g', cap, hv, _, hlt⟩ := h.form hn
  have : g' = g := by injection hv with h1; injection h1 with h1; injection h1 with h1; exact h1.symm
  subst this
  refine ⟨hlt, fun i hi => ⟨?_, ?_⟩⟩
  · have := h.cells (g := g') rfl i (.int .i64 ((l.getD i 0 : Nat) : Int)) (by unfold zl; simp [List.getD, hi])
    rw [add_plain, Nat.zero_add] at this
    exact this
  · rcases h.2 with ⟨h1, h2⟩ | ⟨g2, cap2, cur, h1, h2, h3, _⟩
    · cases h1
    · injection h1 with h1
      injection h1 with h1
      injection h1 with h1
      subst h1
      exact frozen_of_row _ _ _ _ _ h3
end Go.Proofs.YtmnlkganmgcpbaaGreatDoor
namespace Go.Proofs.YtmnlkganmgcpbaaGreatDoor
open Go.RowKit
set_option linter.unusedVariables false
structure OutR (w wr : World) (bx : List Value) (l : List Nat) : Prop where
  B : Below w.heap.size w wr
  X : CellsAt wr w.heap.size bx
  O : RowAt wr (w.heap.size + 1) l
theorem OutR.below {w wr W : World} {bx : List Value} {l : List Nat} (h : OutR w wr bx l) (hb : Below wr.heap.size wr W) : OutR w W bx l := ⟨bwStep h.B hb, h.X.below hb, h.O.below hb⟩
theorem OutR.set {w wr : World} {bx : List Value} {l : List Nat} (h : OutR w wr bx l) (i v : Nat) : OutR w (wr.setCell ⟨w.heap.size + 1, i, none⟩ (.int .i64 (v : Int))) bx (l.set i v) :=
  ⟨h.B.setCell (by simp) _, h.X.other _ _ (by simp), h.O.set i v⟩
theorem OutR.start (w : World) (C S be bl n : Nat) (t : TypeId) : OutR w ((w.alloc (arc C S be bl)).alloc (.cells (madeCells #[Value.int .i64 0] n) t)) (arcv C S be bl) (List.replicate n 0) :=
  ⟨((Below.refl _ _).alloc (Nat.le_refl _) _).alloc (by simp) _, (CellsAt.new _ _ _ _ rfl).alloc _, RowAt.made _ _ _ _ (by simp)⟩
theorem OutR.start' (w : World) (C S be bl : Nat) (l : List Nat) (t : TypeId) : OutR w ((w.alloc (arc C S be bl)).alloc (.cells (cellsN l) t)) (arcv C S be bl) l :=
  ⟨((Below.refl _ _).alloc (Nat.le_refl _) _).alloc (by simp) _, (CellsAt.new _ _ _ _ rfl).alloc _, RowAt.new _ _ _ _ (by simp)⟩
end Go.Proofs.YtmnlkganmgcpbaaGreatDoor
namespace Go.Proofs.YtmnlkganmgcpbaaGreatDoor
open Go.RowKit
set_option linter.unusedVariables false
def subRow (s p c : Nat) (b r : List Nat) (i : Nat) : Nat → List Nat
  | 0 => r
  | j + 1 => (subRow s p c b r i j).set (i + j) (fsubN s p ((subRow s p c b r i j).getD (i + j) 0) (fmulN s p c (b.getD j 0)))
def rL (s p : Nat) (a b : List Nat) (M : Nat) : Nat → List Nat
  | 0 => a
  | k + 1 => subRow s p (fmulN s p ((rL s p a b M k).getD (M - 1 - k + (b.length - 1)) 0) (finvN s p (b.getD (b.length - 1) 0))) b (rL s p a b M k) (M - 1 - k) b.length
def cL (s p : Nat) (a b : List Nat) (M k : Nat) : Nat := fmulN s p ((rL s p a b M k).getD (M - 1 - k + (b.length - 1)) 0) (finvN s p (b.getD (b.length - 1) 0))
def qL (s p : Nat) (a b : List Nat) (M n0 : Nat) : Nat → List Nat
  | 0 => List.replicate n0 0
  | k + 1 => (qL s p a b M n0 k).set (M - 1 - k) (cL s p a b M k)
def divM (a b : List Nat) : Nat := a.length - (b.length - 1)
def divQ (s p : Nat) (a b : List Nat) : List Nat := qL s p a b (divM a b) (divM a b) (divM a b)
def divRest (s p : Nat) (a b : List Nat) : List Nat := trimL (rL s p a b (divM a b) (divM a b))
theorem subRow_length (s p c : Nat) (b r : List Nat) (i j : Nat) : (subRow s p c b r i j).length = r.length := by
  induction j with
  | zero => rfl
  | succ j ih => unfold subRow; rw [List.length_set, ih]
theorem rL_length (s p : Nat) (a b : List Nat) (M k : Nat) : (rL s p a b M k).length = a.length := by
  induction k with
  | zero => rfl
  | succ k ih => unfold rL; rw [subRow_length, ih]
theorem qL_length (s p : Nat) (a b : List Nat) (M n0 k : Nat) : (qL s p a b M n0 k).length = n0 := by
  induction k with
  | zero => simp [qL]
  | succ k ih => unfold qL; rw [List.length_set, ih]
theorem ltAll_set {s : Nat} {l : List Nat} (h : LtAll s l) (i v : Nat) (hv : v < s) : LtAll s (l.set i v) := by
  intro j
  have hj := h j
  simp only [List.getD, List.getElem?_set] at hj ⊢
  by_cases e : i = j
  · subst e
    by_cases hl : i < l.length
    · simp [hl, hv]
    · have := h i
      simp [hl]
      omega
  · simp [e]; exact hj
theorem ltAll_replicate {s n : Nat} (hs : 0 < s) : LtAll s (List.replicate n 0) := by
  intro j
  by_cases h : j < n
  · simp [List.getD, h, hs]
  · simp [List.getD, h, hs]
section
variable {c s p : Nat} (h : VF c s p)
include h
theorem subRow_lt {d : Nat} {b r : List Nat} (hr : LtAll s r) (i j : Nat) : LtAll s (subRow s p d b r i j) := by
  induction j with
  | zero => exact hr
  | succ j ih => exact ltAll_set ih _ _ (subN_lt h (ih _) (fmul_lt h _ _))
theorem rL_lt {a b : List Nat} (ha : LtAll s a) (M k : Nat) : LtAll s (rL s p a b M k) := by
  induction k with
  | zero => exact ha
  | succ k ih => exact subRow_lt h ih _ _
end
def eL (s p : Nat) (l : List Nat) (r c : Nat) : Nat → List Nat
  | 0 => (List.replicate (l.length + 1) 0).set 0 c
  | k + 1 => ((eL s p l r c k).set k (fsubN s p ((eL s p l r c k).getD k 0) (fmulN s p (l.getD k 0) r))).set (k + 1) (l.getD k 0)
def extL (s p : Nat) (l : List Nat) (r c : Nat) : List Nat := eL s p l r c l.length
theorem eL_length (s p : Nat) (l : List Nat) (r c k : Nat) : (eL s p l r c k).length = l.length + 1 := by
  induction k with
  | zero => simp [eL]
  | succ k ih => unfold eL; rw [List.length_set, List.length_set, ih]
theorem eL_lt {c s p : Nat} (h : VF c s p) {l : List Nat} (hl : LtAll s l) {r d : Nat} (hr : r < s) (hd : d < s) (k : Nat) : LtAll s (eL s p l r d k) := by
  induction k with
  | zero => exact ltAll_set (ltAll_replicate (by have := h.two_le; omega)) _ _ hd
  | succ k ih => exact ltAll_set (ltAll_set ih _ _ (subN_lt h (ih _) (fmul_lt h _ _))) _ _ (hl k)
set_option maxRecDepth 100000 in
set_option maxHeartbeats 2000000 in
theorem aextend_any (C S P be bl r c : Nat) (l : List Nat) (A : Option Addr) (ca : Nat) (w : World) (hv : VF C S P) (hl : LtAll S l) (hr : r < S) (hc : c < S) (hn : l.length ≤ 8193)
    (ht : TabAt w S P be bl) (ha : RD w A (zl l)) :
    Calls Tryz.prog 191 #[arv C S be bl, .slice A l.length ca, .int .i64 r, .int .i64 c] w fun e w' => ∃ v, e = .returned v ∧ Ints w' v (zl (extL S P l r c)) ∧ Below w.heap.size w w' := by
  obtain ⟨T, hT⟩ : ∃ T, T = l.length + 1 := ⟨_, rfl⟩
  have hmk := run_make_row' (P := Tryz.prog) 64 3 (.int .i64 0) 8 Tryz.underlying64 intInfo rfl .i64 .i64 T (by omega) (by omega)
  have hs2 : ((l.length : Int) + 1) = (T : Int) := by omega
  have HV := Lib.hid hv
  have HL := Lib.hid hl
  have HA := Lib.hid ha
  have HT := Lib.hid ht
  have HRR := Lib.hid hr
  have HLEN : Hid (∀ k, (eL S P l r c k).length = T) := fun k => by rw [eL_length, hT]
  have HLT : Hid (∀ k, LtAll S (eL S P l r c k)) := eL_lt hv hl hr hc
  have HR : Hid (extL S P l r c = eL S P l r c l.length) := rfl
  have HZ : Hid (eL S P l r c 0 = (List.replicate T 0).set 0 c) := by show _ = _; rw [hT]; rfl
  have hT1 : 0 < T := by omega
  have hT2 : T ≤ 8194 := by omega
  have hT3 : l.length < T := by omega
  clear hv hl ha ht hr hc hT
  generalize hn' : l.length = n at *
  have HN := Lib.hid hn'
  clear hn'
  have HS0 : Hid (OutR w ((w.alloc (arc C S be bl)).alloc (.cells ((madeCells #[Value.int .i64 0] T).setIfInBounds 0 (.int .i64 (c : Int))) 3)) (arcv C S be bl) (eL S P l r c 0)) := by
    rw [HZ.out, cellsN_zero, cellsN_set]; exact OutR.start' w C S be bl _ _
  have HZ0 : Hid ((((w.alloc (arc C S be bl)).alloc (.cells (madeCells #[Value.int .i64 0] T) 3)).cell? ⟨w.heap.size + 1, 0, none⟩ = some (.int .i64 ((0 : Nat) : Int))) ∧ ((w.alloc (arc C S be bl)).alloc (.cells (madeCells #[Value.int .i64 0] T) 3)).frozen? ⟨w.heap.size + 1, 0, none⟩ = false) := by
    have h := (OutR.start w C S be bl T 3).O.2 0 (by simpa using hT1)
    have e : (List.replicate T 0).getD 0 0 = 0 := by simp [List.getD, hT1]
    rw [e] at h
    exact h
  obtain ⟨hz0, hz1⟩ := HZ0.out
  go_enter Tryz.func191, Tryz.ntmps191
  go_wp2
  clear hs2 hz0 hz1
  go_loopw [21] (fun i wr => ∃ k : Nat, k ≤ n ∧ i = .int .i64 k ∧ Hid (OutR w wr (arcv C S be bl) (eL S P l r c k))) (fun i _ => n - (intOf i).toNat)
  case atStart => exact ⟨0, Nat.zero_le _, rfl, HS0⟩
  case round =>
    obtain ⟨k, hk, rfl, hO⟩ := hrel
    by_cases hlt : k < n
    · obtain ⟨ad, rfl, -, hc1⟩ := (HA.out.below hO.out.B) (by rw [zl_length, HN.out]; omega)
      have hx := hc1 k (by rw [zl_length, HN.out]; exact hlt)
      rw [zl_getD] at hx
      have HX : Hid (l.getD k 0 < S) := HL.out k
      have HST : Hid (eL S P l r c (k + 1) = ((eL S P l r c k).set k (fsubN S P ((eL S P l r c k).getD k 0) (fmulN S P (l.getD k 0) r))).set (k + 1) (l.getD k 0)) := rfl
      have HU : Hid ((eL S P l r c k).getD k 0 < S) := HLT.out k _
      have hOc := hO.out.O.2 k (by rw [HLEN.out]; omega)
      have hOd := hO.out.O.2 (k + 1) (by rw [HLEN.out]; omega)
      generalize hxe : l.getD k 0 = x at *
      generalize hue : (eL S P l r c k).getD k 0 = u at *
      generalize hue2 : (eL S P l r c k).getD (k + 1) 0 = u2 at *
      have CF : Hid (∀ W, Abv wr W → (W.cell? ⟨w.heap.size, 0, none⟩ = some (.int .i64 C) ∧ W.cell? ⟨w.heap.size, 1, none⟩ = some (.int .i64 S) ∧ W.cell? ⟨w.heap.size, 2, none⟩ = some (.slice (some ⟨be, 0, none⟩) (S - 1) (S - 1)) ∧ W.cell? ⟨w.heap.size, 3, none⟩ = some (.slice (some ⟨bl, 0, none⟩) S S)) ∧ W.cell? ⟨w.heap.size + 1, k, none⟩ = some (.int .i64 (u : Int)) ∧ W.frozen? ⟨w.heap.size + 1, k, none⟩ = false ∧ W.cell? ⟨w.heap.size + 1, k + 1, none⟩ = some (.int .i64 (u2 : Int)) ∧ W.frozen? ⟨w.heap.size + 1, k + 1, none⟩ = false) := by
        show ∀ W, _
        intro W hW
        exact ⟨arcv_cells (hO.out.X.below hW), (hW.cell hO.out.O.1).trans hOc.1, (hW.frozen hO.out.O.1).trans hOc.2, (hW.cell hO.out.O.1).trans hOd.1, (hW.frozen hO.out.O.1).trans hOd.2⟩
      have hkT : k < T := by omega
      have hkT1 : k + 1 < T := by omega
      clear hxe hue hue2 hc1 hOc hOd
      go_wp2
      clear hx
      refine wp_region_S (S := Abv wr) 13 (by kernel_rfl) (by kernel_rfl) (bwDrew (Below.refl _ _)) ?_
      simp only [List.take_succ_cons, List.take_zero, List.drop_succ_cons, List.drop_zero]
      repeat
        refine' wpHS_val rfl (fun W hW => ?_) ?_
        rotate_left
        · have hcf := CF.out W hW; go_simp; rfl
        simp only [Act.put, List.setIfInBounds_toArray, List.set_cons_zero, List.set_cons_succ]
      refine' wpHS_call rfl (fun W => ?_) (fun W hW => ?_) ?_
      rotate_left 3
      · go_simp; first | exact ⟨rfl, rfl⟩ | exact rfl
      · exact (amul_any C S P be bl x r W HV.out HX.out HRR.out ((HT.out.below hO.out.B).below hW)).mono (fun e W1 h => ⟨h.1, bwStep hW h.2⟩)
      simp only [Act.put, List.setIfInBounds_toArray, List.set_cons_zero, List.set_cons_succ]
      repeat
        refine' wpHS_val rfl (fun W hW => ?_) ?_
        rotate_left
        · have hcf := CF.out W hW; go_simp; rfl
        simp only [Act.put, List.setIfInBounds_toArray, List.set_cons_zero, List.set_cons_succ]
      refine' wpHS_call rfl (fun W => ?_) (fun W hW => ?_) ?_
      rotate_left 3
      · go_simp; first | exact ⟨rfl, rfl⟩ | exact rfl
      · exact (asub_any C S P be bl u (fmulN S P x r) W HV.out HU.out (fmul_lt HV.out _ _)).mono (fun e W1 h => ⟨h.1, bwStep hW h.2⟩)
      simp only [Act.put, List.setIfInBounds_toArray, List.set_cons_zero, List.set_cons_succ]
      repeat
        refine' wpHS_val rfl (fun W hW => ?_) ?_
        rotate_left
        · have hcf := CF.out W hW; go_simp; rfl
        simp only [Act.put, List.setIfInBounds_toArray, List.set_cons_zero, List.set_cons_succ]
      refine wpHS_nil ?_
      intro w1 hb1
      have HB1 := Lib.hid hb1
      clear hb1
      obtain ⟨-, st1, st2, st3, st4⟩ := CF.out w1 HB1.out
      have st5 : ∀ v, (w1.setCell ⟨w.heap.size + 1, k, none⟩ v).cell? ⟨w.heap.size + 1, k + 1, none⟩ = some (.int .i64 (u2 : Int)) := fun v => (World.cell?_setCell_other w1 _ _ _ (fun e => by injection e; omega)).trans st3
      go_wp2
      exact ⟨⟨k + 1, by omega, by go_num, by rw [HST.out]; exact ((hO.out.below HB1.out).set _ _).set _ _⟩, by simp [intOf]; omega⟩
    · obtain rfl : k = n := by omega
      go_wp2
      go_ret
      refine ⟨_, rfl, ?_, hO.out.B⟩
      rw [HR.out]
      exact hO.out.O.ints (HLEN.out _).symm (by omega) (by unfold maxLen; omega)
end Go.Proofs.YtmnlkganmgcpbaaGreatDoor
namespace Go.Proofs.YtmnlkganmgcpbaaGreatDoor
open Go.RowKit
set_option linter.unusedVariables false
theorem own_row {w : World} {base : Nat} {e : TypeId} {v : Value} {n : Nat} {l : List Nat} (h : w.ownsRow base e 1 v n ((zl l).map (Value.int .i64))) (hn : 0 < n) :
    ∃ g cap, v = .slice (some ⟨g, 0, none⟩) n cap ∧ base ≤ g ∧ n ≤ cap ∧ cap ≤ maxLen ∧ RowAt w g l := by
  rcases h.2 with ⟨_, h2⟩ | ⟨g, cap, cur, rfl, h2, h3, h4, h5, _⟩
  · omega
  · exact ⟨g, cap, rfl, h2, h4, h5, RowAt.of_own h hn⟩
theorem own_any {w : World} {base : Nat} {e : TypeId} {v : Value} {n : Nat} {l : List Nat} (h : w.ownsRow base e 1 v n ((zl l).map (Value.int .i64))) :
    ∃ A cap, v = .slice A n cap ∧ n ≤ cap ∧ cap ≤ maxLen ∧ RD w A (zl l) := by
  rcases h.2 with ⟨rfl, rfl⟩ | ⟨g, cap, cur, rfl, h2, h3, h4, h5, _⟩
  · have hl : l.length = 0 := by have := h.1; simpa [zl_length] using this
    have : l = [] := List.eq_nil_of_length_eq_zero hl
    subst this
    exact ⟨none, 0, rfl, Nat.le_refl _, by simp [maxLen], RD.nil_ _ _⟩
  · rcases Nat.eq_zero_or_pos n with h0 | h0
    · subst h0
      have hl : l.length = 0 := by have := h.1; simpa [zl_length] using this
      have : l = [] := List.eq_nil_of_length_eq_zero hl
      subst this
      exact ⟨_, cap, rfl, h4, h5, RD.nil_ _ _⟩
    · exact ⟨_, cap, rfl, h4, h5, (RowAt.of_own h h0).rd⟩
theorem Trim_n (l : List Nat) (n : Nat) (hn : n = l.length) (A : Option Addr) (ca : Nat) (w : World) (h1 : n ≤ 100000) (hca : n ≤ ca) (ha : RD w A (zl l)) :
    Calls Tryz.prog 116 #[.slice A n ca] w fun e w' => ∃ v, e = .returned v ∧ Ints w' v (zl (trimL l)) ∧ Below w.heap.size w w' := by
  have e : n = (zl l).length := by rw [zl_length]; exact hn
  rw [e] at h1 hca ⊢
  rw [← trimI_zl]
  exact Trim_any _ _ _ _ (by omega) hca ha
structure DivR (w wr : World) (bx : List Value) (g q : Nat) (r qs : List Nat) : Prop where
  B : Below w.heap.size w wr
  X : CellsAt wr w.heap.size bx
  R : RowAt wr g r
  Q : RowAt wr q qs
  hg : w.heap.size < g
  hq : w.heap.size < q
  n : g ≠ q
theorem DivR.below {w wr W : World} {bx : List Value} {g q : Nat} {r qs : List Nat} (h : DivR w wr bx g q r qs) (hb : Below wr.heap.size wr W) : DivR w W bx g q r qs :=
  ⟨bwStep h.B hb, h.X.below hb, h.R.below hb, h.Q.below hb, h.hg, h.hq, h.n⟩
theorem DivR.setR {w wr : World} {bx : List Value} {g q : Nat} {r qs : List Nat} (h : DivR w wr bx g q r qs) (i v : Nat) : DivR w (wr.setCell ⟨g, i, none⟩ (.int .i64 (v : Int))) bx g q (r.set i v) qs :=
  ⟨h.B.setCell (by have := h.hg; simp; omega) _, h.X.other _ _ (by have := h.hg; simp; omega), h.R.set i v, h.Q.other _ _ (Ne.symm h.n), h.hg, h.hq, h.n⟩
theorem DivR.setQ {w wr : World} {bx : List Value} {g q : Nat} {r qs : List Nat} (h : DivR w wr bx g q r qs) (i v : Nat) : DivR w (wr.setCell ⟨q, i, none⟩ (.int .i64 (v : Int))) bx g q r (qs.set i v) :=
  ⟨h.B.setCell (by have := h.hq; simp; omega) _, h.X.other _ _ (by have := h.hq; simp; omega), h.R.other _ _ h.n, h.Q.set i v, h.hg, h.hq, h.n⟩
set_option maxRecDepth 100000 in
set_option maxHeartbeats 2000000 in
theorem adivide_none (C S P be bl : Nat) (a b : List Nat) (A B : Option Addr) (ca cb : Nat) (w : World) (hv : VF C S P) (hna : a.length ≤ 8193) (hnb : b.length ≤ 4097) (hb1 : 1 ≤ b.length) (hM : a.length ≤ b.length - 1)
    (ha : RD w A (zl a)) :
    Calls Tryz.prog 156 #[arv C S be bl, .slice A a.length ca, .slice B b.length cb] w fun e w' => ∃ vq vr, e = .returned (.tuple #[vq, vr]) ∧ Ints w' vq (zl (divQ S P a b)) ∧ Ints w' vr (zl (divRest S P a b)) ∧ Below w.heap.size w w' := by
  obtain ⟨i0, hi, hz0, hz1, hz2⟩ := info_parts intInfo
  have HA := Lib.hid (ha.alloc (arc C S be bl))
  have HD : Hid (divM a b = 0) := by show _ = _; unfold divM; omega
  have HQ : Hid (divQ S P a b = []) := by show _ = _; unfold divQ; rw [HD.out]; rfl
  have HR : Hid (divRest S P a b = trimL a) := by show _ = _; unfold divRest; rw [HD.out]; rfl
  have HZ : Hid (a.length = (zl a).length) := (zl_length a).symm
  clear ha
  obtain ⟨tp, htp⟩ : ∃ tp, tp = b.length - 1 := ⟨_, rfl⟩
  have hs1 : ((b.length : Int) - 1) = (tp : Int) := by omega
  have hle : a.length ≤ tp := by omega
  generalize hn : a.length = n at *
  generalize hm : b.length = m at *
  have HN := Lib.hid hn
  clear hn hm htp
  go_enter Tryz.func156, Tryz.ntmps156
  go_wp2_with (at_builtin; refine wpList_append_read rfl _ _ _ rfl (w.heap.size + 1) 3 i0 _ Tryz.underlying64 hi hz0 hz1 hz2 rfl (.slice none 0 0) 0 [] rfl (World.ownsRow_nil _ _ _ _) A n _ (zl a) rfl HZ.out HA.out (by omega) (by simp) ?_; intro v1 w1 hown hg hat; have HB1 : Hid (Below w.heap.size w w1) := ((Below.refl _ _).alloc (Nat.le_refl _) _).grown hg (by simp) (fun j hj => by cases hj); obtain ⟨A1, c1, rfl, hc1, hc2, hrd⟩ := own_any (l := a) (n := n) (by simpa using hown); have HRD := Lib.hid hrd; clear hown hg hat hrd)
  go_loopw [9] (fun i wr => ∃ j : Int, i = .int .i64 j ∧ Hid (j < 0) ∧ Hid (wr = w1)) (fun _ _ => 0)
  case atStart => exact ⟨_, rfl, by show _ < _; omega, rfl⟩
  case round =>
    obtain ⟨j, rfl, hj, hw⟩ := hrel
    obtain rfl := hw.out
    have hj0 := hj.out
    go_wp2_with (go_at_call 116; refine (Trim_n a n HN.out.symm A1 c1 _ (by omega) hc1 HRD.out).mono ?_; rintro e w2 ⟨v2, rfl, hI2, hb2⟩; have HI2 := Lib.hid hI2; have HB2 := Lib.hid hb2; clear hI2 hb2)
    go_ret2
    refine ⟨_, _, rfl, ?_, ?_, bwStep HB1.out HB2.out⟩
    · rw [HQ.out]; exact Ints.nil_ _
    · rw [HR.out]; exact HI2.out
set_option maxRecDepth 100000 in
set_option maxHeartbeats 4000000 in
theorem adivide_some (C S P be bl : Nat) (a b : List Nat) (A B : Option Addr) (ca cb : Nat) (w : World) (hv : VF C S P) (hla : LtAll S a) (hlb : LtAll S b) (hna : a.length ≤ 8193) (hnb : b.length ≤ 4097) (hb1 : 1 ≤ b.length) (hM : b.length ≤ a.length)
    (hb0 : b.getD (b.length - 1) 0 ≠ 0) (ht : TabAt w S P be bl) (ha : RD w A (zl a)) (hb : RD w B (zl b)) :
    Calls Tryz.prog 156 #[arv C S be bl, .slice A a.length ca, .slice B b.length cb] w fun e w' => ∃ vq vr, e = .returned (.tuple #[vq, vr]) ∧ Ints w' vq (zl (divQ S P a b)) ∧ Ints w' vr (zl (divRest S P a b)) ∧ Below w.heap.size w w' := by
  obtain ⟨i0, hi, hz0, hz1, hz2⟩ := info_parts intInfo
  obtain ⟨M, hMe⟩ : ∃ M, M = divM a b := ⟨_, rfl⟩
  obtain ⟨tp, htp⟩ : ∃ tp, tp = b.length - 1 := ⟨_, rfl⟩
  have hMe2 : M = a.length - (b.length - 1) := hMe
  have hmk := run_make_row' (P := Tryz.prog) 64 3 (.int .i64 0) 8 Tryz.underlying64 intInfo rfl .i64 .i64 M (by omega) (by omega)
  have HA := Lib.hid (ha.alloc (arc C S be bl))
  have HB := Lib.hid hb
  have HT := Lib.hid ht
  have HV := Lib.hid hv
  have HLB := Lib.hid hlb
  have HQ : Hid (divQ S P a b = qL S P a b M M M) := by show _ = _; rw [hMe]; rfl
  have HR : Hid (divRest S P a b = trimL (rL S P a b M M)) := by show _ = _; rw [hMe]; rfl
  have HRS : Hid (∀ k, rL S P a b M (k + 1) = subRow S P (cL S P a b M k) b (rL S P a b M k) (M - 1 - k) b.length) := fun k => rfl
  have HCS : Hid (∀ k, cL S P a b M k = fmulN S P ((rL S P a b M k).getD (M - 1 - k + tp) 0) (finvN S P (b.getD tp 0))) := fun k => by rw [htp]; rfl
  have HQS : Hid (∀ k, qL S P a b M M (k + 1) = (qL S P a b M M k).set (M - 1 - k) (cL S P a b M k)) := fun k => rfl
  have HLR : Hid (∀ k, LtAll S (rL S P a b M k)) := fun k => rL_lt hv hla _ _
  have HRLEN : Hid (∀ k, (rL S P a b M k).length = a.length) := fun k => rL_length _ _ _ _ _ _
  have HQLEN : Hid (∀ k, (qL S P a b M M k).length = M) := fun k => qL_length _ _ _ _ _ _ _
  have HZ : Hid (a.length = (zl a).length) := (zl_length a).symm
  have HB0 : Hid (b.getD tp 0 ≠ 0) := by rw [htp]; exact hb0
  have hs1 : ((b.length : Int) - 1) = (tp : Int) := by omega
  have hs2 : ((a.length : Int) - (tp : Int)) = (M : Int) := by omega
  have hlt : (tp : Int) < (a.length : Int) := by omega
  have hM1 : 1 ≤ M := by omega
  have hM2 : M ≤ 8193 := by omega
  have hMt : M + tp ≤ a.length := by omega
  have htm : tp < b.length := by omega
  have htm2 : b.length ≤ tp + 1 := by omega
  clear ha hb ht hv hla hlb hb0 hMe hMe2 htp
  generalize hn : a.length = n at *
  generalize hm : b.length = m at *
  have HN := Lib.hid hn
  have HM := Lib.hid hm
  clear hn hm
  go_enter Tryz.func156, Tryz.ntmps156
  go_wp2_with (at_builtin; refine wpList_append_read rfl _ _ _ rfl (w.heap.size + 1) 3 i0 _ Tryz.underlying64 hi hz0 hz1 hz2 rfl (.slice none 0 0) 0 [] rfl (World.ownsRow_nil _ _ _ _) A n _ (zl a) rfl HZ.out HA.out (by omega) (by simp) ?_; intro v1 w1 hown hg hat; have HB1 : Hid (Below (w.alloc (arc C S be bl)).heap.size (w.alloc (arc C S be bl)) w1) := (Below.refl _ _).grown hg (Nat.le_refl _) (fun j hj => by cases hj); obtain ⟨g, c1, rfl, hg1, hc1, hc2, hrow⟩ := own_row (l := a) (n := n) (by simpa using hown) (by omega); have HROW := Lib.hid hrow; clear hown hg hat hrow)
  clear hs1 hs2
  have HS0 : Hid (DivR w (w1.alloc (.cells (madeCells #[Value.int .i64 0] M) 3)) (arcv C S be bl) g w1.heap.size a (List.replicate M 0)) := by
    have hlt := HB1.out.size
    simp at hlt
    exact ⟨bwAlloc (bw1 HB1.out) _, ((CellsAt.new _ _ _ _ rfl).below HB1.out).alloc _, HROW.out.below ((Below.refl _ _).alloc (Nat.le_refl _) _), RowAt.made _ _ _ _ rfl, by omega, by omega, Nat.ne_of_lt HROW.out.1⟩
  generalize hq : w1.heap.size = q at *
  clear hq
  clear hmk HZ HA
  go_loopw [9] (fun i wr => ∃ (k : Nat) (j : Int), k ≤ M ∧ i = .int .i64 j ∧ Hid (j = (M : Int) - 1 - k) ∧ Hid (DivR w wr (arcv C S be bl) g q (rL S P a b M k) (qL S P a b M M k))) (fun i _ => (intOf i + 1).toNat)
  case atStart => exact ⟨0, _, Nat.zero_le _, rfl, by show _ = _; omega, HS0⟩
  case round =>
    obtain ⟨k, j, hk, rfl, hj, hD⟩ := hrel
    by_cases hlt1 : k < M
    · obtain ⟨i, hi1⟩ : ∃ i, i = M - 1 - k := ⟨_, rfl⟩
      have hiM : i < M := by omega
      have hin : i + tp < n := by omega
      obtain rfl : j = (i : Int) := by have := hj.out; omega
      have hHR := HRS.out k
      have hHQ := HQS.out k
      have hHC := HCS.out k
      rw [← hi1] at hHR hHQ hHC
      obtain ⟨bd, rfl, -, hcb⟩ := HB.out (by rw [zl_length, HM.out]; omega)
      have HBC : Hid (∀ W, Abv w W → ∀ t, t < m → W.cell? (bd.add t) = some (.int .i64 ((b.getD t 0 : Nat) : Int))) := by
        show ∀ W, _
        intro W hW t ht
        obtain ⟨bd', e, _, hc⟩ := HB.out.below hW (by rw [zl_length, HM.out]; omega)
        injection e with e
        subst e
        rw [hc t (by rw [zl_length, HM.out]; omega), zl_getD]
      have hRc := hD.out.R.2 (i + tp) (by rw [HRLEN.out]; omega)
      have hQc := hD.out.Q.2 i (by rw [HQLEN.out]; omega)
      have HU : Hid ((rL S P a b M k).getD (i + tp) 0 < S) := HLR.out k _
      have HT0 : Hid (b.getD tp 0 < S) := HLB.out tp
      have HLRk := Lib.hid (HLR.out k)
      have HRkn := Lib.hid (HRLEN.out k)
      generalize hRk : rL S P a b M k = Rk at *
      generalize hQk : qL S P a b M M k = Qk at *
      generalize hCk : cL S P a b M k = ck at *
      generalize hue : Rk.getD (i + tp) 0 = u at *
      generalize hbe : b.getD tp 0 = bt at *
      generalize hqe : Qk.getD i 0 = qi at *
      have CF : Hid (∀ W, Abv wr W → ((W.cell? ⟨w.heap.size, 0, none⟩ = some (.int .i64 C) ∧ W.cell? ⟨w.heap.size, 1, none⟩ = some (.int .i64 S) ∧ W.cell? ⟨w.heap.size, 2, none⟩ = some (.slice (some ⟨be, 0, none⟩) (S - 1) (S - 1)) ∧ W.cell? ⟨w.heap.size, 3, none⟩ = some (.slice (some ⟨bl, 0, none⟩) S S)) ∧ W.cell? ⟨g, i + tp, none⟩ = some (.int .i64 (u : Int)) ∧ W.cell? (bd.add tp) = some (.int .i64 (bt : Int))) ∧ W.cell? ⟨q, i, none⟩ = some (.int .i64 (qi : Int)) ∧ W.frozen? ⟨q, i, none⟩ = false) := by
        show ∀ W, _
        intro W hW
        refine ⟨⟨arcv_cells (hD.out.X.below hW), (hW.cell hD.out.R.1).trans hRc.1, ?_⟩, (hW.cell hD.out.Q.1).trans hQc.1, (hW.frozen hD.out.Q.1).trans hQc.2⟩
        rw [HBC.out W (bwStep hD.out.B hW) tp htm, hbe]
      have HRE := Lib.hid hHR
      have HQE := Lib.hid hHQ
      have HCE := Lib.hid hHC
      have HBT := Lib.hid hbe
      have HIE := Lib.hid hi1
      clear hHR hHQ hHC hcb hRc hQc hRk hQk hCk hue hbe hqe hi1
      have hj1 : (0 : Int) ≤ (i : Int) + tp := by omega
      have hj2 : (i : Int) + tp < (n : Int) := by omega
      have hto : ((i : Int) + tp).toNat = i + tp := by omega
      have hwr : IntKind.i64.wrap ((i : Int) + tp) = (i : Int) + tp := wr64 _ (by omega) (by omega)
      go_wp2
      refine wp_region_S (S := Abv wr) 12 (by kernel_rfl) (by kernel_rfl) (bwDrew (Below.refl _ _)) ?_
      simp only [List.take_succ_cons, List.take_zero, List.drop_succ_cons, List.drop_zero]
      repeat
        refine' wpHS_val rfl (fun W hW => ?_) ?_
        rotate_left
        · have hcf := CF.out W hW; go_simp; rfl
        simp only [Act.put, List.setIfInBounds_toArray, List.set_cons_zero, List.set_cons_succ]
      refine' wpHS_call rfl (fun W => ?_) (fun W hW => ?_) ?_
      rotate_left 3
      · go_simp; first | exact ⟨rfl, rfl⟩ | exact rfl
      · exact (adiv_any C S P be bl u bt W HV.out HU.out HT0.out HB0.out ((HT.out.below hD.out.B).below hW)).mono (fun e W1 h => ⟨h.1, bwStep hW h.2⟩)
      simp only [Act.put, List.setIfInBounds_toArray, List.set_cons_zero, List.set_cons_succ]
      repeat
        refine' wpHS_val rfl (fun W hW => ?_) ?_
        rotate_left
        · have hcf := CF.out W hW; go_simp; rfl
        simp only [Act.put, List.setIfInBounds_toArray, List.set_cons_zero, List.set_cons_succ]
      refine wpHS_nil ?_
      intro w2 hb1
      have HB2 := Lib.hid hb1
      clear hb1
      clear hwr hto hj1 hj2
      rw [← HCE.out]
      have HCK : Hid (ck < S) := by rw [HCE.out]; exact fmul_lt HV.out _ _
      obtain ⟨-, st1, st2⟩ := CF.out w2 HB2.out
      have HD2 : Hid (DivR w (w2.setCell ⟨q, i, none⟩ (.int .i64 (ck : Int))) (arcv C S be bl) g q Rk (qL S P a b M M (k + 1))) := by
        rw [HQE.out]; exact (hD.out.below HB2.out).setQ i ck
      have HSB : Hid (∀ x, subRow S P ck b Rk i (x + 1) = (subRow S P ck b Rk i x).set (i + x) (fsubN S P ((subRow S P ck b Rk i x).getD (i + x) 0) (fmulN S P ck (b.getD x 0)))) := fun x => rfl
      have HSL : Hid (∀ x, LtAll S (subRow S P ck b Rk i x)) := fun x => subRow_lt HV.out HLRk.out i x
      have HSN : Hid (∀ x, (subRow S P ck b Rk i x).length = n) := fun x => (subRow_length _ _ _ _ _ _ _).trans HRkn.out
      go_wp2
      clear st1 st2
      generalize w2.setCell ⟨q, i, none⟩ (.int .i64 (ck : Int)) = wo at *
      go_loopw [52] (fun t wr => ∃ x : Nat, x ≤ m ∧ t = .int .i64 x ∧ Hid (DivR w wr (arcv C S be bl) g q (subRow S P ck b Rk i x) (qL S P a b M M (k + 1)))) (fun t _ => m - (intOf t).toNat)
      case atStart => exact ⟨0, Nat.zero_le _, rfl, HD2⟩
      case round =>
        obtain ⟨x, hx, rfl, hE⟩ := hrel
        by_cases hlt2 : x < m
        · have hy := HBC.out _ hE.out.B x hlt2
          have HY : Hid (b.getD x 0 < S) := HLB.out x
          have hSx := HSB.out x
          have HU2 : Hid ((subRow S P ck b Rk i x).getD (i + x) 0 < S) := HSL.out x _
          have hEc := hE.out.R.2 (i + x) (by rw [HSN.out]; omega)
          generalize hye : b.getD x 0 = y at *
          generalize hue : (subRow S P ck b Rk i x).getD (i + x) 0 = u2 at *
          have HSX := Lib.hid hSx
          have CF2 : Hid (∀ W, Abv wr W → (W.cell? ⟨w.heap.size, 0, none⟩ = some (.int .i64 C) ∧ W.cell? ⟨w.heap.size, 1, none⟩ = some (.int .i64 S) ∧ W.cell? ⟨w.heap.size, 2, none⟩ = some (.slice (some ⟨be, 0, none⟩) (S - 1) (S - 1)) ∧ W.cell? ⟨w.heap.size, 3, none⟩ = some (.slice (some ⟨bl, 0, none⟩) S S)) ∧ W.cell? ⟨g, i + x, none⟩ = some (.int .i64 (u2 : Int)) ∧ W.frozen? ⟨g, i + x, none⟩ = false) := by
            show ∀ W, _
            intro W hW
            exact ⟨arcv_cells (hE.out.X.below hW), (hW.cell hE.out.R.1).trans hEc.1, (hW.frozen hE.out.R.1).trans hEc.2⟩
          clear hye hue hEc hSx
          have hj1 : (0 : Int) ≤ (i : Int) + x := by omega
          have hj2 : (i : Int) + x < (n : Int) := by omega
          have hto : ((i : Int) + x).toNat = i + x := by omega
          have hwr : IntKind.i64.wrap ((i : Int) + x) = (i : Int) + x := wr64 _ (by omega) (by omega)
          go_wp2
          clear hy
          refine wp_region_S (S := Abv wr) 17 (by kernel_rfl) (by kernel_rfl) (bwDrew (Below.refl _ _)) ?_
          simp only [List.take_succ_cons, List.take_zero, List.drop_succ_cons, List.drop_zero]
          repeat
            refine' wpHS_val rfl (fun W hW => ?_) ?_
            rotate_left
            · have hcf := CF2.out W hW; go_simp; rfl
            simp only [Act.put, List.setIfInBounds_toArray, List.set_cons_zero, List.set_cons_succ]
          refine' wpHS_call rfl (fun W => ?_) (fun W hW => ?_) ?_
          rotate_left 3
          · go_simp; first | exact ⟨rfl, rfl⟩ | exact rfl
          · exact (amul_any C S P be bl ck y W HV.out HCK.out HY.out ((HT.out.below hE.out.B).below hW)).mono (fun e W1 h => ⟨h.1, bwStep hW h.2⟩)
          simp only [Act.put, List.setIfInBounds_toArray, List.set_cons_zero, List.set_cons_succ]
          repeat
            refine' wpHS_val rfl (fun W hW => ?_) ?_
            rotate_left
            · have hcf := CF2.out W hW; go_simp; rfl
            simp only [Act.put, List.setIfInBounds_toArray, List.set_cons_zero, List.set_cons_succ]
          refine' wpHS_call rfl (fun W => ?_) (fun W hW => ?_) ?_
          rotate_left 3
          · go_simp; first | exact ⟨rfl, rfl⟩ | exact rfl
          · exact (asub_any C S P be bl u2 (fmulN S P ck y) W HV.out HU2.out (fmul_lt HV.out _ _)).mono (fun e W1 h => ⟨h.1, bwStep hW h.2⟩)
          simp only [Act.put, List.setIfInBounds_toArray, List.set_cons_zero, List.set_cons_succ]
          repeat
            refine' wpHS_val rfl (fun W hW => ?_) ?_
            rotate_left
            · have hcf := CF2.out W hW; go_simp; rfl
            simp only [Act.put, List.setIfInBounds_toArray, List.set_cons_zero, List.set_cons_succ]
          refine wpHS_nil ?_
          intro w3 hb1
          have HB3 := Lib.hid hb1
          clear hb1
          obtain ⟨-, st1, st2⟩ := CF2.out w3 HB3.out
          go_wp2
          clear hwr
          exact ⟨⟨x + 1, by omega, by go_num, by rw [HSX.out]; exact (hE.out.below HB3.out).setR _ _⟩, by simp [intOf]; omega⟩
        · obtain rfl : x = m := by omega
          go_wp2
          exact ⟨⟨k + 1, _, by omega, rfl, by have := HIE.out; show _ = _; omega, by rw [HRE.out]; exact hE⟩, by simp [intOf]⟩
    · obtain rfl : k = M := by omega
      have hj0 : j < 0 := by have := hj.out; omega
      go_wp2_with (go_at_call 116; refine (Trim_n (rL S P a b k k) n (HRLEN.out k).symm _ _ _ (by omega) hc1 hD.out.R.rd).mono ?_; rintro e w2 ⟨v2, rfl, hI2, hb2⟩; have HI2 := Lib.hid hI2; have HB2 := Lib.hid hb2; clear hI2 hb2)
      go_ret2
      refine ⟨_, _, rfl, ?_, ?_, bwStep hD.out.B HB2.out⟩
      · rw [HQ.out]; exact (hD.out.Q.ints (HQLEN.out _).symm (Nat.le_refl _) (by unfold maxLen; omega)).below HB2.out
      · rw [HR.out]; exact HI2.out
end Go.Proofs.YtmnlkganmgcpbaaGreatDoor
