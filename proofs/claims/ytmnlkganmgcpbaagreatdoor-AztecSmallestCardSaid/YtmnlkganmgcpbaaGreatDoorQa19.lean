import Derived.Test.YtmnlkganmgcpbaaGreatDoorQa18
import Derived.Test.YtmnlkganmgcpbaaGreatDoorQa17
namespace Go.Proofs.YtmnlkganmgcpbaaGreatDoor
open Go.RowKit
set_option linter.unusedVariables false
theorem elements_n (c s p : Int) (xs : List Int) (n : Nat) (hn : n = xs.length) (A : Option Addr) (ca : Nat) (w : World) (h1 : n ≤ 9223372036854775807) (ha : RD w A xs) :
    Calls Tryz.prog 190 #[fldv c s p, .slice A n ca] w fun e w' => e = .returned (.bool (inB s xs)) ∧ Below w.heap.size w w' := by
  subst hn; exact elements_any c s p xs A ca w h1 ha
def polB (s : Int) (xs : List Int) : Bool := decide (xs.length ≤ 4097) && (decide (xs.length = 0) || !decide (xs.getD (xs.length - 1) 0 = 0)) && inB s xs
structure Sl where
  A : Option Addr
  n : Nat
  c : Nat
  xs : List Int
abbrev Sl.v (q : Sl) : Value := .slice q.A q.n q.c
structure Sl.R (q : Sl) (w : World) : Prop where
  hn : q.n = q.xs.length
  hm : q.n ≤ 9223372036854775807
  rd : RD w q.A q.xs
  hc : q.n ≤ q.c
  hcm : q.c ≤ maxLen
theorem Sl.R.below {q : Sl} {W W' : World} (h : q.R W) (hb : Below W.heap.size W W') : q.R W' := ⟨h.hn, h.hm, h.rd.below hb, h.hc, h.hcm⟩
theorem Sl.R.ints {q : Sl} {w : World} (h : q.R w) : Ints w q.v q.xs := ⟨q.A, q.c, by rw [← h.hn], by rw [← h.hn]; exact h.hc, h.hcm, h.rd⟩
theorem Ints.sl {w : World} {v : Value} {xs : List Int} (h : Ints w v xs) : ∃ q : Sl, v = q.v ∧ q.R w ∧ q.xs = xs := by
  obtain ⟨A, c, rfl, h1, h2, h3⟩ := h
  exact ⟨⟨A, xs.length, c, xs⟩, rfl, ⟨rfl, by unfold maxLen at h2; simp only; omega, h3, h1, h2⟩, rfl⟩
instance : Inhabited Sl := ⟨⟨none, 0, 0, []⟩⟩
structure Sls (w : World) (V : Option Addr) (ps : List Sl) : Prop where
  rd : 0 < ps.length → ∃ b, V = some ⟨b, 0, none⟩ ∧ b < w.heap.size ∧ ∀ j, j < ps.length → w.cell? ⟨b, j, none⟩ = some (ps.getD j default).v
  el : ∀ q ∈ ps, q.R w
theorem Sls.below {V : Option Addr} {ps : List Sl} {W W' : World} (h : Sls W V ps) (hb : Below W.heap.size W W') : Sls W' V ps :=
  ⟨fun hn => by obtain ⟨b, e, hl, hc⟩ := h.rd hn; exact ⟨b, e, Nat.lt_of_lt_of_le hl hb.size, fun j hj => (hb.cell hl).trans (hc j hj)⟩, fun q hq => (h.el q hq).below hb⟩
theorem Sls.nil_ (w : World) (V : Option Addr) : Sls w V [] := ⟨fun h => absurd h (by simp), fun q hq => by cases hq⟩
theorem Sls.two {w : World} {q r : Sl} (t : TypeId) (b : Nat) (hb : b = w.heap.size) (h : q.R w) (g : r.R w) : Sls (w.alloc (.cells #[q.v, r.v] t)) (some ⟨b, 0, none⟩) [q, r] := by
  refine ⟨fun _ => ⟨b, rfl, by simp; omega, fun j hj => ?_⟩, fun q' hq => ?_⟩
  · have := (CellsAt.new w #[q.v, r.v] t b hb).2 j (by simpa using hj)
    rw [this]
    have : j = 0 ∨ j = 1 := by simp at hj; omega
    rcases this with rfl | rfl <;> rfl
  · have hb1 : Below w.heap.size w (w.alloc (.cells #[q.v, r.v] t)) := (Below.refl _ _).alloc (Nat.le_refl _) _
    rcases List.mem_cons.1 hq with rfl | hq
    · exact h.below hb1
    · obtain rfl : q' = r := by simpa using hq
      exact g.below hb1
theorem all_step {ps : List Sl} {f : Sl → Bool} {k : Nat} (hk : k < ps.length) (h : f (ps.getD k default) = false) : ps.all f = false := by
  rw [List.all_eq_false]
  refine ⟨ps[k], List.getElem_mem hk, ?_⟩
  have e : ps.getD k default = ps[k] := by simp [List.getD, hk]
  rw [e] at h; simpa using h
theorem all_end {ps : List Sl} {f : Sl → Bool} (h : ∀ j, j < ps.length → f (ps.getD j default) = true) : ps.all f = true := by
  rw [List.all_eq_true]
  intro q hq
  obtain ⟨j, hj, rfl⟩ := List.getElem_of_mem hq
  have := h j hj
  simpa [List.getD, hj] using this
theorem Sls.at_ {w : World} {V : Option Addr} {ps : List Sl} (h : Sls w V ps) {k : Nat} (hk : k < ps.length) : (ps.getD k default).R w := by
  have e : ps.getD k default = ps[k] := by simp [List.getD, hk]
  rw [e]; exact h.el _ (List.getElem_mem hk)
theorem polB_long {s : Int} {xs : List Int} (h : 4097 < xs.length) : polB s xs = false := by
  unfold polB; rw [show decide (xs.length ≤ 4097) = false from by simp; omega]; rfl
theorem polB_zero {s : Int} {xs : List Int} (h : 1 ≤ xs.length) (h0 : xs.getD (xs.length - 1) 0 = 0) : polB s xs = false := by
  unfold polB; rw [show decide (xs.length = 0) = false from by simp; intro e; rw [e] at h; simp at h, h0]; simp
theorem polB_in {s : Int} {xs : List Int} (h : xs.length ≤ 4097) (h0 : xs.length = 0 ∨ xs.getD (xs.length - 1) 0 ≠ 0) : polB s xs = inB s xs := by
  unfold polB
  rw [show decide (xs.length ≤ 4097) = true from by simp; omega]
  rcases h0 with h0 | h0
  · rw [show decide (xs.length = 0) = true from by simpa using h0]; simp
  · rw [show decide (xs.getD (xs.length - 1) 0 = 0) = false from by simpa using h0]; simp
abbrev fldC (c s p : Int) : List Value := [.int .i64 c, .int .i64 s, .int .i64 p]
abbrev fldB (c s p : Int) : Obj := .cells #[.int .i64 c, .int .i64 s, .int .i64 p] 89
theorem fldC_cells {W : World} {b : Nat} {c s p : Int} (h : CellsAt W b (fldC c s p)) : W.cell? ⟨b, 0, none⟩ = some (.int .i64 c) ∧ W.cell? ⟨b, 1, none⟩ = some (.int .i64 s) ∧ W.cell? ⟨b, 2, none⟩ = some (.int .i64 p) :=
  ⟨h.2 0 (by simp), h.2 1 (by simp), h.2 2 (by simp)⟩
set_option maxRecDepth 100000 in
set_option maxHeartbeats 1000000 in
theorem pvalid_any (c s p : Int) (V : Option Addr) (m cv : Nat) (ps : List Sl) (w : World) (hm : m = ps.length) (hm2 : m ≤ 1000) (hp : p ≤ 9223372036854775807) (hs : Sls w V ps) :
    Calls Tryz.prog 154 #[fldv c s p, .slice V m cv] w fun e w' => e = .returned (.bool (vldB c s p && ps.all fun q => polB s q.xs)) ∧ Below w.heap.size w w' := by
  have CB : Hid (CellsAt (w.alloc (fldB c s p)) w.heap.size (fldC c s p)) := CellsAt.new _ _ _ _ rfl
  have HS := Lib.hid (hs.below ((Below.refl _ _).alloc (Nat.le_refl _) (fldB c s p)))
  have HM := Lib.hid hm
  clear hm hs
  by_cases hv : vldB c s p = true
  · have HV := Lib.hid hv
    clear hv
    go_enter Tryz.func154, Tryz.ntmps154
    go_wp2_with (go_at_call 149; refine (valid_any c s p _ hp).mono ?_; rintro e w1 ⟨rfl, hb1⟩; rw [HV.out]; have HB1 := Lib.hid hb1; clear hb1)
    go_loopw [13] (fun i wr => ∃ k : Nat, k ≤ m ∧ i = .int .i64 k ∧ Hid (∀ j, j < k → polB s (ps.getD j default).xs = true) ∧ Hid (Below (w.alloc (fldB c s p)).heap.size (w.alloc (fldB c s p)) wr)) (fun i _ => m - (intOf i).toNat)
    case atStart => exact ⟨0, Nat.zero_le _, rfl, fun j hj => by omega, HB1.out⟩
    case round =>
      obtain ⟨k, hk, rfl, hid, hbw⟩ := hrel
      by_cases hlt : k < m
      · obtain ⟨b, rfl, -, hc⟩ := (HS.out.below hbw.out).rd (by rw [← HM.out]; omega)
        have hx := hc k (by rw [← HM.out]; exact hlt)
        have HQ := Lib.hid ((HS.out.below hbw.out).at_ (k := k) (by rw [← HM.out]; exact hlt))
        have HST : Hid (polB s (ps.getD k default).xs = false → ps.all (fun q => polB s q.xs) = false) := fun h => all_step (f := fun q => polB s q.xs) (by rw [← HM.out]; exact hlt) h
        obtain ⟨hf0, hf1, hf2⟩ := fldC_cells (CB.out.below hbw.out)
        clear hc
        generalize hqe : ps.getD k default = q at *
        have HQE := Lib.hid hqe
        clear hqe
        obtain ⟨A, n, ca, xs⟩ := q
        have hn63 := HQ.out.hm
        have hnn := HQ.out.hn
        have HRD : Hid (RD wr A xs) := Lib.hid HQ.out.rd
        simp only [Sl.v] at hx hn63 hnn
        have HNN := Lib.hid hnn
        clear hnn
        have FALSE : Hid (polB s xs = false → Value.bool false = .bool (vldB c s p && ps.all fun q => polB s q.xs)) := fun h => by rw [HV.out, HST.out h]; rfl
        have NEXT : Hid (polB s xs = true → ∀ j, j < k + 1 → polB s (ps.getD j default).xs = true) := fun h j hj => by
          by_cases hjk : j = k
          · subst hjk; rw [HQE.out]; exact h
          · exact hid.out j (by omega)
        by_cases hbig : 4097 < n
        · have HF := Lib.hid (FALSE.out (polB_long (by rw [← HNN.out]; exact hbig)))
          go_wp2
          go_ret
          exact ⟨congrArg Ending.returned HF.out, bw1 hbw.out⟩
        · have hsm : n ≤ 4097 := by omega
          clear hbig hn63
          by_cases h0 : n = 0
          · subst h0
            have hxe : xs = [] := List.eq_nil_of_length_eq_zero HNN.out.symm
            have HI : Hid (inB s xs = true) := by show _ = _; rw [hxe]; rfl
            have HN2 := Lib.hid (NEXT.out (by rw [polB_in (by rw [← HNN.out]; omega) (.inl HNN.out.symm)]; exact HI.out))
            clear hxe
            go_wp2_with (go_at_call 190; refine (elements_n c s p xs 0 HNN.out A ca _ (by omega) HRD.out).mono ?_; rintro e w2 ⟨rfl, hb2⟩; rw [HI.out]; have HB2 := Lib.hid hb2; clear hb2)
            exact ⟨⟨k + 1, by omega, by go_num, HN2.out, bwStep hbw.out HB2.out⟩, by simp [intOf]; omega⟩
          · obtain ⟨q, hqe⟩ : ∃ q, q = n - 1 := ⟨_, rfl⟩
            have hs1 : (n : Int) - 1 = (q : Int) := by omega
            have hqn : q < n := by omega
            have hqb : q ≤ 4096 := by omega
            have hn1 : 1 ≤ n := by omega
            have hd : decide ((4097 : Int) < (n : Int)) = false := by simp; omega
            have hd2 : decide ((0 : Int) < (n : Int)) = true := by simp; omega
            obtain ⟨ad, rfl, -, hc⟩ := HRD.out (by rw [← HNN.out]; omega)
            have hx1 := hc q (by rw [← HNN.out]; omega)
            have HSM := Lib.hid hsm
            have HZ : Hid (xs.getD (xs.length - 1) 0 = xs.getD q 0) := by show _ = _; rw [← HNN.out, hqe]
            clear hsm h0 hqe
            clear hc
            generalize xs.getD q 0 = x at *
            by_cases hx0 : x = 0
            · subst hx0
              have HF := Lib.hid (FALSE.out (polB_zero (by rw [← HNN.out]; omega) HZ.out))
              go_wp2
              go_ret
              exact ⟨congrArg Ending.returned HF.out, bw1 hbw.out⟩
            · have HP := Lib.hid (polB_in (s := s) (xs := xs) (by rw [← HNN.out]; exact HSM.out) (.inr (by rw [HZ.out]; exact hx0)))
              have z1 : (x == 0) = false := by rw [beq_eq_false_iff_ne]; exact hx0
              clear hx0
              cases hI : inB s xs with
              | true =>
                have HI := Lib.hid hI
                have HN2 := Lib.hid (NEXT.out (by rw [HP.out]; exact HI.out))
                clear hI
                go_wp2_with (go_at_call 190; refine (elements_n c s p xs n HNN.out (some ad) ca _ (by have := HSM.out; omega) HRD.out).mono ?_; rintro e w2 ⟨rfl, hb2⟩; rw [HI.out]; have HB2 := Lib.hid hb2; clear hb2)
                exact ⟨⟨k + 1, by omega, by go_num, HN2.out, bwStep hbw.out HB2.out⟩, by simp [intOf]; omega⟩
              | false =>
                have HI := Lib.hid hI
                have HF := Lib.hid (FALSE.out (by rw [HP.out]; exact HI.out))
                clear hI
                go_wp2_with (go_at_call 190; refine (elements_n c s p xs n HNN.out (some ad) ca _ (by have := HSM.out; omega) HRD.out).mono ?_; rintro e w2 ⟨rfl, hb2⟩; rw [HI.out]; have HB2 := Lib.hid hb2; clear hb2)
                go_ret
                exact ⟨congrArg Ending.returned HF.out, bw1 (bwStep hbw.out HB2.out)⟩
      · obtain rfl : k = m := by omega
        have HI := Lib.hid (all_end (ps := ps) (f := fun q => polB s q.xs) (by rw [← HM.out]; exact hid.out))
        go_wp2
        go_ret
        exact ⟨ret_bool (by rw [HV.out, HI.out]; rfl), bw1 hbw.out⟩
  · have hv : vldB c s p = false := by simpa using hv
    have HV := Lib.hid hv
    clear hv
    go_enter Tryz.func154, Tryz.ntmps154
    go_wp2_with (go_at_call 149; refine (valid_any c s p _ hp).mono ?_; rintro e w1 ⟨rfl, hb1⟩; rw [HV.out]; have HB1 := Lib.hid hb1; clear hb1)
    go_ret
    exact ⟨ret_bool (by rw [HV.out]; rfl), bw1 HB1.out⟩
end Go.Proofs.YtmnlkganmgcpbaaGreatDoor
namespace Go.Proofs.YtmnlkganmgcpbaaGreatDoor
open Go.RowKit
set_option linter.unusedVariables false
theorem inB_zl {S : Nat} {l : List Nat} (h : LtAll S l) : inB (S : Int) (zl l) = true := by
  refine inB_end fun j hj => ?_
  rw [zl_getD]
  have := h j
  omega
theorem inB_nat {S : Nat} {xs : List Int} (h0 : 0 < S) (h : inB (S : Int) xs = true) : ∃ l, xs = zl l ∧ LtAll S l := by
  refine ⟨xs.map Int.toNat, ?_, ?_⟩
  · unfold inB at h
    rw [List.all_eq_true] at h
    unfold zl
    rw [List.map_map]
    refine (List.map_id xs).symm.trans (List.map_congr_left fun x hx => ?_)
    have := h x hx
    simp at this
    show x = ((x.toNat : Nat) : Int)
    omega
  · intro i
    by_cases hi : i < xs.length
    · unfold inB at h
      rw [List.all_eq_true] at h
      have := h xs[i] (List.getElem_mem hi)
      simp at this
      simp [List.getD, hi]
      omega
    · simp [List.getD, hi, h0]
theorem polB_zl {S : Nat} {l : List Nat} (h : LtAll S l) (hn : l.length ≤ 4097) (ht : Trimmed l) : polB (S : Int) (zl l) = true := by
  rw [polB_in (by rw [zl_length]; exact hn), inB_zl h]
  rcases ht with rfl | ht
  · exact .inl rfl
  · right
    rw [zl_length, zl_getD]
    omega
theorem polB_nat {S : Nat} {xs : List Int} (h0 : 0 < S) (h : polB (S : Int) xs = true) : ∃ l, xs = zl l ∧ LtAll S l ∧ Trimmed l ∧ l.length ≤ 4097 := by
  have h' := h
  unfold polB at h'
  simp only [Bool.and_eq_true, decide_eq_true_eq, Bool.or_eq_true, Bool.not_eq_true', decide_eq_false_iff_not] at h'
  obtain ⟨⟨h1, h2⟩, h3⟩ := h'
  obtain ⟨l, rfl, hl⟩ := inB_nat h0 h3
  refine ⟨l, rfl, hl, ?_, by rw [zl_length] at h1; exact h1⟩
  rw [zl_length, zl_getD] at h2
  rcases h2 with h2 | h2
  · exact .inl (List.eq_nil_of_length_eq_zero h2)
  · exact .inr (by omega)
def pvB (c s p : Int) (xs : List Int) : Bool := vldB c s p && polB s xs
end Go.Proofs.YtmnlkganmgcpbaaGreatDoor
namespace Go.Proofs.YtmnlkganmgcpbaaGreatDoor
open Go.RowKit
set_option linter.unusedVariables false
theorem ArR.cells {w wr : World} {C S P T n be bl bs : Nat} (hv : VF C S P) (hT : T = S - 1) (h : ArR w wr C S P T n be bl bs) :
    (wr.cell? ⟨w.heap.size, 0, none⟩ = some (.int .i64 C) ∧ wr.cell? ⟨w.heap.size, 1, none⟩ = some (.int .i64 S) ∧ wr.cell? ⟨w.heap.size, 2, none⟩ = some (.int .i64 P)) ∧
    (wr.cell? ⟨bs, 0, none⟩ = some (.int .i64 C) ∧ wr.cell? ⟨bs, 1, none⟩ = some (.int .i64 S) ∧ wr.cell? ⟨bs, 2, none⟩ = some (.slice (some ⟨be, 0, none⟩) T T) ∧ wr.cell? ⟨bs, 3, none⟩ = some (.slice (some ⟨bl, 0, none⟩) S S)) ∧
    (n < T → (∃ u, wr.cell? ⟨be, n, none⟩ = some u) ∧ wr.frozen? ⟨be, n, none⟩ = false ∧ (∃ u, wr.cell? ⟨bl, fpowN S P (genF S P) n, none⟩ = some u) ∧ wr.frozen? ⟨bl, fpowN S P (genF S P) n, none⟩ = false) := by
  refine ⟨⟨?_, ?_, ?_⟩, ⟨?_, ?_, ?_, ?_⟩, fun hn => ⟨?_, ?_, ?_, ?_⟩⟩
  · rw [cell_of_row _ _ _ _ _ _ h.F]; rfl
  · rw [cell_of_row _ _ _ _ _ _ h.F]; rfl
  · rw [cell_of_row _ _ _ _ _ _ h.F]; rfl
  · rw [cell_of_row _ _ _ _ _ _ h.A]; rfl
  · rw [cell_of_row _ _ _ _ _ _ h.A]; rfl
  · rw [cell_of_row _ _ _ _ _ _ h.A]; rfl
  · rw [cell_of_row _ _ _ _ _ _ h.A]; rfl
  · rw [cell_of_row _ _ _ _ _ _ h.E, cellsN_get]
    refine ⟨_, Option.map_eq_some_iff.2 ⟨_, List.getElem?_eq_getElem (by unfold expTn; simp; omega), rfl⟩⟩
  · exact frozen_of_row _ _ _ _ _ h.E
  · rw [cell_of_row _ _ _ _ _ _ h.L, cellsN_get]
    refine ⟨_, Option.map_eq_some_iff.2 ⟨_, List.getElem?_eq_getElem (by unfold logT; simp; exact powN_lt hv n), rfl⟩⟩
  · exact frozen_of_row _ _ _ _ _ h.L
theorem TabAt.setCell {W : World} {S P be bl : Nat} (h : TabAt W S P be bl) (p : Addr) (u : Value) (h1 : be ≠ p.block) (h2 : bl ≠ p.block) : TabAt (W.setCell p u) S P be bl := by
  refine ⟨by simpa using h.1, by simpa using h.2.1, fun i hi => ?_, fun x hx h0 => ?_⟩
  · rw [World.cell?_setCell_other W p _ u (fun e => h1 (by rw [e]))]; exact h.2.2.1 i hi
  · rw [World.cell?_setCell_other W p _ u (fun e => h2 (by rw [e]))]; exact h.2.2.2 x hx h0
theorem heap3 (W : World) (a b c : Obj) : (((W.alloc a).alloc b).alloc c).heap[W.heap.size]? = some a ∧ (((W.alloc a).alloc b).alloc c).heap[W.heap.size + 1]? = some b ∧ (((W.alloc a).alloc b).alloc c).heap[W.heap.size + 1 + 1]? = some c := by
  refine ⟨?_, ?_, ?_⟩
  · exact (Below.heap_alloc _ _ _ (by simp; omega)).trans ((Below.heap_alloc _ _ _ (by simp)).trans (heap_alloc_new W a))
  · have h := heap_alloc_new (W.alloc a) b
    refine (Below.heap_alloc _ _ _ (by simp)).trans ?_
    simpa using h
  · have h := heap_alloc_new ((W.alloc a).alloc b) c
    simpa using h
theorem ArR.drew {w wr : World} {C S P T n be bl bs : Nat} (h : ArR w wr C S P T n be bl bs) : ArR w wr.drew C S P T n be bl bs :=
  ⟨bwDrew h.B, h.he, h.hl, h.hs, h.n1, h.n2, h.n3, h.F, h.R, h.E, h.L, h.A⟩
theorem ArR.res {w wr : World} {C S P T n be bl bs : Nat} (h : ArR w wr C S P T n be bl bs) :
    wr.cell? ⟨w.heap.size + 1, 0, none⟩ = some (.int .i64 0) ∧ wr.cell? ⟨w.heap.size + 1, 1, none⟩ = some (.int .i64 0) ∧ wr.cell? ⟨w.heap.size + 1, 2, none⟩ = some (.slice none 0 0) ∧ wr.cell? ⟨w.heap.size + 1, 3, none⟩ = some (.slice none 0 0) ∧ ∀ k, wr.frozen? ⟨w.heap.size + 1, k, none⟩ = false := by
  refine ⟨?_, ?_, ?_, ?_, fun k => frozen_of_row _ _ _ _ _ h.R⟩ <;> (rw [cell_of_row _ _ _ _ _ _ h.R]; rfl)
set_option maxHeartbeats 4000000 in
set_option maxRecDepth 100000 in
theorem newA_any (C S P : Nat) (w : World) (hv : VF C S P) :
    Calls Tryz.prog 155 #[fldv C S P] w fun e w' => ∃ be bl, e = .returned (arv C S be bl) ∧ TabAt w' S P be bl ∧ Below w.heap.size w w' := by
  have hS := hv.le
  have hS2 := hv.two_le
  have hP : (P : Int) ≤ 9223372036854775807 := hv.pbd
  have hg := gen_lt hv
  have RG : Hid (genR C S P = (((genF S P : Nat) : Int), 0)) := by
    show _ = _
    unfold genR; rw [vld_of hv, if_pos rfl]; simp
  obtain ⟨T, hT⟩ : ∃ T, T = S - 1 := ⟨S - 1, rfl⟩
  have hT1 : 1 ≤ T := by omega
  have hmk1 := run_make_row' (P := Tryz.prog) 64 3 (.int .i64 0) 8 Tryz.underlying64 intInfo rfl .i64 .i64 T (by omega) (by omega)
  have hmk2 := run_make_row' (P := Tryz.prog) 64 3 (.int .i64 0) 8 Tryz.underlying64 intInfo rfl .i64 .i64 S (by omega) (by omega)
  have hsub : IntKind.i64.wrap ((S : Int) - 1) = (T : Int) := by rw [wr64 _ (by omega) (by omega)]; omega
  have hsub2 : ((S : Int) - 1) = (T : Int) := by omega
  have HV := Lib.hid hv
  have HT := Lib.hid hT
  have HE : Hid (cellsN (expTn S P 0) = madeCells #[Value.int .i64 0] T) := by show _ = _; rw [cellsN_zero, expTn_zero hv, hT]
  have HL : Hid (cellsN (logT S P 0) = madeCells #[Value.int .i64 0] S) := by show _ = _; rw [cellsN_zero, logT_zero hv]
  clear hT hv
  have HI : Hid (∀ w1 : World, Below ((w.alloc (fldO C S P)).alloc arO0).heap.size ((w.alloc (fldO C S P)).alloc arO0) w1 → w.heap.size + 1 < w1.heap.size ∧ w1.heap[w.heap.size]? = some (fldO C S P) ∧ w1.heap[w.heap.size + 1]? = some arO0 ∧ Below w.heap.size w w1) := by
    intro w1 hb1
    have hs := hb1.size
    simp at hs
    refine ⟨by omega, (hb1.block _ (by simp; omega)).trans ?_, (hb1.block _ (by simp)).trans ?_, ((Below.refl _ _).alloc (Nat.le_refl _) _ |>.alloc (by simp) _).trans (hb1.mono (by simp; omega))⟩
    · exact (Below.heap_alloc _ _ _ (by simp)).trans (heap_alloc_new w _)
    · have := heap_alloc_new (w.alloc (fldO C S P)) arO0
      simpa using this
  go_enter Tryz.func155, Tryz.ntmps155
  go_wp2_with (go_at_call 158; refine (Generator_any C S P _ (by omega) hP).mono ?_; rintro e w1 ⟨rfl, hb1⟩; rw [RG.out]
               have HW := Lib.hid (HI.out w1 hb1)
               have hlt1 : w.heap.size + 1 < w1.heap.size := HW.out.1
               have hlt0 : w.heap.size < w1.heap.size := by omega
               have hc0 : w1.cell? ⟨w.heap.size, 0, none⟩ = some (.int .i64 C) := (cell_of_row _ _ _ _ _ _ HW.out.2.1).trans rfl
               have hc1 : w1.cell? ⟨w.heap.size, 1, none⟩ = some (.int .i64 S) := (cell_of_row _ _ _ _ _ _ HW.out.2.1).trans rfl
               have hc0a : ∀ o, (w1.alloc o).cell? ⟨w.heap.size, 0, none⟩ = some (.int .i64 C) := fun o => (World.cell?_alloc_lt _ _ _ (by exact hlt0)).trans hc0
               have hc0b : ∀ o o', ((w1.alloc o).alloc o').cell? ⟨w.heap.size, 0, none⟩ = some (.int .i64 C) := fun o o' => (World.cell?_alloc_lt _ _ _ (by simp; omega)).trans (hc0a o)
               have hc0c : ∀ o o' o'', (((w1.alloc o).alloc o').alloc o'').cell? ⟨w.heap.size, 0, none⟩ = some (.int .i64 C) := fun o o' o'' => (World.cell?_alloc_lt _ _ _ (by simp; omega)).trans (hc0b o o')
               have hc1a : ∀ o, (w1.alloc o).cell? ⟨w.heap.size, 1, none⟩ = some (.int .i64 S) := fun o => (World.cell?_alloc_lt _ _ _ (by exact hlt0)).trans hc1
               have hc1b : ∀ o o', ((w1.alloc o).alloc o').cell? ⟨w.heap.size, 1, none⟩ = some (.int .i64 S) := fun o o' => (World.cell?_alloc_lt _ _ _ (by simp; omega)).trans (hc1a o)
               have hc1c : ∀ o o' o'', (((w1.alloc o).alloc o').alloc o'').cell? ⟨w.heap.size, 1, none⟩ = some (.int .i64 S) := fun o o' o'' => (World.cell?_alloc_lt _ _ _ (by simp; omega)).trans (hc1b o o')
               clear hb1)
  go_region
  all_goals clear hc0 hc1 hc0a hc0b hc0c hc1a hc1b hc1c
  all_goals go_wp2
  · go_loopw [6, 28] (fun x i wr => ∃ n : Nat, n ≤ T ∧ i = .int .i64 (n : Nat) ∧ x = .int .i64 ((fpowN S P (genF S P) n : Nat) : Int) ∧ Hid (ArR w wr C S P T n (w1.heap.size) (w1.heap.size + 1) (w1.heap.size + 1 + 1))) (fun _ i _ => T - (intOf i).toNat)
    case atStart =>
      refine ⟨0, Nat.zero_le _, rfl, rfl, ?_⟩
      refine ⟨bwDrew (bwAlloc (bwAlloc (bwAlloc HW.out.2.2.2 _) _) _), by omega, by omega, by omega, by omega, by omega, by omega, ?_, ?_, ?_, ?_, ?_⟩
      · exact (Below.heap_alloc _ _ _ (by simp; omega)).trans ((Below.heap_alloc _ _ _ (by simp; omega)).trans ((Below.heap_alloc _ _ _ (by omega)).trans HW.out.2.1))
      · exact (Below.heap_alloc _ _ _ (by simp; omega)).trans ((Below.heap_alloc _ _ _ (by simp; omega)).trans ((Below.heap_alloc _ _ _ (by omega)).trans HW.out.2.2.1))
      · rw [HE.out]; exact (heap3 w1 _ _ _).1
      · rw [HL.out]; exact (heap3 w1 _ _ _).2.1
      · exact (heap3 w1 _ _ _).2.2
    case round =>
      obtain ⟨n, hn, rfl, rfl, hid⟩ := hrel
      obtain ⟨⟨f0, f1, f2⟩, ⟨a0, a1, a2, a3⟩, hst⟩ := ArR.cells HV.out HT.out hid.out
      by_cases hlt : n < T
      · obtain ⟨⟨u1, s1⟩, s2, ⟨u2, s3⟩, s4⟩ := hst hlt
        have hXl : fpowN S P (genF S P) n < S := powN_lt HV.out n
        have HST := Lib.hid (ArR.store HV.out HT.out hid.out hlt)
        have RM : Hid (mulR C S P (fpowN S P (genF S P) n : Nat) (genF S P : Nat) = (((fpowN S P (genF S P) (n + 1) : Nat) : Int), 0)) := by
          show _ = _
          unfold mulR; rw [ok2_of HV.out hXl hg]; simp; rfl
        generalize fpowN S P (genF S P) n = X at *
        generalize hYe : fpowN S P (genF S P) (n + 1) = Y at *
        have HY := Lib.hid hYe
        clear hYe
        clear hst
        go_wp2
        go_region
        all_goals go_wp2_with (go_at_call 159; refine (Mul_any C S P X (genF S P) _ (by omega) hP).mono ?_; rintro e w2 ⟨rfl, hb2⟩; rw [RM.out])
        all_goals go_roundw
        all_goals try (case measure => simp [intOf]; omega)
        all_goals refine ⟨n + 1, by omega, by go_num, by rw [HY.out], ?_⟩
        all_goals exact ArR.below (ArR.drew HST.out) hb2
      · obtain rfl : n = T := by omega
        obtain ⟨r0, r1, r2, r3, rf⟩ := ArR.res hid.out
        have HTB := Lib.hid (ArR.tab HV.out HT.out hid.out)
        clear hst
        go_wp2
        refine bodyPost_ret (v := .agg #[.int .i64 C, .int .i64 S, .slice (some ⟨(w1.heap.size), 0, none⟩) n n, .slice (some ⟨(w1.heap.size + 1), 0, none⟩) S S]) ?_ rfl ⟨(w1.heap.size), (w1.heap.size + 1), ?_, ?_, ?_⟩
        · have hres : Tryz.f155.results = #[.cell 2 200] := by kernel_rfl
          simp only [results, hres]
          go_simp
        · rw [HT.out]
        · exact (((HTB.out.setCell _ _ (by simp; omega) (by simp; omega)).setCell _ _ (by simp; omega) (by simp; omega)).setCell _ _ (by simp; omega) (by simp; omega)).setCell _ _ (by simp; omega) (by simp; omega)
        · exact (((hid.out.B.setCell (by simp) _).setCell (by simp) _).setCell (by simp) _).setCell (by simp) _
  · go_loopw [6, 28] (fun x i wr => ∃ n : Nat, n ≤ T ∧ i = .int .i64 (n : Nat) ∧ x = .int .i64 ((fpowN S P (genF S P) n : Nat) : Int) ∧ Hid (ArR w wr C S P T n (w1.heap.size) (w1.heap.size + 1 + 1) (w1.heap.size + 1))) (fun _ i _ => T - (intOf i).toNat)
    case atStart =>
      refine ⟨0, Nat.zero_le _, rfl, rfl, ?_⟩
      refine ⟨bwDrew (bwAlloc (bwAlloc (bwAlloc HW.out.2.2.2 _) _) _), by omega, by omega, by omega, by omega, by omega, by omega, ?_, ?_, ?_, ?_, ?_⟩
      · exact (Below.heap_alloc _ _ _ (by simp; omega)).trans ((Below.heap_alloc _ _ _ (by simp; omega)).trans ((Below.heap_alloc _ _ _ (by omega)).trans HW.out.2.1))
      · exact (Below.heap_alloc _ _ _ (by simp; omega)).trans ((Below.heap_alloc _ _ _ (by simp; omega)).trans ((Below.heap_alloc _ _ _ (by omega)).trans HW.out.2.2.1))
      · rw [HE.out]; exact (heap3 w1 _ _ _).1
      · rw [HL.out]; exact (heap3 w1 _ _ _).2.2
      · exact (heap3 w1 _ _ _).2.1
    case round =>
      obtain ⟨n, hn, rfl, rfl, hid⟩ := hrel
      obtain ⟨⟨f0, f1, f2⟩, ⟨a0, a1, a2, a3⟩, hst⟩ := ArR.cells HV.out HT.out hid.out
      by_cases hlt : n < T
      · obtain ⟨⟨u1, s1⟩, s2, ⟨u2, s3⟩, s4⟩ := hst hlt
        have hXl : fpowN S P (genF S P) n < S := powN_lt HV.out n
        have HST := Lib.hid (ArR.store HV.out HT.out hid.out hlt)
        have RM : Hid (mulR C S P (fpowN S P (genF S P) n : Nat) (genF S P : Nat) = (((fpowN S P (genF S P) (n + 1) : Nat) : Int), 0)) := by
          show _ = _
          unfold mulR; rw [ok2_of HV.out hXl hg]; simp; rfl
        generalize fpowN S P (genF S P) n = X at *
        generalize hYe : fpowN S P (genF S P) (n + 1) = Y at *
        have HY := Lib.hid hYe
        clear hYe
        clear hst
        go_wp2
        go_region
        all_goals go_wp2_with (go_at_call 159; refine (Mul_any C S P X (genF S P) _ (by omega) hP).mono ?_; rintro e w2 ⟨rfl, hb2⟩; rw [RM.out])
        all_goals go_roundw
        all_goals try (case measure => simp [intOf]; omega)
        all_goals refine ⟨n + 1, by omega, by go_num, by rw [HY.out], ?_⟩
        all_goals exact ArR.below (ArR.drew HST.out) hb2
      · obtain rfl : n = T := by omega
        obtain ⟨r0, r1, r2, r3, rf⟩ := ArR.res hid.out
        have HTB := Lib.hid (ArR.tab HV.out HT.out hid.out)
        clear hst
        go_wp2
        refine bodyPost_ret (v := .agg #[.int .i64 C, .int .i64 S, .slice (some ⟨(w1.heap.size), 0, none⟩) n n, .slice (some ⟨(w1.heap.size + 1 + 1), 0, none⟩) S S]) ?_ rfl ⟨(w1.heap.size), (w1.heap.size + 1 + 1), ?_, ?_, ?_⟩
        · have hres : Tryz.f155.results = #[.cell 2 200] := by kernel_rfl
          simp only [results, hres]
          go_simp
        · rw [HT.out]
        · exact (((HTB.out.setCell _ _ (by simp; omega) (by simp; omega)).setCell _ _ (by simp; omega) (by simp; omega)).setCell _ _ (by simp; omega) (by simp; omega)).setCell _ _ (by simp; omega) (by simp; omega)
        · exact (((hid.out.B.setCell (by simp) _).setCell (by simp) _).setCell (by simp) _).setCell (by simp) _
  · go_loopw [6, 28] (fun x i wr => ∃ n : Nat, n ≤ T ∧ i = .int .i64 (n : Nat) ∧ x = .int .i64 ((fpowN S P (genF S P) n : Nat) : Int) ∧ Hid (ArR w wr C S P T n (w1.heap.size + 1) (w1.heap.size) (w1.heap.size + 1 + 1))) (fun _ i _ => T - (intOf i).toNat)
    case atStart =>
      refine ⟨0, Nat.zero_le _, rfl, rfl, ?_⟩
      refine ⟨bwDrew (bwAlloc (bwAlloc (bwAlloc HW.out.2.2.2 _) _) _), by omega, by omega, by omega, by omega, by omega, by omega, ?_, ?_, ?_, ?_, ?_⟩
      · exact (Below.heap_alloc _ _ _ (by simp; omega)).trans ((Below.heap_alloc _ _ _ (by simp; omega)).trans ((Below.heap_alloc _ _ _ (by omega)).trans HW.out.2.1))
      · exact (Below.heap_alloc _ _ _ (by simp; omega)).trans ((Below.heap_alloc _ _ _ (by simp; omega)).trans ((Below.heap_alloc _ _ _ (by omega)).trans HW.out.2.2.1))
      · rw [HE.out]; exact (heap3 w1 _ _ _).2.1
      · rw [HL.out]; exact (heap3 w1 _ _ _).1
      · exact (heap3 w1 _ _ _).2.2
    case round =>
      obtain ⟨n, hn, rfl, rfl, hid⟩ := hrel
      obtain ⟨⟨f0, f1, f2⟩, ⟨a0, a1, a2, a3⟩, hst⟩ := ArR.cells HV.out HT.out hid.out
      by_cases hlt : n < T
      · obtain ⟨⟨u1, s1⟩, s2, ⟨u2, s3⟩, s4⟩ := hst hlt
        have hXl : fpowN S P (genF S P) n < S := powN_lt HV.out n
        have HST := Lib.hid (ArR.store HV.out HT.out hid.out hlt)
        have RM : Hid (mulR C S P (fpowN S P (genF S P) n : Nat) (genF S P : Nat) = (((fpowN S P (genF S P) (n + 1) : Nat) : Int), 0)) := by
          show _ = _
          unfold mulR; rw [ok2_of HV.out hXl hg]; simp; rfl
        generalize fpowN S P (genF S P) n = X at *
        generalize hYe : fpowN S P (genF S P) (n + 1) = Y at *
        have HY := Lib.hid hYe
        clear hYe
        clear hst
        go_wp2
        go_region
        all_goals go_wp2_with (go_at_call 159; refine (Mul_any C S P X (genF S P) _ (by omega) hP).mono ?_; rintro e w2 ⟨rfl, hb2⟩; rw [RM.out])
        all_goals go_roundw
        all_goals try (case measure => simp [intOf]; omega)
        all_goals refine ⟨n + 1, by omega, by go_num, by rw [HY.out], ?_⟩
        all_goals exact ArR.below (ArR.drew HST.out) hb2
      · obtain rfl : n = T := by omega
        obtain ⟨r0, r1, r2, r3, rf⟩ := ArR.res hid.out
        have HTB := Lib.hid (ArR.tab HV.out HT.out hid.out)
        clear hst
        go_wp2
        refine bodyPost_ret (v := .agg #[.int .i64 C, .int .i64 S, .slice (some ⟨(w1.heap.size + 1), 0, none⟩) n n, .slice (some ⟨(w1.heap.size), 0, none⟩) S S]) ?_ rfl ⟨(w1.heap.size + 1), (w1.heap.size), ?_, ?_, ?_⟩
        · have hres : Tryz.f155.results = #[.cell 2 200] := by kernel_rfl
          simp only [results, hres]
          go_simp
        · rw [HT.out]
        · exact (((HTB.out.setCell _ _ (by simp; omega) (by simp; omega)).setCell _ _ (by simp; omega) (by simp; omega)).setCell _ _ (by simp; omega) (by simp; omega)).setCell _ _ (by simp; omega) (by simp; omega)
        · exact (((hid.out.B.setCell (by simp) _).setCell (by simp) _).setCell (by simp) _).setCell (by simp) _
  · go_loopw [6, 28] (fun x i wr => ∃ n : Nat, n ≤ T ∧ i = .int .i64 (n : Nat) ∧ x = .int .i64 ((fpowN S P (genF S P) n : Nat) : Int) ∧ Hid (ArR w wr C S P T n (w1.heap.size + 1 + 1) (w1.heap.size) (w1.heap.size + 1))) (fun _ i _ => T - (intOf i).toNat)
    case atStart =>
      refine ⟨0, Nat.zero_le _, rfl, rfl, ?_⟩
      refine ⟨bwDrew (bwAlloc (bwAlloc (bwAlloc HW.out.2.2.2 _) _) _), by omega, by omega, by omega, by omega, by omega, by omega, ?_, ?_, ?_, ?_, ?_⟩
      · exact (Below.heap_alloc _ _ _ (by simp; omega)).trans ((Below.heap_alloc _ _ _ (by simp; omega)).trans ((Below.heap_alloc _ _ _ (by omega)).trans HW.out.2.1))
      · exact (Below.heap_alloc _ _ _ (by simp; omega)).trans ((Below.heap_alloc _ _ _ (by simp; omega)).trans ((Below.heap_alloc _ _ _ (by omega)).trans HW.out.2.2.1))
      · rw [HE.out]; exact (heap3 w1 _ _ _).2.2
      · rw [HL.out]; exact (heap3 w1 _ _ _).1
      · exact (heap3 w1 _ _ _).2.1
    case round =>
      obtain ⟨n, hn, rfl, rfl, hid⟩ := hrel
      obtain ⟨⟨f0, f1, f2⟩, ⟨a0, a1, a2, a3⟩, hst⟩ := ArR.cells HV.out HT.out hid.out
      by_cases hlt : n < T
      · obtain ⟨⟨u1, s1⟩, s2, ⟨u2, s3⟩, s4⟩ := hst hlt
        have hXl : fpowN S P (genF S P) n < S := powN_lt HV.out n
        have HST := Lib.hid (ArR.store HV.out HT.out hid.out hlt)
        have RM : Hid (mulR C S P (fpowN S P (genF S P) n : Nat) (genF S P : Nat) = (((fpowN S P (genF S P) (n + 1) : Nat) : Int), 0)) := by
          show _ = _
          unfold mulR; rw [ok2_of HV.out hXl hg]; simp; rfl
        generalize fpowN S P (genF S P) n = X at *
        generalize hYe : fpowN S P (genF S P) (n + 1) = Y at *
        have HY := Lib.hid hYe
        clear hYe
        clear hst
        go_wp2
        go_region
        all_goals go_wp2_with (go_at_call 159; refine (Mul_any C S P X (genF S P) _ (by omega) hP).mono ?_; rintro e w2 ⟨rfl, hb2⟩; rw [RM.out])
        all_goals go_roundw
        all_goals try (case measure => simp [intOf]; omega)
        all_goals refine ⟨n + 1, by omega, by go_num, by rw [HY.out], ?_⟩
        all_goals exact ArR.below (ArR.drew HST.out) hb2
      · obtain rfl : n = T := by omega
        obtain ⟨r0, r1, r2, r3, rf⟩ := ArR.res hid.out
        have HTB := Lib.hid (ArR.tab HV.out HT.out hid.out)
        clear hst
        go_wp2
        refine bodyPost_ret (v := .agg #[.int .i64 C, .int .i64 S, .slice (some ⟨(w1.heap.size + 1 + 1), 0, none⟩) n n, .slice (some ⟨(w1.heap.size), 0, none⟩) S S]) ?_ rfl ⟨(w1.heap.size + 1 + 1), (w1.heap.size), ?_, ?_, ?_⟩
        · have hres : Tryz.f155.results = #[.cell 2 200] := by kernel_rfl
          simp only [results, hres]
          go_simp
        · rw [HT.out]
        · exact (((HTB.out.setCell _ _ (by simp; omega) (by simp; omega)).setCell _ _ (by simp; omega) (by simp; omega)).setCell _ _ (by simp; omega) (by simp; omega)).setCell _ _ (by simp; omega) (by simp; omega)
        · exact (((hid.out.B.setCell (by simp) _).setCell (by simp) _).setCell (by simp) _).setCell (by simp) _
  · go_loopw [6, 28] (fun x i wr => ∃ n : Nat, n ≤ T ∧ i = .int .i64 (n : Nat) ∧ x = .int .i64 ((fpowN S P (genF S P) n : Nat) : Int) ∧ Hid (ArR w wr C S P T n (w1.heap.size + 1) (w1.heap.size + 1 + 1) (w1.heap.size))) (fun _ i _ => T - (intOf i).toNat)
    case atStart =>
      refine ⟨0, Nat.zero_le _, rfl, rfl, ?_⟩
      refine ⟨bwDrew (bwAlloc (bwAlloc (bwAlloc HW.out.2.2.2 _) _) _), by omega, by omega, by omega, by omega, by omega, by omega, ?_, ?_, ?_, ?_, ?_⟩
      · exact (Below.heap_alloc _ _ _ (by simp; omega)).trans ((Below.heap_alloc _ _ _ (by simp; omega)).trans ((Below.heap_alloc _ _ _ (by omega)).trans HW.out.2.1))
      · exact (Below.heap_alloc _ _ _ (by simp; omega)).trans ((Below.heap_alloc _ _ _ (by simp; omega)).trans ((Below.heap_alloc _ _ _ (by omega)).trans HW.out.2.2.1))
      · rw [HE.out]; exact (heap3 w1 _ _ _).2.1
      · rw [HL.out]; exact (heap3 w1 _ _ _).2.2
      · exact (heap3 w1 _ _ _).1
    case round =>
      obtain ⟨n, hn, rfl, rfl, hid⟩ := hrel
      obtain ⟨⟨f0, f1, f2⟩, ⟨a0, a1, a2, a3⟩, hst⟩ := ArR.cells HV.out HT.out hid.out
      by_cases hlt : n < T
      · obtain ⟨⟨u1, s1⟩, s2, ⟨u2, s3⟩, s4⟩ := hst hlt
        have hXl : fpowN S P (genF S P) n < S := powN_lt HV.out n
        have HST := Lib.hid (ArR.store HV.out HT.out hid.out hlt)
        have RM : Hid (mulR C S P (fpowN S P (genF S P) n : Nat) (genF S P : Nat) = (((fpowN S P (genF S P) (n + 1) : Nat) : Int), 0)) := by
          show _ = _
          unfold mulR; rw [ok2_of HV.out hXl hg]; simp; rfl
        generalize fpowN S P (genF S P) n = X at *
        generalize hYe : fpowN S P (genF S P) (n + 1) = Y at *
        have HY := Lib.hid hYe
        clear hYe
        clear hst
        go_wp2
        go_region
        all_goals go_wp2_with (go_at_call 159; refine (Mul_any C S P X (genF S P) _ (by omega) hP).mono ?_; rintro e w2 ⟨rfl, hb2⟩; rw [RM.out])
        all_goals go_roundw
        all_goals try (case measure => simp [intOf]; omega)
        all_goals refine ⟨n + 1, by omega, by go_num, by rw [HY.out], ?_⟩
        all_goals exact ArR.below (ArR.drew HST.out) hb2
      · obtain rfl : n = T := by omega
        obtain ⟨r0, r1, r2, r3, rf⟩ := ArR.res hid.out
        have HTB := Lib.hid (ArR.tab HV.out HT.out hid.out)
        clear hst
        go_wp2
        refine bodyPost_ret (v := .agg #[.int .i64 C, .int .i64 S, .slice (some ⟨(w1.heap.size + 1), 0, none⟩) n n, .slice (some ⟨(w1.heap.size + 1 + 1), 0, none⟩) S S]) ?_ rfl ⟨(w1.heap.size + 1), (w1.heap.size + 1 + 1), ?_, ?_, ?_⟩
        · have hres : Tryz.f155.results = #[.cell 2 200] := by kernel_rfl
          simp only [results, hres]
          go_simp
        · rw [HT.out]
        · exact (((HTB.out.setCell _ _ (by simp; omega) (by simp; omega)).setCell _ _ (by simp; omega) (by simp; omega)).setCell _ _ (by simp; omega) (by simp; omega)).setCell _ _ (by simp; omega) (by simp; omega)
        · exact (((hid.out.B.setCell (by simp) _).setCell (by simp) _).setCell (by simp) _).setCell (by simp) _
  · go_loopw [6, 28] (fun x i wr => ∃ n : Nat, n ≤ T ∧ i = .int .i64 (n : Nat) ∧ x = .int .i64 ((fpowN S P (genF S P) n : Nat) : Int) ∧ Hid (ArR w wr C S P T n (w1.heap.size + 1 + 1) (w1.heap.size + 1) (w1.heap.size))) (fun _ i _ => T - (intOf i).toNat)
    case atStart =>
      refine ⟨0, Nat.zero_le _, rfl, rfl, ?_⟩
      refine ⟨bwDrew (bwAlloc (bwAlloc (bwAlloc HW.out.2.2.2 _) _) _), by omega, by omega, by omega, by omega, by omega, by omega, ?_, ?_, ?_, ?_, ?_⟩
      · exact (Below.heap_alloc _ _ _ (by simp; omega)).trans ((Below.heap_alloc _ _ _ (by simp; omega)).trans ((Below.heap_alloc _ _ _ (by omega)).trans HW.out.2.1))
      · exact (Below.heap_alloc _ _ _ (by simp; omega)).trans ((Below.heap_alloc _ _ _ (by simp; omega)).trans ((Below.heap_alloc _ _ _ (by omega)).trans HW.out.2.2.1))
      · rw [HE.out]; exact (heap3 w1 _ _ _).2.2
      · rw [HL.out]; exact (heap3 w1 _ _ _).2.1
      · exact (heap3 w1 _ _ _).1
    case round =>
      obtain ⟨n, hn, rfl, rfl, hid⟩ := hrel
      obtain ⟨⟨f0, f1, f2⟩, ⟨a0, a1, a2, a3⟩, hst⟩ := ArR.cells HV.out HT.out hid.out
      by_cases hlt : n < T
      · obtain ⟨⟨u1, s1⟩, s2, ⟨u2, s3⟩, s4⟩ := hst hlt
        have hXl : fpowN S P (genF S P) n < S := powN_lt HV.out n
        have HST := Lib.hid (ArR.store HV.out HT.out hid.out hlt)
        have RM : Hid (mulR C S P (fpowN S P (genF S P) n : Nat) (genF S P : Nat) = (((fpowN S P (genF S P) (n + 1) : Nat) : Int), 0)) := by
          show _ = _
          unfold mulR; rw [ok2_of HV.out hXl hg]; simp; rfl
        generalize fpowN S P (genF S P) n = X at *
        generalize hYe : fpowN S P (genF S P) (n + 1) = Y at *
        have HY := Lib.hid hYe
        clear hYe
        clear hst
        go_wp2
        go_region
        all_goals go_wp2_with (go_at_call 159; refine (Mul_any C S P X (genF S P) _ (by omega) hP).mono ?_; rintro e w2 ⟨rfl, hb2⟩; rw [RM.out])
        all_goals go_roundw
        all_goals try (case measure => simp [intOf]; omega)
        all_goals refine ⟨n + 1, by omega, by go_num, by rw [HY.out], ?_⟩
        all_goals exact ArR.below (ArR.drew HST.out) hb2
      · obtain rfl : n = T := by omega
        obtain ⟨r0, r1, r2, r3, rf⟩ := ArR.res hid.out
        have HTB := Lib.hid (ArR.tab HV.out HT.out hid.out)
        clear hst
        go_wp2
        refine bodyPost_ret (v := .agg #[.int .i64 C, .int .i64 S, .slice (some ⟨(w1.heap.size + 1 + 1), 0, none⟩) n n, .slice (some ⟨(w1.heap.size + 1), 0, none⟩) S S]) ?_ rfl ⟨(w1.heap.size + 1 + 1), (w1.heap.size + 1), ?_, ?_, ?_⟩
        · have hres : Tryz.f155.results = #[.cell 2 200] := by kernel_rfl
          simp only [results, hres]
          go_simp
        · rw [HT.out]
        · exact (((HTB.out.setCell _ _ (by simp; omega) (by simp; omega)).setCell _ _ (by simp; omega) (by simp; omega)).setCell _ _ (by simp; omega) (by simp; omega)).setCell _ _ (by simp; omega) (by simp; omega)
        · exact (((hid.out.B.setCell (by simp) _).setCell (by simp) _).setCell (by simp) _).setCell (by simp) _
end Go.Proofs.YtmnlkganmgcpbaaGreatDoor
