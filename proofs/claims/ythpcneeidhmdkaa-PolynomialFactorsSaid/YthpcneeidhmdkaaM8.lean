import Derived.Test.YthpcneeidhmdkaaM7
namespace Go.Proofs.Ythpcneeidhmdkaa
open Go.RowKit
set_option linter.unusedVariables false
/-! valid polynomials -/
theorem elements_n (c s p : Int) (xs : List Int) (n : Nat) (hn : n = xs.length) (A : Option Addr) (ca : Nat) (w : World) (h1 : n ≤ 9223372036854775807) (ha : RD w A xs) :
    Calls Try.prog 55 #[fldv c s p, .slice A n ca] w fun e w' => e = .returned (.bool (inB s xs)) ∧ Below w.heap.size w w' := by
  subst hn; exact elements_any c s p xs A ca w h1 ha
/-- the test of one polynomial -/
def polB (s : Int) (xs : List Int) : Bool := decide (xs.length ≤ 4097) && (decide (xs.length = 0) || !decide (xs.getD (xs.length - 1) 0 = 0)) && inB s xs
/-- a slice value and what it reads as -/
structure Sl where
  A : Option Addr
  n : Nat
  c : Nat
  xs : List Int
abbrev Sl.v (q : Sl) : Value := .slice q.A q.n q.c
structure Sl.R (q : Sl) (w : World) : Prop where
  hn : q.n = q.xs.length
  hm : q.n ≤ 9223372036854775807
  rd : RD w q.A q.xs
  hc : q.n ≤ q.c
  hcm : q.c ≤ maxLen
theorem Sl.R.below {q : Sl} {W W' : World} (h : q.R W) (hb : Below W.heap.size W W') : q.R W' := ⟨h.hn, h.hm, h.rd.below hb, h.hc, h.hcm⟩
theorem Sl.R.ints {q : Sl} {w : World} (h : q.R w) : Ints w q.v q.xs := ⟨q.A, q.c, by rw [← h.hn], by rw [← h.hn]; exact h.hc, h.hcm, h.rd⟩
theorem Ints.sl {w : World} {v : Value} {xs : List Int} (h : Ints w v xs) : ∃ q : Sl, v = q.v ∧ q.R w ∧ q.xs = xs := by
  obtain ⟨A, c, rfl, h1, h2, h3⟩ := h
  exact ⟨⟨A, xs.length, c, xs⟩, rfl, ⟨rfl, by unfold maxLen at h2; simp only; omega, h3, h1, h2⟩, rfl⟩
instance : Inhabited Sl := ⟨⟨none, 0, 0, []⟩⟩
/-- a slice of slices -/
structure Sls (w : World) (V : Option Addr) (ps : List Sl) : Prop where
  rd : 0 < ps.length → ∃ b, V = some ⟨b, 0, none⟩ ∧ b < w.heap.size ∧ ∀ j, j < ps.length → w.cell? ⟨b, j, none⟩ = some (ps.getD j default).v
  el : ∀ q ∈ ps, q.R w
theorem Sls.below {V : Option Addr} {ps : List Sl} {W W' : World} (h : Sls W V ps) (hb : Below W.heap.size W W') : Sls W' V ps :=
  ⟨fun hn => by obtain ⟨b, e, hl, hc⟩ := h.rd hn; exact ⟨b, e, Nat.lt_of_lt_of_le hl hb.size, fun j hj => (hb.cell hl).trans (hc j hj)⟩, fun q hq => (h.el q hq).below hb⟩
theorem Sls.nil_ (w : World) (V : Option Addr) : Sls w V [] := ⟨fun h => absurd h (by simp), fun q hq => by cases hq⟩
theorem Sls.one {w : World} {q : Sl} (t : TypeId) (b : Nat) (hb : b = w.heap.size) (h : q.R w) : Sls (w.alloc (.cells #[q.v] t)) (some ⟨b, 0, none⟩) [q] := by
  refine ⟨fun _ => ⟨b, rfl, by simp; omega, fun j hj => ?_⟩, fun q' hq => ?_⟩
  · have := (CellsAt.new w #[q.v] t b hb).2 j (by simpa using hj)
    rw [this]
    have : j = 0 := by simp at hj; omega
    subst this; rfl
  · obtain rfl : q' = q := by simpa using hq
    exact h.below ((Below.refl _ _).alloc (Nat.le_refl _) _)
theorem Sls.two {w : World} {q r : Sl} (t : TypeId) (b : Nat) (hb : b = w.heap.size) (h : q.R w) (g : r.R w) : Sls (w.alloc (.cells #[q.v, r.v] t)) (some ⟨b, 0, none⟩) [q, r] := by
  refine ⟨fun _ => ⟨b, rfl, by simp; omega, fun j hj => ?_⟩, fun q' hq => ?_⟩
  · have := (CellsAt.new w #[q.v, r.v] t b hb).2 j (by simpa using hj)
    rw [this]
    have : j = 0 ∨ j = 1 := by simp at hj; omega
    rcases this with rfl | rfl <;> rfl
  · have hb1 : Below w.heap.size w (w.alloc (.cells #[q.v, r.v] t)) := (Below.refl _ _).alloc (Nat.le_refl _) _
    rcases List.mem_cons.1 hq with rfl | hq
    · exact h.below hb1
    · obtain rfl : q' = r := by simpa using hq
      exact g.below hb1
theorem Sls.three {w : World} {q r u : Sl} (t : TypeId) (b : Nat) (hb : b = w.heap.size) (h : q.R w) (g : r.R w) (k : u.R w) : Sls (w.alloc (.cells #[q.v, r.v, u.v] t)) (some ⟨b, 0, none⟩) [q, r, u] := by
  refine ⟨fun _ => ⟨b, rfl, by simp; omega, fun j hj => ?_⟩, fun q' hq => ?_⟩
  · have := (CellsAt.new w #[q.v, r.v, u.v] t b hb).2 j (by simpa using hj)
    rw [this]
    have : j = 0 ∨ j = 1 ∨ j = 2 := by simp at hj; omega
    rcases this with rfl | rfl | rfl <;> rfl
  · have hb1 : Below w.heap.size w (w.alloc (.cells #[q.v, r.v, u.v] t)) := (Below.refl _ _).alloc (Nat.le_refl _) _
    rcases List.mem_cons.1 hq with rfl | hq
    · exact h.below hb1
    rcases List.mem_cons.1 hq with rfl | hq
    · exact g.below hb1
    · obtain rfl : q' = u := by simpa using hq
      exact k.below hb1
theorem all_step {ps : List Sl} {f : Sl → Bool} {k : Nat} (hk : k < ps.length) (h : f (ps.getD k default) = false) : ps.all f = false := by
  rw [List.all_eq_false]
  refine ⟨ps[k], List.getElem_mem hk, ?_⟩
  have e : ps.getD k default = ps[k] := by simp [List.getD, hk]
  rw [e] at h; simpa using h
theorem all_end {ps : List Sl} {f : Sl → Bool} (h : ∀ j, j < ps.length → f (ps.getD j default) = true) : ps.all f = true := by
  rw [List.all_eq_true]
  intro q hq
  obtain ⟨j, hj, rfl⟩ := List.getElem_of_mem hq
  have := h j hj
  simpa [List.getD, hj] using this
theorem Sls.at_ {w : World} {V : Option Addr} {ps : List Sl} (h : Sls w V ps) {k : Nat} (hk : k < ps.length) : (ps.getD k default).R w := by
  have e : ps.getD k default = ps[k] := by simp [List.getD, hk]
  rw [e]; exact h.el _ (List.getElem_mem hk)
theorem polB_long {s : Int} {xs : List Int} (h : 4097 < xs.length) : polB s xs = false := by
  unfold polB; rw [show decide (xs.length ≤ 4097) = false from by simp; omega]; rfl
theorem polB_zero {s : Int} {xs : List Int} (h : 1 ≤ xs.length) (h0 : xs.getD (xs.length - 1) 0 = 0) : polB s xs = false := by
  unfold polB; rw [show decide (xs.length = 0) = false from by simp; intro e; rw [e] at h; simp at h, h0]; simp
theorem polB_in {s : Int} {xs : List Int} (h : xs.length ≤ 4097) (h0 : xs.length = 0 ∨ xs.getD (xs.length - 1) 0 ≠ 0) : polB s xs = inB s xs := by
  unfold polB
  rw [show decide (xs.length ≤ 4097) = true from by simp; omega]
  rcases h0 with h0 | h0
  · rw [show decide (xs.length = 0) = true from by simpa using h0]; simp
  · rw [show decide (xs.getD (xs.length - 1) 0 = 0) = false from by simpa using h0]; simp
abbrev fldC (c s p : Int) : List Value := [.int .i64 c, .int .i64 s, .int .i64 p]
abbrev fldB (c s p : Int) : Obj := .cells #[.int .i64 c, .int .i64 s, .int .i64 p] 23
theorem fldC_cells {W : World} {b : Nat} {c s p : Int} (h : CellsAt W b (fldC c s p)) : W.cell? ⟨b, 0, none⟩ = some (.int .i64 c) ∧ W.cell? ⟨b, 1, none⟩ = some (.int .i64 s) ∧ W.cell? ⟨b, 2, none⟩ = some (.int .i64 p) :=
  ⟨h.2 0 (by simp), h.2 1 (by simp), h.2 2 (by simp)⟩
set_option maxHeartbeats 1000000 in
theorem pvalid_any (c s p : Int) (V : Option Addr) (m cv : Nat) (ps : List Sl) (w : World) (hm : m = ps.length) (hm2 : m ≤ 1000) (hp : p ≤ 9223372036854775807) (hs : Sls w V ps) :
    Calls Try.prog 49 #[fldv c s p, .slice V m cv] w fun e w' => e = .returned (.bool (vldB c s p && ps.all fun q => polB s q.xs)) ∧ Below w.heap.size w w' := by
  have CB : Hid (CellsAt (w.alloc (fldB c s p)) w.heap.size (fldC c s p)) := CellsAt.new _ _ _ _ rfl
  have HS := Lib.hid (hs.below ((Below.refl _ _).alloc (Nat.le_refl _) (fldB c s p)))
  have HM := Lib.hid hm
  clear hm hs
  by_cases hv : vldB c s p = true
  · have HV := Lib.hid hv
    clear hv
    go_enter Try.func49, Try.ntmps49
    go_wp2_with (go_at_call 81; refine (valid_any c s p _ hp).mono ?_; rintro e w1 ⟨rfl, hb1⟩; rw [HV.out]; have HB1 := Lib.hid hb1; clear hb1)
    go_loopw [13] (fun i wr => ∃ k : Nat, k ≤ m ∧ i = .int .i64 k ∧ Hid (∀ j, j < k → polB s (ps.getD j default).xs = true) ∧ Hid (Below (w.alloc (fldB c s p)).heap.size (w.alloc (fldB c s p)) wr)) (fun i _ => m - (intOf i).toNat)
    case atStart => exact ⟨0, Nat.zero_le _, rfl, fun j hj => by omega, HB1.out⟩
    case round =>
      obtain ⟨k, hk, rfl, hid, hbw⟩ := hrel
      by_cases hlt : k < m
      · obtain ⟨b, rfl, -, hc⟩ := (HS.out.below hbw.out).rd (by rw [← HM.out]; omega)
        have hx := hc k (by rw [← HM.out]; exact hlt)
        have HQ := Lib.hid ((HS.out.below hbw.out).at_ (k := k) (by rw [← HM.out]; exact hlt))
        have HST : Hid (polB s (ps.getD k default).xs = false → ps.all (fun q => polB s q.xs) = false) := fun h => all_step (f := fun q => polB s q.xs) (by rw [← HM.out]; exact hlt) h
        obtain ⟨hf0, hf1, hf2⟩ := fldC_cells (CB.out.below hbw.out)
        clear hc
        generalize hqe : ps.getD k default = q at *
        have HQE := Lib.hid hqe
        clear hqe
        obtain ⟨A, n, ca, xs⟩ := q
        have hn63 := HQ.out.hm
        have hnn := HQ.out.hn
        have HRD : Hid (RD wr A xs) := Lib.hid HQ.out.rd
        simp only [Sl.v] at hx hn63 hnn
        have HNN := Lib.hid hnn
        clear hnn
        have FALSE : Hid (polB s xs = false → Value.bool false = .bool (vldB c s p && ps.all fun q => polB s q.xs)) := fun h => by rw [HV.out, HST.out h]; rfl
        have NEXT : Hid (polB s xs = true → ∀ j, j < k + 1 → polB s (ps.getD j default).xs = true) := fun h j hj => by
          by_cases hjk : j = k
          · subst hjk; rw [HQE.out]; exact h
          · exact hid.out j (by omega)
        by_cases hbig : 4097 < n
        · have HF := Lib.hid (FALSE.out (polB_long (by rw [← HNN.out]; exact hbig)))
          go_wp2
          go_ret
          exact ⟨congrArg Ending.returned HF.out, bw1 hbw.out⟩
        · have hsm : n ≤ 4097 := by omega
          clear hbig hn63
          by_cases h0 : n = 0
          · subst h0
            have hxe : xs = [] := List.eq_nil_of_length_eq_zero HNN.out.symm
            have HI : Hid (inB s xs = true) := by show _ = _; rw [hxe]; rfl
            have HN2 := Lib.hid (NEXT.out (by rw [polB_in (by rw [← HNN.out]; omega) (.inl HNN.out.symm)]; exact HI.out))
            clear hxe
            go_wp2_with (go_at_call 55; refine (elements_n c s p xs 0 HNN.out A ca _ (by omega) HRD.out).mono ?_; rintro e w2 ⟨rfl, hb2⟩; rw [HI.out]; have HB2 := Lib.hid hb2; clear hb2)
            exact ⟨⟨k + 1, by omega, by go_num, HN2.out, bwStep hbw.out HB2.out⟩, by simp [intOf]; omega⟩
          · obtain ⟨q, hqe⟩ : ∃ q, q = n - 1 := ⟨_, rfl⟩
            have hs1 : (n : Int) - 1 = (q : Int) := by omega
            have hqn : q < n := by omega
            have hqb : q ≤ 4096 := by omega
            have hn1 : 1 ≤ n := by omega
            have hd : decide ((4097 : Int) < (n : Int)) = false := by simp; omega
            have hd2 : decide ((0 : Int) < (n : Int)) = true := by simp; omega
            obtain ⟨ad, rfl, -, hc⟩ := HRD.out (by rw [← HNN.out]; omega)
            have hx1 := hc q (by rw [← HNN.out]; omega)
            have HSM := Lib.hid hsm
            have HZ : Hid (xs.getD (xs.length - 1) 0 = xs.getD q 0) := by show _ = _; rw [← HNN.out, hqe]
            clear hsm h0 hqe
            clear hc
            generalize xs.getD q 0 = x at *
            by_cases hx0 : x = 0
            · subst hx0
              have HF := Lib.hid (FALSE.out (polB_zero (by rw [← HNN.out]; omega) HZ.out))
              go_wp2
              go_ret
              exact ⟨congrArg Ending.returned HF.out, bw1 hbw.out⟩
            · have HP := Lib.hid (polB_in (s := s) (xs := xs) (by rw [← HNN.out]; exact HSM.out) (.inr (by rw [HZ.out]; exact hx0)))
              have z1 : (x == 0) = false := by rw [beq_eq_false_iff_ne]; exact hx0
              clear hx0
              cases hI : inB s xs with
              | true =>
                have HI := Lib.hid hI
                have HN2 := Lib.hid (NEXT.out (by rw [HP.out]; exact HI.out))
                clear hI
                go_wp2_with (go_at_call 55; refine (elements_n c s p xs n HNN.out (some ad) ca _ (by have := HSM.out; omega) HRD.out).mono ?_; rintro e w2 ⟨rfl, hb2⟩; rw [HI.out]; have HB2 := Lib.hid hb2; clear hb2)
                exact ⟨⟨k + 1, by omega, by go_num, HN2.out, bwStep hbw.out HB2.out⟩, by simp [intOf]; omega⟩
              | false =>
                have HI := Lib.hid hI
                have HF := Lib.hid (FALSE.out (by rw [HP.out]; exact HI.out))
                clear hI
                go_wp2_with (go_at_call 55; refine (elements_n c s p xs n HNN.out (some ad) ca _ (by have := HSM.out; omega) HRD.out).mono ?_; rintro e w2 ⟨rfl, hb2⟩; rw [HI.out]; have HB2 := Lib.hid hb2; clear hb2)
                go_ret
                exact ⟨congrArg Ending.returned HF.out, bw1 (bwStep hbw.out HB2.out)⟩
      · obtain rfl : k = m := by omega
        have HI := Lib.hid (all_end (ps := ps) (f := fun q => polB s q.xs) (by rw [← HM.out]; exact hid.out))
        go_wp2
        go_ret
        exact ⟨ret_bool (by rw [HV.out, HI.out]; rfl), bw1 hbw.out⟩
  · have hv : vldB c s p = false := by simpa using hv
    have HV := Lib.hid hv
    clear hv
    go_enter Try.func49, Try.ntmps49
    go_wp2_with (go_at_call 81; refine (valid_any c s p _ hp).mono ?_; rintro e w1 ⟨rfl, hb1⟩; rw [HV.out]; have HB1 := Lib.hid hb1; clear hb1)
    go_ret
    exact ⟨ret_bool (by rw [HV.out]; rfl), bw1 HB1.out⟩
end Go.Proofs.Ythpcneeidhmdkaa
namespace Go.Proofs.Ythpcneeidhmdkaa
open Go.RowKit
set_option linter.unusedVariables false
/-! the two tests of a polynomial; polynomials as lists of Nat -/
theorem inB_zl {S : Nat} {l : List Nat} (h : LtAll S l) : inB (S : Int) (zl l) = true := by
  refine inB_end fun j hj => ?_
  rw [zl_getD]
  have := h j
  omega
theorem inB_nat {S : Nat} {xs : List Int} (h0 : 0 < S) (h : inB (S : Int) xs = true) : ∃ l, xs = zl l ∧ LtAll S l := by
  refine ⟨xs.map Int.toNat, ?_, ?_⟩
  · unfold inB at h
    rw [List.all_eq_true] at h
    unfold zl
    rw [List.map_map]
    refine (List.map_id xs).symm.trans (List.map_congr_left fun x hx => ?_)
    have := h x hx
    simp at this
    show x = ((x.toNat : Nat) : Int)
    omega
  · intro i
    by_cases hi : i < xs.length
    · unfold inB at h
      rw [List.all_eq_true] at h
      have := h xs[i] (List.getElem_mem hi)
      simp at this
      simp [List.getD, hi]
      omega
    · simp [List.getD, hi, h0]
theorem polB_zl {S : Nat} {l : List Nat} (h : LtAll S l) (hn : l.length ≤ 4097) (ht : Trimmed l) : polB (S : Int) (zl l) = true := by
  rw [polB_in (by rw [zl_length]; exact hn), inB_zl h]
  rcases ht with rfl | ht
  · exact .inl rfl
  · right
    rw [zl_length, zl_getD]
    omega
theorem polB_nat {S : Nat} {xs : List Int} (h0 : 0 < S) (h : polB (S : Int) xs = true) : ∃ l, xs = zl l ∧ LtAll S l ∧ Trimmed l ∧ l.length ≤ 4097 := by
  have h' := h
  unfold polB at h'
  simp only [Bool.and_eq_true, decide_eq_true_eq, Bool.or_eq_true, Bool.not_eq_true', decide_eq_false_iff_not] at h'
  obtain ⟨⟨h1, h2⟩, h3⟩ := h'
  obtain ⟨l, rfl, hl⟩ := inB_nat h0 h3
  refine ⟨l, rfl, hl, ?_, by rw [zl_length] at h1; exact h1⟩
  rw [zl_length, zl_getD] at h2
  rcases h2 with h2 | h2
  · exact .inl (List.eq_nil_of_length_eq_zero h2)
  · exact .inr (by omega)
/-- the test of a field and one polynomial -/
def pvB (c s p : Int) (xs : List Int) : Bool := vldB c s p && polB s xs
set_option maxHeartbeats 1000000 in
theorem pValid_any (c s p : Int) (q : Sl) (w : World) (hp : p ≤ 9223372036854775807) (hq : q.R w) :
    Calls Try.prog 45 #[fldv c s p, q.v] w fun e w' => e = .returned (.bool (pvB c s p q.xs)) ∧ Below w.heap.size w w' := by
  have HQ := Lib.hid ((hq.below ((Below.refl _ _).alloc (Nat.le_refl _) (fldB c s p))))
  clear hq
  go_enter Try.func45, Try.ntmps45
  go_wp2_with (go_at_call 49; refine (pvalid_any c s p (some ⟨w.heap.size + 1, 0, none⟩) 1 1 [q] _ rfl (by omega) hp (Sls.one 24 _ (by simp) HQ.out)).mono ?_; rintro e w1 ⟨rfl, hb1⟩)
  go_ret
  exact ⟨ret_bool (by unfold pvB; simp), bw1 (bwStep ((Below.refl _ _).alloc (Nat.le_refl _) _) hb1)⟩
set_option maxHeartbeats 1000000 in
theorem relements_any (c s p : Int) (q : Sl) (w : World) (hq : q.R w) :
    Calls Try.prog 60 #[fldv c s p, q.v] w fun e w' => e = .returned (.bool (inB s q.xs)) ∧ Below w.heap.size w w' := by
  obtain ⟨A, n, ca, xs⟩ := q
  have HQ := Lib.hid hq.rd
  have CB : Hid (CellsAt (w.alloc (fldB c s p)) w.heap.size (fldC c s p)) := CellsAt.new _ _ _ _ rfl
  have HN := Lib.hid hq.hn
  have hn63 := hq.hm
  simp only at HQ HN hn63
  clear hq
  simp only [Sl.v]
  go_enter Try.func60, Try.ntmps60
  go_wp2
  go_loopw [5] (fun i wr => ∃ k : Nat, k ≤ n ∧ i = .int .i64 k ∧ Hid (∀ j, j < k → 0 ≤ xs.getD j 0 ∧ xs.getD j 0 < s) ∧ Hid (Below (w.alloc (fldB c s p)).heap.size (w.alloc (fldB c s p)) wr)) (fun i _ => n - (intOf i).toNat)
  case atStart => exact ⟨0, Nat.zero_le _, rfl, fun j hj => by omega, Below.refl _ _⟩
  case round =>
    obtain ⟨k, hk, rfl, hid, hb⟩ := hrel
    by_cases hlt : k < n
    · obtain ⟨ad, rfl, -, hc⟩ := HQ.out.below (bw1 hb.out) (by rw [← HN.out]; omega)
      have hx := hc k (by rw [← HN.out]; exact hlt)
      clear hc
      generalize hxe : xs.getD k 0 = x at *
      have CF : Hid (∀ W, Abv wr W → (W.cell? ⟨w.heap.size, 0, none⟩ = some (.int .i64 c) ∧ W.cell? ⟨w.heap.size, 1, none⟩ = some (.int .i64 s) ∧ W.cell? ⟨w.heap.size, 2, none⟩ = some (.int .i64 p)) ∧ W.cell? (ad.add k) = some (.int .i64 x)) := by
        show ∀ W, _
        intro W hW
        refine ⟨fldC_cells (CB.out.below (bwStep hb.out hW)), ?_⟩
        obtain ⟨ad', e, _, hc⟩ := HQ.out.below (bw1 (bwStep hb.out hW)) (by rw [← HN.out]; omega)
        injection e with e
        subst e
        rw [hc k (by rw [← HN.out]; exact hlt), hxe]
      clear hx
      have HX := Lib.hid hxe
      clear hxe
      cases hI : isB s x with
      | true =>
        have HI := Lib.hid hI
        clear hI
        have HN2 : Hid (∀ j, j < k + 1 → 0 ≤ xs.getD j 0 ∧ xs.getD j 0 < s) := fun j hj => by
          by_cases hjk : j = k
          · subst hjk; rw [HX.out]; have := HI.out; unfold isB at this; simpa using this
          · exact hid.out j (by omega)
        go_wp2
        refine wp_region_S (S := Abv wr) 6 (by kernel_rfl) (by kernel_rfl) (bwDrew (Below.refl _ _)) ?_
        simp only [List.take_succ_cons, List.take_zero, List.drop_succ_cons, List.drop_zero]
        repeat
          refine' wpHS_val rfl (fun W hW => ?_) ?_
          rotate_left
          · have hcf := CF.out W hW; go_simp; rfl
          simp only [Act.put, List.setIfInBounds_toArray, List.set_cons_zero, List.set_cons_succ]
        refine' wpHS_call rfl (fun W => ?_) (fun W hW => ?_) ?_
        rotate_left 3
        · go_simp; exact ⟨rfl, rfl⟩
        · exact (element_any c s p x W).mono (fun e W1 h => ⟨h.1, bwStep hW h.2⟩)
        simp only [Act.put, List.setIfInBounds_toArray, List.set_cons_zero, List.set_cons_succ]
        rw [HI.out]
        refine wpHS_nil ?_
        intro w2 hb1
        have HB2 := Lib.hid hb1
        clear hb1
        go_wp2
        exact ⟨⟨k + 1, by omega, by go_num, HN2.out, bwStep hb.out HB2.out⟩, by simp [intOf]; omega⟩
      | false =>
        have HI := Lib.hid hI
        clear hI
        have HF := Lib.hid (inB_step (s := s) (xs := xs) (k := k) (by rw [← HN.out]; exact hlt) (by rw [HX.out]; have := HI.out; unfold isB at this; simp at this; omega))
        go_wp2
        refine wp_region_S (S := Abv wr) 6 (by kernel_rfl) (by kernel_rfl) (bwDrew (Below.refl _ _)) ?_
        simp only [List.take_succ_cons, List.take_zero, List.drop_succ_cons, List.drop_zero]
        repeat
          refine' wpHS_val rfl (fun W hW => ?_) ?_
          rotate_left
          · have hcf := CF.out W hW; go_simp; rfl
          simp only [Act.put, List.setIfInBounds_toArray, List.set_cons_zero, List.set_cons_succ]
        refine' wpHS_call rfl (fun W => ?_) (fun W hW => ?_) ?_
        rotate_left 3
        · go_simp; exact ⟨rfl, rfl⟩
        · exact (element_any c s p x W).mono (fun e W1 h => ⟨h.1, bwStep hW h.2⟩)
        simp only [Act.put, List.setIfInBounds_toArray, List.set_cons_zero, List.set_cons_succ]
        rw [HI.out]
        refine wpHS_nil ?_
        intro w2 hb1
        have HB2 := Lib.hid hb1
        clear hb1
        go_wp2
        go_ret
        exact ⟨ret_bool HF.out.symm, bw1 (bwStep hb.out HB2.out)⟩
    · obtain rfl : k = n := by omega
      have HI := Lib.hid (inB_end (s := s) (xs := xs) (by rw [← HN.out]; exact hid.out))
      go_wp2
      go_ret
      exact ⟨ret_bool HI.out.symm, bw1 hb.out⟩
end Go.Proofs.Ythpcneeidhmdkaa
namespace Go.Proofs.Ythpcneeidhmdkaa
open Go.RowKit
set_option linter.unusedVariables false
set_option maxHeartbeats 1000000 in
theorem rpValid_any (c s p : Int) (q : Sl) (w : World) (hs : s ≤ 9223372036854775807) (hp : p ≤ 9223372036854775807) (hq : q.R w) :
    Calls Try.prog 46 #[fldv c s p, q.v] w fun e w' => e = .returned (.bool (pvB c s p q.xs)) ∧ Below w.heap.size w w' := by
  obtain ⟨A, n, ca, xs⟩ := q
  have HQ := Lib.hid (hq.below ((Below.refl _ _).alloc (Nat.le_refl _) (fldB c s p)))
  have HRD : Hid (RD w A xs) := hq.rd
  have CB : Hid (CellsAt (w.alloc (fldB c s p)) w.heap.size (fldC c s p)) := CellsAt.new _ _ _ _ rfl
  have HN : Hid (n = xs.length) := hq.hn
  have hn63 : n ≤ 9223372036854775807 := hq.hm
  clear hq
  show Calls Try.prog 46 #[fldv c s p, .slice A n ca] w fun e w' => e = .returned (.bool (pvB c s p xs)) ∧ Below w.heap.size w w'
  cases hv : vldB c s p with
  | false =>
    have HV := Lib.hid hv
    have HF : Hid (pvB c s p xs = false) := by show _ = _; unfold pvB; rw [hv]; rfl
    clear hv
    go_enter Try.func46, Try.ntmps46
    go_wp2_with (go_at_call 59; refine (rvalid_any c s p _ hs hp).mono ?_; rintro e w1 ⟨rfl, hb1⟩; rw [HV.out]; have HB1 := Lib.hid hb1; clear hb1)
    go_ret
    exact ⟨ret_bool HF.out.symm, bw1 HB1.out⟩
  | true =>
    have HV := Lib.hid hv
    have HPV : Hid (pvB c s p xs = polB s xs) := by show _ = _; unfold pvB; rw [hv]; rfl
    clear hv
    have HC : Hid (∀ w1, Below (w.alloc (fldB c s p)).heap.size (w.alloc (fldB c s p)) w1 → w1.cell? ⟨w.heap.size, 0, none⟩ = some (.int .i64 c) ∧ w1.cell? ⟨w.heap.size, 1, none⟩ = some (.int .i64 s) ∧ w1.cell? ⟨w.heap.size, 2, none⟩ = some (.int .i64 p)) := fun w1 hb => fldC_cells (CB.out.below hb)
    by_cases hbig : 4097 < n
    · have HF : Hid (pvB c s p xs = false) := by show _ = _; rw [HPV.out]; exact polB_long (by rw [← HN.out]; exact hbig)
      have hd : decide ((n : Int) ≤ 4097) = false := by simp; omega
      clear hbig
      go_enter Try.func46, Try.ntmps46
      go_wp2_with (go_at_call 59; refine (rvalid_any c s p _ hs hp).mono ?_; rintro e w1 ⟨rfl, hb1⟩; rw [HV.out]; have HB1 := Lib.hid hb1; clear hb1)
      go_ret
      exact ⟨ret_bool HF.out.symm, bw1 HB1.out⟩
    · have hd : decide ((n : Int) ≤ 4097) = true := by simp; omega
      have hsm : n ≤ 4097 := by omega
      clear hn63 hbig
      have EL : Hid (∀ w1, Below (w.alloc (fldB c s p)).heap.size (w.alloc (fldB c s p)) w1 → Calls Try.prog 60 #[fldv c s p, .slice A n ca] w1 fun e w' => e = .returned (.bool (inB s xs)) ∧ Below w1.heap.size w1 w') := fun w1 hb => relements_any c s p ⟨A, n, ca, xs⟩ w1 (HQ.out.below hb)
      cases hI : inB s xs with
      | false =>
        have HI := Lib.hid hI
        have HF : Hid (pvB c s p xs = false) := by show _ = _; rw [HPV.out]; unfold polB; rw [hI]; simp
        clear hI
        go_enter Try.func46, Try.ntmps46
        go_wp2_with (first | (go_at_call 59; refine (rvalid_any c s p _ hs hp).mono ?_; rintro e w1 ⟨rfl, hb1⟩; rw [HV.out]; have HB1 := Lib.hid hb1; clear hb1; obtain ⟨f0, f1, f2⟩ := HC.out w1 HB1.out) | (go_at_call 60; refine (EL.out _ HB1.out).mono ?_; rintro e w2 ⟨rfl, hb2⟩; rw [HI.out]; have HB2 := Lib.hid hb2; clear hb2))
        go_ret
        exact ⟨ret_bool HF.out.symm, bw1 (bwStep HB1.out HB2.out)⟩
      | true =>
        have HI := Lib.hid hI
        clear hI
        by_cases h0 : n = 0
        · have HF : Hid (pvB c s p xs = true) := by show _ = _; rw [HPV.out, polB_in (by rw [← HN.out]; omega) (.inl (by rw [← HN.out]; exact h0))]; exact HI.out
          subst h0
          clear hsm hd
          go_enter Try.func46, Try.ntmps46
          go_wp2_with (first | (go_at_call 59; refine (rvalid_any c s p _ hs hp).mono ?_; rintro e w1 ⟨rfl, hb1⟩; rw [HV.out]; have HB1 := Lib.hid hb1; clear hb1; obtain ⟨f0, f1, f2⟩ := HC.out w1 HB1.out) | (go_at_call 60; refine (EL.out _ HB1.out).mono ?_; rintro e w2 ⟨rfl, hb2⟩; rw [HI.out]; have HB2 := Lib.hid hb2; clear hb2))
          go_ret
          exact ⟨ret_bool HF.out.symm, bw1 (bwStep HB1.out HB2.out)⟩
        · obtain ⟨ad, rfl, hadw, hc⟩ := HRD.out (by rw [← HN.out]; omega)
          obtain ⟨k, hk⟩ : ∃ k, k = n - 1 := ⟨_, rfl⟩
          have hs1 : (n : Int) - 1 = (k : Int) := by omega
          have hkn : k < n := by omega
          have hkb : k ≤ 4096 := by omega
          have hx := hc k (by rw [← HN.out]; exact hkn)
          have HZ : Hid (xs.getD (xs.length - 1) 0 = xs.getD k 0) := by show _ = _; rw [← HN.out, hk]
          have z0 : ((n : Int) == 0) = false := by rw [beq_eq_false_iff_ne]; omega
          generalize hxe : xs.getD k 0 = x at *
          have HX2 : Hid (∀ W, Abv w W → W.cell? (ad.add k) = some (.int .i64 x)) := fun W hW => (hW.cell (by rw [block_of_add]; exact hadw)).trans hx
          have HF : Hid (pvB c s p xs = !(x == 0)) := by
            show _ = _
            rw [HPV.out]
            by_cases hx0 : x = 0
            · subst hx0; rw [polB_zero (by rw [← HN.out]; omega) HZ.out]; rfl
            · rw [polB_in (by rw [← HN.out]; exact hsm) (.inr (by rw [HZ.out]; exact hx0)), HI.out, show (x == 0) = false from by rw [beq_eq_false_iff_ne]; exact hx0]; rfl
          clear hk h0 hc hx hxe hsm
          cases hx0 : (x == 0) with
          | true =>
            have hx0' : (x != 0) = false := by unfold bne; rw [hx0]; rfl
            have HF2 : Hid (pvB c s p xs = false) := by show _ = _; rw [HF.out, hx0]; rfl
            go_enter Try.func46, Try.ntmps46
            go_wp2_with (first | (go_at_call 59; refine (rvalid_any c s p _ hs hp).mono ?_; rintro e w1 ⟨rfl, hb1⟩; rw [HV.out]; have HB1 := Lib.hid hb1; clear hb1; obtain ⟨f0, f1, f2⟩ := HC.out w1 HB1.out) | (go_at_call 60; refine (EL.out _ HB1.out).mono ?_; rintro e w2 ⟨rfl, hb2⟩; rw [HI.out]; have HB2 := Lib.hid hb2; clear hb2; have hx := HX2.out w2 (bw1 (bwStep HB1.out HB2.out))))
            go_ret
            exact ⟨ret_bool HF2.out.symm, bw1 (bwStep HB1.out HB2.out)⟩
          | false =>
            have hx0' : (x != 0) = true := by unfold bne; rw [hx0]; rfl
            have HF2 : Hid (pvB c s p xs = true) := by show _ = _; rw [HF.out, hx0]; rfl
            go_enter Try.func46, Try.ntmps46
            go_wp2_with (first | (go_at_call 59; refine (rvalid_any c s p _ hs hp).mono ?_; rintro e w1 ⟨rfl, hb1⟩; rw [HV.out]; have HB1 := Lib.hid hb1; clear hb1; obtain ⟨f0, f1, f2⟩ := HC.out w1 HB1.out) | (go_at_call 60; refine (EL.out _ HB1.out).mono ?_; rintro e w2 ⟨rfl, hb2⟩; rw [HI.out]; have HB2 := Lib.hid hb2; clear hb2; have hx := HX2.out w2 (bw1 (bwStep HB1.out HB2.out))))
            go_ret
            exact ⟨ret_bool HF2.out.symm, bw1 (bwStep HB1.out HB2.out)⟩
end Go.Proofs.Ythpcneeidhmdkaa
namespace Go.Proofs.Ythpcneeidhmdkaa
open Go.RowKit
set_option linter.unusedVariables false
/-! what the functions answer: a list and an error -/
def RetL (w : World) (L : List Int × Int) (e : Ending) (w' : World) : Prop := ∃ v, e = .returned (.tuple #[v, .int .i64 L.2]) ∧ Ints w' v L.1 ∧ Below w.heap.size w w'
theorem RetL.mk {w w' : World} {R : List Int × Int} {v : Value} {L : List Int} {err : Int} (h : R = (L, err)) (hi : Ints w' v L) (hb : Below w.heap.size w w') : RetL w R (.returned (.tuple #[v, .int .i64 err])) w' := by
  subst h; exact ⟨v, rfl, hi, hb⟩
abbrev nl (xs : List Int) : List Nat := xs.map Int.toNat
theorem nl_zl (l : List Nat) : nl (zl l) = l := by
  unfold nl zl
  rw [List.map_map]
  exact (List.map_congr_left fun x _ => (rfl : (Int.toNat ∘ fun n : Nat => (n : Int)) x = x)).trans (List.map_id l)
theorem pvB_nat {c s p : Int} {xs : List Int} (h : pvB c s p xs = true) : ∃ (C S P : Nat) (l : List Nat), c = C ∧ s = S ∧ p = P ∧ xs = zl l ∧ VF C S P ∧ LtAll S l ∧ Trimmed l ∧ l.length ≤ 4097 := by
  unfold pvB at h
  rw [Bool.and_eq_true] at h
  obtain ⟨C, S, P, rfl, rfl, rfl, hv⟩ := vld_nat h.1
  obtain ⟨l, rfl, h1, h2, h3⟩ := polB_nat (by have := hv.two_le; omega) h.2
  exact ⟨C, S, P, l, rfl, rfl, rfl, rfl, hv, h1, h2, h3⟩
theorem pvB_and (c s p : Int) (xs ys : List Int) : (vldB c s p && [(⟨none, 0, 0, xs⟩ : Sl), ⟨none, 0, 0, ys⟩].all fun q => polB s q.xs) = (pvB c s p xs && pvB c s p ys) := by
  unfold pvB; simp only [List.all_cons, List.all_nil]
  cases vldB c s p <;> simp
def mulRes (c s p : Int) (xs ys : List Int) : List Int × Int :=
  if (pvB c s p xs && pvB c s p ys) = true then (if 1 ≤ xs.length ∧ 1 ≤ ys.length ∧ 4098 < xs.length + ys.length then ([], 4) else (zl (mulL s.toNat p.toNat (nl xs) (nl ys)), 0)) else ([], 1)
/-- valid on two polynomials, at a walk -/
theorem pvalid2 (c s p : Int) (A B : Option Addr) (n ca m cb : Nat) (xs ys : List Int) (b : Nat) (w : World) (t : TypeId) (hp : p ≤ 9223372036854775807) (hb : b = w.heap.size)
    (hq : (⟨A, n, ca, xs⟩ : Sl).R w) (hr : (⟨B, m, cb, ys⟩ : Sl).R w) :
    Calls Try.prog 49 #[fldv c s p, .slice (some ⟨b, 0, none⟩) 2 2] (w.alloc (.cells #[.slice A n ca, .slice B m cb] t)) fun e w' => e = .returned (.bool (pvB c s p xs && pvB c s p ys)) ∧ Below w.heap.size w w' :=
  (pvalid_any c s p (some ⟨b, 0, none⟩) 2 2 [⟨A, n, ca, xs⟩, ⟨B, m, cb, ys⟩] _ rfl (by omega) hp (Sls.two (q := ⟨A, n, ca, xs⟩) (r := ⟨B, m, cb, ys⟩) t b hb hq hr)).mono fun e w' ⟨he, hw⟩ => ⟨he.trans (ret_bool (pvB_and c s p xs ys)), bwStep ((Below.refl _ _).alloc (Nat.le_refl _) _) hw⟩
theorem pvalid1 (c s p : Int) (A : Option Addr) (n ca : Nat) (xs : List Int) (b : Nat) (w : World) (t : TypeId) (hp : p ≤ 9223372036854775807) (hb : b = w.heap.size)
    (hq : (⟨A, n, ca, xs⟩ : Sl).R w) :
    Calls Try.prog 49 #[fldv c s p, .slice (some ⟨b, 0, none⟩) 1 1] (w.alloc (.cells #[.slice A n ca] t)) fun e w' => e = .returned (.bool (pvB c s p xs)) ∧ Below w.heap.size w w' :=
  (pvalid_any c s p (some ⟨b, 0, none⟩) 1 1 [⟨A, n, ca, xs⟩] _ rfl (by omega) hp (Sls.one (q := ⟨A, n, ca, xs⟩) t b hb hq)).mono fun e w' ⟨he, hw⟩ => ⟨he.trans (ret_bool (by unfold pvB; simp)), bwStep ((Below.refl _ _).alloc (Nat.le_refl _) _) hw⟩
theorem pvalid0 (c s p : Int) (w : World) (hp : p ≤ 9223372036854775807) :
    Calls Try.prog 49 #[fldv c s p, .slice none 0 0] w fun e w' => e = .returned (.bool (vldB c s p)) ∧ Below w.heap.size w w' :=
  (pvalid_any c s p none 0 0 [] w rfl (by omega) hp (Sls.nil_ _ _)).mono fun e w' ⟨he, hw⟩ => ⟨he.trans (ret_bool (by simp)), hw⟩
theorem aproduct_n (C S P be bl : Nat) (a b : List Nat) (n m : Nat) (hn : n = a.length) (hm : m = b.length) (A B : Option Addr) (ca cb : Nat) (w : World) (hv : VF C S P) (hla : LtAll S a) (hlb : LtAll S b) (hna : a.length ≤ 4097) (hnb : b.length ≤ 4097)
    (ht : TabAt w S P be bl) (ha : RD w A (zl a)) (hb : RD w B (zl b)) :
    Calls Try.prog 51 #[arv C S be bl, .slice A n ca, .slice B m cb] w fun e w' => ∃ v, e = .returned v ∧ Ints w' v (zl (mulL S P a b)) ∧ Below w.heap.size w w' := by
  subst hn hm; exact aproduct_any C S P be bl a b A B ca cb w hv hla hlb hna hnb ht ha hb
set_option maxHeartbeats 1000000 in
theorem pMul_any (c s p : Int) (q r : Sl) (w : World) (hp : p ≤ 9223372036854775807) (hq : q.R w) (hr : r.R w) :
    Calls Try.prog 15 #[fldv c s p, q.v, r.v] w (RetL w (mulRes c s p q.xs r.xs)) := by
  obtain ⟨A, n, ca, xs⟩ := q
  obtain ⟨B, m, cb, ys⟩ := r
  have hbx : Below w.heap.size w (w.alloc (fldB c s p)) := (Below.refl _ _).alloc (Nat.le_refl _) _
  have HQ := Lib.hid (hq.below hbx)
  have HR := Lib.hid (hr.below hbx)
  show Calls Try.prog 15 #[fldv c s p, .slice A n ca, .slice B m cb] w (RetL w (mulRes c s p xs ys))
  have CB : Hid (CellsAt (w.alloc (fldB c s p)) w.heap.size (fldC c s p)) := CellsAt.new _ _ _ _ rfl
  cases hV : (pvB c s p xs && pvB c s p ys) with
  | false =>
    have HV := Lib.hid hV
    have HF : Hid (mulRes c s p xs ys = ([], 1)) := by show _ = _; unfold mulRes; rw [hV]; rfl
    clear hV hq hr hbx
    go_enter Try.func15, Try.ntmps15
    go_wp2_with (go_at_call 49; refine (pvalid2 c s p A B n ca m cb xs ys _ _ 24 hp (by simp) HQ.out HR.out).mono ?_; rintro e w1 ⟨rfl, hb1⟩; rw [HV.out]; have HB1 := Lib.hid hb1; clear hb1)
    go_ret2
    exact RetL.mk HF.out (Ints.nil_ _) (bw1 HB1.out)
  | true =>
    have hV' := hV
    rw [Bool.and_eq_true] at hV'
    obtain ⟨C, S, P, a, rfl, rfl, rfl, rfl, hv, hla, hta, hna⟩ := pvB_nat hV'.1
    obtain ⟨C', S', P', b, e1, e2, e3, rfl, -, hlb, htb, hnb⟩ := pvB_nat hV'.2
    obtain rfl : S = S' := by omega
    have hnn : n = a.length := hq.hn.trans (zl_length a)
    have hmm : m = b.length := hr.hn.trans (zl_length b)
    have hn7 : n ≤ 4097 := by omega
    have hm7 : m ≤ 4097 := by omega
    have HV := Lib.hid hV
    have HVF := Lib.hid hv
    have HLA := Lib.hid hla
    have HLB := Lib.hid hlb
    have HNN := Lib.hid hnn
    have HMM := Lib.hid hmm
    have HNA := Lib.hid hna
    have HNB := Lib.hid hnb
    have HF : Hid (mulRes C S P (zl a) (zl b) = if 1 ≤ n ∧ 1 ≤ m ∧ 4098 < n + m then ([], 4) else (zl (mulL S P a b), 0)) := by
      show _ = _; unfold mulRes; rw [hV, if_pos rfl, zl_length, zl_length, nl_zl, nl_zl, ← hnn, ← hmm]; rfl
    clear hV hV' e1 e2 e3 hv hla hlb hta htb hna hnb hnn hmm hq hr hbx
    by_cases hlong : 1 ≤ n ∧ 1 ≤ m ∧ 4098 < n + m
    · obtain ⟨h1, h2, h3⟩ := hlong
      have HF2 : Hid (mulRes C S P (zl a) (zl b) = ([], 4)) := by show _ = _; rw [HF.out, if_pos ⟨h1, h2, h3⟩]
      have hd3 : decide ((4096 : Int) < (n : Int) + m - 2) = true := by simp; omega
      clear h3
      go_enter Try.func15, Try.ntmps15
      go_wp2_with (go_at_call 49; refine (pvalid2 C S P A B n ca m cb _ _ _ _ 24 hp (by simp) HQ.out HR.out).mono ?_; rintro e w1 ⟨rfl, hb1⟩; rw [HV.out]; have HB1 := Lib.hid hb1; clear hb1)
      go_ret2
      exact RetL.mk HF2.out (Ints.nil_ _) (bw1 HB1.out)
    · have HF2 : Hid (mulRes C S P (zl a) (zl b) = (zl (mulL S P a b), 0)) := by show _ = _; rw [HF.out, if_neg hlong]
      have hd3 : 0 < n → 0 < m → decide ((4096 : Int) < (n : Int) + m - 2) = false := by simp; omega
      have hcase : (0 < n ∧ 0 < m ∧ decide ((4096 : Int) < (n : Int) + m - 2) = false) ∨ (0 < n ∧ m = 0) ∨ n = 0 := by
        by_cases h1 : 0 < n
        · by_cases h2 : 0 < m
          · exact .inl ⟨h1, h2, hd3 h1 h2⟩
          · exact .inr (.inl ⟨h1, by omega⟩)
        · exact .inr (.inr (by omega))
      clear hlong hd3
      rcases hcase with ⟨h1, h2, hd4⟩ | ⟨h1, rfl⟩ | rfl
      all_goals
        go_enter Try.func15, Try.ntmps15
        go_wp2_with (first
          | (go_at_call 49; refine (pvalid2 C S P A B _ ca _ cb _ _ _ _ 24 hp (by simp) HQ.out HR.out).mono ?_; rintro e w1 ⟨rfl, hb1⟩; rw [HV.out]; have HB1 := Lib.hid hb1; clear hb1; obtain ⟨f0, f1, f2⟩ := fldC_cells (CB.out.below HB1.out))
          | (go_at_call 50; refine (newA_any C S P _ HVF.out).mono ?_; rintro e w2 ⟨be, bl, rfl, ht, hb2⟩; have HT := Lib.hid ht; have HB2 := Lib.hid hb2; clear ht hb2)
          | (go_at_call 51; refine (aproduct_n C S P be bl a b _ _ HNN.out HMM.out A B ca cb _ HVF.out HLA.out HLB.out HNA.out HNB.out HT.out ((HQ.out.below HB1.out).below HB2.out).rd ((HR.out.below HB1.out).below HB2.out).rd).mono ?_; rintro e w3 ⟨v3, rfl, hI, hb3⟩; have HI := Lib.hid hI; have HB3 := Lib.hid hb3; clear hI hb3))
        go_ret2
        exact RetL.mk HF2.out HI.out (bw1 (bwStep (bwStep HB1.out HB2.out) HB3.out))
end Go.Proofs.Ythpcneeidhmdkaa
namespace Go.Proofs.Ythpcneeidhmdkaa
set_option linter.unusedVariables false
set_option linter.unusedSectionVars false
open Fl
/-! lists of numbers as sequences of elements -/
/-- the field as a type of its own -/
def KF {c s p : Nat} (h : VF c s p) : Type := El s
instance {c s p : Nat} (h : VF c s p) : Fl (KF h) := fldOf h
theorem getD_ge {l : List Nat} {i : Nat} (hi : l.length ≤ i) : l.getD i 0 = 0 := by
  rw [List.getD, List.getElem?_eq_none hi]; rfl
theorem ltAll_trim {s : Nat} {l : List Nat} (hl : LtAll s l) : LtAll s (trimL l) := fun i => by rw [trimL_getD]; exact hl i
theorem qL_zero {s p : Nat} (a b : List Nat) (M n0 k : Nat) (j : Nat) (hj : j < M - k) : (qL s p a b M n0 k).getD j 0 = 0 := by
  induction k with
  | zero =>
    by_cases h0 : j < n0
    · simp [qL, List.getD, h0]
    · simp [qL, List.getD, h0]
  | succ k ih =>
    show ((qL s p a b M n0 k).set (M - 1 - k) _).getD j 0 = 0
    have := ih (by omega)
    rw [List.getD, List.getElem?_set_ne (by omega)]
    exact this
section
variable {c s p : Nat} (h : VF c s p)
def mkK (n : Nat) : KF h := (⟨n % s, Nat.mod_lt _ (by have := h.two_le; omega)⟩ : El s)
/-- one term -/
def mono (i : Nat) (u : KF h) : Nat → KF h := fun k => if k = i then u else 0
def shN (i : Nat) (f : Nat → KF h) : Nat → KF h := fun n => if i ≤ n then f (n - i) else 0
/-- the coefficients -/
def co (l : List Nat) : Nat → KF h := fun i => mkK h (l.getD i 0)
include h
theorem mkK_of {n : Nat} (hn : n < s) : mkK h n = (⟨n, hn⟩ : El s) := El.ext (Nat.mod_eq_of_lt hn)
theorem mkK_inj {a b : Nat} (ha : a < s) (hb : b < s) (e : mkK h a = mkK h b) : a = b := by
  rw [mkK_of h ha, mkK_of h hb] at e
  exact congrArg El.val e
theorem mkK_surj (x : KF h) : ∃ n, n < s ∧ mkK h n = x := by
  let y : El s := x
  exact ⟨y.val, y.lt, mkK_of h y.lt⟩
theorem mkK_zero : mkK h 0 = 0 := mkK_of h (by have := h.two_le; omega)
theorem mkK_one : mkK h 1 = 1 := mkK_of h (by have := h.two_le; omega)
theorem mkK_add {a b : Nat} (ha : a < s) (hb : b < s) : mkK h (faddN s p a b) = mkK h a + mkK h b := by
  rw [mkK_of h (fadd_lt h _ _ ha hb), mkK_of h ha, mkK_of h hb]; rfl
theorem mkK_mul {a b : Nat} (ha : a < s) (hb : b < s) : mkK h (fmulN s p a b) = mkK h a * mkK h b := by
  rw [mkK_of h (fmul_lt h _ _), mkK_of h ha, mkK_of h hb]; rfl
theorem mkK_sub {a b : Nat} (ha : a < s) (hb : b < s) : mkK h (fsubN s p a b) = mkK h a - mkK h b := by
  rw [mkK_of h (subN_lt h ha hb), mkK_of h ha, mkK_of h hb]
  exact El.ext (fsubN_val h ⟨a, ha⟩ ⟨b, hb⟩)
theorem mkK_ne {a : Nat} (ha : a < s) (h0 : a ≠ 0) : mkK h a ≠ 0 := by
  intro e
  rw [← mkK_zero h] at e
  exact h0 (mkK_inj h ha (by have := h.two_le; omega) e)
theorem mkK_inv {a : Nat} (ha : a < s) (h0 : a ≠ 0) : mkK h a * mkK h (finvN s p a) = 1 := by
  rw [← mkK_mul h ha (invN_lt h), mulN_inv h ha h0, mkK_one]
theorem co_sup (l : List Nat) : Sup l.length (co h l) := fun i hi => by
  unfold co; rw [getD_ge hi, mkK_zero]
theorem co_nil (i : Nat) : co h [] i = 0 := co_sup h [] i (Nat.zero_le _)
theorem co_inj {a b : List Nat} (ha : LtAll s a) (hb : LtAll s b) (e : ∀ i, co h a i = co h b i) (i : Nat) : a.getD i 0 = b.getD i 0 := mkK_inj h (ha i) (hb i) (e i)
theorem co_ext {a b : List Nat} (ha : LtAll s a) (hb : LtAll s b) (ta : Trimmed a) (tb : Trimmed b) (e : ∀ i, co h a i = co h b i) : a = b := trimmed_ext ta tb (co_inj h ha hb e)
theorem co_ext_len {a b : List Nat} (ha : LtAll s a) (hb : LtAll s b) (hl : a.length = b.length) (e : ∀ i, co h a i = co h b i) : a = b := by
  apply List.ext_getElem hl
  intro i h1 h2
  have := co_inj h ha hb e i
  simpa [List.getD, h1, h2] using this
theorem co_trim (l : List Nat) (i : Nat) : co h (trimL l) i = co h l i := by unfold co; rw [trimL_getD]
theorem co_map (n : Nat) (f : Nat → Nat) (i : Nat) : co h ((List.range n).map f) i = if i < n then mkK h (f i) else 0 := by
  unfold co
  split
  · rename_i hi; rw [getD_map_range _ _ _ hi]
  · rename_i hi; rw [getD_ge (by simp; omega), mkK_zero]
theorem ltAll_map {n : Nat} {f : Nat → Nat} (hf : ∀ i, i < n → f i < s) : LtAll s ((List.range n).map f) := fun i => by
  by_cases hi : i < n
  · rw [getD_map_range _ _ _ hi]; exact hf i hi
  · rw [getD_ge (by simp; omega)]; have := h.two_le; show 0 < s; omega
theorem co_set (l : List Nat) (i v j : Nat) (hi : i < l.length) : co h (l.set i v) j = if j = i then mkK h v else co h l j := by
  unfold co
  by_cases e : j = i
  · subst e; rw [if_pos rfl]; congr 1; simp [List.getD, hi]
  · rw [if_neg e]; congr 1; simp [List.getD, List.getElem?_set_ne (Ne.symm e)]
theorem trimmed_top {l : List Nat} (hl : LtAll s l) (ht : Trimmed l) (hn : 1 ≤ l.length) : co h l (l.length - 1) ≠ 0 := by
  rcases ht with rfl | ht
  · simp at hn
  · exact mkK_ne h (hl _) ht
/-- a trimmed list of a sequence that ends at d -/
theorem length_le_of_sup {l : List Nat} (hl : LtAll s l) (ht : Trimmed l) {d : Nat} (hd : Sup d (co h l)) : l.length ≤ d := by
  rcases Nat.lt_or_ge d l.length with h1 | h1
  · exact absurd (hd (l.length - 1) (by omega)) (trimmed_top h hl ht (by omega))
  · exact h1
theorem length_of_top {l : List Nat} (hl : LtAll s l) (ht : Trimmed l) {d : Nat} (hd : Sup (d + 1) (co h l)) (h0 : co h l d ≠ 0) : l.length = d + 1 := by
  have h1 := length_le_of_sup h hl ht hd
  rcases Nat.lt_or_ge d l.length with h2 | h2
  · omega
  · exact absurd (co_sup h l d h2) h0
/-! sums -/
theorem co_addL {a b : List Nat} (ha : LtAll s a) (hb : LtAll s b) (i : Nat) : co h (addL s p a b) i = co h a i + co h b i := by
  unfold addL
  rw [co_trim, co_map]
  split
  · exact mkK_add h (ha i) (hb i)
  · rename_i hi
    rw [co_sup h a i (by omega), co_sup h b i (by omega), fadd_zero]
theorem addL_lt {a b : List Nat} (ha : LtAll s a) (hb : LtAll s b) : LtAll s (addL s p a b) := ltAll_trim (ltAll_map h fun i _ => fadd_lt h _ _ (ha i) (hb i))
theorem addL_trimmed (a b : List Nat) : Trimmed (addL s p a b) := trimL_trimmed _
/-! products -/
theorem csum_co (f : Nat → Nat) (hf : ∀ k, f k < s) (n : Nat) : mkK h (csum s p f n) = sumK (fun k => mkK h (f k)) n := by
  induction n with
  | zero => exact mkK_zero h
  | succ n ih =>
    show mkK h (faddN s p (csum s p f n) (f n)) = sumK _ n + mkK h (f n)
    rw [mkK_add h (csum_lt h f hf n) (hf n), ih]
theorem cterm_co {a b : List Nat} (ha : LtAll s a) (hb : LtAll s b) (n k : Nat) : mkK h (cterm s p a b n k) = if k ≤ n then co h a k * co h b (n - k) else 0 := by
  unfold cterm
  split
  · exact mkK_mul h (ha _) (hb _)
  · exact mkK_zero h
theorem co_mulL {a b : List Nat} (ha : LtAll s a) (hb : LtAll s b) (n : Nat) : co h (mulL s p a b) n = conv (co h a) (co h b) n := by
  unfold mulL
  split
  · rename_i h0
    rw [co_nil]
    rcases h0 with rfl | rfl
    · exact (conv_zero_left (co_nil h)).symm
    · rw [conv_comm]; exact (conv_zero_left (co_nil h)).symm
  · unfold accL
    rw [co_map]
    split
    · rename_i hn
      rw [cacc_zero h, csum_co h _ (cterm_lt h a b n), conv_sum]
      have e1 : ∀ m, sumK (fun k => mkK h (cterm s p a b n k)) m = sumK (fun k => if k ≤ n then co h a k * co h b (n - k) else 0) m := fun m => sumK_congr fun k _ => cterm_co h ha hb n k
      rw [e1]
      have e2 : sumK (fun k => co h a k * co h b (n - k)) (n + 1) = sumK (fun k => if k ≤ n then co h a k * co h b (n - k) else 0) (n + 1) := sumK_congr fun k hk => by rw [if_pos (by omega)]
      rw [e2]
      rcases Nat.le_total a.length (n + 1) with hl | hl
      · refine (sumK_ext (fun k h1 h2 => ?_) hl).symm
        rw [co_sup h a k h1, fzero_mul]; simp
      · refine sumK_ext (fun k h1 h2 => ?_) hl
        rw [if_neg (by omega)]
    · rename_i hn
      by_cases hab : a.length + b.length ≤ n + 1
      · exact ((co_sup h a).conv (co_sup h b) n hab).symm
      · rename_i h0
        have : a.length ≠ 0 := fun e => h0 (.inl (List.eq_nil_of_length_eq_zero e))
        omega
theorem mulL_lt (a b : List Nat) : LtAll s (mulL s p a b) := by
  unfold mulL
  split
  · intro i; have := h.two_le; simp [List.getD]; omega
  · exact accL_lt h a b _ _
/-! the value -/
theorem horn_co {x : Nat} (hx : x < s) (l : List Nat) (hl : ∀ y ∈ l, y < s) : mkK h (hornN s p x l) = evs (mkK h x) (co h l) l.length := by
  induction l with
  | nil => exact mkK_zero h
  | cons a t ih =>
    show mkK h (faddN s p (fmulN s p (hornN s p x t) x) a) = _
    rw [mkK_add h (fmul_lt h _ _) (hl a (by simp)), mkK_mul h (hornN_lt h x t fun y hy => hl y (by simp [hy])) hx, ih fun y hy => hl y (by simp [hy])]
    rw [List.length_cons, evs_succ]
    show _ = mkK h a + mkK h x * evs (mkK h x) (co h t) t.length
    rw [fadd_comm, fmul_comm]
/-! division -/
theorem conv_mono (i : Nat) (u : KF h) (b : Nat → KF h) (n : Nat) : conv (mono h i u) b n = u * shN h i b n := by
  induction i generalizing n with
  | zero =>
    rw [show mono h 0 u = cst u from rfl, conv_cst]
    unfold shN; rw [if_pos (Nat.zero_le _)]; rfl
  | succ i ih =>
    cases n with
    | zero =>
      rw [conv_zero]
      unfold mono shN
      rw [if_neg (by omega), if_neg (by omega), fzero_mul, fmul_zero]
    | succ n =>
      rw [conv_succ]
      have e1 : mono h (i + 1) u 0 = 0 := by unfold mono; rw [if_neg (by omega)]
      have e2 : tlS (mono h (i + 1) u) = mono h i u := by
        funext k
        unfold tlS mono
        by_cases e : k = i
        · rw [if_pos e, if_pos (by omega)]
        · rw [if_neg e, if_neg (by omega)]
      rw [e1, e2, fzero_mul, fzero_add, ih]
      unfold shN
      by_cases e : i ≤ n
      · rw [if_pos e, if_pos (by omega), show n + 1 - (i + 1) = n - i from by omega]
      · rw [if_neg e, if_neg (by omega)]
theorem subRow_co {d : Nat} (hd : d < s) {b r : List Nat} (hb : LtAll s b) (hr : LtAll s r) (i j : Nat) (hij : i + j ≤ r.length) (n : Nat) :
    co h (subRow s p d b r i j) n = co h r n - (if i ≤ n ∧ n < i + j then mkK h d * co h b (n - i) else 0) := by
  induction j with
  | zero => rw [if_neg (by omega), fsub_zero]; rfl
  | succ j ih =>
    have ih := ih (by omega)
    show co h ((subRow s p d b r i j).set (i + j) _) n = _
    rw [co_set h _ _ _ _ (by rw [subRow_length]; omega)]
    by_cases e : n = i + j
    · subst e
      rw [if_pos rfl, if_pos (by omega), mkK_sub h (subRow_lt h hr i j _) (fmul_lt h _ _), mkK_mul h hd (hb _)]
      rw [if_neg (by omega), fsub_zero] at ih
      rw [show mkK h ((subRow s p d b r i j).getD (i + j) 0) = co h (subRow s p d b r i j) (i + j) from rfl, ih, show i + j - i = j from by omega]
      rfl
    · rw [if_neg e, ih]
      by_cases e2 : i ≤ n ∧ n < i + j
      · rw [if_pos e2, if_pos (by omega)]
      · rw [if_neg e2, if_neg (by omega)]
theorem subRow_all {d : Nat} (hd : d < s) {b r : List Nat} (hb : LtAll s b) (hr : LtAll s r) (i : Nat) (hij : i + b.length ≤ r.length) (n : Nat) :
    co h (subRow s p d b r i b.length) n = co h r n - mkK h d * shN h i (co h b) n := by
  rw [subRow_co h hd hb hr i _ hij]
  congr 1
  unfold shN
  by_cases h1 : i ≤ n
  · by_cases h2 : n < i + b.length
    · rw [if_pos ⟨h1, h2⟩, if_pos h1]
    · rw [if_neg (by omega), if_pos h1, co_sup h b (n - i) (by omega), fmul_zero]
  · rw [if_neg (by omega), if_neg h1, fmul_zero]
theorem div_inv {a b : List Nat} (ha : LtAll s a) (hb : LtAll s b) (hb1 : 1 ≤ b.length) (n0 : Nat) (hn0 : divM a b ≤ n0) (k : Nat) (hk : k ≤ divM a b) (n : Nat) :
    co h a n = conv (co h (qL s p a b (divM a b) n0 k)) (co h b) n + co h (rL s p a b (divM a b) k) n := by
  induction k with
  | zero =>
    show _ = conv (co h (List.replicate n0 0)) _ n + co h a n
    rw [conv_zero_left, fzero_add]
    intro i
    unfold co
    by_cases h0 : i < n0
    · rw [show (List.replicate n0 0).getD i 0 = 0 from by simp [List.getD, h0], mkK_zero]
    · rw [show (List.replicate n0 0).getD i 0 = 0 from by simp [List.getD, h0], mkK_zero]
  | succ k ih =>
    have ih := ih (by omega)
    have hM : divM a b = a.length - (b.length - 1) := rfl
    have hc : cL s p a b (divM a b) k < s := fmul_lt h _ _
    have hq : ∀ i, co h (qL s p a b (divM a b) n0 (k + 1)) i = co h (qL s p a b (divM a b) n0 k) i + mono h (divM a b - 1 - k) (mkK h (cL s p a b (divM a b) k)) i := by
      intro i
      show co h ((qL s p a b (divM a b) n0 k).set (divM a b - 1 - k) (cL s p a b (divM a b) k)) i = _
      rw [co_set h _ _ _ _ (by rw [qL_length]; omega)]
      unfold mono
      by_cases e : i = divM a b - 1 - k
      · rw [if_pos e, if_pos e]
        have : co h (qL s p a b (divM a b) n0 k) i = 0 := by
          unfold co; rw [qL_zero a b _ _ _ _ (by omega), mkK_zero]
        rw [this, fzero_add]
      · rw [if_neg e, if_neg e, fadd_zero]
    have hr : co h (rL s p a b (divM a b) (k + 1)) n = co h (rL s p a b (divM a b) k) n - mkK h (cL s p a b (divM a b) k) * shN h (divM a b - 1 - k) (co h b) n :=
      subRow_all h hc hb (rL_lt h ha _ _) _ (by rw [rL_length]; omega) n
    rw [conv_congr (a := co h (qL s p a b (divM a b) n0 (k + 1))) (b := co h b) (b' := co h b) (fun i _ => hq i) (fun _ _ => rfl), conv_add_left, conv_mono, hr, ih]
    generalize mkK h (cL s p a b (divM a b) k) * shN h (divM a b - 1 - k) (co h b) n = u
    generalize co h (rL s p a b (divM a b) k) n = v
    generalize conv (co h (qL s p a b (divM a b) n0 k)) (co h b) n = x
    rw [fsub_def, show x + u + (v + -u) = (x + v) + (u + -u) from by ac_rfl, fadd_neg, fadd_zero]
theorem rL_sup {a b : List Nat} (ha : LtAll s a) (hb : LtAll s b) (hb1 : 1 ≤ b.length) (hb0 : b.getD (b.length - 1) 0 ≠ 0) (k : Nat) (hk : k ≤ divM a b) :
    Sup (b.length - 1 + divM a b - k) (co h (rL s p a b (divM a b) k)) := by
  induction k with
  | zero =>
    have hM : divM a b = a.length - (b.length - 1) := rfl
    exact (co_sup h a).mono (by omega)
  | succ k ih =>
    have ih := ih (by omega)
    intro n hn
    have hc : cL s p a b (divM a b) k < s := fmul_lt h _ _
    have hM : divM a b = a.length - (b.length - 1) := rfl
    rw [show co h (rL s p a b (divM a b) (k + 1)) n = co h (rL s p a b (divM a b) k) n - mkK h (cL s p a b (divM a b) k) * shN h (divM a b - 1 - k) (co h b) n from
      subRow_all h hc hb (rL_lt h ha _ _) _ (by rw [rL_length]; omega) n]
    by_cases e : n = divM a b - 1 - k + (b.length - 1)
    · unfold shN
      rw [if_pos (by omega), show n - (divM a b - 1 - k) = b.length - 1 from by omega]
      have e2 : mkK h (cL s p a b (divM a b) k) = co h (rL s p a b (divM a b) k) n * mkK h (finvN s p (b.getD (b.length - 1) 0)) := by
        show mkK h (fmulN s p _ _) = _
        rw [mkK_mul h (rL_lt h ha _ _ _) (invN_lt h), e]; rfl
      rw [e2, fmul_assoc, fmul_comm (mkK h (finvN s p _)), show co h b (b.length - 1) = mkK h (b.getD (b.length - 1) 0) from rfl, mkK_inv h (hb _) hb0, fmul_one, fsub_self]
    · rw [ih n (by omega)]
      unfold shN
      rw [if_pos (by omega), co_sup h b (n - (divM a b - 1 - k)) (by omega), fmul_zero, fsub_zero]
theorem divRest_lt {a b : List Nat} (ha : LtAll s a) : LtAll s (divRest s p a b) := ltAll_trim (rL_lt h ha _ _)
theorem divQ_lt (a b : List Nat) : LtAll s (divQ s p a b) := qL_lt h _ _ _ _ _
theorem divRest_trimmed (a b : List Nat) : Trimmed (divRest s p a b) := trimL_trimmed _
theorem divRest_sup {a b : List Nat} (ha : LtAll s a) (hb : LtAll s b) (hb1 : 1 ≤ b.length) (hb0 : b.getD (b.length - 1) 0 ≠ 0) : Sup (b.length - 1) (co h (divRest s p a b)) := by
  intro i hi
  unfold divRest
  rw [co_trim]
  exact rL_sup h ha hb hb1 hb0 _ (Nat.le_refl _) i (by omega)
theorem divRest_length {a b : List Nat} (ha : LtAll s a) (hb : LtAll s b) (hb1 : 1 ≤ b.length) (hb0 : b.getD (b.length - 1) 0 ≠ 0) : (divRest s p a b).length < b.length := by
  have := length_le_of_sup h (divRest_lt h ha) (divRest_trimmed h a b) (divRest_sup h ha hb hb1 hb0)
  omega
theorem div_eq {a b : List Nat} (ha : LtAll s a) (hb : LtAll s b) (hb1 : 1 ≤ b.length) (n : Nat) : co h a n = conv (co h (divQ s p a b)) (co h b) n + co h (divRest s p a b) n := by
  have := div_inv h ha hb hb1 (divM a b) (Nat.le_refl _) (divM a b) (Nat.le_refl _) n
  rw [this]
  unfold divQ divRest
  rw [co_trim]
theorem divQ_trimmed {a b : List Nat} (ha : LtAll s a) (hb : LtAll s b) (ta : Trimmed a) (hb1 : 1 ≤ b.length) (hb0 : b.getD (b.length - 1) 0 ≠ 0) : Trimmed (divQ s p a b) := by
  have hlen : (divQ s p a b).length = divM a b := qL_length _ _ _ _ _ _ _
  have hM : divM a b = a.length - (b.length - 1) := rfl
  by_cases h0 : divM a b = 0
  · left; exact List.eq_nil_of_length_eq_zero (by omega)
  · right
    intro e
    have h1 := div_eq h ha hb hb1 (a.length - 1)
    rw [divRest_sup h ha hb hb1 hb0 _ (by omega), fadd_zero] at h1
    have h2 := conv_top (a := co h (divQ s p a b)) (b := co h b) (d := divM a b - 1) (e := b.length - 1) ((co_sup h _).mono (by omega)) ((co_sup h _).mono (by omega))
    rw [show divM a b - 1 + (b.length - 1) = a.length - 1 from by omega] at h2
    rw [h2] at h1
    have h3 : co h (divQ s p a b) (divM a b - 1) = 0 := by
      unfold co; rw [← hlen, e, mkK_zero]
    rw [h3, fzero_mul] at h1
    exact trimmed_top h ha ta (by omega) h1
end
end Go.Proofs.Ythpcneeidhmdkaa
namespace Go.Proofs.Ythpcneeidhmdkaa
open Go.RowKit
set_option linter.unusedVariables false
/-! transform, with a closure of two captured variables and of one -/
def tL (n : Nat) (g : Nat → Nat) (k : Nat) : List Nat := (List.range n).map fun i => if i < k then g i else 0
theorem tL_zero (n : Nat) (g : Nat → Nat) : tL n g 0 = List.replicate n 0 := by
  unfold tL
  apply List.ext_getElem <;> simp
theorem tL_last (n : Nat) (g : Nat → Nat) : tL n g n = (List.range n).map g := by
  unfold tL
  apply List.map_congr_left
  intro k hk
  rw [if_pos (List.mem_range.1 hk)]
theorem tL_set (n : Nat) (g : Nat → Nat) (k : Nat) (hk : k < n) : (tL n g k).set k (g k) = tL n g (k + 1) := by
  unfold tL
  rw [set_map_range _ _ _ _ hk]
  apply List.map_congr_left
  intro i hi
  by_cases e : i = k
  · subst e; simp
  · rw [if_neg e]
    by_cases h1 : i < k
    · rw [if_pos h1, if_pos (by omega)]
    · rw [if_neg h1, if_neg (by omega)]
theorem tL_length (n : Nat) (g : Nat → Nat) (k : Nat) : (tL n g k).length = n := by unfold tL; simp
structure OutT (w wr : World) (l : List Nat) : Prop where
  B : Below w.heap.size w wr
  O : RowAt wr w.heap.size l
theorem OutT.below {w wr W : World} {l : List Nat} (h : OutT w wr l) (hb : Below wr.heap.size wr W) : OutT w W l := ⟨bwStep h.B hb, h.O.below hb⟩
theorem OutT.set {w wr : World} {l : List Nat} (h : OutT w wr l) (i v : Nat) : OutT w (wr.setCell ⟨w.heap.size, i, none⟩ (.int .i64 (v : Int))) (l.set i v) := ⟨h.B.setCell (by simp) _, h.O.set i v⟩
set_option maxHeartbeats 1000000 in
theorem transGCD_any (u v : Value) (g : Nat → Nat) (l : List Nat) (n : Nat) (hn : n = l.length) (A : Option Addr) (ca : Nat) (w : World) (hn2 : n ≤ 8193) (ha : RD w A (zl l))
    (hf : ∀ W k, Abv w W → k < n → Calls Try.prog 68 #[.int .i64 (k : Nat), .int .i64 ((l.getD k 0 : Nat) : Int), u, v] W (fun e W' => e = .returned (.int .i64 ((g k : Nat) : Int)) ∧ Below W.heap.size W W')) :
    Calls Try.prog 67 #[.slice A n ca, .func (.func 68) #[] #[u, v]] w fun e w' => ∃ x, e = .returned x ∧ Ints w' x (zl ((List.range n).map g)) ∧ Below w.heap.size w w' := by
  have hmk := run_make_row' (P := Try.prog) 24 3 (.int .i64 0) 8 Try.underlying24 intInfo rfl .i64 .i64 n (by omega) (by omega)
  have HA := Lib.hid ha
  have HF := Lib.hid hf
  have HN := Lib.hid hn
  clear ha hf hn
  go_enter Try.func67, Try.ntmps67
  go_wp2
  clear hmk
  go_loopw [13] (fun i wr => ∃ k : Nat, k ≤ n ∧ i = .int .i64 k ∧ Hid (OutT w wr (tL n g k))) (fun i _ => n - (intOf i).toNat)
  case atStart => exact ⟨0, Nat.zero_le _, rfl, by rw [tL_zero]; exact ⟨(Below.refl _ _).alloc (Nat.le_refl _) _, RowAt.made _ _ _ _ rfl⟩⟩
  case round =>
    obtain ⟨k, hk, rfl, hO⟩ := hrel
    by_cases hlt : k < n
    · obtain ⟨ad, rfl, -, hc⟩ := (HA.out.below hO.out.B) (by rw [zl_length, ← HN.out]; omega)
      have hx := hc k (by rw [zl_length, ← HN.out]; exact hlt)
      rw [zl_getD] at hx
      have HC := Lib.hid (HF.out wr k hO.out.B hlt)
      have HST := Lib.hid (tL_set n g k hlt)
      generalize l.getD k 0 = x at *
      clear hc
      go_wp2_with (go_at_call 68; refine HC.out.mono ?_; rintro e w2 ⟨rfl, hb2⟩; have HO2 := Lib.hid (hO.out.below hb2); clear hb2; obtain ⟨st1, st2⟩ := HO2.out.O.2 k (by rw [tL_length]; exact hlt))
      exact ⟨⟨k + 1, by omega, by go_num, by rw [← HST.out]; exact HO2.out.set _ _⟩, by simp [intOf]; omega⟩
    · obtain rfl : k = n := by omega
      go_wp2
      go_ret
      refine ⟨_, rfl, ?_, hO.out.B⟩
      rw [← tL_last]
      exact hO.out.O.ints (tL_length _ _ _).symm (Nat.le_refl _) (by unfold maxLen; omega)
set_option maxHeartbeats 1000000 in
theorem transAdd_any (u v : Value) (g : Nat → Nat) (l : List Nat) (n : Nat) (hn : n = l.length) (A : Option Addr) (ca : Nat) (w : World) (hn2 : n ≤ 8193) (ha : RD w A (zl l))
    (hf : ∀ W k, Abv w W → k < n → Calls Try.prog 71 #[.int .i64 (k : Nat), .int .i64 ((l.getD k 0 : Nat) : Int), u, v] W (fun e W' => e = .returned (.int .i64 ((g k : Nat) : Int)) ∧ Below W.heap.size W W')) :
    Calls Try.prog 67 #[.slice A n ca, .func (.func 71) #[] #[u, v]] w fun e w' => ∃ x, e = .returned x ∧ Ints w' x (zl ((List.range n).map g)) ∧ Below w.heap.size w w' := by
  have hmk := run_make_row' (P := Try.prog) 24 3 (.int .i64 0) 8 Try.underlying24 intInfo rfl .i64 .i64 n (by omega) (by omega)
  have HA := Lib.hid ha
  have HF := Lib.hid hf
  have HN := Lib.hid hn
  clear ha hf hn
  go_enter Try.func67, Try.ntmps67
  go_wp2
  clear hmk
  go_loopw [13] (fun i wr => ∃ k : Nat, k ≤ n ∧ i = .int .i64 k ∧ Hid (OutT w wr (tL n g k))) (fun i _ => n - (intOf i).toNat)
  case atStart => exact ⟨0, Nat.zero_le _, rfl, by rw [tL_zero]; exact ⟨(Below.refl _ _).alloc (Nat.le_refl _) _, RowAt.made _ _ _ _ rfl⟩⟩
  case round =>
    obtain ⟨k, hk, rfl, hO⟩ := hrel
    by_cases hlt : k < n
    · obtain ⟨ad, rfl, -, hc⟩ := (HA.out.below hO.out.B) (by rw [zl_length, ← HN.out]; omega)
      have hx := hc k (by rw [zl_length, ← HN.out]; exact hlt)
      rw [zl_getD] at hx
      have HC := Lib.hid (HF.out wr k hO.out.B hlt)
      have HST := Lib.hid (tL_set n g k hlt)
      generalize l.getD k 0 = x at *
      clear hc
      go_wp2_with (go_at_call 71; refine HC.out.mono ?_; rintro e w2 ⟨rfl, hb2⟩; have HO2 := Lib.hid (hO.out.below hb2); clear hb2; obtain ⟨st1, st2⟩ := HO2.out.O.2 k (by rw [tL_length]; exact hlt))
      exact ⟨⟨k + 1, by omega, by go_num, by rw [← HST.out]; exact HO2.out.set _ _⟩, by simp [intOf]; omega⟩
    · obtain rfl : k = n := by omega
      go_wp2
      go_ret
      refine ⟨_, rfl, ?_, hO.out.B⟩
      rw [← tL_last]
      exact hO.out.O.ints (tL_length _ _ _).symm (Nat.le_refl _) (by unfold maxLen; omega)
set_option maxHeartbeats 1000000 in
theorem transScale_any (u v : Value) (g : Nat → Nat) (l : List Nat) (n : Nat) (hn : n = l.length) (A : Option Addr) (ca : Nat) (w : World) (hn2 : n ≤ 8193) (ha : RD w A (zl l))
    (hf : ∀ W k, Abv w W → k < n → Calls Try.prog 76 #[.int .i64 (k : Nat), .int .i64 ((l.getD k 0 : Nat) : Int), u, v] W (fun e W' => e = .returned (.int .i64 ((g k : Nat) : Int)) ∧ Below W.heap.size W W')) :
    Calls Try.prog 67 #[.slice A n ca, .func (.func 76) #[] #[u, v]] w fun e w' => ∃ x, e = .returned x ∧ Ints w' x (zl ((List.range n).map g)) ∧ Below w.heap.size w w' := by
  have hmk := run_make_row' (P := Try.prog) 24 3 (.int .i64 0) 8 Try.underlying24 intInfo rfl .i64 .i64 n (by omega) (by omega)
  have HA := Lib.hid ha
  have HF := Lib.hid hf
  have HN := Lib.hid hn
  clear ha hf hn
  go_enter Try.func67, Try.ntmps67
  go_wp2
  clear hmk
  go_loopw [13] (fun i wr => ∃ k : Nat, k ≤ n ∧ i = .int .i64 k ∧ Hid (OutT w wr (tL n g k))) (fun i _ => n - (intOf i).toNat)
  case atStart => exact ⟨0, Nat.zero_le _, rfl, by rw [tL_zero]; exact ⟨(Below.refl _ _).alloc (Nat.le_refl _) _, RowAt.made _ _ _ _ rfl⟩⟩
  case round =>
    obtain ⟨k, hk, rfl, hO⟩ := hrel
    by_cases hlt : k < n
    · obtain ⟨ad, rfl, -, hc⟩ := (HA.out.below hO.out.B) (by rw [zl_length, ← HN.out]; omega)
      have hx := hc k (by rw [zl_length, ← HN.out]; exact hlt)
      rw [zl_getD] at hx
      have HC := Lib.hid (HF.out wr k hO.out.B hlt)
      have HST := Lib.hid (tL_set n g k hlt)
      generalize l.getD k 0 = x at *
      clear hc
      go_wp2_with (go_at_call 76; refine HC.out.mono ?_; rintro e w2 ⟨rfl, hb2⟩; have HO2 := Lib.hid (hO.out.below hb2); clear hb2; obtain ⟨st1, st2⟩ := HO2.out.O.2 k (by rw [tL_length]; exact hlt))
      exact ⟨⟨k + 1, by omega, by go_num, by rw [← HST.out]; exact HO2.out.set _ _⟩, by simp [intOf]; omega⟩
    · obtain rfl : k = n := by omega
      go_wp2
      go_ret
      refine ⟨_, rfl, ?_, hO.out.B⟩
      rw [← tL_last]
      exact hO.out.O.ints (tL_length _ _ _).symm (Nat.le_refl _) (by unfold maxLen; omega)
set_option maxHeartbeats 1000000 in
theorem transDerive_any (u : Value) (g : Nat → Nat) (l : List Nat) (n : Nat) (hn : n = l.length) (A : Option Addr) (ca : Nat) (w : World) (hn2 : n ≤ 8193) (ha : RD w A (zl l))
    (hf : ∀ W k, Abv w W → k < n → Calls Try.prog 78 #[.int .i64 (k : Nat), .int .i64 ((l.getD k 0 : Nat) : Int), u] W (fun e W' => e = .returned (.int .i64 ((g k : Nat) : Int)) ∧ Below W.heap.size W W')) :
    Calls Try.prog 67 #[.slice A n ca, .func (.func 78) #[] #[u]] w fun e w' => ∃ x, e = .returned x ∧ Ints w' x (zl ((List.range n).map g)) ∧ Below w.heap.size w w' := by
  have hmk := run_make_row' (P := Try.prog) 24 3 (.int .i64 0) 8 Try.underlying24 intInfo rfl .i64 .i64 n (by omega) (by omega)
  have HA := Lib.hid ha
  have HF := Lib.hid hf
  have HN := Lib.hid hn
  clear ha hf hn
  go_enter Try.func67, Try.ntmps67
  go_wp2
  clear hmk
  go_loopw [13] (fun i wr => ∃ k : Nat, k ≤ n ∧ i = .int .i64 k ∧ Hid (OutT w wr (tL n g k))) (fun i _ => n - (intOf i).toNat)
  case atStart => exact ⟨0, Nat.zero_le _, rfl, by rw [tL_zero]; exact ⟨(Below.refl _ _).alloc (Nat.le_refl _) _, RowAt.made _ _ _ _ rfl⟩⟩
  case round =>
    obtain ⟨k, hk, rfl, hO⟩ := hrel
    by_cases hlt : k < n
    · obtain ⟨ad, rfl, -, hc⟩ := (HA.out.below hO.out.B) (by rw [zl_length, ← HN.out]; omega)
      have hx := hc k (by rw [zl_length, ← HN.out]; exact hlt)
      rw [zl_getD] at hx
      have HC := Lib.hid (HF.out wr k hO.out.B hlt)
      have HST := Lib.hid (tL_set n g k hlt)
      generalize l.getD k 0 = x at *
      clear hc
      go_wp2_with (go_at_call 78; refine HC.out.mono ?_; rintro e w2 ⟨rfl, hb2⟩; have HO2 := Lib.hid (hO.out.below hb2); clear hb2; obtain ⟨st1, st2⟩ := HO2.out.O.2 k (by rw [tL_length]; exact hlt))
      exact ⟨⟨k + 1, by omega, by go_num, by rw [← HST.out]; exact HO2.out.set _ _⟩, by simp [intOf]; omega⟩
    · obtain rfl : k = n := by omega
      go_wp2
      go_ret
      refine ⟨_, rfl, ?_, hO.out.B⟩
      rw [← tL_last]
      exact hO.out.O.ints (tL_length _ _ _).symm (Nat.le_refl _) (by unfold maxLen; omega)
end Go.Proofs.Ythpcneeidhmdkaa
namespace Go.Proofs.Ythpcneeidhmdkaa
open Go.RowKit
set_option linter.unusedVariables false
/-! the greatest common divisor -/
def gcdF (s p : Nat) : Nat → List Nat → List Nat → List Nat
  | 0, a, _ => a
  | n + 1, a, b => if b = [] then a else gcdF s p n b (divRest s p a b)
def monL (s p : Nat) (g : List Nat) : List Nat := (List.range g.length).map fun i => fmulN s p (g.getD i 0) (finvN s p (g.getD (g.length - 1) 0))
def gcdL (s p : Nat) (a b : List Nat) : List Nat := monL s p (gcdF s p b.length a b)
theorem trimmed_last {b : List Nat} (ht : Trimmed b) (h : b ≠ []) : b.getD (b.length - 1) 0 ≠ 0 := by
  rcases ht with e | e
  · exact absurd e h
  · exact e
theorem gcdF_nil (s p n : Nat) (a : List Nat) : gcdF s p n a [] = a := by
  cases n with
  | zero => rfl
  | succ n => show (if ([] : List Nat) = [] then a else _) = a; rw [if_pos rfl]
theorem gcdF_enough {c s p : Nat} (h : VF c s p) : ∀ (k n m : Nat) (a b : List Nat), LtAll s a → LtAll s b → Trimmed b → b.length ≤ k → k ≤ n → k ≤ m → gcdF s p n a b = gcdF s p m a b := by
  intro k
  induction k with
  | zero =>
    intro n m a b _ _ _ hb _ _
    have : b = [] := List.eq_nil_of_length_eq_zero (by omega)
    subst this
    rw [gcdF_nil, gcdF_nil]
  | succ k ih =>
    intro n m a b ha hb tb hbl hn hm
    obtain ⟨n, rfl⟩ : ∃ x, n = x + 1 := ⟨n - 1, by omega⟩
    obtain ⟨m, rfl⟩ : ∃ x, m = x + 1 := ⟨m - 1, by omega⟩
    by_cases h0 : b = []
    · subst h0; rw [gcdF_nil, gcdF_nil]
    · show (if b = [] then a else _) = (if b = [] then a else _)
      rw [if_neg h0, if_neg h0]
      have hl : 1 ≤ b.length := List.length_pos_iff.2 h0
      have := divRest_length h ha hb hl (trimmed_last tb h0)
      exact ih n m b _ hb (divRest_lt h ha) (divRest_trimmed h a b) (by omega) (by omega) (by omega)
theorem gcdF_step {c s p : Nat} (h : VF c s p) {a b : List Nat} (ha : LtAll s a) (hb : LtAll s b) (tb : Trimmed b) (h0 : b ≠ []) : gcdF s p b.length a b = gcdF s p (divRest s p a b).length b (divRest s p a b) := by
  have hl : 1 ≤ b.length := List.length_pos_iff.2 h0
  have hlt := divRest_length h ha hb hl (trimmed_last tb h0)
  obtain ⟨n, hn⟩ : ∃ n, b.length = n + 1 := ⟨b.length - 1, by omega⟩
  have e : gcdF s p b.length a b = gcdF s p n b (divRest s p a b) := by
    rw [hn]
    show (if b = [] then a else _) = _
    rw [if_neg h0]
  rw [e]
  exact gcdF_enough h (divRest s p a b).length _ _ _ _ hb (divRest_lt h ha) (divRest_trimmed h a b) (Nat.le_refl _) (by omega) (Nat.le_refl _)
theorem adivide_n (C S P be bl : Nat) (a b : List Nat) (n m : Nat) (hn : n = a.length) (hm : m = b.length) (A B : Option Addr) (ca cb : Nat) (w : World) (hv : VF C S P) (hla : LtAll S a) (hlb : LtAll S b) (hna : a.length ≤ 8193) (hnb : b.length ≤ 4097) (tb : Trimmed b) (hb1 : b ≠ [])
    (ht : TabAt w S P be bl) (ha : RD w A (zl a)) (hb : RD w B (zl b)) :
    Calls Try.prog 65 #[arv C S be bl, .slice A n ca, .slice B m cb] w fun e w' => ∃ vq vr, e = .returned (.tuple #[vq, vr]) ∧ Ints w' vq (zl (divQ S P a b)) ∧ Ints w' vr (zl (divRest S P a b)) ∧ Below w.heap.size w w' := by
  subst hn hm
  have hl : 1 ≤ b.length := List.length_pos_iff.2 hb1
  rcases Nat.lt_or_ge a.length b.length with h1 | h1
  · exact adivide_none C S P be bl a b A B ca cb w hv hna hnb hl (by omega) ha
  · exact adivide_some C S P be bl a b A B ca cb w hv hla hlb hna hnb hl h1 (trimmed_last tb hb1) ht ha hb
set_option maxHeartbeats 1000000 in
theorem gcd1_any (C S P be bl : Nat) (g : List Nat) (A : Option Addr) (n ca rb ab x : Nat) (kv : Value) (w : World) (hv : VF C S P) (hx : x < S) (hg : LtAll S g) (hn : n = g.length) (hn1 : 1 ≤ n) (hn2 : n ≤ 4097) (h0 : g.getD (g.length - 1) 0 ≠ 0)
    (ht : TabAt w S P be bl) (hr : CellsAt w rb (arcv C S be bl)) (ha : CellsAt w ab [.slice A n ca]) (hrd : RD w A (zl g)) :
    Calls Try.prog 68 #[kv, .int .i64 x, .pointer (some ⟨rb, 0, none⟩), .pointer (some ⟨ab, 0, none⟩)] w fun e w' => e = .returned (.int .i64 ((fmulN S P x (finvN S P (g.getD (g.length - 1) 0)) : Nat) : Int)) ∧ Below w.heap.size w w' := by
  obtain ⟨k, hk⟩ : ∃ k, k = n - 1 := ⟨_, rfl⟩
  have hs1 : (n : Int) - 1 = (k : Int) := by omega
  have hkn : k < n := by omega
  have hkb : k ≤ 4096 := by omega
  have hw1 : IntKind.i64.wrap ((n : Int) - 1) = (k : Int) := by rw [wr64 _ (by omega) (by omega)]; omega
  have hw2 : IntKind.i64.wrap (k : Int) = (k : Int) := wr64 _ (by omega) (by omega)
  have HG : Hid (g.getD (g.length - 1) 0 < S) := hg _
  obtain ⟨ad, rfl, hadw, hc⟩ := hrd (by rw [zl_length]; omega)
  have CF : Hid (∀ W, Abv w W → (W.cell? ⟨rb, 0, none⟩ = some (.int .i64 C) ∧ W.cell? ⟨rb, 1, none⟩ = some (.int .i64 S) ∧ W.cell? ⟨rb, 2, none⟩ = some (.slice (some ⟨be, 0, none⟩) (S - 1) (S - 1)) ∧ W.cell? ⟨rb, 3, none⟩ = some (.slice (some ⟨bl, 0, none⟩) S S)) ∧ W.cell? ⟨ab, 0, none⟩ = some (.slice (some ad) n ca) ∧ W.cell? (ad.add k) = some (.int .i64 ((g.getD (g.length - 1) 0 : Nat) : Int))) := by
    show ∀ W, _
    intro W hW
    refine ⟨arcv_cells (hr.below hW), (ha.below hW).2 0 (by simp), ?_⟩
    rw [hW.cell (by rw [block_of_add]; exact hadw), hc k (by rw [zl_length]; omega), zl_getD, hk, hn]
  have HV := Lib.hid hv
  have HT := Lib.hid ht
  have HX := Lib.hid hx
  have H0 := Lib.hid h0
  clear hv ht hx h0 hc hr ha hrd hg hk hn
  generalize g.getD (g.length - 1) 0 = y at *
  go_enter Try.func68, Try.ntmps68
  go_wp2
  refine wp_region_S (S := Abv w) 9 (by kernel_rfl) (by kernel_rfl) (bwDrew (Below.refl _ _)) ?_
  simp only [List.take_succ_cons, List.take_zero, List.drop_succ_cons, List.drop_zero]
  repeat
    refine' wpHS_val rfl (fun W hW => ?_) ?_
    rotate_left
    · have hcf := CF.out W hW; go_simp; rfl
    simp only [Act.put, List.setIfInBounds_toArray, List.set_cons_zero, List.set_cons_succ]
  refine' wpHS_call rfl (fun W => ?_) (fun W hW => ?_) ?_
  rotate_left 3
  · go_simp; exact ⟨rfl, rfl⟩
  · exact (adiv_any C S P be bl x y W HV.out HX.out HG.out H0.out (HT.out.below hW)).mono (fun e W1 h => ⟨h.1, bwStep hW h.2⟩)
  simp only [Act.put, List.setIfInBounds_toArray, List.set_cons_zero, List.set_cons_succ]
  refine wpHS_nil ?_
  intro w1 hb1
  have HB1 := Lib.hid hb1
  clear hb1
  go_wp2
  go_ret
  exact ⟨rfl, HB1.out⟩
end Go.Proofs.Ythpcneeidhmdkaa
