import Derived.Test.YtmnlkganmgcpbaaGreatDoorQa21
import Derived.Test.YtmnlkganmgcpbaaGreatDoorQa3
import Derived.Laws.CopyOwn
import Derived.Test.YtmnlkganmgcpbaaGreatDoorQa12
import Derived.Lib.AppendStr
namespace Go.Proofs.YtmnlkganmgcpbaaGreatDoor
open Go.RowKit
set_option linter.unusedVariables false
set_option linter.unusedSectionVars false
set_option maxRecDepth 100000 in
set_option maxHeartbeats 1000000 in
theorem qpower_any (C S P be bl k : Nat) (w : World) (hv : VF C S P) (hk : k ≤ 100000000) (ht : TabAt w S P be bl) :
    Calls Tryz.prog 152 #[arv C S be bl, .int .i64 k] w fun e w' => e = .returned (.int .i64 ((apw S P k : Nat) : Int)) ∧ Below w.heap.size w w' := by
  have hfin : Hid (Below w.heap.size w (w.alloc (qarc C S be bl))) := (Below.refl _ _).alloc (Nat.le_refl _) _
  have hS := hv.le
  have hS2 := hv.two_le
  have hT := ht.alloc (qarc C S be bl)
  have hm : k % (S - 1) < S - 1 := Nat.mod_lt _ (by omega)
  have c3 := hT.2.2.1 _ hm
  have HR : Hid (apw S P k = fpowN S P (genF S P) (k % (S - 1))) := rfl
  have e1 : (k : Int).tmod ((S : Int) - 1) = ((k % (S - 1) : Nat) : Int) := by
    rw [show (S : Int) - 1 = ((S - 1 : Nat) : Int) from by omega]
    exact (Int.ofNat_tmod _ _).symm
  rw [← HR.out] at c3
  generalize k % (S - 1) = m at *
  generalize apw S P k = r at *
  clear hT ht hv HR
  go_enter Tryz.func152, Tryz.ntmps152
  go_wp2
  go_quiet (fail)
  go_wp2
  go_ret
  exact ⟨rfl, below_drewN hfin.out _⟩
section
variable {c s p : Nat} (h : VF c s p)
include h
end
end Go.Proofs.YtmnlkganmgcpbaaGreatDoor
namespace Go.Proofs.YtmnlkganmgcpbaaGreatDoor
open Go.RowKit
set_option linter.unusedVariables false
set_option linter.unusedSectionVars false
theorem RD.of_RG {w : World} {A : Option Addr} {l : List Nat} (h : RG vN 0 w A l) : RD w A (zl l) := fun hn => by
  rw [zl_length] at hn
  obtain ⟨ad, e, hl, hc⟩ := h hn
  exact ⟨ad, e, hl, fun j hj => by rw [zl_length] at hj; rw [hc j hj, zl_getD]⟩
theorem RD.to_RG {w : World} {A : Option Addr} {l : List Nat} (h : RD w A (zl l)) : RG vN 0 w A l := fun hn => by
  obtain ⟨ad, e, hl, hc⟩ := h (by rw [zl_length]; exact hn)
  exact ⟨ad, e, hl, fun j hj => by rw [hc j (by rw [zl_length]; exact hj), zl_getD]⟩
theorem Ints.of_SG {w : World} {v : Value} {l : List Nat} (h : SG vN 0 w v l) : Ints w v (zl l) := by
  obtain ⟨A, c, rfl, h1, h2, h3⟩ := h
  exact ⟨A, c, by rw [zl_length], by rw [zl_length]; exact h1, h2, RD.of_RG h3⟩
theorem Ints.to_SG {w : World} {v : Value} {l : List Nat} (h : Ints w v (zl l)) : SG vN 0 w v l := by
  obtain ⟨A, c, rfl, h1, h2, h3⟩ := h
  rw [zl_length] at h1
  exact ⟨A, c, by rw [zl_length], h1, h2, RD.to_RG h3⟩
end Go.Proofs.YtmnlkganmgcpbaaGreatDoor
namespace Go.Proofs.YtmnlkganmgcpbaaGreatDoor
open Go.RowKit
set_option linter.unusedVariables false
set_option linter.unusedSectionVars false
section
variable {c s p : Nat} (h : VF c s p)
include h
end
theorem intSz1 : (Tryz.prog.info? 3).map (·.size) = some 1 := by kernel_rfl
theorem zl_one (l : List Nat) : ∀ v ∈ (zl l).map (Value.int .i64), v.oneCell' = true := by
  intro u hu
  obtain ⟨y, _, rfl⟩ := List.mem_map.1 hu
  rfl
theorem RowAt.of_heap {W : World} {b : Nat} {l : List Nat} {t : TypeId} (hh : W.heap[b]? = some (.cells (cellsN l) t (0, 0))) : RowAt W b l := by
  refine ⟨lt_of_heap hh, fun i hi => ⟨?_, frozen_of_row _ _ _ _ _ hh⟩⟩
  rw [cell_of_row _ _ _ _ _ _ hh, cellsN_get]
  simp [List.getD, hi]
end Go.Proofs.YtmnlkganmgcpbaaGreatDoor
namespace Go.Proofs.YtmnlkganmgcpbaaGreatDoor
open Go.RowKit
set_option linter.unusedVariables false
set_option linter.unusedSectionVars false
abbrev codv (C S P par first : Nat) : Value := .agg #[.int .i64 C, .int .i64 S, .int .i64 P, .int .i64 par, .int .i64 first]
abbrev codC (C S P par first : Nat) : List Value := [.int .i64 C, .int .i64 S, .int .i64 P, .int .i64 par, .int .i64 first]
abbrev codO (C S P par first : Nat) : Obj := .cells #[.int .i64 C, .int .i64 S, .int .i64 P, .int .i64 par, .int .i64 first] 91
theorem codC_cells {W : World} {b C S P par first : Nat} (h : CellsAt W b (codC C S P par first)) : W.cell? ⟨b, 0, none⟩ = some (.int .i64 C) ∧ W.cell? ⟨b, 1, none⟩ = some (.int .i64 S) ∧ W.cell? ⟨b, 2, none⟩ = some (.int .i64 P) ∧ W.cell? ⟨b, 3, none⟩ = some (.int .i64 par) ∧ W.cell? ⟨b, 4, none⟩ = some (.int .i64 first) :=
  ⟨h.2 0 (by simp), h.2 1 (by simp), h.2 2 (by simp), h.2 3 (by simp), h.2 4 (by simp)⟩
end Go.Proofs.YtmnlkganmgcpbaaGreatDoor
namespace Go.Proofs.YtmnlkganmgcpbaaGreatDoor
open Go.RowKit
set_option linter.unusedVariables false
set_option linter.unusedSectionVars false
theorem Ints.nat {w : World} {v : Value} {l : List Nat} (h : Ints w v (zl l)) : ∃ A c, v = .slice A l.length c ∧ l.length ≤ c ∧ c ≤ maxLen ∧ RD w A (zl l) := by
  obtain ⟨A, c, rfl, h1, h2, h3⟩ := h
  rw [zl_length] at h1 ⊢
  exact ⟨A, c, rfl, h1, h2, h3⟩
section
variable {c s p : Nat} (h : VF c s p)
include h
end
end Go.Proofs.YtmnlkganmgcpbaaGreatDoor
namespace Go.Proofs.YtmnlkganmgcpbaaGreatDoor
open Go.RowKit
set_option linter.unusedVariables false
set_option linter.unusedSectionVars false
theorem wpHX_askip {P : Program} {ops : Array Oper} {S : World → Prop} {K : Act → World → Prop} {a : Act} {w : World} {r : List (Bool × Nat × Oper)} {k : Nat} {o : Oper} (hg : Region.wanted o (yielded ops a.tmps) = true) {w' : World} (hv : (execOp a.eval o).run P w = .ok .skip w') (hS : S w') (h : wpHX P ops S K r (a.put o.dst undef) w') : wpHX P ops S K ((true, k, o) :: r) a w :=
  .inl ⟨hg, by rw [hv]; exact ⟨hS, h⟩⟩
end Go.Proofs.YtmnlkganmgcpbaaGreatDoor
namespace Go.Proofs.YtmnlkganmgcpbaaGreatDoor
open Go.RowKit
set_option linter.unusedVariables false
set_option linter.unusedSectionVars false
section
variable {c s p : Nat} (h : VF c s p)
include h
end
theorem exec_storeI {a : Act} {o : Oper} {W : World} {x q : Operand} (ho : o.op = .store 3 q x) (p : Addr) (v : Int) (hq : a.eval q = .pointer (some p)) (hx : a.eval x = .int .i64 v) {u : Value} (hc : W.cell? p = some u) (hf : W.frozen? p = false) :
    (execOp a.eval o).run Tryz.prog W = .ok .skip (W.setCell p (.int .i64 v)) := by
  unfold execOp
  simp only [ho, hq, hx, Instr.storeAt, Instr.sureAddr, Sem.run_bind, Sem.run_pure, Result.andThen_ok]
  go_simp
end Go.Proofs.YtmnlkganmgcpbaaGreatDoor
namespace Go.Proofs.YtmnlkganmgcpbaaGreatDoor
open Go.RowKit
set_option linter.unusedVariables false
set_option linter.unusedSectionVars false
set_option maxHeartbeats 400000 in
theorem qelements_any (c s p : Int) (xs : List Int) (A : Option Addr) (ca : Nat) (w : World) (h1 : xs.length ≤ 9223372036854775807) (ha : RD w A xs) :
    Calls Tryz.prog 151 #[fldv c s p, .slice A xs.length ca] w fun e w' => e = .returned (.bool (inB s xs)) ∧ Below w.heap.size w w' := by
  have HA := Lib.hid (ha.alloc (.cells #[.int .i64 c, .int .i64 s, .int .i64 p] 89)); clear ha
  generalize hn : xs.length = n at *
  have HN := Lib.hid hn
  clear hn
  go_enter Tryz.func151, Tryz.ntmps151
  go_wp2
  go_loop [6, 9] (fun _ i => ∃ k : Nat, k ≤ n ∧ i = .int .i64 k ∧ Hid (∀ j, j < k → 0 ≤ xs.getD j 0 ∧ xs.getD j 0 < s)) (fun _ i => n - (intOf i).toNat)
  case atStart => exact ⟨0, Nat.zero_le _, rfl, fun j hj => by omega⟩
  case round =>
    obtain ⟨k, hk, rfl, hid⟩ := hrel
    have hfin : Hid (Below w.heap.size w (w.alloc (.cells #[.int .i64 c, .int .i64 s, .int .i64 p] 89))) := (Below.refl _ _).alloc (Nat.le_refl _) _
    by_cases hlt : k < n
    · obtain ⟨ad, rfl, -, hc1⟩ := HA.out (by rw [HN.out]; omega)
      have hx1 := hc1 k (by rw [HN.out]; exact hlt)
      clear hc1
      generalize hx : xs.getD k 0 = x at *
      have Hx := Lib.hid hx
      clear hx
      by_cases h2 : x < 0
      · have HI := Lib.hid (inB_step (s := s) (k := k) (by rw [HN.out]; exact hlt) (by rw [Hx.out]; omega))
        go_wp2
        go_ret
        exact ⟨ret_bool HI.out.symm, hfin.out⟩
      · by_cases h3 : s ≤ x
        · have HI := Lib.hid (inB_step (s := s) (k := k) (by rw [HN.out]; exact hlt) (by rw [Hx.out]; omega))
          go_wp2
          go_ret
          exact ⟨ret_bool HI.out.symm, hfin.out⟩
        · go_wp2
          refine ⟨⟨k + 1, by omega, by go_num, ?_⟩, by simp [intOf]; omega⟩
          intro j hj
          by_cases hjk : j = k
          · subst hjk; rw [Hx.out]; omega
          · exact hid.out j (by omega)
    · obtain rfl : k = n := by omega
      have HI := Lib.hid (inB_end (s := s) (xs := xs) (by rw [HN.out]; exact hid.out))
      go_wp2
      go_ret
      exact ⟨ret_bool HI.out.symm, hfin.out⟩
structure CodeOk (C S P par first : Nat) : Prop where
  vf : VF C S P
  p1 : 1 ≤ par
  p2 : par ≤ S - 2
  f2 : first ≤ S - 2
theorem CodeOk.s3 {C S P par first : Nat} (h : CodeOk C S P par first) : 3 ≤ S ∧ S ≤ 4096 := by
  have := h.p1; have := h.p2; have := h.vf.le; omega
set_option maxHeartbeats 400000 in
theorem qfits_yes (C S P par first : Nat) (w : World) (h : CodeOk C S P par first) :
    Calls Tryz.prog 150 #[fldv C S P, .int .i64 par, .int .i64 first] w fun e w' => e = .returned (.bool true) ∧ Below w.heap.size w w' := by
  obtain ⟨s3, s4⟩ := h.s3
  have h1 := h.p1
  have h2 := h.p2
  have h3 := h.f2
  have hfin : Hid (Below w.heap.size w (w.alloc (.cells #[.int .i64 C, .int .i64 S, .int .i64 P] 89))) := (Below.refl _ _).alloc (Nat.le_refl _) _
  obtain ⟨T, hT⟩ : ∃ T, S = T + 2 := ⟨S - 2, by omega⟩
  subst hT
  have e1 : ((T + 2 : Nat) : Int) - 2 = (T : Int) := by omega
  clear h
  go_enter Tryz.func150, Tryz.ntmps150
  go_wp2
  go_ret
  exact ⟨ret_bool (by simp; omega), hfin.out⟩
theorem codP_box (w : World) (C S P par first : Nat) : Hid (∀ W, Abv (w.alloc (codO C S P par first)) W → W.cell? ⟨w.heap.size, 0, none⟩ = some (.int .i64 C) ∧ W.cell? ⟨w.heap.size, 1, none⟩ = some (.int .i64 S) ∧ W.cell? ⟨w.heap.size, 2, none⟩ = some (.int .i64 P) ∧ W.cell? ⟨w.heap.size, 3, none⟩ = some (.int .i64 par) ∧ W.cell? ⟨w.heap.size, 4, none⟩ = some (.int .i64 first)) := by
  show ∀ W, _
  intro W hW
  have h : CellsAt (w.alloc (codO C S P par first)) w.heap.size (codC C S P par first) := CellsAt.new _ _ _ _ rfl
  exact codC_cells (h.below hW)
set_option maxHeartbeats 400000 in
theorem qvalid_yes (C S P par first : Nat) (l : List Nat) (n : Nat) (A : Option Addr) (ca : Nat) (w : World) (h : CodeOk C S P par first) (hn : n = l.length) (hl : LtAll S l) (h1 : n ≤ 9223372036854775807) (ha : RD w A (zl l)) :
    Calls Tryz.prog 112 #[codv C S P par first, .slice A n ca] w fun e w' => e = .returned (.bool true) ∧ Below w.heap.size w w' := by
  have hO := Lib.hid h
  have CF := codP_box w C S P par first
  have hfin : Hid (Below w.heap.size w (w.alloc (codO C S P par first))) := (Below.refl _ _).alloc (Nat.le_refl _) _
  have HE : Hid (∀ W, Abv (w.alloc (codO C S P par first)) W → Calls Tryz.prog 151 #[fldv C S P, .slice A n ca] W fun e w' => e = .returned (.bool true) ∧ Below W.heap.size W w') := by
    show ∀ W, _
    intro W hW
    have := qelements_any C S P (zl l) A ca W (by rw [zl_length]; omega) (ha.below (hfin.out.mono (Nat.le_refl _) |>.trans (hW.mono (by simp))))
    rw [zl_length, ← hn, inB_zl hl] at this
    exact this
  obtain ⟨f0, f1, f2, f3, f4⟩ := CF.out _ (Below.refl _ _)
  clear ha hl hn h
  go_enter Tryz.func112, Tryz.ntmps112
  go_wp2_with (first
    | (go_at_call 149; refine (valid_any C S P _ hO.out.vf.pbd).mono ?_; rintro e w1 ⟨rfl, hb1⟩; rw [vld_of hO.out.vf]; have HB1 := Lib.hid hb1; clear hb1 f0 f1 f2 f3 f4; obtain ⟨f0, f1, f2, f3, f4⟩ := CF.out _ HB1.out)
    | (go_at_call 150; refine (qfits_yes C S P par first _ hO.out).mono ?_; rintro e w2 ⟨rfl, hb2⟩; have HB2 := Lib.hid (bwStep HB1.out hb2); clear hb2 f0 f1 f2 f3 f4; obtain ⟨f0, f1, f2, f3, f4⟩ := CF.out _ HB2.out)
    | (go_at_call 151; refine (HE.out _ HB2.out).mono ?_; rintro e w3 ⟨rfl, hb3⟩; have HB3 := Lib.hid (bwStep HB2.out hb3); clear hb3))
  go_ret
  exact ⟨rfl, bw1 HB3.out⟩
set_option maxHeartbeats 400000 in
theorem qlong_yes (C S P par first n : Nat) (w : World) (h1 : par < n) (h2 : n < S) :
    Calls Tryz.prog 113 #[codv C S P par first, .int .i64 n] w fun e w' => e = .returned (.bool true) ∧ Below w.heap.size w w' := by
  have hfin : Hid (Below w.heap.size w (w.alloc (codO C S P par first))) := (Below.refl _ _).alloc (Nat.le_refl _) _
  go_enter Tryz.func113, Tryz.ntmps113
  go_wp2
  go_ret
  exact ⟨rfl, hfin.out⟩
set_option maxHeartbeats 400000 in
theorem qNew_yes (C S P par first : Nat) (w : World) (h : CodeOk C S P par first) :
    Calls Tryz.prog 111 #[fldv C S P, .int .i64 par, .int .i64 first] w fun e w' => e = .returned (.tuple #[codv C S P par first, .int .i64 0]) ∧ Below w.heap.size w w' := by
  have hO := Lib.hid h
  have hf : RowIs (w.alloc (fldB C S P)) w.heap.size (fldC C S P).toArray 89 := RowIs.new _ _ _ _ rfl
  have hz : RowIs ((w.alloc (fldB C S P)).alloc (codO 0 0 0 0 0)) (w.heap.size + 1) (codC 0 0 0 0 0).toArray 91 := RowIs.new _ _ _ _ (by simp)
  have HF : Hid (∀ W, Abv ((w.alloc (fldB C S P)).alloc (codO 0 0 0 0 0)) W → RowIs W w.heap.size (fldC C S P).toArray 89 ∧ RowIs W (w.heap.size + 1) (codC 0 0 0 0 0).toArray 91) := by
    show ∀ W, _
    intro W hW
    exact ⟨(hf.below (bwA _ _)).below hW, hz.below hW⟩
  have HW0 : Hid (Below w.heap.size w ((w.alloc (fldB C S P)).alloc (codO 0 0 0 0 0))) := (bwA _ _).alloc (by simp) _
  clear h hf hz
  go_enter Tryz.func111, Tryz.ntmps111
  go_wp2_with fail
  refine (valid_any C S P _ hO.out.vf.pbd).mono ?_
  rintro e w1 ⟨rfl, hb1⟩
  rw [vld_of hO.out.vf]
  have HB1 := Lib.hid hb1
  obtain ⟨r1, -⟩ := HF.out _ HB1.out
  have c0 : w1.cell? ⟨w.heap.size, 0, none⟩ = some (.int .i64 C) := r1.cell 0 _ rfl
  have c1 : w1.cell? ⟨w.heap.size, 1, none⟩ = some (.int .i64 S) := r1.cell 1 _ rfl
  have c2 : w1.cell? ⟨w.heap.size, 2, none⟩ = some (.int .i64 P) := r1.cell 2 _ rfl
  clear hb1 r1
  go_wp2_with fail
  refine (qfits_yes C S P par first _ hO.out).mono ?_
  rintro e w2 ⟨rfl, hb2⟩
  have HB2 := Lib.hid (bwStep HB1.out hb2)
  obtain ⟨r1, r2⟩ := HF.out _ HB2.out
  clear hb2 c0 c1 c2
  have c0 : w2.cell? ⟨w.heap.size, 0, none⟩ = some (.int .i64 C) := r1.cell 0 _ rfl
  have c1 : w2.cell? ⟨w.heap.size, 1, none⟩ = some (.int .i64 S) := r1.cell 1 _ rfl
  have c2 : w2.cell? ⟨w.heap.size, 2, none⟩ = some (.int .i64 P) := r1.cell 2 _ rfl
  have d0 : w2.cell? ⟨w.heap.size + 1, 0, none⟩ = some (.int .i64 0) := r2.cell 0 _ rfl
  have d1 : w2.cell? ⟨w.heap.size + 1, 1, none⟩ = some (.int .i64 0) := r2.cell 1 _ rfl
  have d2 : w2.cell? ⟨w.heap.size + 1, 2, none⟩ = some (.int .i64 0) := r2.cell 2 _ rfl
  have d3 : w2.cell? ⟨w.heap.size + 1, 3, none⟩ = some (.int .i64 0) := r2.cell 3 _ rfl
  have d4 : w2.cell? ⟨w.heap.size + 1, 4, none⟩ = some (.int .i64 0) := r2.cell 4 _ rfl
  have f : ∀ i, w2.frozen? ⟨w.heap.size + 1, i, none⟩ = false := fun i => frozen_of_row _ _ _ _ _ r2
  have f0 := f 0
  have f1 := f 1
  have f2 := f 2
  have f3 := f 3
  have f4 := f 4
  have HB : Hid (Below w.heap.size w w2) := bwStep HW0.out HB2.out
  clear f r1 r2
  go_wp2
  exact bodyPost_ret (v := .tuple #[codv C S P par first, .int .i64 0]) (by simp [results, Tryz.results111, go_sem, d0, d1, d2, d3, d4]) rfl ⟨rfl, ((((HB.out.setCell (by simp) _).setCell (by simp) _).setCell (by simp) _).setCell (by simp) _).setCell (by simp) _⟩
end Go.Proofs.YtmnlkganmgcpbaaGreatDoor
namespace Go.Proofs.YtmnlkganmgcpbaaGreatDoor
open Go.RowKit
set_option linter.unusedVariables false
set_option linter.unusedSectionVars false
structure GS (w : World) (bx bq bo : Nat) (cx cq : List Value) (S P be bl : Nat) (l : List Nat) (wr : World) : Prop where
  B : Below w.heap.size w wr
  X : CellsAt wr bx cx
  Q : CellsAt wr bq cq
  T : TabAt wr S P be bl
  O : RowAt wr bo l
  lo : w.heap.size ≤ bo
  n1 : bx ≠ bo
  n2 : bq ≠ bo
  n3 : be ≠ bo
  n4 : bl ≠ bo
theorem GS.below {w : World} {bx bq bo : Nat} {cx cq : List Value} {S P be bl : Nat} {l : List Nat} {wr W : World} (h : GS w bx bq bo cx cq S P be bl l wr) (hb : Below wr.heap.size wr W) : GS w bx bq bo cx cq S P be bl l W :=
  ⟨bwStep h.B hb, h.X.below hb, h.Q.below hb, h.T.below hb, h.O.below hb, h.lo, h.n1, h.n2, h.n3, h.n4⟩
theorem GS.set {w : World} {bx bq bo : Nat} {cx cq : List Value} {S P be bl : Nat} {l : List Nat} {wr : World} (h : GS w bx bq bo cx cq S P be bl l wr) (i v : Nat) : GS w bx bq bo cx cq S P be bl (l.set i v) (wr.setCell ⟨bo, i, none⟩ (.int .i64 (v : Int))) :=
  ⟨h.B.setCell h.lo _, h.X.other _ _ h.n1, h.Q.other _ _ h.n2, h.T.setCell _ _ h.n3 h.n4, h.O.set i v, h.lo, h.n1, h.n2, h.n3, h.n4⟩
noncomputable def rooA (s p first par i : Nat) : List Nat := (List.range par).map fun j => if j < i then apw s p (first + j) else 0
theorem rooA_length (s p first par i : Nat) : (rooA s p first par i).length = par := by unfold rooA; simp
theorem rooA_zero (s p first par : Nat) : rooA s p first par 0 = List.replicate par 0 := by
  refine list_getD_ext (by rw [rooA_length, List.length_replicate]) fun j hj => ?_
  rw [rooA_length] at hj
  unfold rooA
  rw [getD_map_range _ _ _ hj, if_neg (by omega)]
  simp [List.getD, hj]
theorem rooA_step (s p first par i : Nat) (hi : i < par) : (rooA s p first par i).set i (apw s p (first + i)) = rooA s p first par (i + 1) := by
  unfold rooA
  rw [set_map_range _ _ _ _ hi]
  apply List.map_congr_left
  intro j hj
  by_cases e : j = i
  · subst e; rw [if_pos rfl, if_pos (by omega)]
  · rw [if_neg e]
    by_cases h1 : j < i
    · rw [if_pos h1, if_pos (by omega)]
    · rw [if_neg h1, if_neg (by omega)]
noncomputable def rooL (s p first par : Nat) : List Nat := (List.range par).map fun j => apw s p (first + j)
theorem rooA_end (s p first par : Nat) : rooA s p first par par = rooL s p first par := by
  unfold rooA rooL
  apply List.map_congr_left
  intro j hj
  rw [List.mem_range] at hj
  rw [if_pos hj]
theorem rooL_length (s p first par : Nat) : (rooL s p first par).length = par := by unfold rooL; simp
theorem rooL_lt {c s p : Nat} (h : VF c s p) (first par : Nat) : LtAll s (rooL s p first par) := ltAll_map h fun i _ => apw_lt h _
noncomputable def genL (s p first par : Nat) : List Nat := fromL s p (rooL s p first par) par
set_option maxRecDepth 100000 in
set_option maxHeartbeats 2000000 in
theorem qGenerator_yes (C S P par first : Nat) (w : World) (h : CodeOk C S P par first) :
    Calls Tryz.prog 114 #[codv C S P par first] w (RetL w (zl (genL S P first par), 0)) := by
  obtain ⟨i0, hi, hz0, hz1, hz2⟩ := info_parts intInfo
  have hO := Lib.hid h
  obtain ⟨s3, s4⟩ := h.s3
  have h1 := h.p1
  have h2 := h.p2
  have h3 := h.f2
  have CF := codP_box w C S P par first
  have hX : CellsAt (w.alloc (codO C S P par first)) w.heap.size (codC C S P par first) := CellsAt.new _ _ _ _ rfl
  have HX := Lib.hid hX
  have hfin : Hid (Below w.heap.size w (w.alloc (codO C S P par first))) := (Below.refl _ _).alloc (Nat.le_refl _) _
  have hpar : par ≤ 4094 := by omega
  have hfi : first ≤ 4094 := by omega
  obtain ⟨f0, f1, f2, f3, f4⟩ := CF.out _ (Below.refl _ _)
  have hmk := run_make_row' (P := Tryz.prog) 64 3 (.int .i64 0) 8 Tryz.underlying64 intInfo rfl .i64 .i64 par (by omega) (by omega)
  have HV : Hid (∀ W, Calls Tryz.prog 112 #[codv C S P par first, .slice none 0 0] W fun e w' => e = .returned (.bool true) ∧ Below W.heap.size W w') := by
    show ∀ W, _
    intro W
    exact qvalid_yes C S P par first [] 0 none 0 W h rfl (fun i => by simp [List.getD]; omega) (by omega) (RD.nil_ _ _)
  clear h hX h2 h3
  go_enter Tryz.func114, Tryz.ntmps114
  go_wp2_with (first
    | (go_at_call 112; refine (HV.out _).mono ?_; rintro e w1 ⟨rfl, hb1⟩; have HB1 := Lib.hid hb1; clear hb1 f0 f1 f2 f3 f4; obtain ⟨f0, f1, f2, f3, f4⟩ := CF.out _ HB1.out)
    | (go_at_call 119; refine (qnewA_any C S P _ hO.out.vf).mono ?_; rintro e w2 ⟨be, bl, rfl, ht, hb2, -, -⟩; have HT := Lib.hid ht; have HB2 := Lib.hid (bwStep HB1.out hb2); clear hb2 ht f0 f1 f2 f3 f4; obtain ⟨f0, f1, f2, f3, f4⟩ := CF.out (w2.alloc (qarc C S be bl)) (bwAlloc HB2.out _)))
  have HS2 : Hid (w.heap.size < w2.heap.size) := by show _ < _; have := HB2.out.size; simp at this; omega
  have HG0 : Hid (GS w w.heap.size w2.heap.size (w2.heap.size + 1) (codC C S P par first) (arcv C S be bl) S P be bl (rooA S P first par 0) ((w2.alloc (qarc C S be bl)).alloc (.cells (madeCells #[.int .i64 0] par) 3))) := by
    have hz := HS2.out
    have ht := HT.out
    refine ⟨bwAlloc (bwAlloc (bwStep hfin.out HB2.out) _) _, ((HX.out.below HB2.out).alloc _).alloc _, (CellsAt.new _ _ _ _ rfl).alloc _, (ht.alloc _).alloc _, ?_, by omega, by omega, by omega, by have := ht.1; omega, by have := ht.2.1; omega⟩
    rw [rooA_zero]
    exact RowAt.made _ _ _ _ (by simp)
  generalize hW : (w2.alloc (qarc C S be bl)).alloc (.cells (madeCells #[.int .i64 0] par) 3) = w3 at *
  clear hW f0 f1 f2 f3 f4 HB1 HT HB2
  generalize hbq : w2.heap.size = bq at *
  clear hbq
  clear hmk
  go_loopw [18] (fun i wr => ∃ k : Nat, k ≤ par ∧ i = .int .i64 k ∧ Hid (GS w w.heap.size bq (bq + 1) (codC C S P par first) (arcv C S be bl) S P be bl (rooA S P first par k) wr)) (fun i _ => par - (intOf i).toNat)
  case atStart => exact ⟨0, Nat.zero_le _, rfl, HG0⟩
  case round =>
    obtain ⟨k, hk, rfl, hG⟩ := hrel
    by_cases hlt : k < par
    · obtain ⟨r0, r1, r2, r3⟩ := arcv_cells hG.out.Q
      obtain ⟨c0, c1, c2, c3, c4⟩ := codC_cells hG.out.X
      have HPW : Hid (Calls Tryz.prog 152 #[arv C S be bl, .int .i64 ((first : Int) + (k : Int))] wr fun e w' => e = .returned (.int .i64 ((apw S P (first + k) : Nat) : Int)) ∧ Below wr.heap.size wr w') := by
        have := qpower_any C S P be bl (first + k) wr hO.out.vf (by omega) hG.out.T
        show Calls _ _ _ _ _
        simpa using this
      have HST : Hid (_ = _) := rooA_step S P first par k hlt
      have HLN : Hid (k < (rooA S P first par k).length) := by show _ < _; rw [rooA_length]; exact hlt
      generalize apw S P (first + k) = rt at *
      go_wp2_with (go_at_call 152; refine HPW.out.mono ?_; rintro e w4 ⟨rfl, hb4⟩; have HG4 := Lib.hid (hG.out.below hb4); clear hb4; obtain ⟨s1, s2⟩ := HG4.out.O.2 k HLN.out)
      exact ⟨⟨k + 1, by omega, by go_num, by rw [← HST.out]; exact HG4.out.set _ _⟩, by simp [intOf]; omega⟩
    · obtain rfl : k = par := by omega
      obtain ⟨c0, c1, c2, c3, c4⟩ := codC_cells hG.out.X
      have HFR : Hid (Calls Tryz.prog 153 #[fldv C S P, .slice (some ⟨bq + 1, 0, none⟩) k k] wr (RetL wr (zl (genL S P first k), 0))) := by
        have hr := hG.out.O.rd
        rw [rooA_end] at hr
        have := pFromRoots_any C S P ⟨some ⟨bq + 1, 0, none⟩, k, k, zl (rooL S P first k)⟩ wr hO.out.vf.pbd ⟨by rw [zl_length, rooL_length], by show k ≤ _; omega, hr, Nat.le_refl _, by show k ≤ maxLen; unfold maxLen; omega⟩
        have e : fromRes C S P (zl (rooL S P first k)) = (zl (genL S P first k), 0) := by
          unfold fromRes genL
          rw [vld_of hO.out.vf, inB_zl (rooL_lt hO.out.vf _ _), if_pos (by simp), if_neg (by rw [zl_length, rooL_length]; omega), zl_length, rooL_length, nl_zl]
          simp
        show Calls _ _ _ _ _
        rw [← e]
        exact this
      go_wp2_with (go_at_call 153; refine HFR.out.mono ?_; rintro e w4 ⟨v, rfl, hi4, hb4⟩)
      go_ret2
      exact RetL.mk rfl hi4 (bwStep hG.out.B hb4)
end Go.Proofs.YtmnlkganmgcpbaaGreatDoor
