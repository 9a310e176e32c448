import Derived.Test.YtmnlkganmgcpbaaGreatDoorQa16
import Derived.Test.YtmnlkganmgcpbaaGreatDoorQa15
import Derived.Test.YtmnlkganmgcpbaaGreatDoorQa1
import Derived.Laws.OwnMore
import Derived.Deep.AppendLies
import Derived.Deep.QuietTactic
import Derived.BigQuiet
import Derived.Maps.AppendAt
import Derived.RegionTactic
import Derived.OwnWalk
import Derived.Deep.RegionHeld3
import Derived.Deep.OwnRows
namespace Go.Proofs.YtmnlkganmgcpbaaGreatDoor
open Go.RowKit
set_option linter.unusedVariables false
abbrev ftup (c s p e : Int) : Value := .tuple #[.agg #[.int .i64 c, .int .i64 s, .int .i64 p], .int .i64 e]
def binOk (d p : Int) : Bool := decide (1 ≤ d) && decide (d ≤ 12) && rirrB p d
theorem vld_bin (d p : Int) (h1 : 1 ≤ d) (h2 : d ≤ 12) : vldB 2 ((2 ^ d.toNat : Nat) : Int) p = rirrB p d := by
  obtain ⟨D, rfl⟩ := Int.eq_ofNat_of_zero_le (by omega : 0 ≤ d)
  rw [vldB_two, Int.toNat_natCast, Int.toNat_natCast, bl_two_pow]
  have e : (((D + 1 : Nat) : Int) - 1) = (D : Int) := by omega
  rw [e, show D + 1 - 1 = D from by omega]
  simp
  intro _; omega
set_option maxHeartbeats 400000 in
theorem Binary_range (d p : Int) (w : World) (h : d < 1 ∨ 12 < d) :
    Calls Tryz.prog 110 #[.int .i64 d, .int .i64 p] w fun e w' => e = .returned (ftup 0 0 0 3) ∧ Below w.heap.size w w' := by
  rcases h with h | h
  · go_enter Tryz.func110, Tryz.ntmps110
    go_wp2
    exact bodyPost_ret (v := ftup 0 0 0 3) (by simp [results, Tryz.results110, go_sem]) rfl ⟨rfl, (Below.refl _ _).alloc (Nat.le_refl _) _⟩
  · have h' : ¬ d < 1 := by omega
    go_enter Tryz.func110, Tryz.ntmps110
    go_wp2
    exact bodyPost_ret (v := ftup 0 0 0 3) (by simp [results, Tryz.results110, go_sem]) rfl ⟨rfl, (Below.refl _ _).alloc (Nat.le_refl _) _⟩
set_option maxHeartbeats 400000 in
theorem Binary_in (d p s : Int) (w : World) (h1 : 1 ≤ d) (h2 : d ≤ 12) (hp : p ≤ 9223372036854775807) (hs : wrap64 (2 ^ d.toNat) = s) (ok : Bool) (hok : vldB 2 s p = ok) :
    Calls Tryz.prog 110 #[.int .i64 d, .int .i64 p] w fun e w' => e = .returned (if ok then ftup 2 s p 0 else ftup 0 0 0 38) ∧ Below w.heap.size w w' := by
  have HOK := Lib.hid hok; clear hok
  go_enter Tryz.func110, Tryz.ntmps110
  go_wp2_with fail
  refine (valid_any _ _ _ _ hp).mono ?_
  rintro e w1 ⟨rfl, hb1⟩
  rw [HOK.out]
  obtain ⟨hbc, hbf⟩ := bcell hb1
  have c0 : w1.cell? ⟨w.heap.size, 0, none⟩ = some (.int .i64 0) := by rw [hbc _ _ (by simp; omega)]; go_simp
  have c1 : w1.cell? ⟨w.heap.size, 1, none⟩ = some (.int .i64 0) := by rw [hbc _ _ (by simp; omega)]; go_simp
  have c2 : w1.cell? ⟨w.heap.size, 2, none⟩ = some (.int .i64 0) := by rw [hbc _ _ (by simp; omega)]; go_simp
  have f0 : w1.frozen? ⟨w.heap.size, 0, none⟩ = false := by rw [hbf _ _ (by simp; omega)]; go_simp
  have f1 : w1.frozen? ⟨w.heap.size, 1, none⟩ = false := by rw [hbf _ _ (by simp; omega)]; go_simp
  have f2 : w1.frozen? ⟨w.heap.size, 2, none⟩ = false := by rw [hbf _ _ (by simp; omega)]; go_simp
  have hsz : w.heap.size + 1 < w1.heap.size := by have := hb1.size; simp at this; omega
  have d0 : w1.cell? ⟨w.heap.size + 1, 0, none⟩ = some (.int .i64 2) := by rw [hbc _ _ (by simp)]; go_simp
  have d1 : w1.cell? ⟨w.heap.size + 1, 1, none⟩ = some (.int .i64 s) := by rw [hbc _ _ (by simp)]; go_simp
  have d2 : w1.cell? ⟨w.heap.size + 1, 2, none⟩ = some (.int .i64 p) := by rw [hbc _ _ (by simp)]; go_simp
  have HB : Hid (Below w.heap.size w w1) := (((Below.refl _ _).alloc (Nat.le_refl _) _).alloc (by simp) _).trans (hb1.mono (by simp; omega))
  clear hbc hbf hb1
  cases ok
  · go_wp2
    exact bodyPost_ret (v := ftup 0 0 0 38) (by simp [results, Tryz.results110, go_sem, c0, c1, c2]) rfl ⟨rfl, ((HB.out.setCell (by simp) _).setCell (by simp) _).setCell (by simp) _⟩
  · go_wp2
    exact bodyPost_ret (v := ftup 2 s p 0) (by simp [results, Tryz.results110, go_sem, c0, c1, c2]) rfl ⟨rfl, ((HB.out.setCell (by simp) _).setCell (by simp) _).setCell (by simp) _⟩
def binV (d p : Int) : Value := if binOk d p then ftup 2 ((2 ^ d.toNat : Nat) : Int) p 0 else if 1 ≤ d ∧ d ≤ 12 then ftup 0 0 0 38 else ftup 0 0 0 3
theorem pow_wrapM (d : Int) (h1 : 1 ≤ d) (h2 : d ≤ 12) : wrap64 (2 ^ d.toNat) = ((2 ^ d.toNat : Nat) : Int) := szw2 d.toNat (by omega)
theorem Binary_any (d p : Int) (w : World) (hp : p ≤ 9223372036854775807) :
    Calls Tryz.prog 110 #[.int .i64 d, .int .i64 p] w fun e w' => e = .returned (binV d p) ∧ Below w.heap.size w w' := by
  by_cases h : 1 ≤ d ∧ d ≤ 12
  · refine (Binary_in d p _ w h.1 h.2 hp (pow_wrapM d h.1 h.2) _ rfl).mono ?_
    rintro e w' ⟨rfl, hb⟩
    refine ⟨?_, hb⟩
    unfold binV binOk
    rw [vld_bin d p h.1 h.2]
    cases rirrB p d <;> simp [h.1, h.2]
  · have : binV d p = ftup 0 0 0 3 := by
      unfold binV binOk
      rw [if_neg (by simp; omega), if_neg h]
    rw [this]
    exact Binary_range d p w (by omega)
end Go.Proofs.YtmnlkganmgcpbaaGreatDoor
namespace Go.Proofs.YtmnlkganmgcpbaaGreatDoor
open Go.RowKit
set_option linter.unusedVariables false
def RD (w : World) (A : Option Addr) (xs : List Int) : Prop :=
  0 < xs.length → ∃ ad, A = some ad ∧ ad.block < w.heap.size ∧ ∀ j, j < xs.length → w.cell? (ad.add j) = some (.int .i64 (xs.getD j 0))
theorem RD.below {W W' : World} {A : Option Addr} {xs : List Int} (h : RD W A xs) (hb : Below W.heap.size W W') : RD W' A xs := fun hn => by
  obtain ⟨ad, e, hl, hc⟩ := h hn
  exact ⟨ad, e, Nat.lt_of_lt_of_le hl hb.size, fun j hj => (hb.cell (by rw [block_of_add]; exact hl)).trans (hc j hj)⟩
theorem RD.alloc {W : World} {A : Option Addr} {xs : List Int} (h : RD W A xs) (o : Obj) : RD (W.alloc o) A xs := h.below ((Below.refl _ _).alloc (Nat.le_refl _) o)
theorem RD.nil_ (W : World) (A : Option Addr) : RD W A [] := fun h => absurd h (by simp)
theorem RD.of_own {W : World} {base : Nat} {e : TypeId} {n : Nat} {A : Option Addr} {c : Nat} {xs : List Int} (h : W.ownsRow base e 1 (.slice A n c) n (xs.map (Value.int .i64))) : RD W A xs := fun hn => by
  have hl : xs.length = n := by have := h.1; simpa using this
  obtain ⟨g, cap, hv, _, hlt⟩ := h.form (by omega)
  have hA : A = some ⟨g, 0, none⟩ := by injection hv
  subst hA
  refine ⟨_, rfl, hlt, fun j hj => h.cells (g := g) rfl j _ ?_⟩
  simp [List.getD, hj]
def zl (l : List Nat) : List Int := l.map (fun n : Nat => (n : Int))
theorem zl_length (l : List Nat) : (zl l).length = l.length := by simp [zl]
theorem zl_getD (l : List Nat) (i : Nat) : (zl l).getD i 0 = ((l.getD i 0 : Nat) : Int) := by
  unfold zl
  by_cases h : i < l.length
  · simp [List.getD, h]
  · simp [List.getD, List.getElem?_eq_none (show l.length ≤ i by omega)]
def Ints (w : World) (v : Value) (xs : List Int) : Prop := ∃ A c, v = .slice A xs.length c ∧ xs.length ≤ c ∧ c ≤ maxLen ∧ RD w A xs
theorem Ints.below {W W' : World} {v : Value} {xs : List Int} (h : Ints W v xs) (hb : Below W.heap.size W W') : Ints W' v xs := by
  obtain ⟨A, c, rfl, h1, h2, h3⟩ := h
  exact ⟨A, c, rfl, h1, h2, h3.below hb⟩
theorem Ints.nil_ (w : World) : Ints w (.slice none 0 0) [] := ⟨none, 0, rfl, by simp, by simp, RD.nil_ _ _⟩
theorem Ints.of_own {W : World} {base : Nat} {e : TypeId} {n : Nat} {v : Value} {xs : List Int} (h : W.ownsRow base e 1 v n (xs.map (Value.int .i64))) : Ints W v xs := by
  have hl : xs.length = n := by have := h.1; simpa using this
  rcases h.2 with ⟨rfl, rfl⟩ | ⟨g, cap, cur, rfl, _, _, hnc, hcm, _⟩
  · have : xs = [] := List.eq_nil_of_length_eq_zero hl
    subst this; exact Ints.nil_ _
  · refine ⟨_, cap, by rw [hl], by omega, hcm, RD.of_own h⟩
theorem inB_step {s : Int} {xs : List Int} {k : Nat} (hk : k < xs.length) (h : ¬ (0 ≤ xs.getD k 0 ∧ xs.getD k 0 < s)) : inB s xs = false := by
  unfold inB; rw [List.all_eq_false]
  refine ⟨xs[k], List.getElem_mem hk, ?_⟩
  have e : xs.getD k 0 = xs[k] := by simp [List.getD, hk]
  rw [e] at h
  simpa [Classical.not_and_iff_not_or_not] using h
theorem inB_end {s : Int} {xs : List Int} (h : ∀ j, j < xs.length → 0 ≤ xs.getD j 0 ∧ xs.getD j 0 < s) : inB s xs = true := by
  unfold inB; rw [List.all_eq_true]
  intro a ha
  obtain ⟨j, hj, rfl⟩ := List.getElem_of_mem ha
  have := h j hj
  rw [List.getD_eq_getElem?_getD, List.getElem?_eq_getElem hj] at this
  simpa using this
end Go.Proofs.YtmnlkganmgcpbaaGreatDoor
namespace Go.Proofs.YtmnlkganmgcpbaaGreatDoor
open Go.RowKit
set_option linter.unusedVariables false
set_option maxHeartbeats 400000 in
theorem elements_any (c s p : Int) (xs : List Int) (A : Option Addr) (ca : Nat) (w : World) (h1 : xs.length ≤ 9223372036854775807) (ha : RD w A xs) :
    Calls Tryz.prog 190 #[fldv c s p, .slice A xs.length ca] w fun e w' => e = .returned (.bool (inB s xs)) ∧ Below w.heap.size w w' := by
  have HA := Lib.hid (ha.alloc (.cells #[.int .i64 c, .int .i64 s, .int .i64 p] 89)); clear ha
  generalize hn : xs.length = n at *
  have HN := Lib.hid hn
  clear hn
  go_enter Tryz.func190, Tryz.ntmps190
  go_wp2
  go_loop [6, 9] (fun _ i => ∃ k : Nat, k ≤ n ∧ i = .int .i64 k ∧ Hid (∀ j, j < k → 0 ≤ xs.getD j 0 ∧ xs.getD j 0 < s)) (fun _ i => n - (intOf i).toNat)
  case atStart => exact ⟨0, Nat.zero_le _, rfl, fun j hj => by omega⟩
  case round =>
    obtain ⟨k, hk, rfl, hid⟩ := hrel
    have hfin : Hid (Below w.heap.size w (w.alloc (.cells #[.int .i64 c, .int .i64 s, .int .i64 p] 89))) := (Below.refl _ _).alloc (Nat.le_refl _) _
    by_cases hlt : k < n
    · obtain ⟨ad, rfl, -, hc1⟩ := HA.out (by rw [HN.out]; omega)
      have hx1 := hc1 k (by rw [HN.out]; exact hlt)
      clear hc1
      generalize hx : xs.getD k 0 = x at *
      have Hx := Lib.hid hx
      clear hx
      by_cases h2 : x < 0
      · have HI := Lib.hid (inB_step (s := s) (k := k) (by rw [HN.out]; exact hlt) (by rw [Hx.out]; omega))
        go_wp2
        go_ret
        exact ⟨ret_bool HI.out.symm, hfin.out⟩
      · by_cases h3 : s ≤ x
        · have HI := Lib.hid (inB_step (s := s) (k := k) (by rw [HN.out]; exact hlt) (by rw [Hx.out]; omega))
          go_wp2
          go_ret
          exact ⟨ret_bool HI.out.symm, hfin.out⟩
        · go_wp2
          refine ⟨⟨k + 1, by omega, by go_num, ?_⟩, by simp [intOf]; omega⟩
          intro j hj
          by_cases hjk : j = k
          · subst hjk; rw [Hx.out]; omega
          · exact hid.out j (by omega)
    · obtain rfl : k = n := by omega
      have HI := Lib.hid (inB_end (s := s) (xs := xs) (by rw [HN.out]; exact hid.out))
      go_wp2
      go_ret
      exact ⟨ret_bool HI.out.symm, hfin.out⟩
end Go.Proofs.YtmnlkganmgcpbaaGreatDoor
namespace Go.Proofs.YtmnlkganmgcpbaaGreatDoor
open Go.RowKit
set_option linter.unusedVariables false
abbrev arv (C S be bl : Nat) : Value := .agg #[.int .i64 C, .int .i64 S, .slice (some ⟨be, 0, none⟩) (S - 1) (S - 1), .slice (some ⟨bl, 0, none⟩) S S]
abbrev arc (C S be bl : Nat) : Obj := .cells #[.int .i64 C, .int .i64 S, .slice (some ⟨be, 0, none⟩) (S - 1) (S - 1), .slice (some ⟨bl, 0, none⟩) S S] 200
def TabAt (w : World) (S P be bl : Nat) : Prop := be < w.heap.size ∧ bl < w.heap.size ∧ (∀ i, i < S - 1 → w.cell? ⟨be, i, none⟩ = some (.int .i64 ((fpowN S P (genF S P) i : Nat) : Int))) ∧
  (∀ x, x < S → x ≠ 0 → w.cell? ⟨bl, x, none⟩ = some (.int .i64 ((logF S P x : Nat) : Int)))
theorem TabAt.below {W W' : World} {S P be bl : Nat} (h : TabAt W S P be bl) (hb : Below W.heap.size W W') : TabAt W' S P be bl :=
  ⟨Nat.lt_of_lt_of_le h.1 hb.size, Nat.lt_of_lt_of_le h.2.1 hb.size, fun i hi => (hb.cell h.1).trans (h.2.2.1 i hi), fun x hx h0 => (hb.cell h.2.1).trans (h.2.2.2 x hx h0)⟩
theorem TabAt.alloc {W : World} {S P be bl : Nat} (h : TabAt W S P be bl) (o : Obj) : TabAt (W.alloc o) S P be bl := h.below ((Below.refl _ _).alloc (Nat.le_refl _) o)
theorem VF.char2 {C S P : Nat} (h : VF C S P) : (C = 2 ∧ P ≠ 0) ∨ (C ≠ 2 ∧ P = 0) := by
  rcases h with ⟨h1, h2, h3, _⟩ | ⟨d, h1, _, h2, _, h3, _⟩
  · right; omega
  · left
    refine ⟨h3, ?_⟩
    rintro rfl
    have : bl 0 = 0 := by decide
    omega
set_option maxHeartbeats 800000 in
theorem amul_any (C S P be bl x y : Nat) (w : World) (hv : VF C S P) (hx : x < S) (hy : y < S) (ht : TabAt w S P be bl) :
    Calls Tryz.prog 194 #[arv C S be bl, .int .i64 x, .int .i64 y] w fun e w' => e = .returned (.int .i64 ((fmulN S P x y : Nat) : Int)) ∧ Below w.heap.size w w' := by
  have hfin : Hid (Below w.heap.size w (w.alloc (arc C S be bl))) := (Below.refl _ _).alloc (Nat.le_refl _) _
  by_cases hx0 : x = 0
  · subst hx0
    have HR := Lib.hid (zero_mulN hv hy)
    clear hv ht
    go_enter Tryz.func194, Tryz.ntmps194
    go_wp2
    go_ret
    exact ⟨ret_int (by rw [HR.out]; rfl), hfin.out⟩
  by_cases hy0 : y = 0
  · subst hy0
    have HR := Lib.hid (mulN_zero hv hx)
    clear hv ht
    go_enter Tryz.func194, Tryz.ntmps194
    go_wp2
    go_ret
    exact ⟨ret_int (by rw [HR.out]; rfl), hfin.out⟩
  have hS := hv.le
  have hS2 := hv.two_le
  have l1 := (logF_spec hv hx hx0).1
  have l2 := (logF_spec hv hy hy0).1
  have hT := ht.alloc (arc C S be bl)
  have c1 := hT.2.2.2 x hx hx0
  have c2 := hT.2.2.2 y hy hy0
  have hm : (logF S P x + logF S P y) % (S - 1) < S - 1 := Nat.mod_lt _ (by omega)
  have c3 := hT.2.2.1 _ hm
  rw [tab_mul hv hx hy hx0 hy0] at c3
  generalize fmulN S P x y = r at *
  generalize logF S P x = lx at *
  generalize logF S P y = ly at *
  have e1 : ((lx : Int) + ly).tmod ((S : Int) - 1) = (((lx + ly) % (S - 1) : Nat) : Int) := by
    rw [show (lx : Int) + ly = ((lx + ly : Nat) : Int) from by omega, show (S : Int) - 1 = ((S - 1 : Nat) : Int) from by omega]
    exact (Int.ofNat_tmod _ _).symm
  generalize (lx + ly) % (S - 1) = m at *
  have e2 : IntKind.i64.wrap ((lx : Int) + ly) = (lx : Int) + ly := wr64 _ (by omega) (by omega)
  have z1 : ((x : Int) == 0) = false := by rw [beq_eq_false_iff_ne]; omega
  have z2 : ((y : Int) == 0) = false := by rw [beq_eq_false_iff_ne]; omega
  clear hT ht hv hx0 hy0
  go_enter Tryz.func194, Tryz.ntmps194
  go_wp2
  go_quiet (fail)
  go_wp2
  go_ret
  exact ⟨rfl, below_drewN hfin.out _⟩
set_option maxHeartbeats 800000 in
theorem adiv_any (C S P be bl x y : Nat) (w : World) (hv : VF C S P) (hx : x < S) (hy : y < S) (hy0 : y ≠ 0) (ht : TabAt w S P be bl) :
    Calls Tryz.prog 192 #[arv C S be bl, .int .i64 x, .int .i64 y] w fun e w' => e = .returned (.int .i64 ((fmulN S P x (finvN S P y) : Nat) : Int)) ∧ Below w.heap.size w w' := by
  have hfin : Hid (Below w.heap.size w (w.alloc (arc C S be bl))) := (Below.refl _ _).alloc (Nat.le_refl _) _
  by_cases hx0 : x = 0
  · subst hx0
    have HR := Lib.hid (zero_mulN hv (invN_lt hv (x := y)))
    clear hv ht hy hx hy0
    go_enter Tryz.func192, Tryz.ntmps192
    go_wp2
    go_ret
    exact ⟨ret_int (by rw [HR.out]; rfl), hfin.out⟩
  have hS := hv.le
  have hS2 := hv.two_le
  have l1 := (logF_spec hv hx hx0).1
  have l2 := (logF_spec hv hy hy0).1
  have hT := ht.alloc (arc C S be bl)
  have c1 := hT.2.2.2 x hx hx0
  have c2 := hT.2.2.2 y hy hy0
  have hm : (logF S P x + (S - 1) - logF S P y) % (S - 1) < S - 1 := Nat.mod_lt _ (by omega)
  have c3 := hT.2.2.1 _ hm
  rw [tab_div hv hx hy hx0 hy0] at c3
  generalize fmulN S P x (finvN S P y) = r at *
  generalize logF S P x = lx at *
  generalize logF S P y = ly at *
  have e1 : ((lx : Int) - ly + S - 1).tmod ((S : Int) - 1) = (((lx + (S - 1) - ly) % (S - 1) : Nat) : Int) := by
    rw [show (lx : Int) - ly + S - 1 = ((lx + (S - 1) - ly : Nat) : Int) from by omega, show (S : Int) - 1 = ((S - 1 : Nat) : Int) from by omega]
    exact (Int.ofNat_tmod _ _).symm
  generalize (lx + (S - 1) - ly) % (S - 1) = m at *
  have e2 : IntKind.i64.wrap ((lx : Int) - ly) = (lx : Int) - ly := wr64 _ (by omega) (by omega)
  have e3 : IntKind.i64.wrap ((lx : Int) - ly + S) = (lx : Int) - ly + S := wr64 _ (by omega) (by omega)
  have e4 : IntKind.i64.wrap ((lx : Int) - ly + S - 1) = (lx : Int) - ly + S - 1 := wr64 _ (by omega) (by omega)
  have z1 : ((x : Int) == 0) = false := by rw [beq_eq_false_iff_ne]; omega
  clear hT ht hv hx0 hy0
  go_enter Tryz.func192, Tryz.ntmps192
  go_wp2
  go_quiet (fail)
  go_wp2
  go_ret
  exact ⟨rfl, below_drewN hfin.out _⟩
set_option maxHeartbeats 800000 in
theorem asub_any (C S P be bl x y : Nat) (w : World) (hv : VF C S P) (hx : x < S) (hy : y < S) :
    Calls Tryz.prog 193 #[arv C S be bl, .int .i64 x, .int .i64 y] w fun e w' => e = .returned (.int .i64 ((fsubN S P x y : Nat) : Int)) ∧ Below w.heap.size w w' := by
  have hfin : Hid (Below w.heap.size w (w.alloc (arc C S be bl))) := (Below.refl _ _).alloc (Nat.le_refl _) _
  have hS := hv.le
  rcases hv.char2 with ⟨rfl, hP⟩ | ⟨hC, rfl⟩
  · have HR : Hid (bits BinOp.xor IntKind.i64 (x : Int) (y : Int) = ((fsubN S P x y : Nat) : Int)) := by
      show _ = _
      rw [i64_xor_nat _ _ (by omega) (by omega)]; unfold fsubN; rw [if_neg hP]
    clear hv hP
    go_enter Tryz.func193, Tryz.ntmps193
    go_wp2
    go_ret
    exact ⟨ret_int HR.out, hfin.out⟩
  · have hS2 := hv.two_le
    have HR : Hid (((x : Int) - y + S) % S = ((fsubN S 0 x y : Nat) : Int)) := by
      show _ = _
      unfold fsubN; rw [if_pos rfl, show (x : Int) - y + S = ((x + S - y : Nat) : Int) from by omega]; exact (Int.natCast_emod _ _).symm
    have z1 : ((C : Int) == 2) = false := by rw [beq_eq_false_iff_ne]; omega
    clear hv hC
    go_enter Tryz.func193, Tryz.ntmps193
    go_wp2
    go_ret
    exact ⟨ret_int HR.out, hfin.out⟩
end Go.Proofs.YtmnlkganmgcpbaaGreatDoor
namespace Go.Proofs.YtmnlkganmgcpbaaGreatDoor
open Go.RowKit
set_option linter.unusedVariables false
theorem zint_one (ys : List Int) : ∀ u ∈ ys.map (Value.int .i64), u.oneCell' = true := by
  intro u hu
  obtain ⟨y, _, rfl⟩ := List.mem_map.1 hu
  rfl
section
variable {P : Program} (w : World)
theorem append_nothingL (base : Nat) (t ty e : TypeId) (i : TypeInfo) (ht : P.underlying t = some (.slice e)) (hi : P.info? e = some i)
    (v : Value) (n : Nat) (xs : List Value) (hown : w.ownsRow base e 1 v n xs) (c : Nat) : (Builtin.append_ #[t, t] ty #[v, .slice none 0 c]).run P w = .ok v w := by
  rcases hown.2 with ⟨rfl, rfl⟩ | ⟨g, cap, cur, rfl, _, _, hnc, _⟩
  · simp [Builtin.append_, run_underlying ht, sizeOf, typeInfo, hi, Builtin.lenOf, Builtin.firstCells]
  · simp [Builtin.append_, run_underlying ht, sizeOf, typeInfo, hi, Builtin.lenOf, Builtin.firstCells, hnc, storeCells]
theorem append_read (base : Nat) (t ty e : TypeId) (i : TypeInfo) (z : Value) (ht : P.underlying t = some (.slice e)) (hi : P.info? e = some i) (hz : i.zero = some z)
    (hsize : i.size = 1) (hby : i.bytes = 8) (hzs : z.cells.size = 1)
    (v : Value) (n : Nat) (xs : List Int) (hown : w.ownsRow base e 1 v n (xs.map (Value.int .i64)))
    (A : Option Addr) (m c : Nat) (ys : List Int) (hm : m = ys.length) (hr : RD w A ys) (hA : A = none → m = 0)
    (h63 : (n + m) * 8 ≤ 140737488355328) (hbase : base ≤ w.heap.size) :
    ∃ v' w', (Builtin.append_ #[t, t] ty #[v, .slice A m c]).run P w = .ok v' w' ∧ w'.ownsRow base e 1 v' (n + m) ((xs ++ ys).map (Value.int .i64)) ∧ w.grownBy w' v.ownBlock ∧
      (v'.ownBlock = v.ownBlock ∨ v'.ownBlock = some w.heap.size) := by
  subst hm
  rcases A with _ | ad
  · have h0 := hA rfl
    have hy : ys = [] := List.eq_nil_of_length_eq_zero h0
    subst hy
    exact ⟨v, w, append_nothingL w base t ty e i ht hi v n _ hown c, by simpa using hown, World.grownBy.refl w _, .inl rfl⟩
  · have hcells : ∀ j u, (ys.map (Value.int .i64))[j]? = some u → w.cell? (ad.add j) = some u := by
      intro j u hu
      have hj : j < ys.length := by
        rcases Nat.lt_or_ge j ys.length with h | h
        · exact h
        · rw [List.getElem?_eq_none (by simpa using h)] at hu; cases hu
      obtain ⟨ad', h, _, hc⟩ := hr (by omega)
      injection h with h
      subst h
      rw [hc j hj]
      simpa [List.getD, hj] using hu
    obtain ⟨v', w', hrun, h2, h3, _, h5⟩ := run_append_own_at (P := P) w base t ty e i z 1 8 ht hi hz hsize hby hzs (by omega) v n _ hown ad ys.length c (ys.map (Value.int .i64)) (by simp) hcells (zint_one ys)
      (by simp only [maxLen]; omega) h63 hbase
    exact ⟨v', w', hrun, by rw [List.map_append]; exact h2, h3, h5⟩
omit w in
theorem wpList_append_read {w : World} {ops : Array Oper} {rest : List Oper} {o : Oper} {a : Act} {Q : Exit → Act → World → Prop} (hgd : o.guard = none) (s x : Operand) (t : TypeId)
    (ho : o.op = .call { callee := .builtin .append, args := #[s, x], argTypes := #[t, t] })
    (base : Nat) (e : TypeId) (i : TypeInfo) (z : Value) (ht : P.underlying t = some (.slice e)) (hi : P.info? e = some i) (hz : i.zero = some z)
    (hsize : i.size = 1) (hby : i.bytes = 8) (hzs : z.cells.size = 1)
    (v : Value) (n : Nat) (xs : List Int) (hs : a.eval s = v) (hown : w.ownsRow base e 1 v n (xs.map (Value.int .i64)))
    (A : Option Addr) (m c : Nat) (ys : List Int) (hx : a.eval x = .slice A m c) (hm : m = ys.length) (hr : RD w A ys)
    (h63 : (n + m) * 8 ≤ 140737488355328) (hbase : base ≤ w.heap.size)
    (h : ∀ v' w', w'.ownsRow base e 1 v' (n + m) ((xs ++ ys).map (Value.int .i64)) → w.grownBy w' v.ownBlock → (v'.ownBlock = v.ownBlock ∨ v'.ownBlock = some w.heap.size) → wpList P ops Q rest (a.put o.dst v') w') :
    wpList P ops Q (o :: rest) a w := by
  refine wpList_plain hgd fun K hK => ?_
  have hA : A = none → m = 0 := by
    intro h0
    rcases Nat.eq_zero_or_pos m with h1 | h1
    · exact h1
    · obtain ⟨ad, h2, _⟩ := hr (by omega)
      rw [h0] at h2; cases h2
  obtain ⟨v', w', hrun, h2, h3, h4⟩ := append_read (P := P) w base t o.type e i z ht hi hz hsize hby hzs v n xs hown A m c ys hm hr hA h63 hbase
  unfold Oper.wp execOp
  simp only [ho, resolve, invoke, builtin, Sem.run_bind, Sem.run_pure, Result.andThen_ok, List.map_toArray, List.map_cons, List.map_nil, hs, hx, hrun]
  exact hK _ _ (h v' w' h2 h3 h4)
end
end Go.Proofs.YtmnlkganmgcpbaaGreatDoor
namespace Go.Proofs.YtmnlkganmgcpbaaGreatDoor
open Go.RowKit
set_option linter.unusedVariables false
def tlI (l : List Int) : Nat → Nat
  | 0 => 0
  | n + 1 => if l.getD n 0 = 0 then tlI l n else n + 1
def trimI (l : List Int) : List Int := l.take (tlI l l.length)
theorem tlI_zl (l : List Nat) (n : Nat) : tlI (zl l) n = tl l n := by
  induction n with
  | zero => rfl
  | succ n ih => unfold tlI tl; rw [zl_getD, ih]; simp
theorem trimI_zl (l : List Nat) : trimI (zl l) = zl (trimL l) := by
  unfold trimI trimL
  rw [zl_length, tlI_zl]
  unfold zl
  rw [List.map_take]
theorem RD.take {w : World} {A : Option Addr} {xs : List Int} (h : RD w A xs) (k : Nat) : RD w A (xs.take k) := fun hn => by
  rw [List.length_take] at hn
  obtain ⟨ad, e, hl, hc⟩ := h (by omega)
  refine ⟨ad, e, hl, fun j hj => ?_⟩
  rw [List.length_take] at hj
  rw [hc j (by omega)]
  simp [List.getD, show j < k by omega]
set_option maxHeartbeats 800000 in
theorem Trim_any (xs : List Int) (A : Option Addr) (ca : Nat) (w : World) (h1 : xs.length * 8 ≤ 140737488355328) (hca : xs.length ≤ ca) (ha : RD w A xs) :
    Calls Tryz.prog 116 #[.slice A xs.length ca] w fun e w' => ∃ v, e = .returned v ∧ Ints w' v (trimI xs) ∧ Below w.heap.size w w' := by
  obtain ⟨i0, hi, hz0, hz1, hz2⟩ := info_parts intInfo
  have HA := Lib.hid ha
  clear ha
  generalize hn : xs.length = n at *
  have HN := Lib.hid hn
  clear hn
  go_enter Tryz.func116, Tryz.ntmps116
  go_wp2
  go_loop [3] (fun i => ∃ k : Nat, k ≤ n ∧ i = .int .i64 k ∧ Hid (tlI xs n = tlI xs k)) (fun i => (intOf i).toNat)
  case atStart => exact ⟨n, Nat.le_refl _, rfl, rfl⟩
  case round =>
    obtain ⟨k, hk, rfl, hid⟩ := hrel
    have fin : Hid (∀ (m : Nat) (v' : Value) (w' : World), m = tlI xs n → w'.ownsRow w.heap.size 3 1 v' (0 + m) (([] ++ xs.take m).map (Value.int .i64)) → w.grownBy w' none → Ints w' v' (trimI xs) ∧ Below w.heap.size w w') := by
      rintro m v' w' rfl hown hg
      refine ⟨?_, (Below.refl _ _).grown hg (Nat.le_refl _) (fun j hj => by cases hj)⟩
      have e : trimI xs = xs.take (tlI xs n) := by unfold trimI; rw [HN.out]
      rw [e]
      exact Ints.of_own (by simpa using hown)
    have ca' : Hid (A = none → n = 0) := fun e => by
      rcases Nat.eq_zero_or_pos n with h | h
      · exact h
      · obtain ⟨ad, e2, _⟩ := HA.out (by rw [HN.out]; exact h)
        rw [e] at e2; cases e2
    by_cases hk0 : k = 0
    · subst hk0
      have HK : Hid (0 = tlI xs n) := hid.out.symm
      rcases A with _ | ad
      · go_wp2_with (at_builtin; refine wpList_append_read rfl _ _ _ rfl w.heap.size 3 i0 _ Tryz.underlying64 hi hz0 hz1 hz2 rfl (.slice none 0 0) 0 [] rfl (World.ownsRow_nil _ _ _ _) none 0 _ (xs.take 0) rfl (by simp) (HA.out.take _) (by omega) (Nat.le_refl _) ?_; intro v1 w1 hown hg hat)
        go_ret
        exact ⟨v1, rfl, fin.out 0 v1 w1 HK.out hown hg⟩
      · go_wp2_with (at_builtin; refine wpList_append_read rfl _ _ _ rfl w.heap.size 3 i0 _ Tryz.underlying64 hi hz0 hz1 hz2 rfl (.slice none 0 0) 0 [] rfl (World.ownsRow_nil _ _ _ _) (some ad) 0 _ (xs.take 0) rfl (by simp) (HA.out.take _) (by omega) (Nat.le_refl _) ?_; intro v1 w1 hown hg hat)
        go_ret
        exact ⟨v1, rfl, fin.out 0 v1 w1 HK.out hown hg⟩
    · obtain ⟨m, rfl⟩ : ∃ m, k = m + 1 := ⟨k - 1, by omega⟩
      obtain ⟨ad, rfl, -, hc⟩ := HA.out (by rw [HN.out]; omega)
      have hx1 := hc m (by rw [HN.out]; omega)
      clear hc
      have hst : tlI xs (m + 1) = if xs.getD m 0 = 0 then tlI xs m else m + 1 := rfl
      have Hst := Lib.hid hst
      clear hst
      generalize hx : xs.getD m 0 = x at *
      clear hx
      by_cases h0 : x = 0
      · subst h0
        have HK : Hid (tlI xs n = tlI xs m) := hid.out.trans (by rw [Hst.out, if_pos rfl])
        go_wp2
        exact ⟨⟨m, by omega, by go_num, HK.out⟩, by simp [intOf]⟩
      · have HK : Hid (m + 1 = tlI xs n) := (hid.out.trans (by rw [Hst.out, if_neg h0])).symm
        have z1 : (x == 0) = false := by rw [beq_eq_false_iff_ne]; exact h0
        clear h0
        go_wp2_with (at_builtin; refine wpList_append_read rfl _ _ _ rfl w.heap.size 3 i0 _ Tryz.underlying64 hi hz0 hz1 hz2 rfl (.slice none 0 0) 0 [] rfl (World.ownsRow_nil _ _ _ _) (some ad) (m + 1) _ (xs.take (m + 1)) rfl (by rw [List.length_take, HN.out]; omega) (HA.out.take _) (by omega) (Nat.le_refl _) ?_; intro v1 w1 hown hg hat)
        go_ret
        exact ⟨v1, rfl, fin.out _ v1 w1 HK.out hown hg⟩
end Go.Proofs.YtmnlkganmgcpbaaGreatDoor
namespace Go.Proofs.YtmnlkganmgcpbaaGreatDoor
open Go.RowKit
set_option linter.unusedVariables false
def hornN (s p x : Nat) : List Nat → Nat
  | [] => 0
  | c :: t => faddN s p (fmulN s p (hornN s p x t) x) c
theorem hornN_lt {c s p : Nat} (h : VF c s p) (x : Nat) (l : List Nat) (hl : ∀ y ∈ l, y < s) : hornN s p x l < s := by
  induction l with
  | nil => have := h.two_le; unfold hornN; omega
  | cons a t ih => exact fadd_lt h _ _ (fmul_lt h _ _) (hl a (by simp))
theorem ltAll_mem {s : Nat} {l : List Nat} (h : LtAll s l) : ∀ y ∈ l, y < s := by
  intro y hy
  obtain ⟨i, hi, rfl⟩ := List.getElem_of_mem hy
  have := h i
  simpa [List.getD, hi] using this
abbrev arcv (C S be bl : Nat) : List Value := [.int .i64 C, .int .i64 S, .slice (some ⟨be, 0, none⟩) (S - 1) (S - 1), .slice (some ⟨bl, 0, none⟩) S S]
theorem arcv_cells {W : World} {b C S be bl : Nat} (h : CellsAt W b (arcv C S be bl)) : W.cell? ⟨b, 0, none⟩ = some (.int .i64 C) ∧ W.cell? ⟨b, 1, none⟩ = some (.int .i64 S) ∧ W.cell? ⟨b, 2, none⟩ = some (.slice (some ⟨be, 0, none⟩) (S - 1) (S - 1)) ∧ W.cell? ⟨b, 3, none⟩ = some (.slice (some ⟨bl, 0, none⟩) S S) :=
  ⟨h.2 0 (by simp), h.2 1 (by simp), h.2 2 (by simp), h.2 3 (by simp)⟩
end Go.Proofs.YtmnlkganmgcpbaaGreatDoor
namespace Go.Proofs.YtmnlkganmgcpbaaGreatDoor
open Go.RowKit
set_option linter.unusedVariables false
def cellsN (l : List Nat) : Array Value := (l.map fun n : Nat => Value.int .i64 n).toArray
theorem cellsN_get (l : List Nat) (i : Nat) : (cellsN l)[i]? = (l[i]?).map fun n : Nat => Value.int .i64 n := by
  unfold cellsN; simp
theorem cellsN_set (l : List Nat) (i v : Nat) : (cellsN l).setIfInBounds i (.int .i64 v) = cellsN (l.set i v) := by
  unfold cellsN
  apply Array.ext'
  simp [List.map_set]
theorem cellsN_zero (n : Nat) : madeCells #[Value.int .i64 0] n = cellsN (List.replicate n 0) := by
  apply Array.ext'
  rw [toList_madeCells_one]
  unfold cellsN
  simp
abbrev fldO (C S P : Nat) : Obj := .cells #[.int .i64 C, .int .i64 S, .int .i64 P] 89
abbrev arO0 : Obj := .cells #[.int .i64 0, .int .i64 0, .slice none 0 0, .slice none 0 0] 200
abbrev arO (C S T be bl : Nat) : Obj := .cells #[.int .i64 C, .int .i64 S, .slice (some ⟨be, 0, none⟩) T T, .slice (some ⟨bl, 0, none⟩) S S] 200
structure ArR (w wr : World) (C S P T n be bl bs : Nat) : Prop where
  B : Below w.heap.size w wr
  he : w.heap.size + 1 < be
  hl : w.heap.size + 1 < bl
  hs : w.heap.size + 1 < bs
  n1 : be ≠ bl
  n2 : be ≠ bs
  n3 : bl ≠ bs
  F : wr.heap[w.heap.size]? = some (fldO C S P)
  R : wr.heap[w.heap.size + 1]? = some arO0
  E : wr.heap[be]? = some (.cells (cellsN (expTn S P n)) 3)
  L : wr.heap[bl]? = some (.cells (cellsN (logT S P n)) 3)
  A : wr.heap[bs]? = some (arO C S T be bl)
theorem ArR.below {w wr w2 : World} {C S P T n be bl bs : Nat} (h : ArR w wr C S P T n be bl bs) (hb : Below wr.heap.size wr w2) : ArR w w2 C S P T n be bl bs :=
  ⟨bwStep h.B hb, h.he, h.hl, h.hs, h.n1, h.n2, h.n3, (hb.block _ (lt_of_heap h.F)).trans h.F, (hb.block _ (lt_of_heap h.R)).trans h.R, (hb.block _ (lt_of_heap h.E)).trans h.E, (hb.block _ (lt_of_heap h.L)).trans h.L, (hb.block _ (lt_of_heap h.A)).trans h.A⟩
theorem ArR.store {w wr : World} {C S P T n be bl bs : Nat} (hv : VF C S P) (hT : T = S - 1) (h : ArR w wr C S P T n be bl bs) (hn : n < T) :
    ArR w ((wr.setCell ⟨be, n, none⟩ (.int .i64 ((fpowN S P (genF S P) n : Nat) : Int))).setCell ⟨bl, fpowN S P (genF S P) n, none⟩ (.int .i64 (n : Int))) C S P T (n + 1) be bl bs := by
  have hb1 : Below w.heap.size w (wr.setCell ⟨be, n, none⟩ (.int .i64 ((fpowN S P (genF S P) n : Nat) : Int))) := h.B.setCell (by have := h.he; simp; omega) _
  have o1 : ∀ (k : Nat) (v : Value), k ≠ be → (wr.setCell ⟨be, n, none⟩ v).heap[k]? = wr.heap[k]? := fun k v hk => heap_setCell_other wr ⟨be, n, none⟩ k v hk
  have o2 : ∀ (W : World) (x k : Nat) (v : Value), k ≠ bl → (W.setCell ⟨bl, x, none⟩ v).heap[k]? = W.heap[k]? := fun W x k v hk => heap_setCell_other W ⟨bl, x, none⟩ k v hk
  have e1 := heap_setCell_same wr be n _ 3 (.int .i64 ((fpowN S P (genF S P) n : Nat) : Int)) h.E
  rw [cellsN_set, expTn_set hv (n := n) (by omega)] at e1
  have e2 := heap_setCell_same (wr.setCell ⟨be, n, none⟩ (.int .i64 ((fpowN S P (genF S P) n : Nat) : Int))) bl (fpowN S P (genF S P) n) _ 3 (.int .i64 (n : Int)) ((o1 bl _ (Ne.symm h.n1)).trans h.L)
  rw [cellsN_set, logT_set hv (by omega)] at e2
  have a := h.he
  have b := h.hl
  have c := h.hs
  exact ⟨hb1.setCell (by simp; omega) _, h.he, h.hl, h.hs, h.n1, h.n2, h.n3,
    ((o2 _ _ _ _ (by omega)).trans (o1 _ _ (by omega))).trans h.F, ((o2 _ _ _ _ (by omega)).trans (o1 _ _ (by omega))).trans h.R,
    (o2 _ _ _ _ h.n1).trans e1, e2, ((o2 _ _ _ _ (Ne.symm h.n3)).trans (o1 _ _ (Ne.symm h.n2))).trans h.A⟩
theorem ArR.tab {w wr : World} {C S P T be bl bs : Nat} (hv : VF C S P) (hT : T = S - 1) (h : ArR w wr C S P T T be bl bs) : TabAt wr S P be bl := by
  subst hT
  refine ⟨lt_of_heap h.E, lt_of_heap h.L, fun i hi => ?_, fun x hx h0 => ?_⟩
  · rw [cell_of_row _ _ _ _ _ _ h.E, cellsN_get]
    have := expT_get hv hi
    rw [← expTn_last hv] at this
    rw [← this]
    unfold expTn
    simp [List.getD, hi]
  · rw [cell_of_row _ _ _ _ _ _ h.L, cellsN_get]
    have := logT_get hv hx h0
    rw [← this]
    unfold logT
    simp [List.getD, hx]
end Go.Proofs.YtmnlkganmgcpbaaGreatDoor
