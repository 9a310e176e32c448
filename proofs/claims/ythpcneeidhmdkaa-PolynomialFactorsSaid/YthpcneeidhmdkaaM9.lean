import Derived.Test.YthpcneeidhmdkaaM8
namespace Go.Proofs.Ythpcneeidhmdkaa
open Go.RowKit
set_option linter.unusedVariables false
def gcdRes (c s p : Int) (xs ys : List Int) : List Int × Int :=
  if (pvB c s p xs && pvB c s p ys) = true then (zl (gcdL s.toNat p.toNat (nl xs) (nl ys)), 0) else ([], 1)
def lenV : Value → Nat
  | .slice _ n _ => n
  | _ => 0
/-- the state of the loop -/
structure GR (w wr : World) (C S P be bl rb ab : Nat) (av bv : Value) (a b G : List Nat) : Prop where
  B : Below w.heap.size w wr
  R : CellsAt wr rb (arcv C S be bl)
  A : CellsAt wr ab [av]
  AF : wr.frozen? ⟨ab, 0, none⟩ = false
  T : TabAt wr S P be bl
  ha : Ints wr av (zl a)
  hb : Ints wr bv (zl b)
  la : LtAll S a
  lb : LtAll S b
  ta : Trimmed a
  tb : Trimmed b
  na : a.length ≤ 4097
  nb : b.length ≤ 4097
  g : gcdF S P b.length a b = G
  h1 : w.heap.size ≤ ab
  ne : rb ≠ ab
theorem RD.setOther {W : World} {A : Option Addr} {xs : List Int} (h : RD W A xs) (p : Addr) (u v : Value) (hp : W.cell? p = some u) (hu : ∀ z, u ≠ .int .i64 z) : RD (W.setCell p v) A xs := fun hn => by
  obtain ⟨ad, e, hl, hc⟩ := h hn
  refine ⟨ad, e, by simpa using hl, fun j hj => ?_⟩
  rw [World.cell?_setCell_other W p _ v (fun e2 => ?_)]
  · exact hc j hj
  · have := hc j hj
    rw [← e2, hp] at this
    exact hu _ (Option.some.inj this)
theorem Ints.setOther {W : World} {x : Value} {xs : List Int} (h : Ints W x xs) (p : Addr) (u v : Value) (hp : W.cell? p = some u) (hu : ∀ z, u ≠ .int .i64 z) : Ints (W.setCell p v) x xs := by
  obtain ⟨A, c, rfl, h1, h2, h3⟩ := h
  exact ⟨A, c, rfl, h1, h2, h3.setOther p u v hp hu⟩
theorem TabAt.setOther {W : World} {S P be bl : Nat} (h : TabAt W S P be bl) (p : Addr) (u v : Value) (hp : W.cell? p = some u) (hu : ∀ z, u ≠ .int .i64 z) : TabAt (W.setCell p v) S P be bl := by
  refine ⟨by simpa using h.1, by simpa using h.2.1, fun i hi => ?_, fun x hx h0 => ?_⟩
  · rw [World.cell?_setCell_other W p _ v (fun e2 => ?_)]
    · exact h.2.2.1 i hi
    · have := h.2.2.1 i hi
      rw [← e2, hp] at this
      exact hu _ (Option.some.inj this)
  · rw [World.cell?_setCell_other W p _ v (fun e2 => ?_)]
    · exact h.2.2.2 x hx h0
    · have := h.2.2.2 x hx h0
      rw [← e2, hp] at this
      exact hu _ (Option.some.inj this)
theorem Ints.noInt {w : World} {v : Value} {xs : List Int} (h : Ints w v xs) (z : Int) : v ≠ .int .i64 z := by
  obtain ⟨A, c, rfl, _⟩ := h; intro e; cases e
theorem Ints.n {w : World} {v : Value} {l : List Nat} (h : Ints w v (zl l)) : ∃ A n c, v = .slice A n c ∧ n = l.length ∧ n ≤ c ∧ c ≤ maxLen ∧ RD w A (zl l) := by
  obtain ⟨A, c, rfl, h1, h2, h3⟩ := h
  exact ⟨A, _, c, rfl, zl_length l, h1, h2, h3⟩
theorem Ints.lenV {w : World} {v : Value} {l : List Nat} (h : Ints w v (zl l)) : lenV v = l.length := by
  obtain ⟨A, c, rfl, _⟩ := h; exact zl_length l
theorem CellsAt.one {W : World} {b : Nat} {u v : Value} (h : CellsAt W b [u]) : CellsAt (W.setCell ⟨b, 0, none⟩ v) b [v] := by
  refine ⟨by simpa using h.1, fun i hi => ?_⟩
  obtain rfl : i = 0 := by simp at hi; omega
  exact World.cell?_setCell_same W _ _ (h.2 0 (by simp))
theorem GR.next {w wr W : World} {C S P be bl rb ab : Nat} {av bv vr : Value} {a b G : List Nat} (hv : VF C S P) (h : GR w wr C S P be bl rb ab av bv a b G) (hW : Below wr.heap.size wr W) (h0 : b ≠ []) (hr : Ints W vr (zl (divRest S P a b))) :
    GR w (W.setCell ⟨ab, 0, none⟩ bv) C S P be bl rb ab bv vr b (divRest S P a b) G := by
  have hA := h.A.below hW
  have hc : W.cell? ⟨ab, 0, none⟩ = some av := hA.2 0 (by simp)
  have hu := h.ha.noInt
  have hl : 1 ≤ b.length := List.length_pos_iff.2 h0
  have hlt := divRest_length hv h.la h.lb hl (trimmed_last h.tb h0)
  exact ⟨(bwStep h.B hW).setCell h.h1 _, (h.R.below hW).other _ _ h.ne, hA.one, by rw [World.frozen?_setCell, hW.frozen h.A.1]; exact h.AF, (h.T.below hW).setOther _ _ _ hc hu,
    (h.hb.below hW).setOther _ _ _ hc hu, hr.setOther _ _ _ hc hu, h.lb, divRest_lt hv h.la, h.tb, divRest_trimmed hv a b, h.nb, by have := h.nb; omega,
    by rw [← gcdF_step hv h.la h.lb h.tb h0]; exact h.g, h.h1, h.ne⟩
set_option maxHeartbeats 2000000 in
theorem pGCD_any (c s p : Int) (q r : Sl) (w : World) (hp : p ≤ 9223372036854775807) (hq : q.R w) (hr : r.R w) :
    Calls Try.prog 24 #[fldv c s p, q.v, r.v] w (RetL w (gcdRes c s p q.xs r.xs)) := by
  obtain ⟨A, n, ca, xs⟩ := q
  obtain ⟨B, m, cb, ys⟩ := r
  have hbx : Below w.heap.size w ((w.alloc (fldB c s p)).alloc (.cells #[.slice A n ca] 24)) := ((Below.refl _ _).alloc (Nat.le_refl _) _).alloc (by simp) _
  have HBX := Lib.hid hbx
  have HQ := Lib.hid (hq.below hbx)
  have HR := Lib.hid (hr.below hbx)
  show Calls Try.prog 24 #[fldv c s p, .slice A n ca, .slice B m cb] w (RetL w (gcdRes c s p xs ys))
  have CB : Hid (CellsAt ((w.alloc (fldB c s p)).alloc (.cells #[.slice A n ca] 24)) w.heap.size (fldC c s p)) := (CellsAt.new _ _ _ _ rfl).alloc _
  have CA : Hid (CellsAt ((w.alloc (fldB c s p)).alloc (.cells #[.slice A n ca] 24)) (w.heap.size + 1) [.slice A n ca]) := CellsAt.new _ _ _ _ (by simp)
  cases hV : (pvB c s p xs && pvB c s p ys) with
  | false =>
    have HV := Lib.hid hV
    have HF : Hid (gcdRes c s p xs ys = ([], 1)) := by show _ = _; unfold gcdRes; rw [hV]; rfl
    clear hV hq hr hbx
    go_enter Try.func24, Try.ntmps24
    go_wp2_with (go_at_call 49; refine (pvalid2 c s p A B n ca m cb xs ys _ _ 24 hp (by simp) HQ.out HR.out).mono ?_; rintro e w1 ⟨rfl, hb1⟩; rw [HV.out]; have HB1 := Lib.hid hb1; clear hb1)
    go_ret2
    exact RetL.mk HF.out (Ints.nil_ _) (bwStep HBX.out HB1.out)
  | true =>
    have hV' := hV
    rw [Bool.and_eq_true] at hV'
    obtain ⟨C, S, P, a, rfl, rfl, rfl, rfl, hv, hla, hta, hna⟩ := pvB_nat hV'.1
    obtain ⟨C', S', P', b, e1, e2, e3, rfl, -, hlb, htb, hnb⟩ := pvB_nat hV'.2
    obtain rfl : S = S' := by omega
    have HV := Lib.hid hV
    have HVF := Lib.hid hv
    have HLA := Lib.hid hla
    have HLB := Lib.hid hlb
    have HTA := Lib.hid hta
    have HTB := Lib.hid htb
    have HNN : Hid (n = a.length) := hq.hn.trans (zl_length a)
    have HMM : Hid (m = b.length) := hr.hn.trans (zl_length b)
    have HNA := Lib.hid hna
    have HNB := Lib.hid hnb
    have HF : Hid (gcdRes C S P (zl a) (zl b) = (zl (monL S P (gcdF S P b.length a b)), 0)) := by
      show _ = _; unfold gcdRes; rw [hV, if_pos rfl, nl_zl, nl_zl]; rfl
    clear hV hV' e1 e2 e3 hv hla hlb hta htb hna hnb hq hr hbx
    go_enter Try.func24, Try.ntmps24
    go_wp2_with (first
          | (go_at_call 49; refine (pvalid2 C S P A B n ca m cb _ _ _ _ 24 hp (by simp) HQ.out HR.out).mono ?_; rintro e w1 ⟨rfl, hb1⟩; rw [HV.out]; have HB1 := Lib.hid hb1; clear hb1; obtain ⟨f0, f1, f2⟩ := fldC_cells (CB.out.below HB1.out))
          | (go_at_call 50; refine (newA_any C S P _ HVF.out).mono ?_; rintro e w2 ⟨be, bl, rfl, ht, hb2⟩; have HT := Lib.hid ht; have HB2 := Lib.hid hb2; clear ht hb2))
    have HG : Hid (GR w (w2.alloc (arc C S be bl)) C S P be bl w2.heap.size (w.heap.size + 1) (.slice A n ca) (.slice B m cb) a b (gcdF S P b.length a b)) := by
      have hq1 := ((HQ.out.below HB1.out).below HB2.out).below ((Below.refl _ _).alloc (Nat.le_refl _) (arc C S be bl))
      have hr1 := ((HR.out.below HB1.out).below HB2.out).below ((Below.refl _ _).alloc (Nat.le_refl _) (arc C S be bl))
      have ca1 := ((CA.out.below HB1.out).below HB2.out)
      have hlt := ca1.1
      refine ⟨bwAlloc (bwStep (bwStep HBX.out HB1.out) HB2.out) _, CellsAt.new _ _ _ _ rfl, ca1.alloc _, ?_, HT.out.alloc _, ?_, ?_, HLA.out, HLB.out, HTA.out, HTB.out, HNA.out, HNB.out, rfl, by omega, by omega⟩
      · have z : Below ((w.alloc (fldB C S P)).alloc (.cells #[.slice A n ca] 24)).heap.size ((w.alloc (fldB C S P)).alloc (.cells #[.slice A n ca] 24)) (w2.alloc (arc C S be bl)) := bwAlloc (bwStep HB1.out HB2.out) _
        rw [z.frozen (by simp)]
        exact World.frozen?_alloc_at _ _ _ _ (by simp)
      · exact hq1.ints
      · exact hr1.ints
    clear f0 f1 f2
    generalize w2.alloc (arc C S be bl) = w3 at *
    generalize w2.heap.size = rb at *
    go_loopw [2] (fun bv wr => ∃ (av : Value) (a' b' : List Nat), Hid (GR w wr C S P be bl rb (w.heap.size + 1) av bv a' b' (gcdF S P b.length a b))) (fun bv _ => lenV bv)
    case atStart => exact ⟨_, _, _, HG⟩
    case round =>
      obtain ⟨av, a', b', hG⟩ := hrel
      obtain ⟨A', n1, c', rfl, hn1, -, -, h3⟩ := hG.out.ha.n
      obtain ⟨B', m1, d', rfl, hm1, -, -, g3⟩ := hG.out.hb.n
      have hca : wr.cell? ⟨w.heap.size + 1, 0, none⟩ = some (.slice A' n1 c') := hG.out.A.2 0 (by simp)
      have hcf := hG.out.AF
      obtain ⟨r0, r1, r2, r3⟩ := arcv_cells hG.out.R
      have HA3 := Lib.hid h3
      have HB3 := Lib.hid g3
      have HN1 := Lib.hid hn1
      have HM1 := Lib.hid hm1
      have hn17 : n1 ≤ 4097 := by have := hG.out.na; omega
      have hm17 : m1 ≤ 4097 := by have := hG.out.nb; omega
      clear h3 g3 hn1 hm1
      by_cases hm0 : m1 = 0
      · subst hm0
        have hbe : b' = [] := List.eq_nil_of_length_eq_zero HM1.out.symm
        have HGE : Hid (gcdF S P b.length a b = a') := by
          show _ = _
          rw [← hG.out.g, hbe]; exact gcdF_nil _ _ _ _
        have HFN : Hid (gcdRes C S P (zl a) (zl b) = (zl ((List.range n1).map fun k => fmulN S P (a'.getD k 0) (finvN S P (a'.getD (a'.length - 1) 0))), 0)) := by
          show _ = _
          rw [HF.out, HGE.out, HN1.out]; rfl
        have HCL : Hid (∀ W k, Abv wr W → k < n1 → Calls Try.prog 68 #[.int .i64 (k : Nat), .int .i64 ((a'.getD k 0 : Nat) : Int), .pointer (some ⟨rb, 0, none⟩), .pointer (some ⟨w.heap.size + 1, 0, none⟩)] W (fun e W' => e = .returned (.int .i64 ((fmulN S P (a'.getD k 0) (finvN S P (a'.getD (a'.length - 1) 0)) : Nat) : Int)) ∧ Below W.heap.size W W')) := by
          show ∀ W k, _
          intro W k hW hk
          have hne : a' ≠ [] := fun e => by have := HN1.out; rw [e] at this; simp at this; omega
          exact gcd1_any C S P be bl a' A' n1 c' rb _ _ _ W HVF.out (hG.out.la k) hG.out.la HN1.out (by omega) hn17 (trimmed_last hG.out.ta hne) (hG.out.T.below hW) (hG.out.R.below hW) (hG.out.A.below hW) (HA3.out.below hW)
        clear hbe
        go_wp2_with (go_at_call 67; refine (transGCD_any _ _ (fun k => fmulN S P (a'.getD k 0) (finvN S P (a'.getD (a'.length - 1) 0))) a' n1 HN1.out A' c' _ (by omega) HA3.out HCL.out).mono ?_; rintro e w4 ⟨v4, rfl, hI, hb4⟩; have HI := Lib.hid hI; have HB4 := Lib.hid hb4; clear hI hb4)
        go_ret2
        exact RetL.mk HFN.out HI.out (bwStep hG.out.B HB4.out)
      · have HNE : Hid (b' ≠ []) := fun e => by have := HM1.out; rw [e] at this; simp at this; omega
        have hm1 : 0 < m1 := by omega
        clear hm0
        go_wp2_with (go_at_call 65; refine (adivide_n C S P be bl a' b' n1 m1 HN1.out HM1.out A' B' c' d' _ HVF.out hG.out.la hG.out.lb (by have := hG.out.na; omega) hG.out.nb hG.out.tb HNE.out hG.out.T HA3.out HB3.out).mono ?_; rintro e w4 ⟨vq, vr, rfl, hIq, hIr, hb4⟩; have HI := Lib.hid hIr; have HB4 := Lib.hid hb4; clear hIq hIr hb4; have st1 : w4.cell? ⟨w.heap.size + 1, 0, none⟩ = some (.slice A' n1 c') := (hG.out.A.below HB4.out).2 0 (by simp); have st2 : w4.frozen? ⟨w.heap.size + 1, 0, none⟩ = false := (HB4.out.frozen hG.out.A.1).trans hcf)
        refine ⟨⟨_, _, _, hG.out.next HVF.out HB4.out HNE.out HI.out⟩, ?_⟩
        have hlt := divRest_length HVF.out hG.out.la hG.out.lb (List.length_pos_iff.2 HNE.out) (trimmed_last hG.out.tb HNE.out)
        show lenV vr < m1
        rw [HI.out.lenV, HM1.out]
        exact hlt
end Go.Proofs.Ythpcneeidhmdkaa
namespace Go.Proofs.Ythpcneeidhmdkaa
open Go.RowKit
set_option linter.unusedVariables false
/-! a list that grows by append -/
structure OwnL (w wr : World) (v : Value) (l : List Nat) : Prop where
  B : Abv w wr
  O : wr.ownsRow w.heap.size 3 1 v l.length ((zl l).map (Value.int .i64))
theorem ownsRow_below {W W' : World} {base : Nat} {e : TypeId} {v : Value} {n : Nat} {xs : List Value} (h : W.ownsRow base e 1 v n xs) (hb : Below W.heap.size W W') : W'.ownsRow base e 1 v n xs := by
  refine ⟨h.1, ?_⟩
  rcases h.2 with h2 | ⟨g, cap, cur, h1, h2, h3, h4⟩
  · exact .inl h2
  · exact .inr ⟨g, cap, cur, h1, h2, (hb.block _ (lt_of_heap h3)).trans h3, h4⟩
theorem OwnL.below {w wr W : World} {v : Value} {l : List Nat} (h : OwnL w wr v l) (hb : Below wr.heap.size wr W) : OwnL w W v l := ⟨bwStep h.B hb, ownsRow_below h.O hb⟩
theorem OwnL.start (w : World) : OwnL w w (.slice none 0 0) [] := ⟨Below.refl _ _, World.ownsRow_nil _ _ _ _⟩
theorem OwnL.push {w wr W w1 : World} {v v1 : Value} {l : List Nat} {x : Nat} {o : Obj} (h : OwnL w wr v l) (hW : Below wr.heap.size wr W) (hown : w1.ownsRow w.heap.size 3 1 v1 (l.length + 1) (((zl l) ++ [(x : Int)]).map (Value.int .i64))) (hg : (W.alloc o).grownBy w1 v.ownBlock) : OwnL w w1 v1 (l ++ [x]) := by
  refine ⟨(bwAlloc (bwStep h.B hW) o).grown hg (by have := (bwStep h.B hW).size; simp; omega) (fun k hk => (h.O.lt k hk).1), ?_⟩
  rw [List.length_append]
  have e : zl (l ++ [x]) = zl l ++ [(x : Int)] := by unfold zl; simp
  rw [e]; exact hown
theorem OwnL.ints {w wr : World} {v : Value} {l : List Nat} (h : OwnL w wr v l) : Ints wr v (zl l) := Ints.of_own h.O
theorem RD.one (W : World) (x : Int) (t : TypeId) (b : Nat) (hb : b = W.heap.size) : RD (W.alloc (.cells #[.int .i64 x] t)) (some ⟨b, 0, none⟩) [x] := fun _ => by
  refine ⟨_, rfl, by simp; omega, fun j hj => ?_⟩
  obtain rfl : j = 0 := by simp at hj; omega
  have := (CellsAt.new W #[.int .i64 x] t b hb).2 0 (by simp)
  rw [add_plain]; exact this
/-- the roots among the first k elements -/
def rootsL (s p : Nat) (l : List Nat) (k : Nat) : List Nat := (List.range k).filter fun x => hornN s p x l == 0
theorem rootsL_yes {s p : Nat} {l : List Nat} {k : Nat} (h : hornN s p k l = 0) : rootsL s p l (k + 1) = rootsL s p l k ++ [k] := by
  unfold rootsL; rw [List.range_succ, List.filter_append]; simp [h]
theorem rootsL_no {s p : Nat} {l : List Nat} {k : Nat} (h : hornN s p k l ≠ 0) : rootsL s p l (k + 1) = rootsL s p l k := by
  unfold rootsL; rw [List.range_succ, List.filter_append]; simp [h]
theorem rootsL_le (s p : Nat) (l : List Nat) (k : Nat) : (rootsL s p l k).length ≤ k := by
  unfold rootsL
  exact Nat.le_trans (List.length_filter_le _ _) (by simp)
def rootsRes (c s p : Int) (xs : List Int) : List Int × Int :=
  if pvB c s p xs = true then (if xs = [] then ([], 12) else (zl (rootsL s.toNat p.toNat (nl xs) s.toNat), 0)) else ([], 1)
theorem value_n (C S P be bl x : Nat) (l : List Nat) (n : Nat) (hnn : n = l.length) (A : Option Addr) (ca : Nat) (w : World) (hv : VF C S P) (hx : x < S) (hl : LtAll S l) (hn : l.length ≤ 4097) (ht : TabAt w S P be bl) (ha : RD w A (zl l)) :
    Calls Try.prog 64 #[arv C S be bl, .slice A n ca, .int .i64 x] w fun e w' => e = .returned (.int .i64 ((hornN S P x l : Nat) : Int)) ∧ Below w.heap.size w w' := by
  subst hnn; exact value_any C S P be bl x l A ca w hv hx hl hn ht ha
set_option maxHeartbeats 2000000 in
theorem pRoots_any (c s p : Int) (q : Sl) (w : World) (hp : p ≤ 9223372036854775807) (hq : q.R w) :
    Calls Try.prog 31 #[fldv c s p, q.v] w (RetL w (rootsRes c s p q.xs)) := by
  obtain ⟨A, n, ca, xs⟩ := q
  obtain ⟨i0, hi, hz0, hz1, hz2⟩ := info_parts intInfo
  have hbx : Below w.heap.size w (w.alloc (fldB c s p)) := (Below.refl _ _).alloc (Nat.le_refl _) _
  have HQ := Lib.hid (hq.below hbx)
  show Calls Try.prog 31 #[fldv c s p, .slice A n ca] w (RetL w (rootsRes c s p xs))
  have CB : Hid (CellsAt (w.alloc (fldB c s p)) w.heap.size (fldC c s p)) := CellsAt.new _ _ _ _ rfl
  cases hV : pvB c s p xs with
  | false =>
    have HV := Lib.hid hV
    have HF : Hid (rootsRes c s p xs = ([], 1)) := by show _ = _; unfold rootsRes; rw [hV]; rfl
    clear hV hq hbx
    go_enter Try.func31, Try.ntmps31
    go_wp2_with (go_at_call 49; refine (pvalid1 c s p A n ca xs _ _ 24 hp (by simp) HQ.out).mono ?_; rintro e w1 ⟨rfl, hb1⟩; rw [HV.out]; have HB1 := Lib.hid hb1; clear hb1)
    go_ret2
    exact RetL.mk HF.out (Ints.nil_ _) (bw1 HB1.out)
  | true =>
    obtain ⟨C, S, P, a, rfl, rfl, rfl, rfl, hv, hla, hta, hna⟩ := pvB_nat hV
    have HV := Lib.hid hV
    have hnn : n = a.length := hq.hn.trans (zl_length a)
    by_cases ha0 : a = []
    · have HF : Hid (rootsRes C S P (zl a) = ([], 12)) := by show _ = _; unfold rootsRes; rw [if_pos hV, ha0]; rfl
      have hn0 : n = 0 := by rw [hnn, ha0]; rfl
      subst hn0
      clear hV hv hla hta hna hnn ha0 hq hbx
      go_enter Try.func31, Try.ntmps31
      go_wp2_with (go_at_call 49; refine (pvalid1 C S P A 0 ca _ _ _ 24 hp (by simp) HQ.out).mono ?_; rintro e w1 ⟨rfl, hb1⟩; rw [HV.out]; have HB1 := Lib.hid hb1; clear hb1)
      go_ret2
      exact RetL.mk HF.out (Ints.nil_ _) (bw1 HB1.out)
    · have HF : Hid (rootsRes C S P (zl a) = (zl (rootsL S P a S), 0)) := by
        show _ = _
        unfold rootsRes
        rw [if_pos hV, if_neg (fun e => ha0 (by have := congrArg nl e; rw [nl_zl] at this; exact this)), nl_zl]; rfl
      have hn1 : 0 < n := by rw [hnn]; exact List.length_pos_iff.2 ha0
      have hn7 : n ≤ 4097 := by omega
      have hS := hv.le
      have hS2 := hv.two_le
      have z1 : ((n : Int) == 0) = false := by rw [beq_eq_false_iff_ne]; omega
      have HVF := Lib.hid hv
      have HLA := Lib.hid hla
      have HNN := Lib.hid hnn
      have HNA := Lib.hid hna
      clear hV hv hla hta hna hnn ha0 hq hbx
      go_enter Try.func31, Try.ntmps31
      go_wp2_with (first
          | (go_at_call 49; refine (pvalid1 C S P A n ca _ _ _ 24 hp (by simp) HQ.out).mono ?_; rintro e w1 ⟨rfl, hb1⟩; rw [HV.out]; have HB1 := Lib.hid hb1; clear hb1; obtain ⟨f0, f1, f2⟩ := fldC_cells (CB.out.below HB1.out); have flt := (CB.out.below HB1.out).1)
          | (go_at_call 50; refine (newA_any C S P _ HVF.out).mono ?_; rintro e w2 ⟨be, bl, rfl, ht, hb2⟩; have HT := Lib.hid ht; have HB2 := Lib.hid hb2; clear ht hb2; have h1 : w2.cell? ⟨w.heap.size, 1, none⟩ = some (.int .i64 S) := (HB2.out.cell flt).trans f1; have flt2 : w.heap.size < w2.heap.size := Nat.lt_of_lt_of_le flt HB2.out.size))
      have HX : Hid (CellsAt (w2.alloc (arc C S be bl)) w2.heap.size (arcv C S be bl)) := CellsAt.new _ _ _ _ rfl
      have HT3 := Lib.hid (HT.out.alloc (arc C S be bl))
      have HQ3 : Hid (RD (w2.alloc (arc C S be bl)) A (zl a)) := ((HQ.out.below HB1.out).below HB2.out).rd.alloc _
      have HB3 : Hid (Below w.heap.size w (w2.alloc (arc C S be bl))) := bwAlloc (bw1 (bwStep HB1.out HB2.out)) _
      clear f0 f1 f2 flt h1 flt2 HB1 HB2 HT HQ CB
      generalize w2.alloc (arc C S be bl) = w3 at *
      generalize w2.heap.size = rb at *
      go_loopw [7, 21] (fun v i wr => ∃ k : Nat, k ≤ S ∧ i = .int .i64 k ∧ Hid (OwnL w3 wr v (rootsL S P a k))) (fun _ i _ => S - (intOf i).toNat)
      case atStart => exact ⟨0, Nat.zero_le _, rfl, OwnL.start _⟩
      case round =>
        obtain ⟨k, hk, rfl, hO⟩ := hrel
        by_cases hlt : k < S
        · obtain ⟨r0, r1, r2, r3⟩ := arcv_cells (HX.out.below hO.out.B)
          have HY := Lib.hid (@rootsL_yes S P a k)
          have HN0 := Lib.hid (@rootsL_no S P a k)
          have HLE := Lib.hid (rootsL_le S P a k)
          generalize hz : hornN S P k a = z at *
          have HZ := Lib.hid hz
          clear hz
          by_cases hz0 : z = 0
          · subst hz0
            have HYY := Lib.hid (HY.out rfl)
            go_wp2_with (first
              | (go_at_call 64; refine (value_n C S P be bl k a n HNN.out A ca _ HVF.out hlt HLA.out HNA.out (HT3.out.below hO.out.B) (HQ3.out.below hO.out.B)).mono ?_; rintro e w4 ⟨rfl, hb4⟩; rw [HZ.out]; have HB4 := Lib.hid hb4; clear hb4)
              | (at_builtin; refine wpList_append_read rfl _ _ _ rfl w3.heap.size 3 i0 _ Try.underlying24 hi hz0 hz1 hz2 rfl _ (rootsL S P a k).length (zl (rootsL S P a k)) rfl ((ownsRow_below hO.out.O HB4.out).alloc _) (some ⟨w4.heap.size, 0, none⟩) 1 1 [(k : Int)] rfl rfl (RD.one _ _ _ _ rfl) (by have := HLE.out; omega) (by have := (bwStep hO.out.B HB4.out).size; simp; omega) ?_; intro v5 w5 hown hg hat; have HP := Lib.hid (hO.out.push HB4.out hown hg); clear hown hg hat))
            exact ⟨⟨k + 1, by omega, by go_num, by rw [HYY.out]; exact HP.out⟩, by simp [intOf]; omega⟩
          · have HNN0 := Lib.hid (HN0.out hz0)
            have z2 : ((z : Int) == 0) = false := by rw [beq_eq_false_iff_ne]; omega
            clear hz0
            go_wp2_with (go_at_call 64; refine (value_n C S P be bl k a n HNN.out A ca _ HVF.out hlt HLA.out HNA.out (HT3.out.below hO.out.B) (HQ3.out.below hO.out.B)).mono ?_; rintro e w4 ⟨rfl, hb4⟩; rw [HZ.out]; have HB4 := Lib.hid hb4; clear hb4)
            exact ⟨⟨k + 1, by omega, by go_num, by rw [HNN0.out]; exact hO.out.below HB4.out⟩, by simp [intOf]; omega⟩
        · obtain rfl : k = S := by omega
          go_wp2
          go_ret2
          exact RetL.mk HF.out hO.out.ints (bwStep HB3.out hO.out.B)
end Go.Proofs.Ythpcneeidhmdkaa
namespace Go.Proofs.Ythpcneeidhmdkaa
open Go.RowKit
set_option linter.unusedVariables false
/-! interpolation -/
def ddIn (s p : Nat) (xs d : List Nat) (j : Nat) : Nat → List Nat
  | 0 => d
  | t + 1 => (ddIn s p xs d j t).set (xs.length - 1 - t) (fmulN s p (fsubN s p ((ddIn s p xs d j t).getD (xs.length - 1 - t) 0) ((ddIn s p xs d j t).getD (xs.length - 1 - t - 1) 0)) (finvN s p (fsubN s p (xs.getD (xs.length - 1 - t) 0) (xs.getD (xs.length - 1 - t - j) 0))))
def ddO (s p : Nat) (xs ys : List Nat) : Nat → List Nat
  | 0 => ys
  | j + 1 => ddIn s p xs (ddO s p xs ys j) (j + 1) (xs.length - (j + 1))
def nwt (s p : Nat) (xs d : List Nat) : Nat → List Nat
  | 0 => []
  | k + 1 => extL s p (nwt s p xs d k) (xs.getD (xs.length - 1 - k) 0) (d.getD (xs.length - 1 - k) 0)
def interpL (s p : Nat) (xs ys : List Nat) : List Nat := trimL (nwt s p xs (ddO s p xs ys (xs.length - 1)) xs.length)
def interpRes (c s p : Int) (xs ys : List Int) : List Int × Int :=
  if (vldB c s p && inB s xs && inB s ys) = true then (if xs.length = ys.length then (if xs.Nodup then (zl (interpL s.toNat p.toNat (nl xs) (nl ys)), 0) else ([], 30)) else ([], 7)) else ([], 1)
theorem ddIn_length (s p : Nat) (xs d : List Nat) (j t : Nat) : (ddIn s p xs d j t).length = d.length := by
  induction t with
  | zero => rfl
  | succ t ih => unfold ddIn; rw [List.length_set, ih]
theorem ddO_length (s p : Nat) (xs ys : List Nat) (j : Nat) : (ddO s p xs ys j).length = ys.length := by
  induction j with
  | zero => rfl
  | succ j ih => unfold ddO; rw [ddIn_length, ih]
theorem nwt_length (s p : Nat) (xs d : List Nat) (k : Nat) : (nwt s p xs d k).length = k := by
  induction k with
  | zero => rfl
  | succ k ih => unfold nwt extL; rw [eL_length, ih]
section
variable {c s p : Nat} (h : VF c s p)
include h
theorem ddIn_lt {xs d : List Nat} (hd : LtAll s d) (j t : Nat) : LtAll s (ddIn s p xs d j t) := by
  induction t with
  | zero => exact hd
  | succ t ih => exact ltAll_set ih _ _ (fmul_lt h _ _)
theorem ddO_lt {xs ys : List Nat} (hy : LtAll s ys) (j : Nat) : LtAll s (ddO s p xs ys j) := by
  induction j with
  | zero => exact hy
  | succ j ih => exact ddIn_lt h ih _ _
theorem nwt_lt {xs d : List Nat} (hx : LtAll s xs) (hd : LtAll s d) (k : Nat) : LtAll s (nwt s p xs d k) := by
  induction k with
  | zero => intro i; have := h.two_le; simp [nwt, List.getD]; omega
  | succ k ih => exact eL_lt h ih (hx _) (hd _) _
theorem subN_ne {x y : Nat} (hx : x < s) (hy : y < s) (hne : x ≠ y) : fsubN s p x y ≠ 0 := by
  intro e
  have := subN_add h hx hy
  rw [e, zero_addN h hy] at this
  exact hne this.symm
end
theorem nodup_getD {l : List Nat} (h : l.Nodup) {i j : Nat} (hi : i < l.length) (hj : j < l.length) (hne : i ≠ j) : l.getD i 0 ≠ l.getD j 0 := by
  have key : ∀ i j (hi : i < l.length) (hj : j < l.length), i < j → l[i] ≠ l[j] := List.pairwise_iff_getElem.1 h
  have e1 : l.getD i 0 = l[i] := by simp [List.getD, hi]
  have e2 : l.getD j 0 = l[j] := by simp [List.getD, hj]
  rw [e1, e2]
  rcases Nat.lt_or_ge i j with h1 | h1
  · exact key i j hi hj h1
  · exact fun e => key j i hj hi (by omega) e.symm
theorem nodup_zl (l : List Nat) : (zl l).Nodup ↔ l.Nodup := by
  unfold zl List.Nodup
  rw [List.pairwise_map]
  constructor
  · exact fun h => h.imp fun hab e => hab (by rw [e])
  · exact fun h => h.imp fun hab e => hab (by omega)
/-- is element k among those ahead of it? -/
def seenB (l : List Nat) (k x : Nat) : Bool := decide (x ∈ l.take k)
theorem seenB_succ (l : List Nat) (k x : Nat) (hk : k < l.length) : seenB l (k + 1) x = if x = l.getD k 0 then true else seenB l k x := by
  unfold seenB
  have e : l.getD k 0 = l[k] := by simp [List.getD, hk]
  rw [List.take_succ_eq_append_getElem hk, e]
  by_cases h : x = l[k]
  · rw [if_pos h, decide_eq_true_iff, List.mem_append]; right; rw [h]; exact List.mem_singleton.2 rfl
  · rw [if_neg h, decide_eq_decide, List.mem_append, List.mem_singleton]
    exact ⟨fun hx => hx.resolve_right h, .inl⟩
theorem nodup_take_succ (l : List Nat) (k : Nat) (hk : k < l.length) : (l.take (k + 1)).Nodup ↔ (l.take k).Nodup ∧ l.getD k 0 ∉ l.take k := by
  rw [List.take_succ_eq_append_getElem hk]
  have e : l.getD k 0 = l[k] := by simp [List.getD, hk]
  rw [e, List.nodup_append]
  constructor
  · rintro ⟨h1, _, h3⟩
    exact ⟨h1, fun hm => h3 _ hm _ (by simp) rfl⟩
  · rintro ⟨h1, h2⟩
    refine ⟨h1, by simp, fun a ha b hb e => ?_⟩
    obtain rfl : b = l[k] := by simpa using hb
    subst e; exact h2 ha
def BRowAt (w : World) (b n : Nat) (f : Nat → Bool) : Prop := b < w.heap.size ∧ ∀ i, i < n → w.cell? ⟨b, i, none⟩ = some (.bool (f i)) ∧ w.frozen? ⟨b, i, none⟩ = false
theorem BRowAt.below {W W' : World} {b n : Nat} {f : Nat → Bool} (h : BRowAt W b n f) (hb : Below W.heap.size W W') : BRowAt W' b n f :=
  ⟨Nat.lt_of_lt_of_le h.1 hb.size, fun i hi => ⟨(hb.cell h.1).trans (h.2 i hi).1, (hb.frozen h.1).trans (h.2 i hi).2⟩⟩
theorem BRowAt.set {W : World} {b n : Nat} {f : Nat → Bool} (h : BRowAt W b n f) (i : Nat) (v : Bool) : BRowAt (W.setCell ⟨b, i, none⟩ (.bool v)) b n (fun j => if j = i then v else f j) := by
  refine ⟨by simpa using h.1, fun j hj => ⟨?_, by rw [World.frozen?_setCell]; exact (h.2 j hj).2⟩⟩
  by_cases e : j = i
  · subst e
    rw [World.cell?_setCell_same W _ _ (h.2 j hj).1]
    show _ = some (Value.bool (if j = j then v else f j))
    rw [if_pos rfl]
  · rw [World.cell?_setCell_other W _ _ _ (fun e2 => e (by injection e2 with _ e3; exact e3.symm))]
    show _ = some (Value.bool (if j = i then v else f j))
    rw [if_neg e]
    exact (h.2 j hj).1
theorem BRowAt.ext {W : World} {b n : Nat} {f g : Nat → Bool} (h : BRowAt W b n f) (e : ∀ i, i < n → f i = g i) : BRowAt W b n g := ⟨h.1, fun i hi => by rw [← e i hi]; exact h.2 i hi⟩
theorem BRowAt.made (W : World) (b n : Nat) (t : TypeId) (hb : b = W.heap.size) : BRowAt (W.alloc (.cells (madeCells #[Value.bool false] n) t)) b n (fun _ => false) := by
  have hh : (W.alloc (.cells (madeCells #[Value.bool false] n) t)).heap[b]? = some (.cells (madeCells #[Value.bool false] n) t) := by
    rw [hb]; exact heap_alloc_new _ _
  refine ⟨lt_of_heap hh, fun i hi => ⟨?_, frozen_of_row _ _ _ _ _ hh⟩⟩
  rw [cell_of_row _ _ _ _ _ _ hh]
  have : (madeCells #[Value.bool false] n) = (List.replicate n (Value.bool false)).toArray := by
    apply Array.ext'; rw [toList_madeCells_one]
  rw [this]
  simp [hi]
theorem boolInfo : (Try.prog.info? 4).map (fun i => (i.zero, i.size, i.bytes)) = some (some (.bool false), 1, 1) := by kernel_rfl
end Go.Proofs.Ythpcneeidhmdkaa
namespace Go.Proofs.Ythpcneeidhmdkaa
open Go.RowKit
set_option linter.unusedVariables false
theorem aextend_n (C S P be bl r c : Nat) (l : List Nat) (n : Nat) (hnn : n = l.length) (A : Option Addr) (ca : Nat) (w : World) (hv : VF C S P) (hl : LtAll S l) (hr : r < S) (hc : c < S) (hn : l.length ≤ 8193)
    (ht : TabAt w S P be bl) (ha : RD w A (zl l)) :
    Calls Try.prog 58 #[arv C S be bl, .slice A n ca, .int .i64 r, .int .i64 c] w fun e w' => ∃ v, e = .returned v ∧ Ints w' v (zl (extL S P l r c)) ∧ Below w.heap.size w w' := by
  subst hnn; exact aextend_any C S P be bl r c l A ca w hv hl hr hc hn ht ha
structure IS (w wr : World) (A : Option Addr) (d : List Nat) : Prop where
  B : Abv w wr
  O : ∀ g, A = some ⟨g, 0, none⟩ → RowAt wr g d
  hA : 0 < d.length → ∃ g, A = some ⟨g, 0, none⟩ ∧ w.heap.size ≤ g
theorem IS.set {w wr W : World} {g : Nat} {d : List Nat} (h : IS w wr (some ⟨g, 0, none⟩) d) (hW : Below wr.heap.size wr W) (hg : w.heap.size ≤ g) (i v : Nat) : IS w (W.setCell ⟨g, i, none⟩ (.int .i64 (v : Int))) (some ⟨g, 0, none⟩) (d.set i v) :=
  ⟨(bwStep h.B hW).setCell hg _, fun g' e => by
    have e1 : g' = g := by injection e with e; injection e with e; exact e.symm
    subst e1
    exact ((h.O _ rfl).below hW).set i v, fun _ => ⟨g, rfl, hg⟩⟩
theorem IS.row {w wr : World} {A : Option Addr} {d : List Nat} (h : IS w wr A d) : RD wr A (zl d) := fun hn => by
  obtain ⟨g, rfl, _⟩ := h.hA (by rw [zl_length] at hn; exact hn)
  exact (h.O g rfl).rd hn
theorem IS.own {w wr : World} {e : TypeId} {v : Value} {n : Nat} {d : List Nat} (hB : Abv w wr) (h : wr.ownsRow w.heap.size e 1 v n ((zl d).map (Value.int .i64))) : ∃ A c, v = .slice A n c ∧ n ≤ c ∧ c ≤ maxLen ∧ IS w wr A d := by
  have hl : d.length = n := by have := h.1; simpa [zl_length] using this
  rcases Nat.eq_zero_or_pos n with h0 | h0
  · obtain ⟨A, c, rfl, h1, h2, h3⟩ := own_any h
    have : d = [] := List.eq_nil_of_length_eq_zero (by omega)
    subst this
    refine ⟨A, c, rfl, h1, h2, hB, fun g e => ?_, fun hh => absurd hh (by simp)⟩
    rcases h.2 with ⟨h4, _⟩ | ⟨g', cap, cur, h4, h5, h6, _⟩
    · injection h4 with h4 _ _; rw [e] at h4; cases h4
    · injection h4 with h4 _ _
      rw [e] at h4
      injection h4 with h4
      injection h4 with h4
      subst h4
      exact ⟨lt_of_heap h6, fun i hi => absurd hi (by simp)⟩
  · obtain ⟨g, c, rfl, h1, h2, h3, h4⟩ := own_row h h0
    refine ⟨_, c, rfl, h2, h3, hB, fun g' e => ?_, fun _ => ⟨g, rfl, h1⟩⟩
    have e1 : g' = g := by injection e with e; injection e with e; exact e.symm
    subst e1; exact h4
set_option maxHeartbeats 1000000 in
theorem pInterp_no (c s p : Int) (q r : Sl) (w : World) (hp : p ≤ 9223372036854775807) (hq : q.R w) (hr : r.R w) (hV : (vldB c s p && inB s q.xs && inB s r.xs) = false) :
    Calls Try.prog 18 #[fldv c s p, q.v, r.v] w (RetL w ([], 1)) := by
  obtain ⟨A, n, ca, xs⟩ := q
  obtain ⟨B, m, cb, ys⟩ := r
  have hbx : Below w.heap.size w (w.alloc (fldB c s p)) := (Below.refl _ _).alloc (Nat.le_refl _) _
  have HQ := Lib.hid (hq.below hbx)
  have HR := Lib.hid (hr.below hbx)
  have CB : Hid (CellsAt (w.alloc (fldB c s p)) w.heap.size (fldC c s p)) := CellsAt.new _ _ _ _ rfl
  have HC : Hid (∀ w1, Below (w.alloc (fldB c s p)).heap.size (w.alloc (fldB c s p)) w1 → w1.cell? ⟨w.heap.size, 0, none⟩ = some (.int .i64 c) ∧ w1.cell? ⟨w.heap.size, 1, none⟩ = some (.int .i64 s) ∧ w1.cell? ⟨w.heap.size, 2, none⟩ = some (.int .i64 p)) := fun w1 hb => fldC_cells (CB.out.below hb)
  have EQ : Hid (∀ w1, Abv (w.alloc (fldB c s p)) w1 → Calls Try.prog 55 #[fldv c s p, .slice A n ca] w1 fun e w' => e = .returned (.bool (inB s xs)) ∧ Below w1.heap.size w1 w') := fun w1 hb => elements_n c s p xs n hq.hn A ca w1 hq.hm (HQ.out.below hb).rd
  have ER : Hid (∀ w1, Abv (w.alloc (fldB c s p)) w1 → Calls Try.prog 55 #[fldv c s p, .slice B m cb] w1 fun e w' => e = .returned (.bool (inB s ys)) ∧ Below w1.heap.size w1 w') := fun w1 hb => elements_n c s p ys m hr.hn B cb w1 hr.hm (HR.out.below hb).rd
  show Calls Try.prog 18 #[fldv c s p, .slice A n ca, .slice B m cb] w (RetL w ([], 1))
  clear hq hr hbx
  simp only at hV
  cases hv : vldB c s p with
  | false =>
    have HV := Lib.hid hv
    clear hv hV
    go_enter Try.func18, Try.ntmps18
    go_wp2_with (go_at_call 49; refine (pvalid0 c s p _ hp).mono ?_; rintro e w1 ⟨rfl, hb1⟩; rw [HV.out]; have HB1 := Lib.hid hb1; clear hb1)
    go_ret2
    exact RetL.mk rfl (Ints.nil_ _) (bw1 HB1.out)
  | true =>
    rw [hv] at hV
    have HV := Lib.hid hv
    clear hv
    cases hx : inB s xs with
    | false =>
      have HX := Lib.hid hx
      clear hx hV
      go_enter Try.func18, Try.ntmps18
      go_wp2_with (first
        | (go_at_call 49; refine (pvalid0 c s p _ hp).mono ?_; rintro e w1 ⟨rfl, hb1⟩; rw [HV.out]; have HB1 := Lib.hid hb1; clear hb1; obtain ⟨f0, f1, f2⟩ := HC.out _ HB1.out)
        | (go_at_call 55; refine (EQ.out _ HB1.out).mono ?_; rintro e w2 ⟨rfl, hb2⟩; rw [HX.out]; have HB2 := Lib.hid hb2; clear hb2))
      go_ret2
      exact RetL.mk rfl (Ints.nil_ _) (bw1 (bwStep HB1.out HB2.out))
    | true =>
      have HX := Lib.hid hx
      have HY : Hid (inB s ys = false) := by show _ = _; rw [hx] at hV; simpa using hV
      clear hx hV
      go_enter Try.func18, Try.ntmps18
      go_wp2_with (first
        | (go_at_call 49; refine (pvalid0 c s p _ hp).mono ?_; rintro e w1 ⟨rfl, hb1⟩; rw [HV.out]; have HB1 := Lib.hid hb1; clear hb1; obtain ⟨f0, f1, f2⟩ := HC.out _ HB1.out)
        | (go_at_call 55; ((with_reducible refine (EQ.out _ HB1.out).mono ?_); rintro e w2 ⟨rfl, hb2⟩; rw [HX.out]; have HB2 := Lib.hid (bwStep HB1.out hb2); clear hb2 f0 f1 f2; obtain ⟨g0, g1, g2⟩ := HC.out _ HB2.out))
        | (go_at_call 55; refine (ER.out _ HB2.out).mono ?_; rintro e w3 ⟨rfl, hb3⟩; rw [HY.out]; have HB3 := Lib.hid hb3; clear hb3))
      go_ret2
      exact RetL.mk rfl (Ints.nil_ _) (bw1 (bwStep HB2.out HB3.out))
end Go.Proofs.Ythpcneeidhmdkaa
