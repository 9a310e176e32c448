import Derived.Test.YtplppbfnlfehnaaDoorAztK
namespace Go.Proofs.YtplppbfnlfehnaaDoor
open Go.RowKit
set_option linter.unusedVariables false
def bLong (C : Nat → Nat → Nat) (num at_ m : Nat) : Nat → Opt
  | 0 => ⟨0, 0, 0, false, 1073741824, at_, m⟩
  | k + 1 => tryO C num at_ m (bLong C num at_ m k) (31 + k) (widthN m + 16) true
def bShort (C : Nat → Nat → Nat) (num at_ m K : Nat) : Nat → Opt
  | 0 => bLong C num at_ m K
  | k + 1 => tryO C num at_ m (bShort C num at_ m K k) (1 + k) (widthN m + 5) false
def binOpt (C : Nat → Nat → Nat) (num at_ m left : Nat) : Opt := bShort C num at_ m (min left 2078 - 30) (min left 31)
def okO (p : ByteArray) (o : Opt) : Prop := o.at_ ≤ p.size ∧ o.mode < 5 ∧ o.size ≤ 1073741824 ∧ o.run ≤ 4096
theorem widthN_le (m : Nat) : widthN m ≤ 5 := by unfold widthN; split <;> omega
theorem tryO_ok {C : Nat → Nat → Nat} {num at_ m : Nat} {best : Opt} {n sz : Nat} {lg : Bool} {p : ByteArray} (h : okO p best) (h1 : at_ + n ≤ p.size) (h2 : m < 5) (h3 : sz ≤ 100) (hp : p.size ≤ 4096) : okO p (tryO C num at_ m best n sz lg) := by
  unfold tryO
  split
  · exact ⟨h1, h2, by show sz + 8 * n ≤ _; omega, by show n ≤ _; omega⟩
  · exact h
theorem bLong_ok {C : Nat → Nat → Nat} {num at_ m : Nat} {p : ByteArray} (ha : at_ ≤ p.size) (h2 : m < 5) (hp : p.size ≤ 4096) : ∀ k, at_ + 30 + k ≤ p.size ∨ k = 0 → okO p (bLong C num at_ m k)
  | 0, _ => ⟨ha, h2, Nat.le_refl _, by show 0 ≤ _; omega⟩
  | k + 1, h => tryO_ok (bLong_ok ha h2 hp k (by omega)) (by omega) h2 (by have := widthN_le m; omega) hp
theorem bShort_ok {C : Nat → Nat → Nat} {num at_ m : Nat} {p : ByteArray} (K : Nat) (ha : at_ ≤ p.size) (h2 : m < 5) (hp : p.size ≤ 4096) (hK : at_ + 30 + K ≤ p.size ∨ K = 0) : ∀ k, at_ + k ≤ p.size → okO p (bShort C num at_ m K k)
  | 0, _ => bLong_ok ha h2 hp K hK
  | k + 1, h => tryO_ok (bShort_ok K ha h2 hp hK k (by omega)) (by omega) h2 (by have := widthN_le m; omega) hp
/-- the state of binaryOption -/
structure FS (w wr : World) (sb cb cap hb : Nat) (p : ByteArray) (C : Nat → Nat → Nat) (num at_ m : Nat) : Prop where
  B : Below w.heap.size w wr
  S : SW wr sb cb cap hb p C
  X : CellsAt wr w.heap.size [.pointer (some ⟨sb, 0, none⟩)]
  F : CellsAt wr (w.heap.size + 1) [.int .i64 (at_ : Int), .int .i64 (m : Int)]
  N : CellsAt wr (w.heap.size + 2) [.int .i64 (num : Int)]
  Z : RowIs wr (w.heap.size + 3) (Opt.vals ⟨0, 0, 0, false, 0, 0, 0⟩).toArray 87
structure BS (w wr : World) (sb cb cap hb : Nat) (p : ByteArray) (C : Nat → Nat → Nat) (num at_ m : Nat) (best : Opt) : Prop extends FS w wr sb cb cap hb p C num at_ m where
  O : RowIs wr (w.heap.size + 4) best.vals.toArray 87
theorem FS.below {w wr w1 : World} {sb cb cap hb : Nat} {p : ByteArray} {C : Nat → Nat → Nat} {num at_ m : Nat} (h : FS w wr sb cb cap hb p C num at_ m) (hB : Below wr.heap.size wr w1) : FS w w1 sb cb cap hb p C num at_ m :=
  ⟨bwStep h.B hB, h.S.below hB, h.X.below hB, h.F.below hB, h.N.below hB, h.Z.below hB⟩
theorem wpList_allocAgg' {P : Program} {w : World} {ops : Array Oper} {rest : List Oper} {o : Oper} {a : Act} {Q : Exit → Act → World → Prop} (hgd : o.guard = none) (t : TypeId) (ho : o.op = .alloc t)
    (cs : Array Value) (hz : (P.info? t).map (·.zero) = some (some (.agg cs))) (g : Nat) (hg : g = w.heap.size)
    (hk : wpList P ops Q rest (a.put o.dst (.pointer (some ⟨g, 0, none⟩))) (w.alloc (.cells cs t))) : wpList P ops Q (o :: rest) a w := by
  subst hg
  exact wpList_allocAgg hgd t ho cs hz hk
theorem FS.start (w : World) (sb cb cap hb : Nat) (p : ByteArray) (C : Nat → Nat → Nat) (num at_ m : Nat) (t1 t2 t3 : TypeId) (h : SW w sb cb cap hb p C) :
    FS w ((((w.alloc (.cells #[.pointer (some ⟨sb, 0, none⟩)] t1)).alloc (.cells #[.int .i64 (at_ : Int), .int .i64 (m : Int)] t2)).alloc (.cells #[.int .i64 (num : Int)] t3)).alloc (.cells (Opt.vals ⟨0, 0, 0, false, 0, 0, 0⟩).toArray 87)) sb cb cap hb p C num at_ m := by
  refine ⟨bwAlloc (bwAlloc (bwAlloc (bwA _ _) _) _) _, (((h.below (bwA _ _)).below (bwA _ _)).below (bwA _ _)).below (bwA _ _), ?_, ?_, ?_, RowIs.new _ _ _ _ (by simp)⟩
  · exact ((CellsAt.new w #[.pointer (some ⟨sb, 0, none⟩)] t1 _ rfl).alloc _).alloc _ |>.alloc _
  · exact ((CellsAt.new (w.alloc _) #[.int .i64 (at_ : Int), .int .i64 (m : Int)] t2 (w.heap.size + 1) (by simp)).alloc _).alloc _
  · exact (CellsAt.new ((w.alloc _).alloc _) #[.int .i64 (num : Int)] t3 (w.heap.size + 2) (by simp)).alloc _
theorem CellsAt.lower {W W' : World} {b B : Nat} {vs : List Value} (h : CellsAt W b vs) (hb : Below B W W') (hl : b < B) : CellsAt W' b vs :=
  ⟨Nat.lt_of_lt_of_le h.1 hb.size, fun i hi => (hb.cell hl).trans (h.2 i hi)⟩
theorem RowIs.lower {W W' : World} {g B : Nat} {cur : Array Value} {t : TypeId} (h : RowIs W g cur t) (hb : Below B W W') (hl : g < B) : RowIs W' g cur t := (hb.block _ hl).trans h
theorem SW.lower {w W : World} {sb cb cap hb B : Nat} {p : ByteArray} {C : Nat → Nat → Nat} (h : SW w sb cb cap hb p C) (hW : Below B w W) (h1 : sb < B) (h2 : cb < B) : SW W sb cb cap hb p C :=
  ⟨Nat.lt_of_lt_of_le h.lt hW.size, (hW.cell h1).trans h.c0, fun i v hv => (hW.cell (p := ⟨sb, 1 + i, none⟩) h1).trans (h.ct i v hv), (hW.cell h1).trans h.cc, (hW.cell h1).trans h.cm, Nat.lt_of_lt_of_le h.cl hW.size,
    fun a m ha hm => (hW.cell h2).trans (h.cz a m ha hm), h.hc, h.hp, h.b⟩
theorem BS.step {w wr w1 : World} {sb cb cap hb : Nat} {p : ByteArray} {C : Nat → Nat → Nat} {num at_ m : Nat} {best o : Opt} (h : BS w wr sb cb cap hb p C num at_ m best) (h1 : sb < w.heap.size) (h2 : cb < w.heap.size)
    (hr : RowIs w1 (w.heap.size + 4) o.vals.toArray 87) (hB : Below (w.heap.size + 4) wr w1) : BS w w1 sb cb cap hb p C num at_ m o :=
  ⟨⟨h.B.trans (hB.mono (by omega)), h.S.lower hB (by omega) (by omega), h.X.lower hB (by omega), h.F.lower hB (by omega), h.N.lower hB (by omega), h.Z.lower hB (by omega)⟩, hr⟩
set_option maxRecDepth 100000 in
set_option maxHeartbeats 4000000 in
theorem binaryOption_any (num at_ m : Nat) (w : World) (sb cb cap hb : Nat) (p : ByteArray) (C : Nat → Nat → Nat) (h : SW w sb cb cap hb p C) (ha : at_ < p.size) (hm : m < 5) (hn : num < 32) :
    Calls Tryd.prog 61 #[.pointer (some ⟨sb, 0, none⟩), .agg #[.int .i64 (at_ : Int), .int .i64 (m : Int)], .int .i64 (num : Int)] w
      fun e w' => e = .returned (binOpt C num at_ m (p.size - at_)).val ∧ Below w.heap.size w w' := by
  have hp := h.hp
  have HS := Lib.hid h
  obtain ⟨h0, h1⟩ : w.cell? ⟨sb, 0, none⟩ = some (.string p) ∧ sb < w.heap.size := ⟨h.c0, h.lt⟩
  have hcb : cb < w.heap.size := h.cl
  obtain ⟨left, hl⟩ : ∃ left, left = p.size - at_ := ⟨_, rfl⟩
  have hw1 : IntKind.i64.wrap ((p.size : Int) - (at_ : Int)) = (left : Int) := by rw [wr64 _ (by omega) (by omega)]; omega
  have hl1 : at_ + left ≤ p.size := by omega
  have hl2 : 1 ≤ left := by omega
  have hl3 : left ≤ 4096 := by omega
  rw [← hl]
  clear hl h
  go_enter Tryd.func61, Tryd.ntmps61
  go_wp2_with (refine wpList_allocAgg' rfl 87 rfl _ optInfo (w.heap.size + 3) (by simp) ?_)
  have HF : Hid (FS w _ sb cb cap hb p C num at_ m) := FS.start w sb cb cap hb p C num at_ m 46 85 3 HS.out
  have hu : ((((w.alloc (.cells #[.pointer (some ⟨sb, 0, none⟩)] 46)).alloc (.cells #[.int .i64 (at_ : Int), .int .i64 (m : Int)] 85)).alloc (.cells #[.int .i64 (num : Int)] 3)).alloc (.cells (Opt.vals ⟨0, 0, 0, false, 0, 0, 0⟩).toArray 87)).heap.size = w.heap.size + 4 := by simp
  have HSZ := Lib.hid hu
  clear hu
  show Code.wp _ _ _ _ ((((w.alloc (.cells #[.pointer (some ⟨sb, 0, none⟩)] 46)).alloc (.cells #[.int .i64 (at_ : Int), .int .i64 (m : Int)] 85)).alloc (.cells #[.int .i64 (num : Int)] 3)).alloc (.cells (Opt.vals ⟨0, 0, 0, false, 0, 0, 0⟩).toArray 87))
  generalize (((w.alloc (.cells #[.pointer (some ⟨sb, 0, none⟩)] 46)).alloc (.cells #[.int .i64 (at_ : Int), .int .i64 (m : Int)] 85)).alloc (.cells #[.int .i64 (num : Int)] 3)).alloc (.cells (Opt.vals ⟨0, 0, 0, false, 0, 0, 0⟩).toArray 87) = w1 at *
  have CF : Hid (∀ W, Abv w1 W → W.cell? ⟨w.heap.size, 0, none⟩ = some (.pointer (some ⟨sb, 0, none⟩)) ∧ W.cell? ⟨sb, 0, none⟩ = some (.string p) ∧ W.cell? ⟨w.heap.size + 1, 0, none⟩ = some (.int .i64 (at_ : Int))) := by
    show ∀ W, _
    intro W hW
    have h9 := HF.out.below hW
    exact ⟨h9.X.2 0 (by simp), h9.S.c0, h9.F.2 0 (by simp)⟩
  (try simp only [Act.put, List.setIfInBounds_toArray, List.set_cons_zero, List.set_cons_succ])
  clear h0 HS
  refine wp_region_W (S := Abv w1) [(false, 0), (false, 1), (false, 2), (false, 3), (false, 4), (false, 5), (false, 6), (false, 7), (false, 8)] (by kernel_rfl) (by kernel_rfl) (bwDrew (Below.refl _ _)) ?_
  simp only [attachW, List.getElem?_cons_zero, List.getElem?_cons_succ]
  repeat
    refine' wpHX_val rfl (fun W hW => ?_) ?_
    rotate_left
    · have hcf := CF.out W hW; go_simp; rfl
    simp only [Act.put, List.setIfInBounds_toArray, List.set_cons_zero, List.set_cons_succ]
  refine wpHX_nil ?_
  clear CF
  have HF2 : Hid (FS w w1.drew sb cb cap hb p C num at_ m) := HF.out.below (bwDrew (Below.refl _ _))
  have HSZ2 : Hid (w1.drew.heap.size = w.heap.size + 4) := HSZ.out
  clear HF HSZ
  generalize w1.drew = w2 at *
  have f1 := HF2.out.F.2 0 (by simp)
  have f2 := HF2.out.F.2 1 (by simp)
  simp only [List.getD, List.getElem?_cons_zero, List.getElem?_cons_succ, Option.getD_some] at f1 f2
  have hwm := widthN_le m
  have HWM : Hid (∀ k, bLong C num at_ m (k + 1) = tryO C num at_ m (bLong C num at_ m k) (31 + k) (widthN m + 16) true) := fun k => rfl
  have HWS : Hid (∀ K k, bShort C num at_ m K (k + 1) = tryO C num at_ m (bShort C num at_ m K k) (1 + k) (widthN m + 5) false) := fun K k => rfl
  have HBI : Hid (binOpt C num at_ m left = bShort C num at_ m (min left 2078 - 30) (min left 31)) := rfl
  have HOL : Hid (∀ k, at_ + 30 + k ≤ p.size ∨ k = 0 → okO p (bLong C num at_ m k)) := bLong_ok (by omega) hm hp
  have HOS : Hid (∀ K, at_ + 30 + K ≤ p.size ∨ K = 0 → ∀ k, at_ + k ≤ p.size → okO p (bShort C num at_ m K k)) := fun K hK => bShort_ok K (by omega) hm hp hK
  go_wp2_with (first | (go_at_call 41; refine (numberBits_any m _).mono ?_; rintro e w' ⟨rfl, hw'⟩; rw [hw']; clear hw'; generalize widthN m = wm at *) | (refine wpList_allocAgg' rfl 87 rfl _ optInfo (w.heap.size + 4) HSZ2.out.symm ?_) | (rw [← HSZ2.out]; refine wpList_storeNew rfl 87 _ _ rfl 87 _ (Opt.vals ⟨0, 0, 0, false, 1073741824, at_, m⟩) rfl rfl optSz rfl (Opt.one _) ?_))
  rw [HSZ2.out]
  have HBS : Hid (BS w (w2.alloc (.cells (Opt.vals ⟨0, 0, 0, false, 1073741824, at_, m⟩).toArray 87)) sb cb cap hb p C num at_ m (bLong C num at_ m 0)) := ⟨HF2.out.below (bwA _ _), RowIs.new _ _ _ _ HSZ2.out.symm⟩
  clear HSZ2 HF2 f1 f2
  generalize w2.alloc (.cells (Opt.vals ⟨0, 0, 0, false, 1073741824, at_, m⟩).toArray 87) = w3 at *
  obtain ⟨K, hK⟩ : ∃ K, K = min left 2078 := ⟨_, rfl⟩
  have HK := Lib.hid hK
  have hK1 : K ≤ 2078 := by omega
  have hK2 : K ≤ left := by omega
  have hK3 : min (left : Int) 2078 = (K : Int) := by omega
  clear hK
  go_loopw [11] (fun iv wr => ∃ k : Nat, (31 + k ≤ K + 1 ∨ k = 0) ∧ iv = .int .i64 ((31 + k : Nat) : Int) ∧ Hid (BS w wr sb cb cap hb p C num at_ m (bLong C num at_ m k))) (fun iv _ => K + 1 - (intOf iv).toNat)
  case atStart => exact ⟨0, .inr rfl, rfl, HBS.out⟩
  case round =>
    clear HBS
    obtain ⟨k, hk, rfl, hB⟩ := hrel
    by_cases hlt : 31 + k ≤ K
    · have HOK : Hid (okO p (bLong C num at_ m k)) := HOL.out k (by omega)
      have HN := Lib.hid (HWM.out k)
      go_wp2_with (go_at_call 67; (refine (try_any (31 + k) (wm + 16) num at_ m true (bLong C num at_ m k) wr sb cb cap hb _ _ _ _ p C hB.out.S hB.out.N hB.out.F hB.out.X hB.out.O (by omega) hm (by omega) HOK.out.1 HOK.out.2.1 HOK.out.2.2.1 hn HOK.out.2.2.2).mono ?_; rintro e w6 ⟨rfl, hr6, hb6⟩; have HB6 := Lib.hid (hB.out.step h1 hcb hr6 hb6); clear hr6 hb6))
      refine ⟨⟨k + 1, by omega, by go_num, ?_⟩, by simp [intOf]; omega⟩
      rw [HN.out]
      exact HB6.out
    · have hk4 : k = K - 30 := by omega
      have HB0 : Hid (BS w wr sb cb cap hb p C num at_ m (bShort C num at_ m (K - 30) 0)) := by
        show BS _ _ _ _ _ _ _ _ _ _ _ (bLong C num at_ m (K - 30))
        rw [← hk4]; exact hB.out
      clear hB hk4 HOL HWM
      have hz1 : (K : Int) < ((31 + k : Nat) : Int) := by omega
      clear hlt hk
      generalize ((31 + k : Nat) : Int) = zz at *
      obtain ⟨L, hL⟩ : ∃ L, L = min left 31 := ⟨_, rfl⟩
      have HLL := Lib.hid hL
      have hL1 : L ≤ 31 := by omega
      have hL2 : L ≤ left := by omega
      have hL3 : min (left : Int) 31 = (L : Int) := by omega
      clear hL
      have HOS2 : Hid (∀ j, at_ + j ≤ p.size → okO p (bShort C num at_ m (K - 30) j)) := HOS.out (K - 30) (by omega)
      go_wp2
      clear hK3
      go_loopw [12] (fun iv wr => ∃ j : Nat, j ≤ L ∧ iv = .int .i64 ((1 + j : Nat) : Int) ∧ Hid (BS w wr sb cb cap hb p C num at_ m (bShort C num at_ m (K - 30) j))) (fun iv _ => L + 1 - (intOf iv).toNat)
      case atStart => exact ⟨0, by omega, rfl, HB0.out⟩
      case round =>
        clear HB0
        obtain ⟨j, hj, rfl, hB⟩ := hrel
        by_cases hlt2 : 1 + j ≤ L
        · have HOK : Hid (okO p (bShort C num at_ m (K - 30) j)) := HOS2.out j (by omega)
          have HN := Lib.hid (HWS.out (K - 30) j)
          go_wp2_with (go_at_call 67; (refine (try_any (1 + j) (wm + 5) num at_ m false (bShort C num at_ m (K - 30) j) wr sb cb cap hb _ _ _ _ p C hB.out.S hB.out.N hB.out.F hB.out.X hB.out.O (by omega) hm (by omega) HOK.out.1 HOK.out.2.1 HOK.out.2.2.1 hn HOK.out.2.2.2).mono ?_; rintro e w6 ⟨rfl, hr6, hb6⟩; have HB6 := Lib.hid (hB.out.step h1 hcb hr6 hb6); clear hr6 hb6))
          refine ⟨⟨j + 1, by omega, by go_num, ?_⟩, by simp [intOf]; omega⟩
          rw [HN.out]
          exact HB6.out
        · have hj4 : j = L := by omega
          have HR : Hid (BS w wr sb cb cap hb p C num at_ m (binOpt C num at_ m left)) := by
            have h9 := hB.out
            rw [hj4, HLL.out, HK.out, ← HBI.out] at h9
            exact h9
          clear hB hj4
          obtain ⟨res, hres⟩ : ∃ res, res = binOpt C num at_ m left := ⟨_, rfl⟩
          rw [← hres] at HR
          have HRES := Lib.hid hres
          clear hres
          go_wp2_with (first | (refine wpList_loadAgg rfl 87 _ rfl _ Tryd.underlying87 rfl ⟨w.heap.size + 4, 0, none⟩ res.vals optSz rfl (load_opt HR.out.O.cells) ?_) | (refine wpList_storeAgg rfl 87 _ _ rfl 87 (w.heap.size + 3) 0 _ res.vals rfl rfl HR.out.Z optSz (by show 7 ≤ 7; omega) res.one ?_; rw [splice_all _ res.vals (by rfl)]))
          (try simp only [Exit.inBlock, Exit.then])
          refine bodyPost_ret (results_cell_row rfl _ _ (w.heap.size + 3) 87 res.vals.toArray (0, 0) _ rfl (HR.out.Z.set _) Tryd.underlying87 rfl optSz) rfl ?_
          exact ⟨by rw [← HRES.out]; rfl, below_setRow HR.out.B (by omega) _⟩
end Go.Proofs.YtplppbfnlfehnaaDoor
