/- For every input, the law PolynomialEuclid of layer 5 (polynomial) answers true and leaves its arguments as they were. No condition. -/
import Derived.Test.YthpcneeidhmdkaaM17
import Derived.Test.YthpcneeidhmdkaaFacts
namespace Go.Proofs.Ythpcneeidhmdkaa.polynomialEuclid
open Go.RowKit
set_option linter.unusedVariables false
set_option maxRecDepth 100000 in
set_option maxHeartbeats 4000000 in
theorem law_nil (C S P : Nat) (A : Option Addr) (ca : Nat) (B : Option Addr) (cb : Nat) (D : Option Addr) (k cd : Nat) (zs : List Int) (w : World) (hp : (P : Int) ≤ 9223372036854775807) (hq : (⟨A, 0, ca, []⟩ : Sl).R w) (hr : (⟨B, 0, cb, []⟩ : Sl).R w) (ht : (⟨D, k, cd, zs⟩ : Sl).R w)
    (hV : (lvB C S P 40 [] && (lvB C S P 40 [] && lvB C S P 40 zs)) = true) (Fg : Hid (gcdRes C S P [] [] = ([], 0))) :
    Calls Try.prog 7 #[fldv C S P, .slice A 0 ca, .slice B 0 cb, .slice D k cd] w fun e w' => e = .returned (.bool true) ∧ Below w.heap.size w w' := by
  have hbx : Below w.heap.size w (w.alloc (fldB C S P)) := (Below.refl _ _).alloc (Nat.le_refl _) _
  have HQ := Lib.hid (hq.below hbx)
  have HR := Lib.hid (hr.below hbx)
  have HU := Lib.hid (ht.below hbx)
  have CB : Hid (CellsAt (w.alloc (fldB C S P)) w.heap.size (fldC C S P)) := CellsAt.new _ _ _ _ rfl
  have HV := Lib.hid hV
  clear hV hq hr ht hbx
  go_enter Try.func7, Try.ntmps7
  go_wp2_with fail
  refine (lvalid3 C S P 40 40 rfl A B D 0 ca 0 cb k cd [] [] zs (w.heap.size + 1) _ 24 (by omega) hp (by simp) HQ.out HR.out HU.out).mono ?_
  rintro e w1 ⟨rfl, hb1⟩
  rw [HV.out]
  have hbz := bwStep (bwA (w.alloc (fldB C S P)) (.cells #[.slice A 0 ca, .slice B 0 cb, .slice D k cd] 24)) hb1
  have HB1 : Hid (Below w.heap.size w w1) := bw1 hbz
  obtain ⟨f0, f1, f2⟩ := fldC_cells (CB.out.below hbz)
  go_wp2_with fail
  refine (LC_ C S P w1 hp _ (Below.refl _ _) _ _ _ _ _ _ _ _ _ _ Fg.out (HQ.out.below hbz) (HR.out.below hbz)).mono ?_
  rintro e w2 ⟨E2, k2, c2, rfl, hr2, hB2, hN2⟩
  obtain rfl : k2 = 0 := hr2.hn
  clear hr2 hN2
  go_wp2_with fail
  refine (LX_ w1 _ hB2).mono ?_
  rintro e w3 ⟨rfl, hB3, hN3⟩
  go_wp2_with fail
  go_ret
  exact ⟨rfl, bwStep HB1.out hB3⟩
theorem law_walk (c s p : Int) (q r t : Sl) (w : World) (bc : I64 c) (bs : I64 s) (bp : I64 p) (hq : q.R w) (hr : r.R w) (ht : t.R w) :
    Calls Try.prog 7 #[fldv c s p, q.v, r.v, t.v] w fun e w' => e = .returned (.bool true) ∧ Below w.heap.size w w' := by
  obtain ⟨A, n, ca, xs⟩ := q
  obtain ⟨B, m, cb, ys⟩ := r
  obtain ⟨D, k, cd, zs⟩ := t
  have hp := bp.2
  cases hV : lvB c s p 40 xs && (lvB c s p 40 ys && lvB c s p 40 zs) with
  | false => exact law_no c s p A n ca xs B m cb ys D k cd zs w hp hq hr ht hV
  | true =>
    have hV' := hV
    rw [Bool.and_eq_true, Bool.and_eq_true] at hV'
    obtain ⟨C, S, P, a, rfl, rfl, rfl, rfl, hv, hla, hta, hna⟩ := lvB_nat hV'.1
    obtain ⟨C', S', P', b, e1, e2, e3, rfl, -, hlb, htb, hnb⟩ := lvB_nat hV'.2.1
    obtain rfl : S = S' := by omega
    obtain ⟨C2, S2, P2, d, e4, e5, e6, rfl, -, hld, htd, hnd⟩ := lvB_nat hV'.2.2
    obtain rfl : S = S2 := by omega
    have hnx : n = a.length := hq.hn.trans (zl_length a)
    have hmx : m = b.length := hr.hn.trans (zl_length b)
    have hkx : k = d.length := ht.hn.trans (zl_length d)
    by_cases h00 : a = [] ∧ b = []
    · obtain ⟨rfl, rfl⟩ := h00
      obtain rfl : n = 0 := hnx
      obtain rfl : m = 0 := hmx
      exact law_nil C S P A ca B cb D k cd (zl d) w hp hq hr ht hV (gcdRes_ok hv hla hta (by omega) hlb htb (by omega))
    · obtain ⟨gn, gl, gt, da, db, gm⟩ := gcdG hv hla hlb hta htb h00
      obtain ⟨G, hG⟩ : ∃ G, G = gcdF S P b.length a b := ⟨_, rfl⟩
      have hg : gcdL S P a b = monL S P G := by rw [hG]; rfl
      rw [← hG] at gn gl gt da db gm
      have mt := monL_trimmed hv gl gt
      have ml := monL_lt hv G
      have mlen := monL_length S P G
      have g1 := List.length_pos_iff.2 gn
      have mn : monL S P G ≠ [] := fun e => by rw [e] at mlen; simp at mlen; omega
      have Fg : gcdRes C S P (zl a) (zl b) = (zl (monL S P G), 0) := by rw [gcdRes_ok hv hla hta (by omega) hlb htb (by omega), hg]
      have rest0 : ∀ x, LtAll S x → Trimmed x → x.length ≤ 4097 → ∀ y, LtAll S y → Trimmed y → y.length ≤ 4097 → y ≠ [] → Dv S P y x → (divRes C S P (zl x) (zl y)).2.1 = [] := fun x h1 h2 h3 y h4 h5 h6 h7 h8 => by
        rw [divRes_ok hv h1 h2 h3 h4 h5 h6 h7]; show zl _ = _; rw [rest_dv hv h4 h5 h7 h8]; rfl
      have Fa := rest0 a hla hta (by omega) _ ml mt (by omega) mn (mon_dv hv gl gt gn da)
      have Fb := rest0 b hlb htb (by omega) _ ml mt (by omega) mn (mon_dv hv gl gt gn db)
      have l3 : (monL S P G).getD ((monL S P G).length - 1) 0 = 1 := by rw [mlen]; exact monL_last hv gl gt gn
      have FB : b ≠ [] → (divRes C S P (zl a) (zl b)).2.1 = zl (divRest S P a b) ∧ gcdRes C S P (zl b) (zl (divRest S P a b)) = (zl (monL S P G), 0) := fun hb0 => by
        have hlt := divRest_length hv hla hlb (List.length_pos_iff.2 hb0) (trimmed_last htb hb0)
        rw [divRes_ok hv hla hta (by omega) hlb htb (by omega) hb0, gcdRes_ok hv hlb htb (by omega) (divRest_lt hv hla) (divRest_trimmed hv a b) (by omega), gcd_swap hv hla hlb hta htb hb0, hg]
        exact ⟨rfl, rfl⟩
      have FD : d ≠ [] → mulRes C S P (zl a) (zl d) = (zl (mulL S P a d), 0) ∧ mulRes C S P (zl b) (zl d) = (zl (mulL S P b d), 0) ∧ gcdRes C S P (zl (mulL S P a d)) (zl (mulL S P b d)) = (zl (monL S P (mulL S P G d)), 0) ∧
          (divRes C S P (zl (monL S P (mulL S P G d))) (zl d)).2.1 = [] ∧ (divRes C S P (zl (monL S P (mulL S P G d))) (zl (monL S P G))).2.1 = [] ∧ (monL S P (mulL S P G d)).length = (monL S P G).length + d.length - 1 := fun hd0 => by
        have n1 := mulL_len S P a d
        have n2 := mulL_len S P b d
        have lg := mulL_lt hv G d
        have tg := mulL_trimmed hv gl hld gt htd
        have ng := mulL_length (s := S) (p := P) gn hd0
        have nn := mulL_ne (s := S) (p := P) gn hd0
        have nh := monL_length S P (mulL S P G d)
        refine ⟨mulRes_ok hv hla hta (by omega) hld htd (by omega), mulRes_ok hv hlb htb (by omega) hld htd (by omega), ?_, ?_, ?_, by omega⟩
        · rw [gcdRes_ok hv (mulL_lt hv _ _) (mulL_trimmed hv hla hld hta htd) (by omega) (mulL_lt hv _ _) (mulL_trimmed hv hlb hld htb htd) (by omega), gcd_scale hv hla hlb hta htb hld htd hd0, ← hG]
        · exact rest0 _ (monL_lt hv _) (monL_trimmed hv lg tg) (by omega) d hld htd (by omega) hd0 (dv_mon hv hld htd lg tg nn ⟨G, gl, gt, rfl⟩)
        · refine rest0 _ (monL_lt hv _) (monL_trimmed hv lg tg) (by omega) _ ml mt (by omega) mn (dv_mon hv ml mt lg tg nn (mon_dv hv gl gt gn ⟨d, hld, htd, mulL_comm hv gl hld gt htd⟩))
      by_cases hb0 : b = []
      · have hm0 : m = 0 := by rw [hmx, hb0]; rfl
        have hn1 : 1 ≤ n := by
          have : a ≠ [] := fun e => h00 ⟨e, hb0⟩
          have := List.length_pos_iff.2 this; omega
        by_cases hd0 : d = []
        · exact w100 C S P a b d (monL S P G) [] [] [] [] A n ca B m cb D k cd w hp hq hr ht hV (by omega) (by omega) (by omega) hm0 hn1 (by rw [hkx, hd0]; rfl) Fg (by show _ ≤ _; omega) (by show _ ≤ _; omega) l3 Fa Fb
        · obtain ⟨m1, m2, m3, m4, m5, m6⟩ := FD hd0
          have := List.length_pos_iff.2 hd0
          exact w101 C S P a b d (monL S P G) _ _ [] _ A n ca B m cb D k cd w hp hq hr ht hV (by omega) (by omega) (by omega) hm0 hn1 (by omega) Fg (by show _ ≤ _; omega) (by show _ ≤ _; omega) l3 Fa Fb m1 m2 m3 m4 m5 m6
      · obtain ⟨f1, f2⟩ := FB hb0
        have := List.length_pos_iff.2 hb0
        by_cases ha0 : n = 0
        · by_cases hd0 : d = []
          · exact w010 C S P a b d (monL S P G) [] [] _ [] A n ca B m cb D k cd w hp hq hr ht hV (by omega) (by omega) (by omega) (by omega) ha0 (by rw [hkx, hd0]; rfl) Fg (by show _ ≤ _; omega) (by show _ ≤ _; omega) l3 Fa Fb f1 f2
          · obtain ⟨m1, m2, m3, m4, m5, m6⟩ := FD hd0
            have := List.length_pos_iff.2 hd0
            exact w011 C S P a b d (monL S P G) _ _ _ _ A n ca B m cb D k cd w hp hq hr ht hV (by omega) (by omega) (by omega) (by omega) ha0 (by omega) Fg (by show _ ≤ _; omega) (by show _ ≤ _; omega) l3 Fa Fb f1 f2 m1 m2 m3 m4 m5 m6
        · by_cases hd0 : d = []
          · exact w110 C S P a b d (monL S P G) [] [] _ [] A n ca B m cb D k cd w hp hq hr ht hV (by omega) (by omega) (by omega) (by omega) (by omega) (by rw [hkx, hd0]; rfl) Fg (by show _ ≤ _; omega) (by show _ ≤ _; omega) l3 Fa Fb f1 f2
          · obtain ⟨m1, m2, m3, m4, m5, m6⟩ := FD hd0
            have := List.length_pos_iff.2 hd0
            exact w111 C S P a b d (monL S P G) _ _ _ _ A n ca B m cb D k cd w hp hq hr ht hV (by omega) (by omega) (by omega) (by omega) (by omega) (by omega) Fg (by show _ ≤ _; omega) (by show _ ≤ _; omega) l3 Fa Fb f1 f2 m1 m2 m3 m4 m5 m6
end Go.Proofs.Ythpcneeidhmdkaa.polynomialEuclid
namespace Go.Proofs.Ythpcneeidhmdkaa.polynomialEuclid
open Go.ChangeShapes Go.WideShapes Go.ChangeAt Go.RowKit
set_option linter.unusedVariables false
theorem k0 : Rows.polynomialEuclidRow.wf (OpenSpec.ofChange Rows.polynomialEuclidSpec) = true := by kernel_rfl
theorem k3 : Try.f7.params.all (Try.prog.readableRec ·) = true := by kernel_rfl
theorem k4 : namedTie Try.prog Rows.polynomialEuclidRow.named Rows.polynomialEuclidSpec.vars = true := by kernel_rfl
theorem k5 : (Rows.polynomialEuclidRow.stops == []) = true := by kernel_rfl
theorem k7 : (Rows.polynomialEuclidRow.knobs == []) = true := by kernel_rfl
theorem k9 : (Rows.polynomialEuclidRow.inPlace == Try.prog.inPlace 7) = true := by kernel_rfl
theorem k10 : (Rows.polynomialEuclidRow.unfollowed == Try.prog.unfollowed 7) = true := by kernel_rfl
theorem k11 : (Rows.polynomialEuclidRow.recurses == Try.prog.recurses 7) = true := by kernel_rfl
theorem k12 : (Rows.polynomialEuclidRow.named == Try.prog.varsNamed 7) = true := by kernel_rfl
theorem k13 : (Rows.polynomialEuclidRow.maps == (Try.f7.params.toList ++ Rows.polynomialEuclidSpec.plain.varTypes Try.prog).any (Try.prog.mapsRec ·)) = true := by kernel_rfl
theorem k14 : (Rows.polynomialEuclidRow.ifaces == (Try.f7.params.toList ++ Rows.polynomialEuclidSpec.plain.varTypes Try.prog).any (Try.prog.ifacesRec ·)) = true := by kernel_rfl
theorem k15 : (Rows.polynomialEuclidRow.mapsOut == Try.prog.mapsAmong Try.f7.resultTypes.toList) = true := by kernel_rfl
theorem k16 : (Rows.polynomialEuclidRow.loops == (Try.f7.params.toList ++ Rows.polynomialEuclidSpec.plain.varTypes Try.prog).any (Try.prog.loopsFrom ·)) = true := by kernel_rfl
theorem k17 : (Rows.polynomialEuclidRow.wideKeys == (Try.f7.params.toList ++ Rows.polynomialEuclidSpec.plain.varTypes Try.prog ++ Try.f7.resultTypes.toList).any (Try.prog.wideKeysFrom ·)) = true := by kernel_rfl
theorem k18 : Rows.polynomialEuclidSpec.vars.all (Try.prog.varReadable ·) = true := by kernel_rfl
theorem k19 : Try.f7.resultTypes.all (fun t => Try.prog.readableRec t && decide (t < Try.prog.types.size)) = true := by kernel_rfl
theorem k20 : (Rows.polynomialEuclidRow.ifacesOut == Try.f7.resultTypes.toList.any (Try.prog.ifacesRec ·)) = true := by kernel_rfl
theorem k21 : (Rows.polynomialEuclidRow.loopsOut == Try.f7.resultTypes.toList.any (Try.prog.loopsFrom ·)) = true := by kernel_rfl
theorem k22 : (Rows.polynomialEuclidRow.plainKeys == Try.prog.plainKeys) = true := by kernel_rfl
theorem k23 : Rows.polynomialEuclidRow.shortTexts.isNone = true := by kernel_rfl
theorem k26 : (Rows.polynomialEuclidRow.lifted == Try.prog.liftsFinal) = true := by kernel_rfl
theorem k27 : (Try.prog.make == some Rows.polynomialEuclidRow.make) = true := by kernel_rfl
theorem k28 : (Rows.polynomialEuclidRow.kinds == (if Rows.polynomialEuclidRow.domain.isEmpty then [] else Try.f7.params.toList.map fun t => match Try.prog.underlying t with | some (.int k) => some k | _ => none)) = true := by kernel_rfl
theorem k29 : (Rows.polynomialEuclidRow.pinned == Rows.polynomialEuclidRow.pinnedBy) = true := by kernel_rfl
theorem k30 : (Rows.polynomialEuclidRow.veiled == (Try.f7.params.toList ++ Rows.polynomialEuclidSpec.plain.varTypes Try.prog ++ Try.f7.resultTypes.toList).any (Try.prog.veiledRec ·)) = true := by kernel_rfl
theorem k31 : Rows.polynomialEuclidRow.veiledFits Try.prog Try.f7.params.toList (Try.f7.params.toList ++ Rows.polynomialEuclidSpec.plain.varTypes Try.prog ++ Try.f7.resultTypes.toList) = true := by kernel_rfl
theorem closedK : joinedFacts Try.prog 7 Try.f7 Rows.polynomialEuclidSpec Rows.polynomialEuclidRow = true := and_tt (and_tt (and_tt (and_tt (and_tt (and_tt (and_tt (and_tt (and_tt (and_tt (and_tt (and_tt (and_tt (and_tt (and_tt (and_tt (and_tt (and_tt (and_tt (and_tt (and_tt (and_tt (and_tt (and_tt (and_tt (and_tt (and_tt (and_tt (and_tt (and_tt (and_tt k0 fp_laid) fp_mapsRowed) k3) k4) k5) fp_stops) k7) fp_stopKnobs) k9) k10) k11) k12) k13) k14) k15) k16) k17) k18) k19) k20) k21) k22) k23) fp_stopsHeard) fp_mayEnter) k26) k27) k28) k29) k30) k31

theorem ownK : ownKnob Try.prog.godebug = none := by kernel_rfl
theorem laidK : laidOutB Try.prog = true := by kernel_rfl
set_option maxRecDepth 100000 in
theorem lifted (os : Os) (started : os.Started) (H : Type) (enc : TypeId × Value → H) :
    ReturnsInHanded {} Try.checked os 7 .any (Rows.polynomialEuclidSpec.pre6 enc Try.prog Try.f7 Rows.polynomialEuclidRow.domain false) (Rows.polynomialEuclidSpec.post enc Try.prog Try.f7 false true false false) := by
  refine returnsInHanded_of_change (C := Try.checked) ownK started (by kernel_rfl) Try.func7
    (ChangeSpec.witness6 (enc := enc) (C := Try.checked) false ⟨#[], #[.agg #[.int .i64 0, .int .i64 0, .int .i64 0], .slice none 0 0, .slice none 0 0, .slice none 0 0], []⟩ 12 (by kernel_rfl) (by kernel_rfl) (by kernel_rfl) (by kernel_rfl)) ?_
  intro W base args ds gs before hval0 hW hcnd _
  have hval : ∀ (j : Nat) t v, Try.f7.params[j]? = some t → args[j]? = some v → Value.okWide Try.prog W .any base t v := hval0
  have hW' := hW
  obtain ⟨p, q, hA0, hV, rfl, hfz, hnd⟩ := hW
  have hA : DataW.TrodAll enc Try.prog W 0 (fun _ => true) true Try.f7.params.toList args.toList ds p := hA0
  rw [Try.params7] at hA hval
  obtain ⟨v0, vs0, d0, ds0, p0, q0, hargs, rfl, rfl, h0, r0⟩ := trodAll_cons hA
  obtain ⟨v1, vs1, d1, ds1, p1, q1, rfl, rfl, rfl, h1, r1⟩ := trodAll_cons r0
  obtain ⟨v2, vs2, d2, ds2, p2, q2, rfl, rfl, rfl, h2, r2⟩ := trodAll_cons r1
  obtain ⟨v3, vs3, d3, ds3, p3, q3, rfl, rfl, rfl, h3, r3⟩ := trodAll_cons r2
  obtain ⟨rfl, rfl, rfl⟩ := trodAll_nil r3
  obtain rfl : args = #[v0, v1, v2, v3] := by cases args; simp_all
  obtain ⟨rfl, rfl⟩ := trodVars_none hV
  have hrd : ∀ t ∈ Try.f7.params.toList, Try.prog.readableRec t = true ∧ t < Try.prog.types.size := by
    rw [Try.params7]
    intro t ht
    simp only [List.mem_cons, List.not_mem_nil, or_false] at ht
    rcases ht with rfl | rfl | rfl | rfl <;> exact ⟨by kernel_rfl, of_decide_eq_true (by kernel_rfl)⟩
  obtain ⟨c, s, p, rfl, bc, bs, bp⟩ := open_fld (hval 0 23 v0 rfl rfl) h0
  obtain ⟨q, rfl, hq⟩ := open_sl (hval 1 24 v1 rfl rfl) h1
  obtain ⟨r, rfl, hr⟩ := open_sl (hval 2 24 v2 rfl rfl) h2
  obtain ⟨t, rfl, ht⟩ := open_sl (hval 3 24 v3 rfl rfl) h3
  refine (law_walk c s p q r t W bc bs bp hq hr ht).mono fun e W' ⟨he, hb⟩ => ?_
  subst he
  exact ⟨_, rfl, law_post laidK Try.underlying4 rfl rfl hrd hW' rfl hb⟩
theorem over : Rows.polynomialEuclidRow.holds Try.pinned (OpenSpec.ofChange Rows.polynomialEuclidSpec) :=
  OpenClaim.holds_of_wide 7 Try.f7 rfl rfl rfl rfl rfl rfl rfl ⟨rfl, rfl, rfl, rfl, rfl⟩ rfl rfl rfl rfl rfl (by kernel_rfl) Try.func7 closedK
    (of_decide_eq_true (by kernel_rfl)) (by unfold Func.isWrapper; first | (rw [if_pos (by decide +kernel)]; kernel_rfl) | (rw [if_neg (by decide +kernel)]; exact ⟨rfl, rfl⟩))
    (fun os started H enc _ => lifted os started H enc)
/-- THE STATEMENT -/
theorem proved : Rows.PolynomialEuclidSaid := over
end Go.Proofs.Ythpcneeidhmdkaa.polynomialEuclid
