import Derived.Test.YtplppbfnlfehnaaDoorAztLA
import Derived.Lib.SlBytesConst
namespace Go.Proofs.YtplppbfnlfehnaaDoor
open Go.RowKit Go.WideMaps Go.Maps
set_option linter.unusedVariables false
/-! the chapter's examples -/
theorem bitsOf_yes (s : ByteArray) (w : World) (hs : s.size ≤ 1000) (ho : parOk s = true) :
    Calls Tryd.prog 23 #[.string s] w fun e w' => ∃ v, e = .returned v ∧ SG vB false w' v (parB s) ∧ Below w.heap.size w w' := by
  have HP := Lib.hid (Parse_yes s w hs ho)
  clear ho
  go_enter Tryd.func23, Tryd.ntmps23
  go_wp2_with (go_at_call 37; refine HP.out.mono ?_; rintro e W1 ⟨v1, rfl, h1, h2⟩; have H1 := Lib.hid h1; have H2 := Lib.hid h2; clear h1 h2)
  go_ret
  exact ⟨_, rfl, H1.out, H2.out⟩
theorem SR.litM {α : Type} {f : α → Value} {d : α} (W : World) (xs : List α) (t : TypeId) (fr : Nat × Nat) (n : Nat) (hn : n = xs.length) (hm : n ≤ maxLen) : SR f d (W.alloc (.cells (xs.map f).toArray t fr)) (some ⟨W.heap.size, 0, none⟩) n n xs := by
  refine ⟨hn, Nat.le_refl _, hm, fun _ => ⟨_, rfl, by simp, fun j hj => ?_⟩⟩
  rw [add_plain, Nat.zero_add, World.cell?_alloc_mark]
  simp [List.getD, hj]
theorem SG.int {w : World} {v : Value} {l : List Nat} (h : SG vN 0 w v l) : SG vI 0 w v (l.map fun x : Nat => (x : Int)) := by
  obtain ⟨A, c, rfl, h1, h2, h3⟩ := h
  refine ⟨A, c, by simp, by simpa using h1, h2, fun hn => ?_⟩
  obtain ⟨ad, e, h4, h5⟩ := h3 (by simpa using hn)
  refine ⟨ad, e, h4, fun j hj => ?_⟩
  rw [h5 j (by simpa using hj)]
  simp only [List.length_map] at hj
  simp [List.getD, hj]
theorem Unstuff6 (A : Option Addr) (n c : Nat) (ws : List Int) (w : World) (hb : SR vI 0 w A n c ws) : Calls Tryd.prog 20 #[.slice A n c, .int .i64 6] w (RT vB false w (unstuffRes ws 6)) := Unstuff_yes A n c 6 ws w hb (by omega) (by omega)
theorem wpList_convG {P : Program} {ops : Array Oper} {rest : List Oper} {o : Oper} {a : Act} {Q : Exit → Act → World → Prop} {w : World} {v : Value} (hgd : Region.wanted o (yielded ops a.tmps) = true) (hv : (execOp a.eval o).run P w = .ok (.value v) w) (hk : wpList P ops Q rest (a.put o.dst v) w) : wpList P ops Q (o :: rest) a w := by
  refine wpList_step fun K hK => ?_
  simp only [hgd, if_true]
  unfold Oper.wp
  rw [hv]
  exact hK _ _ hk
set_option maxRecDepth 100000 in
set_option maxHeartbeats 8000000 in
theorem alive_any (w : World) : Calls Tryd.prog 11 #[] w fun e w' => e = .returned (.bool true) ∧ Below w.heap.size w w' := by
  have kc := fun (w : World) (C : Array Value) (n c : Nat) => Lib.run_convert_bytes_const (P := Tryd.prog) w 22 5 C n c Tryd.underlying22 Tryd.underlying5
  have HKC := Lib.hid kc
  have HB : Hid (Abv w w) := Below.refl _ _
  go_enter Tryd.func11, Tryd.ntmps11
  go_wp2_with fail
  refine (Encode_any _ 2 2 [65, 97] _ (SR.litM w [65, 97] 5 (2, 3) 2 rfl (by unfold maxLen; omega)) (by omega)).mono ?_
  rintro e w1 ⟨C1, hC, v1, rfl, hs, hb⟩
  rw [show encP ⟨[65, 97].toArray⟩ C1 = parB sAa from encV_Aa hC] at hs
  clear hC
  have HJ : Hid (Abv w w1) := bwStep (bwA _ _) hb
  have HB := Lib.hid (bwStep HB.out HJ.out)
  clear hb
  clear HJ
  obtain ⟨A1, n1, c1, rfl, hr⟩ := hs.parts
  clear hs
  have HS1 := Lib.hid hr
  clear hr
  have kc := HKC.out
  go_wp2_with fail
  refine (Encode_any _ 2 2 [49, 46] _ (SR.litM w1 [49, 46] 5 (2, 3) 2 rfl (by unfold maxLen; omega)) (by omega)).mono ?_
  rintro e w2 ⟨C2, hC, v2, rfl, hs, hb⟩
  rw [show encP ⟨[49, 46].toArray⟩ C2 = parB s1d from encV_1d hC] at hs
  clear hC
  have HJ : Hid (Abv w1 w2) := bwStep (bwA _ _) hb
  have HS1 := Lib.hid (HS1.out.below HJ.out)
  have HB := Lib.hid (bwStep HB.out HJ.out)
  clear hb
  clear HJ
  obtain ⟨A2, n2, c2, rfl, hr⟩ := hs.parts
  clear hs
  have HS2 := Lib.hid hr
  clear hr
  have kc := HKC.out
  go_wp2_with fail
  refine (bitsOf_yes sDe _ (by decide) (by kernel_rfl)).mono ?_
  rintro e w3 ⟨v3, rfl, hs, hb⟩
  have HJ : Hid (Abv w2 w3) := hb
  have HS1 := Lib.hid (HS1.out.below HJ.out)
  have HS2 := Lib.hid (HS2.out.below HJ.out)
  have HB := Lib.hid (bwStep HB.out HJ.out)
  clear hb
  clear HJ
  obtain ⟨A3, n3, c3, rfl, hr⟩ := hs.parts
  clear hs
  have HS3 := Lib.hid hr
  clear hr
  have kc := HKC.out
  go_wp2_with fail
  refine (Decode_any A3 n3 c3 (parB sDe) _ HS3.out).mono ?_
  rintro e w4 ⟨v4, rfl, hs, hb⟩
  rw [dec_De] at hs
  rw [dec_De]
  have HJ : Hid (Abv w3 w4) := hb
  have HS1 := Lib.hid (HS1.out.below HJ.out)
  have HS2 := Lib.hid (HS2.out.below HJ.out)
  have HS3 := Lib.hid (HS3.out.below HJ.out)
  have HB := Lib.hid (bwStep HB.out HJ.out)
  clear hb
  clear HJ
  obtain ⟨A4, n4, c4, rfl, hr⟩ := hs.parts
  clear hs HS3
  have HS4 := Lib.hid hr
  clear hr
  have kc := HKC.out
  go_wp2_with fail
  refine (bitsOf_yes sSt _ (by decide) (by kernel_rfl)).mono ?_
  rintro e w5 ⟨v5, rfl, hs, hb⟩
  have HJ : Hid (Abv w4 w5) := hb
  have HS1 := Lib.hid (HS1.out.below HJ.out)
  have HS2 := Lib.hid (HS2.out.below HJ.out)
  have HS4 := Lib.hid (HS4.out.below HJ.out)
  have HB := Lib.hid (bwStep HB.out HJ.out)
  clear hb
  clear HJ
  obtain ⟨A5, n5, c5, rfl, hr⟩ := hs.parts
  clear hs
  have HS5 := Lib.hid hr
  clear hr
  have kc := HKC.out
  go_wp2_with fail
  refine (Stuff_any A5 n5 c5 6 (parB sSt) _ HS5.out).mono ?_
  rintro e w6 ⟨v6, rfl, hs, hb⟩
  rw [stu_St] at hs
  rw [stu_St]
  have hs := hs.int
  have HJ : Hid (Abv w5 w6) := hb
  have HS1 := Lib.hid (HS1.out.below HJ.out)
  have HS2 := Lib.hid (HS2.out.below HJ.out)
  have HS4 := Lib.hid (HS4.out.below HJ.out)
  have HS5 := Lib.hid (HS5.out.below HJ.out)
  have HB := Lib.hid (bwStep HB.out HJ.out)
  clear hb
  clear HJ
  obtain ⟨A6, n6, c6, rfl, hr⟩ := hs.parts
  clear hs HS5
  have HS6 := Lib.hid hr
  clear hr
  have kc := HKC.out
  go_wp2_with fail
  refine (Unstuff6 _ 2 2 [1, 62] _ (SR.lit w6 [1, 62] 3 w6.heap.size 2 rfl rfl (by unfold maxLen; omega))).mono ?_
  rintro e w7 ⟨v7, rfl, hs, hb⟩
  rw [uns_Un] at hs
  rw [uns_Un]
  have HJ : Hid (Abv w6 w7) := bwStep (bwA _ _) hb
  have HS1 := Lib.hid (HS1.out.below HJ.out)
  have HS2 := Lib.hid (HS2.out.below HJ.out)
  have HS4 := Lib.hid (HS4.out.below HJ.out)
  have HS6 := Lib.hid (HS6.out.below HJ.out)
  have HB := Lib.hid (bwStep HB.out HJ.out)
  clear hb
  clear HJ
  obtain ⟨A7, n7, c7, rfl, hr⟩ := hs.parts
  clear hs
  have HS7 := Lib.hid hr
  clear hr
  have kc := HKC.out
  go_wp2_with fail
  refine (Length_any _ 1 1 [65] _ (SR.litM w7 [65] 5 (1, 2) 1 rfl (by unfold maxLen; omega)) (by omega)).mono ?_
  rintro e w8 ⟨C8, hC, rfl, hb⟩
  rw [show C8 0 0 = 5 from len_A hC]
  clear hC
  have HJ : Hid (Abv w7 w8) := bwStep (bwA _ _) hb
  have HS1 := Lib.hid (HS1.out.below HJ.out)
  have HS2 := Lib.hid (HS2.out.below HJ.out)
  have HS4 := Lib.hid (HS4.out.below HJ.out)
  have HS6 := Lib.hid (HS6.out.below HJ.out)
  have HS7 := Lib.hid (HS7.out.below HJ.out)
  have HB := Lib.hid (bwStep HB.out HJ.out)
  clear hb
  clear HJ
  have kc := HKC.out
  go_wp2_with fail
  refine (bitsOf_yes sAa _ (by decide) (by kernel_rfl)).mono ?_
  rintro e w9 ⟨v9, rfl, hs, hb⟩
  have HJ : Hid (Abv w8 w9) := hb
  have HS1 := Lib.hid (HS1.out.below HJ.out)
  have HS2 := Lib.hid (HS2.out.below HJ.out)
  have HS4 := Lib.hid (HS4.out.below HJ.out)
  have HS6 := Lib.hid (HS6.out.below HJ.out)
  have HS7 := Lib.hid (HS7.out.below HJ.out)
  have HB := Lib.hid (bwStep HB.out HJ.out)
  clear hb
  clear HJ
  obtain ⟨A9, n9, c9, rfl, hr⟩ := hs.parts
  clear hs
  have HS9 := Lib.hid hr
  clear hr
  have kc := HKC.out
  go_wp2_with fail
  refine (Same_any A1 n1 c1 _ A9 n9 c9 _ _ HS1.out HS9.out).mono ?_
  rintro e w10 ⟨rfl, hb⟩
  rw [decide_eq_true rfl]
  have HJ : Hid (Abv w9 w10) := hb
  have HS1 := Lib.hid (HS1.out.below HJ.out)
  have HS2 := Lib.hid (HS2.out.below HJ.out)
  have HS4 := Lib.hid (HS4.out.below HJ.out)
  have HS6 := Lib.hid (HS6.out.below HJ.out)
  have HS7 := Lib.hid (HS7.out.below HJ.out)
  have HS9 := Lib.hid (HS9.out.below HJ.out)
  have HB := Lib.hid (bwStep HB.out HJ.out)
  clear hb
  clear HJ
  have kc := HKC.out
  go_wp2_with fail
  refine (bitsOf_yes s1d _ (by decide) (by kernel_rfl)).mono ?_
  rintro e w11 ⟨v11, rfl, hs, hb⟩
  have HJ : Hid (Abv w10 w11) := hb
  have HS1 := Lib.hid (HS1.out.below HJ.out)
  have HS2 := Lib.hid (HS2.out.below HJ.out)
  have HS4 := Lib.hid (HS4.out.below HJ.out)
  have HS6 := Lib.hid (HS6.out.below HJ.out)
  have HS7 := Lib.hid (HS7.out.below HJ.out)
  have HS9 := Lib.hid (HS9.out.below HJ.out)
  have HB := Lib.hid (bwStep HB.out HJ.out)
  clear hb
  clear HJ
  obtain ⟨A11, n11, c11, rfl, hr⟩ := hs.parts
  clear hs
  have HS11 := Lib.hid hr
  clear hr
  have kc := HKC.out
  go_wp2_with fail
  refine (Same_any A2 n2 c2 _ A11 n11 c11 _ _ HS2.out HS11.out).mono ?_
  rintro e w12 ⟨rfl, hb⟩
  rw [decide_eq_true rfl]
  have HJ : Hid (Abv w11 w12) := hb
  have HS1 := Lib.hid (HS1.out.below HJ.out)
  have HS2 := Lib.hid (HS2.out.below HJ.out)
  have HS4 := Lib.hid (HS4.out.below HJ.out)
  have HS6 := Lib.hid (HS6.out.below HJ.out)
  have HS7 := Lib.hid (HS7.out.below HJ.out)
  have HS9 := Lib.hid (HS9.out.below HJ.out)
  have HS11 := Lib.hid (HS11.out.below HJ.out)
  have HB := Lib.hid (bwStep HB.out HJ.out)
  clear hb
  clear HJ
  have kc := HKC.out
  go_wp2_with ((with_reducible show wpList _ _ _ (⟨_, Op.convert 22 9 _, _, _, _, _⟩ :: _) _ _); refine wpList_convG rfl (exec_convB rfl rfl HS4.out) ?_)
  refine (Ints_any A6 n6 c6 [1, 62] (some ⟨w12.heap.size, 0, none⟩) 2 2 [1, 62] _ (HS6.out.below (bwA _ _)) (SR.lit w12 [1, 62] 3 w12.heap.size 2 rfl rfl (by unfold maxLen; omega))).mono ?_
  rintro e w13 ⟨rfl, hb⟩
  rw [decide_eq_true rfl]
  have HJ : Hid (Abv w12 w13) := bwStep (bwA _ _) hb
  have HS1 := Lib.hid (HS1.out.below HJ.out)
  have HS2 := Lib.hid (HS2.out.below HJ.out)
  have HS4 := Lib.hid (HS4.out.below HJ.out)
  have HS6 := Lib.hid (HS6.out.below HJ.out)
  have HS7 := Lib.hid (HS7.out.below HJ.out)
  have HS9 := Lib.hid (HS9.out.below HJ.out)
  have HS11 := Lib.hid (HS11.out.below HJ.out)
  have HB := Lib.hid (bwStep HB.out HJ.out)
  clear hb
  clear HJ
  have kc := HKC.out
  go_wp2_with fail
  refine (bitsOf_yes sUn _ (by decide) (by kernel_rfl)).mono ?_
  rintro e w14 ⟨v14, rfl, hs, hb⟩
  have HJ : Hid (Abv w13 w14) := hb
  have HS1 := Lib.hid (HS1.out.below HJ.out)
  have HS2 := Lib.hid (HS2.out.below HJ.out)
  have HS4 := Lib.hid (HS4.out.below HJ.out)
  have HS6 := Lib.hid (HS6.out.below HJ.out)
  have HS7 := Lib.hid (HS7.out.below HJ.out)
  have HS9 := Lib.hid (HS9.out.below HJ.out)
  have HS11 := Lib.hid (HS11.out.below HJ.out)
  have HB := Lib.hid (bwStep HB.out HJ.out)
  clear hb
  clear HJ
  obtain ⟨A14, n14, c14, rfl, hr⟩ := hs.parts
  clear hs
  have HS14 := Lib.hid hr
  clear hr
  have kc := HKC.out
  go_wp2_with fail
  refine (Same_any A7 n7 c7 _ A14 n14 c14 _ _ HS7.out HS14.out).mono ?_
  rintro e w15 ⟨rfl, hb⟩
  rw [decide_eq_true rfl]
  have HJ : Hid (Abv w14 w15) := hb
  have HS1 := Lib.hid (HS1.out.below HJ.out)
  have HS2 := Lib.hid (HS2.out.below HJ.out)
  have HS4 := Lib.hid (HS4.out.below HJ.out)
  have HS6 := Lib.hid (HS6.out.below HJ.out)
  have HS7 := Lib.hid (HS7.out.below HJ.out)
  have HS9 := Lib.hid (HS9.out.below HJ.out)
  have HS11 := Lib.hid (HS11.out.below HJ.out)
  have HS14 := Lib.hid (HS14.out.below HJ.out)
  have HB := Lib.hid (bwStep HB.out HJ.out)
  clear hb
  clear HJ
  have kc := HKC.out
  go_wp2_with fail
  go_ret
  exact ⟨rfl, HB.out⟩
end Go.Proofs.YtplppbfnlfehnaaDoor
