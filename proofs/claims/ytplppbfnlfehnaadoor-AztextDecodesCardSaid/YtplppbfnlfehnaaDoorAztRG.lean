import Derived.Test.YtplppbfnlfehnaaDoorAztRF
namespace Go.Proofs.YtplppbfnlfehnaaDoor
open Go.RowKit Go.WideMaps Go.Maps
set_option linter.unusedVariables false
/-! the reference's Decode -/
theorem RdecF_end {F m : Nat} {b : List Bool} {out : List UInt8} (h : endB b = true) : decF (F + 1) m b out = (out, 0) := by
  unfold decF
  rw [if_pos h]
theorem RdecF_bad {F m : Nat} {b : List Bool} {out : List UInt8} (h : endB b = false) (he : (stRes m b out).1 ≠ 0) : decF (F + 1) m b out = ([], (stRes m b out).1) := by
  show (if endB b = true then (out, (0 : Int)) else if (stRes m b out).1 = 0 then decF F (stRes m b out).2.2.2 (stRes m b out).2.1 (stRes m b out).2.2.1 else ([], (stRes m b out).1)) = _
  rw [h, if_neg (by simp), if_neg he]
theorem RdecF_good {F m : Nat} {b : List Bool} {out : List UInt8} (h : endB b = false) (he : (stRes m b out).1 = 0) : decF (F + 1) m b out = decF F (stRes m b out).2.2.2 (stRes m b out).2.1 (stRes m b out).2.2.1 := by
  show (if endB b = true then (out, (0 : Int)) else if (stRes m b out).1 = 0 then decF F (stRes m b out).2.2.2 (stRes m b out).2.1 (stRes m b out).2.2.1 else ([], (stRes m b out).1)) = _
  rw [h, if_neg (by simp), if_pos he]
structure DSC (w wr : World) (X : Nat) (at_ mode : Nat) (out : List UInt8) (Ao : Option Addr) (co : Nat) : Prop where
  B : Below w.heap.size w wr
  xr : RowIs wr X (scC at_ mode Ao out.length co).toArray 77
  O : wr.ownsRow w.heap.size 5 1 (.slice Ao out.length co) out.length (out.map vU)
  nX : w.heap.size ≤ X
def atAt (W : World) (X : Nat) : Nat := match W.cell? ⟨X, 0, none⟩ with | some (.int _ k) => k.toNat | _ => 0
def evZ : Value → Nat | .int _ 0 => 1 | _ => 0
theorem evZ_ne {er : Int} (h : er ≠ 0) : evZ (.int .i64 er) = 0 := by unfold evZ; split <;> simp_all
theorem atAt_row {W : World} {X at_ mode k c : Nat} {A : Option Addr} (h : RowIs W X (scC at_ mode A k c).toArray 77) : atAt W X = at_ := by
  unfold atAt
  rw [h.cell 0 _ rfl]; rfl
set_option maxRecDepth 100000 in
set_option maxHeartbeats 4000000 in
theorem RDecode_ref (A : Option Addr) (n c : Nat) (b : List Bool) (w : World) (hb : SR vB false w A n c b) :
    Calls Tryd.prog 17 #[.slice A n c] w (RT vU 0 w (decRes b)) := by
  have hn : n = b.length := hb.hn
  by_cases hl : n ≤ 1048576
  · have HR : Hid (decRes b = decF (n + 1) 0 b []) := by show _ = _; unfold decRes; rw [if_neg (by omega), hn]
    have hd : decide ((1048576 : Int) < (n : Int)) = false := by simp; omega
    have HB := Lib.hid hb
    have HN := Lib.hid hn
    have HL := Lib.hid hl
    clear hb hn
    go_enter Tryd.func17, Tryd.ntmps17
    go_wp2
    have HD0 : Hid (DSC w (w.alloc (.cells #[.int .i64 0, .int .i64 0, .slice none 0 0] 77)) w.heap.size 0 0 [] none 0) :=
      ⟨bwA _ _, RowIs.new _ _ _ _ rfl, ownsRow_alloc' (World.ownsRow_nil _ _ _ _) _, Nat.le_refl _⟩
    obtain ⟨X, hX⟩ : ∃ X, X = w.heap.size := ⟨_, rfl⟩
    obtain ⟨W0, hW0⟩ : ∃ W0, W0 = w.alloc (.cells #[.int .i64 0, .int .i64 0, .slice none 0 0] 77) := ⟨_, rfl⟩
    have HXX : Hid (X = w.heap.size) := hX
    rw [← hW0, show DSC w W0 w.heap.size = DSC w W0 X from by rw [hX]] at HD0
    change Code.wp _ _ _ _ (w.alloc (.cells #[.int .i64 0, .int .i64 0, .slice none 0 0] 77))
    rw [← hW0, show (Value.pointer (some { block := w.heap.size, off := 0 })) = (Value.pointer (some { block := X, off := 0 })) from by rw [hX]]
    clear hW0 hX
    go_loopw [5] (fun ev wr => (ev = .int .i64 0 ∧ ∃ (at_ mode f : Nat) (out : List UInt8) (Ao : Option Addr) (co : Nat), at_ ≤ n ∧ mode < 5 ∧ Hid (DSC w wr X at_ mode out Ao co) ∧ Hid (decF f mode (b.drop at_) out = decRes b) ∧ n - at_ < f ∧ Hid (out.length + (b.drop at_).length ≤ b.length)) ∨ (∃ (er : Int) (at_ mode k : Nat) (Ao : Option Addr) (co : Nat), er ≠ 0 ∧ ev = .int .i64 er ∧ at_ ≤ n ∧ Hid (Below w.heap.size w wr) ∧ Hid (RowIs wr X (scC at_ mode Ao k co).toArray 77) ∧ Hid (decRes b = ([], er)))) (fun ev wr => evZ ev * (n + 1 - atAt wr X))
    case atStart => exact .inl ⟨rfl, 0, 0, n + 1, [], none, 0, by omega, by omega, HD0.out, HR.out.symm, by omega, by show _ ≤ _; simp⟩
    case round =>
      rcases hrel with ⟨rfl, at_, mode, f, out, Ao, co, hat, hmd, hD, hF, hf, hO⟩ | ⟨er, at_, mode, k, Ao, co, her, rfl, hat, hB, hX2, hF⟩
      · have f0 := hD.out.xr.cell 0 _ rfl
        have f2 := hD.out.xr.cell 2 _ rfl
        obtain ⟨f', rfl⟩ : ∃ f', f = f' + 1 := ⟨f - 1, by omega⟩
        have HS : Hid (SR vB false wr A n c b) := HB.out.below hD.out.B
        cases he : endB (b.drop at_) with
        | true =>
          have HFF : Hid (decRes b = (out, 0)) := by show _ = _; rw [← hF.out]; exact RdecF_end he
          have HE : Hid (Calls Tryd.prog 34 #[.slice A n c, .int .i64 (at_ : Int)] wr fun e w' => e = .returned (.bool true) ∧ w' = wr) := by rw [← he]; exact ROver_ref A n c b at_ wr HS.out hat HL.out
          clear hF he
          go_wp2_with (go_at_call 34; refine HE.out.mono ?_; rintro e W4 ⟨rfl, h4⟩; rw [h4]; clear h4)
          go_ret2
          exact RT.mk HFF.out (SG.of_own hD.out.O) hD.out.B
        | false =>
          have HE : Hid (Calls Tryd.prog 34 #[.slice A n c, .int .i64 (at_ : Int)] wr fun e w' => e = .returned (.bool false) ∧ w' = wr) := by rw [← he]; exact ROver_ref A n c b at_ wr HS.out hat HL.out
          have hOL : out.length ≤ 70000000 := by have := hO.out; have := HL.out; have := HN.out; omega
          have HST : Hid (Calls Tryd.prog 35 #[.slice A n c, .agg #[.int .i64 (at_ : Int), .int .i64 (mode : Int), .slice Ao out.length co]] wr (ScanRes w.heap.size w wr b (stRes mode (b.drop at_) out))) :=
            RStep_ref w.heap.size w wr A n c b at_ mode out Ao co HB.out hD.out.B hD.out.O rfl hat HL.out hOL hmd
          have HFF : Hid (decRes b = if (stRes mode (b.drop at_) out).1 = 0 then decF f' (stRes mode (b.drop at_) out).2.2.2 (stRes mode (b.drop at_) out).2.1 (stRes mode (b.drop at_) out).2.2.1 else ([], (stRes mode (b.drop at_) out).1)) := by
            show _ = _
            rw [← hF.out]
            by_cases h0 : (stRes mode (b.drop at_) out).1 = 0
            · rw [if_pos h0]; exact RdecF_good he h0
            · rw [if_neg h0]; exact RdecF_bad he h0
          have HSF : Hid ((stRes mode (b.drop at_) out).1 = 0 → b.drop (b.length - (stRes mode (b.drop at_) out).2.1.length) = (stRes mode (b.drop at_) out).2.1 ∧ (stRes mode (b.drop at_) out).2.1.length < (b.drop at_).length ∧ (stRes mode (b.drop at_) out).2.2.1.length + (stRes mode (b.drop at_) out).2.1.length ≤ out.length + (b.drop at_).length ∧ (stRes mode (b.drop at_) out).2.2.2 < 5) := by
            show _ → _
            refine stRes_sf hmd ?_ (by rw [List.length_drop]; omega)
            rw [List.length_drop, show b.length - (b.length - at_) = at_ from by have := HN.out; omega]
          have HLN : Hid (atAt wr X = at_) := atAt_row hD.out.xr
          clear hF he hOL
          obtain ⟨sr, hsr⟩ : ∃ sr, sr = stRes mode (b.drop at_) out := ⟨_, rfl⟩
          rw [← hsr] at HFF HSF HST
          clear hsr
          go_wp2_with (first
            | (go_at_call 34; refine HE.out.mono ?_; rintro e W4 ⟨rfl, h4⟩; rw [h4]; clear h4)
            | ((with_reducible show wpList _ _ _ (⟨_, Op.load 77 _, _, _, _, _⟩ :: _) _ _); refine wpList_loadAgg rfl 77 _ rfl _ Tryd.underlying77 rfl ⟨X, 0, none⟩ (scC at_ mode Ao out.length co) scanSz rfl (load_cells hD.out.xr.cells) ?_)
            | (go_at_call 35; refine HST.out.mono ?_; rintro e W5 ⟨t2, m2, n2, A2, c2, ⟨rfl, ht9⟩, ⟨hB9, hK9⟩, hp9⟩; have HX9 : Hid (RowIs W5 X (scC at_ mode Ao out.length co).toArray 77) := hD.out.xr.kp hK9 rfl; have HB9 := Lib.hid hB9; have HP9 := Lib.hid hp9; clear hB9 hK9 hp9)
            | ((with_reducible show wpList _ _ _ (⟨_, Op.store 77 _ _, _, _, _, _⟩ :: _) _ _); refine wpList_storeAgg rfl 77 _ _ rfl 77 X 0 _ (scC t2 m2 A2 n2 c2) rfl rfl HX9.out scanSz (by show 3 ≤ 3; omega) (sc_one _ _ _ _ _) ?_))
          rw [splice_all _ (scC t2 m2 A2 n2 c2) (by rfl)]
          have hnX : w.heap.size ≤ X := hD.out.nX
          have hrow : RowIs (W5.setRow X (scC t2 m2 A2 n2 c2).toArray) X (scC t2 m2 A2 n2 c2).toArray 77 := HX9.out.set _
          have hbel : Below w.heap.size w (W5.setRow X (scC t2 m2 A2 n2 c2).toArray) := below_setRow HB9.out hnX _
          rw [← HN.out] at ht9
          rw [atAt_row hrow, HLN.out]
          by_cases er0 : sr.1 = 0
          · obtain ⟨q1, q2, q3, q4, q5⟩ := HP9.out er0
            obtain ⟨s1, s2, s3, s4⟩ := HSF.out er0
            subst q3 q4
            have hlen : (b.drop t2).length = n - t2 := by rw [List.length_drop, HN.out]
            have hlen2 : (b.drop at_).length = n - at_ := by rw [List.length_drop, HN.out]
            rw [← q2, hlen, hlen2] at s2
            refine ⟨.inl ⟨by rw [er0], t2, sr.2.2.2, f', sr.2.2.1, A2, c2, ht9, s4, ⟨hbel, hrow, ?_, hnX⟩, ?_, by omega, ?_⟩, ?_⟩
            · refine ⟨q5.1, ?_⟩
              rcases q5.2 with h2 | ⟨g, cap, cur, h1, h2, h3, h4⟩
              · exact .inl h2
              · refine .inr ⟨g, cap, cur, h1, h2, ?_, h4⟩
                have hne : g ≠ X := fun e => Tag.ne (⟨cur, h3⟩ : Tag W5 g 5) HX9.out.tag (by decide) e
                exact (setRow_other W5 X g _ hne).trans h3
            · show _ = _
              rw [HFF.out, if_pos er0, q2]
            · show _ ≤ _
              rw [q2]
              have := hO.out
              omega
            · rw [er0]
              show 1 * _ < 1 * _
              omega
          · refine ⟨.inr ⟨sr.1, t2, m2, n2, A2, c2, er0, rfl, ht9, hbel, hrow, by show _ = _; rw [HFF.out, if_neg er0]⟩, ?_⟩
            rw [evZ_ne er0]
            show 0 * _ < 1 * _
            omega
      · have f0 := hX2.out.cell 0 _ rfl
        have HS : Hid (SR vB false wr A n c b) := HB.out.below hB.out
        have HE : Hid (∃ z, Calls Tryd.prog 34 #[.slice A n c, .int .i64 (at_ : Int)] wr fun e w' => e = .returned (.bool z) ∧ w' = wr) := ⟨_, ROver_ref A n c b at_ wr HS.out hat HL.out⟩
        have hz : (er == 0) = false := by rw [beq_eq_false_iff_ne]; exact her
        have hz2 : (er != 0) = true := by rw [bne, hz]; rfl
        obtain ⟨z, hz3⟩ := HE.out
        have HZ := Lib.hid hz3
        clear HE hz3 her
        cases z with
        | true =>
          go_wp2_with (go_at_call 34; refine HZ.out.mono ?_; rintro e W4 ⟨rfl, h4⟩; rw [h4]; clear h4)
          go_ret2
          exact RT.mk hF.out (SG.nil_ _) hB.out
        | false =>
          go_wp2_with (go_at_call 34; refine HZ.out.mono ?_; rintro e W4 ⟨rfl, h4⟩; rw [h4]; clear h4)
          go_ret2
          exact RT.mk hF.out (SG.nil_ _) hB.out
  · have HF : Hid (decRes b = ([], 4)) := by show _ = _; unfold decRes; rw [if_pos (by omega)]
    have hd : decide ((1048576 : Int) < (n : Int)) = true := by simp; omega
    clear hb hn
    go_enter Tryd.func17, Tryd.ntmps17
    go_wp2
    go_ret2
    exact RT.mk HF.out (SG.nil_ _) (Below.refl _ _)
end Go.Proofs.YtplppbfnlfehnaaDoor
