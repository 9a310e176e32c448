import Derived.Test.YtplppbfnlfehnaaDoorAztLB
import Derived.Test.YtplppbfnlfehnaaDoorAztPG
import Derived.Test.YtplppbfnlfehnaaDoorTail3
namespace Go.Proofs.YtplppbfnlfehnaaDoor.aztextMinimal
open Go.RowKit Go.WideMaps Go.Maps
set_option linter.unusedVariables false
theorem decF_len : ∀ (f m : Nat) (b : List Bool) (out : List UInt8), m < 5 → (decF f m b out).1.length ≤ out.length + b.length ∧ ((decF f m b out).2 ≠ 0 → (decF f m b out).1 = []) := by
  intro f
  induction f with
  | zero => intro m b out _; exact ⟨Nat.le_add_right _ _, fun h => absurd rfl h⟩
  | succ f ih =>
    intro m b out hm
    cases he : endB b with
    | true => rw [decF_end he]; exact ⟨Nat.le_add_right _ _, fun h => absurd rfl h⟩
    | false =>
      by_cases hr : (stRes m b out).1 = 0
      · rw [decF_good he hr]
        obtain ⟨s1, s2, s3, s4⟩ := stRes_sf (b0 := b) (b := b) (out := out) hm (by rw [Nat.sub_self]; rfl) (Nat.le_refl _) hr
        obtain ⟨h1, h2⟩ := ih (stRes m b out).2.2.2 (stRes m b out).2.1 (stRes m b out).2.2.1 s4
        exact ⟨by omega, h2⟩
      · rw [decF_bad he hr]
        exact ⟨Nat.zero_le _, fun _ => rfl⟩
theorem decRes_len (b : List Bool) : (decRes b).1.length ≤ b.length ∧ ((decRes b).2 ≠ 0 → (decRes b).1 = []) := by
  unfold decRes
  split
  · exact ⟨Nat.zero_le _, fun _ => rfl⟩
  · have h := decF_len (b.length + 1) 0 b [] (by omega)
    exact ⟨by simpa using h.1, h.2⟩
set_option maxRecDepth 100000 in
set_option maxHeartbeats 4000000 in
theorem yes_walk (A : Option Addr) (n c : Nat) (b : List Bool) (w : World) (hp : SR vB false w A n c b) (hn : n ≤ 1500) (l : List UInt8) (hd : decRes b = (l, 0)) :
    Calls Tryd.prog 9 #[.slice A n c] w fun e w' => e = .returned (.bool true) ∧ Below w.heap.size w w' := by
  have hN : n = b.length := hp.hn
  have hll : l.length ≤ 1500 := by have h := (decRes_len b).1; rw [hd] at h; simp only at h; omega
  have hps : (bA l).size ≤ 4096 := by rw [bA_size]; omega
  have HP := Lib.hid hp
  have HN := Lib.hid hN
  have HPS := Lib.hid hps
  have HD := Lib.hid hd
  have HLL := Lib.hid hll
  have d1 : decide ((1500 : Int) < (n : Int)) = false := by simp; omega
  clear hp hN hps hd hll
  go_enter Tryd.func9, Tryd.ntmps9
  go_wp2_with fail
  refine (Decode_any A n c b _ HP.out).mono ?_
  rintro e1 w1 ⟨v1, rfl, hs, hb⟩
  rw [HD.out] at hs
  rw [HD.out]
  obtain ⟨A1, n1, c1, rfl, hr⟩ := hs.parts
  have hn1 : n1 ≤ 1500 := by rw [hr.hn]; exact HLL.out
  have HB1 := Lib.hid hb
  have HP1 := Lib.hid (HP.out.below hb)
  have HR1 := Lib.hid hr
  clear hs hr hb
  go_wp2_with fail
  refine (Length_any A1 n1 c1 l _ HR1.out (by omega)).mono ?_
  rintro e2 w2 ⟨C2, hC2, rfl, hb⟩
  have hC2' : Cost (bA l) C2 := hC2
  have HC2 := Lib.hid hC2'
  obtain ⟨N, hNN⟩ : ∃ N, N = C2 0 0 := ⟨_, rfl⟩
  rw [← hNN]
  have HNN := Lib.hid hNN
  have hmin := dec_min (by rw [← HN.out]; omega) HD.out (by have := HLL.out; omega) hC2'
  rw [← hNN, ← HN.out] at hmin
  have hNn : N ≤ n := hmin.1
  have HLX := Lib.hid hmin.2
  have HB2 := Lib.hid (bwStep HB1.out hb)
  have HP2 := Lib.hid (HP1.out.below hb)
  have HR2 := Lib.hid (HR1.out.below hb)
  clear hC2 hC2' hNN hmin hb HP1 HR1
  go_wp2_with fail
  refine (Encode_any A1 n1 c1 l _ HR2.out (by omega)).mono ?_
  rintro e3 w3 ⟨C3, hC3, v3, rfl, hs, hb⟩
  have hC3' : Cost (bA l) C3 := hC3
  obtain ⟨E, hE⟩ : ∃ E, E = encP (bA l) C2 := ⟨_, rfl⟩
  have hs0 : SG vB false w3 v3 E := by rw [hE, (encP_congr HPS.out HC2.out hC3').1]; exact hs
  obtain ⟨A3, n3, c3, rfl, hr⟩ := hs0.parts
  have hn3 : n3 = N := by rw [hr.hn, hE, encP_len HPS.out HC2.out, HNN.out]
  subst hn3
  have HLXE : Hid (n3 = n → LexOK E b) := by show _ → _; rw [hE]; exact HLX.out
  have HB3 := Lib.hid (bwStep HB2.out hb)
  have HP3 := Lib.hid (HP2.out.below hb)
  have HS3 := Lib.hid hr
  clear hC3 hC3' hE hs hs0 hr hb HP2 HR2 HLX
  have d5 : decide (n < n3) = false := by simp; omega
  by_cases hlt : n3 < n
  · have d6 : decide (n3 < n) = true := by simp; omega
    go_wp2
    go_loopw [57] (fun iv wr => iv = .int .i64 0 ∧ Hid (Abv w3 wr)) (fun _ _ => 0)
    case atStart => exact ⟨rfl, Below.refl _ _⟩
    case round =>
      obtain ⟨rfl, hW⟩ := hrel
      by_cases h0 : 0 < n3
      · have d7 : decide ((0 : Int) < (n3 : Int)) = true := by simp; omega
        go_wp2
        refine wp_region_W (S := Abv w3) [(false, 0), (false, 1), (false, 2), (false, 3), (false, 4), (false, 5), (false, 6), (false, 7), (false, 8), (false, 9), (false, 10), (false, 11), (false, 12), (false, 13), (false, 14)] (by kernel_rfl) (by kernel_rfl) (bwDrew hW.out) ?_
        simp only [attachW, List.getElem?_cons_zero, List.getElem?_cons_succ]
        refine' wpHX_val rfl (fun W hW => ?_) ?_
        rotate_left
        · go_simp; rfl
        simp only [Act.put, List.setIfInBounds_toArray, List.set_cons_zero, List.set_cons_succ]
        refine' wpHX_val rfl (fun W hW => ?_) ?_
        rotate_left
        · go_simp; rfl
        simp only [Act.put, List.setIfInBounds_toArray, List.set_cons_zero, List.set_cons_succ]
        refine' wpHX_val rfl (fun W hW => ?_) ?_
        rotate_left
        · go_simp; rfl
        simp only [Act.put, List.setIfInBounds_toArray, List.set_cons_zero, List.set_cons_succ]
        refine' wpHX_val rfl (fun W hW => ?_) ?_
        rotate_left
        · go_simp; rfl
        simp only [Act.put, List.setIfInBounds_toArray, List.set_cons_zero, List.set_cons_succ]
        refine' wpHX_val rfl (fun W hW => ?_) ?_
        rotate_left
        · go_simp; rfl
        simp only [Act.put, List.setIfInBounds_toArray, List.set_cons_zero, List.set_cons_succ]
        refine wpHX_not rfl ?_
        simp only [Act.put, List.setIfInBounds_toArray, List.set_cons_zero, List.set_cons_succ]
        refine wpHX_not rfl ?_
        simp only [Act.put, List.setIfInBounds_toArray, List.set_cons_zero, List.set_cons_succ]
        refine wpHX_not rfl ?_
        simp only [Act.put, List.setIfInBounds_toArray, List.set_cons_zero, List.set_cons_succ]
        refine wpHX_not rfl ?_
        simp only [Act.put, List.setIfInBounds_toArray, List.set_cons_zero, List.set_cons_succ]
        refine wpHX_not rfl ?_
        simp only [Act.put, List.setIfInBounds_toArray, List.set_cons_zero, List.set_cons_succ]
        refine wpHX_not rfl ?_
        simp only [Act.put, List.setIfInBounds_toArray, List.set_cons_zero, List.set_cons_succ]
        refine wpHX_not rfl ?_
        simp only [Act.put, List.setIfInBounds_toArray, List.set_cons_zero, List.set_cons_succ]
        refine wpHX_not rfl ?_
        simp only [Act.put, List.setIfInBounds_toArray, List.set_cons_zero, List.set_cons_succ]
        refine wpHX_not rfl ?_
        simp only [Act.put, List.setIfInBounds_toArray, List.set_cons_zero, List.set_cons_succ]
        refine' wpHX_val rfl (fun W hW => ?_) ?_
        rotate_left
        · go_simp; rfl
        simp only [Act.put, List.setIfInBounds_toArray, List.set_cons_zero, List.set_cons_succ]
        refine wpHX_nil ?_
        have HWD : Hid (Abv w3 wr.drew) := bwDrew hW.out
        go_wp2_with (go_at_call 11; refine (alive_any _).mono ?_; rintro e w8 ⟨rfl, hb8⟩; have HB8 := Lib.hid (bwStep (HB3.out.trans (HWD.out.mono HB3.out.size)) hb8); clear hb8)
        go_ret
        exact ⟨rfl, HB8.out⟩
      · have hz : n3 = 0 := by omega
        subst hz
        go_wp2_with (go_at_call 11; refine (alive_any _).mono ?_; rintro e w8 ⟨rfl, hb8⟩; have HB8 := Lib.hid (bwStep (HB3.out.trans (hW.out.mono HB3.out.size)) hb8); clear hb8)
        go_ret
        exact ⟨rfl, HB8.out⟩
  · have hEn : n3 = n := by omega
    subst hEn
    have HLE := Lib.hid (HLXE.out rfl)
    clear HLXE hlt hNn d5
    have d6 : decide (n3 < n3) = false := by simp
    go_wp2
    go_loopw [57] (fun iv wr => ∃ i : Nat, i ≤ n3 ∧ iv = .int .i64 i ∧ Hid (Abv w3 wr) ∧ Hid (∀ j, j < i → E.getD j false = b.getD j false)) (fun iv _ => n3 - (intOf iv).toNat)
    case atStart => exact ⟨0, Nat.zero_le _, rfl, Below.refl _ _, fun j hj => by omega⟩
    case round =>
      obtain ⟨i, hi, rfl, hW, hJ⟩ := hrel
      by_cases hlt : i < n3
      · obtain ⟨ad, rfl, hadw, hcs⟩ := (HS3.out.below hW.out).rd (by rw [← HS3.out.hn]; omega)
        have hx1 := hcs i (by rw [← HS3.out.hn]; exact hlt)
        obtain ⟨ad2, rfl, hadw2, hcs2⟩ := (HP3.out.below hW.out).rd (by rw [← HN.out]; omega)
        have hx2 := hcs2 i (by rw [← HN.out]; exact hlt)
        have HLO : Hid (E.getD i false ≠ b.getD i false → b.getD i false = true) := HLE.out i (by rw [← HS3.out.hn]; exact hlt) hJ.out
        have HJ2 : Hid (E.getD i false = b.getD i false → ∀ j, j < i + 1 → E.getD j false = b.getD j false) := by
          show _ → _
          intro h j hj
          rcases Nat.lt_or_ge j i with h1 | h1
          · exact hJ.out j h1
          · obtain rfl : j = i := by omega
            exact h
        clear hcs hcs2
        generalize E.getD i false = y at *
        generalize b.getD i false = z at *
        have CF : Hid (∀ W, Abv wr W → W.cell? (ad.add i) = some (.bool y) ∧ W.cell? (ad2.add i) = some (.bool z)) := fun W hq => ⟨(hq.cell (by rw [block_of_add]; exact hadw)).trans hx1, (hq.cell (by rw [block_of_add]; exact hadw2)).trans hx2⟩
        clear hx1 hx2
        go_wp2
        refine wp_region_W (S := Abv wr) [(false, 0), (false, 1), (false, 2), (false, 3), (false, 4), (false, 5), (false, 6), (false, 7), (false, 8), (false, 9), (false, 10), (false, 11), (false, 12), (false, 13), (false, 14)] (by kernel_rfl) (by kernel_rfl) (bwDrew (Below.refl _ _)) ?_
        simp only [attachW, List.getElem?_cons_zero, List.getElem?_cons_succ]
        repeat
          first
          | refine' wpHX_val rfl (fun W hW => ?_) ?_
          | refine' wpHX_gval rfl (fun W hW => ?_) ?_
          rotate_left
          · have hcf := CF.out W hW; go_simp; rfl
          simp only [Act.put, List.setIfInBounds_toArray, List.set_cons_zero, List.set_cons_succ]
        refine wpHX_nil ?_
        have HWD : Hid (Abv w3 wr.drew) := bwDrew hW.out
        obtain ⟨f1, f2⟩ := CF.out wr.drew (bwDrew (Below.refl _ _))
        cases y <;> cases z
        · have HJ3 := Lib.hid (HJ2.out rfl)
          clear HJ2 HLO CF
          go_wp2
          exact ⟨⟨i + 1, by omega, by go_num, HWD.out, HJ3.out⟩, by simp [intOf]; omega⟩
        · clear HJ2 HLO CF
          go_wp2_with (go_at_call 11; refine (alive_any _).mono ?_; rintro e w8 ⟨rfl, hb8⟩; have HB8 := Lib.hid (bwStep (HB3.out.trans (HWD.out.mono HB3.out.size)) hb8); clear hb8)
          go_ret
          exact ⟨rfl, HB8.out⟩
        · exact absurd (HLO.out (by simp)) (by simp)
        · have HJ3 := Lib.hid (HJ2.out rfl)
          clear HJ2 HLO CF
          go_wp2
          exact ⟨⟨i + 1, by omega, by go_num, HWD.out, HJ3.out⟩, by simp [intOf]; omega⟩
      · obtain rfl : i = n3 := by omega
        go_wp2_with (go_at_call 11; refine (alive_any _).mono ?_; rintro e w8 ⟨rfl, hb8⟩; have HB8 := Lib.hid (bwStep (HB3.out.trans (hW.out.mono HB3.out.size)) hb8); clear hb8)
        go_ret
        exact ⟨rfl, HB8.out⟩
set_option maxRecDepth 100000 in
set_option maxHeartbeats 4000000 in
theorem law_walk (A : Option Addr) (n c : Nat) (b : List Bool) (w : World) (hp : SR vB false w A n c b) :
    Calls Tryd.prog 9 #[.slice A n c] w fun e w' => e = .returned (.bool true) ∧ Below w.heap.size w w' := by
  have hn63 : n ≤ 9223372036854775807 := by have := hp.hm; have := hp.hc; unfold maxLen at *; omega
  by_cases hn : n ≤ 1500
  · by_cases hr : (decRes b).2 = 0
    · exact yes_walk A n c b w hp hn (decRes b).1 (by rw [← hr])
    · have HF : Hid ((decRes b).1 = []) := (decRes_len b).2 hr
      have HP := Lib.hid hp
      obtain ⟨er, her⟩ : ∃ er, er = (decRes b).2 := ⟨_, rfl⟩
      rw [← her] at hr
      have HER := Lib.hid her
      have z1 : (er == 0) = false := by rw [beq_eq_false_iff_ne]; exact hr
      have z2 : (er != 0) = true := by rw [bne, z1]; rfl
      have d1 : decide ((1500 : Int) < (n : Int)) = false := by simp; omega
      clear hp hr her
      go_enter Tryd.func9, Tryd.ntmps9
      go_wp2_with fail
      refine (Decode_any A n c b _ HP.out).mono ?_
      rintro e1 w1 ⟨v1, rfl, hs, hb⟩
      rw [HF.out] at hs
      rw [← HER.out]
      obtain ⟨A1, n1, c1, rfl, hr⟩ := hs.parts
      have hn1 : n1 = 0 := hr.hn
      subst hn1
      have HB := Lib.hid hb
      clear hr hs hb
      go_wp2_with (go_at_call 11; refine (alive_any _).mono ?_; rintro e w8 ⟨rfl, hb8⟩; have HB8 := Lib.hid (bwStep HB.out hb8); clear hb8)
      go_ret
      exact ⟨rfl, HB8.out⟩
  · have d1 : decide ((1500 : Int) < (n : Int)) = true := by simp; omega
    clear hp
    go_enter Tryd.func9, Tryd.ntmps9
    go_wp2_with (go_at_call 11; refine (alive_any _).mono ?_; rintro e w8 ⟨rfl, hb8⟩; have HB8 := Lib.hid hb8; clear hb8)
    go_ret
    exact ⟨rfl, HB8.out⟩
end Go.Proofs.YtplppbfnlfehnaaDoor.aztextMinimal
