import Derived.Test.YtplppbfnlfehnaaDoorAztZA
namespace Go.Proofs.YtplppbfnlfehnaaDoor
open Go.RowKit Go.WideMaps Go.Maps
set_option linter.unusedVariables false
/-! bytes in binary -/
def byRes : Nat → List Bool → List UInt8 → Int × List Bool × List UInt8
  | 0, b, out => (0, b, out)
  | k + 1, b, out => if b.length < 8 then (10, b, out) else byRes k (b.drop 8) (out ++ [UInt8.ofNat (numF b 0 8)])
def biRes (b : List Bool) (out : List UInt8) : Int × List Bool × List UInt8 :=
  if b.length < 5 then (10, b, out)
  else if numF b 0 5 = 0 then (if (b.drop 5).length < 11 then (10, b.drop 5, out) else byRes (numF (b.drop 5) 0 11 + 31) ((b.drop 5).drop 11) out)
  else byRes (numF b 0 5) (b.drop 5) out
/-- a byte is appended to the payload, in a plain region -/
theorem wpList_appendU {ops : Array Oper} {rest : List Oper} {o : Oper} {a : Act} {Q : Exit → Act → World → Prop} {W : World} {base : Nat} {A : Option Addr} {c : Nat} {out : List UInt8} (hO : W.ownsRow base 5 1 (.slice A out.length c) out.length (out.map vU)) (hb : base ≤ W.heap.size)
    (hgd : o.guard = none) (s y : Operand) (ho : o.op = .call { callee := .builtin .append, args := #[s, y], argTypes := #[22, 22] }) (hs : a.eval s = .slice A out.length c) (g : Nat) (x : UInt8) (hy : a.eval y = .slice (some ⟨g, 0, none⟩) 1 1) (hx : RG vU 0 W (some ⟨g, 0, none⟩) [x]) (hl : out.length ≤ 100000000)
    (hk : ∀ A' c' W', Hid (W'.ownsRow base 5 1 (.slice A' (out ++ [x]).length c') (out ++ [x]).length ((out ++ [x]).map vU)) → Hid (W.grownBy W' (Value.slice A out.length c).ownBlock) → wpList Tryd.prog ops Q rest (a.put o.dst (.slice A' (out ++ [x]).length c')) W') :
    wpList Tryd.prog ops Q (o :: rest) a W := by
  obtain ⟨i0, hi, hz0, hz1, hz2⟩ := info_parts byteInfo2
  refine wpList_append_G (f := vU) (d := 0) oneU hgd s y _ ho base 5 i0 _ 1 Tryd.underlying22 hi hz0 hz1 hz2 rfl _ out.length out hs hO (some ⟨g, 0, none⟩) 1 1 [x] hy rfl hx (by unfold maxLen; omega) (by omega) hb ?_
  intro v' w' h1 h2
  have e : out.length + 1 = (out ++ [x]).length := by simp
  rw [e] at h1
  obtain ⟨A', c', rfl⟩ := ownsRow_shape h1
  exact hk A' c' w' h1 h2
theorem u8_wrap {c : Nat} (h : c < 256) : IntKind.u8.wrap (c : Int) = (((UInt8.ofNat c).toNat : Nat) : Int) := by
  have e : (UInt8.ofNat c).toNat = c := by rw [UInt8.toNat_ofNat']; omega
  rw [e]
  show ((c : Int) % 256) = _
  omega
theorem byRes_out (k : Nat) (b : List Bool) (out : List UInt8) : k = 0 → byRes k b out = (0, b, out) := by rintro rfl; rfl
set_option maxRecDepth 100000 in
set_option maxHeartbeats 4000000 in
theorem binary_any (n : Nat) (w wa : World) (db rb : Nat) (b0 b : List Bool) (mode : Nat) (out : List UInt8) (h : DE n w wa db rb b0 b mode out) (hol : out.length ≤ 80000000) :
    Calls Tryd.prog 51 #[.pointer (some ⟨db, 0, none⟩)] wa fun e w' => e = .returned (.int .i64 (biRes b out).1) ∧ DE n w w' db rb b0 (biRes b out).2.1 mode (biRes b out).2.2 := by
  have HD := Lib.hid h
  have f0 := h.facts.1
  have HOL := Lib.hid hol
  clear h hol
  by_cases hlt : b.length < 5
  · have HT : Hid (takeRes b 0 5 = (0, 10)) := by show _ = _; unfold takeRes; rw [if_pos (by omega)]
    have HR : Hid (biRes b out = (10, b, out)) := by show _ = _; unfold biRes; rw [if_pos hlt]
    have HLT := Lib.hid hlt
    clear hlt
    go_enter Tryd.func51, Tryd.ntmps51
    go_wp2_with (go_at_call 49; refine (HD.out.reads 5 (by omega)).mono ?_; rintro e W5 ⟨rfl, h5⟩; have HW5 : Hid (W5 = wa) := (h5.elim (fun h => h.2) (fun h => absurd HLT.out (by omega))); rw [HT.out, HW5.out]; clear h5)
    go_ret
    rw [HR.out]
    exact ⟨rfl, HD.out⟩
  · have HLT := Lib.hid hlt
    obtain ⟨k, hk⟩ : ∃ k, k = numF b 0 5 := ⟨_, rfl⟩
    have hk32 : k < 32 := by rw [hk]; exact numF_lt b 0 5
    have HT : Hid (takeRes b 0 5 = (((k : Nat) : Int), 0)) := by show _ = _; unfold takeRes; rw [if_neg (by omega), hk]
    have HR : Hid (biRes b out = if k = 0 then (if (b.drop 5).length < 11 then (10, b.drop 5, out) else byRes (numF (b.drop 5) 0 11 + 31) ((b.drop 5).drop 11) out) else byRes k (b.drop 5) out) := by
      show _ = _
      unfold biRes
      rw [if_neg hlt, hk]
    clear hlt hk
    by_cases k0 : k = 0
    · subst k0
      by_cases hl2 : (b.drop 5).length < 11
      · have HT2 : Hid (takeRes (b.drop 5) 0 11 = (0, 10)) := by show _ = _; unfold takeRes; rw [if_pos (by omega)]
        have HR2 : Hid (biRes b out = (10, b.drop 5, out)) := by show _ = _; rw [HR.out, if_pos rfl, if_pos hl2]
        have HL2 := Lib.hid hl2
        clear hl2
        go_enter Tryd.func51, Tryd.ntmps51
        go_wp2_with (first
          | (go_at_call 49; (with_reducible show Calls _ _ _ wa _); refine (HD.out.reads 5 (by omega)).mono ?_; rintro e W5 ⟨rfl, h5⟩; have HD5 : Hid (DE n w W5 db rb b0 (b.drop 5) mode out) := (h5.elim (fun h => absurd h.1 HLT.out) (fun h => h.2)); have f5 := HD5.out.facts.1; rw [HT.out]; clear h5)
          | (go_at_call 49; refine (HD5.out.reads 11 (by omega)).mono ?_; rintro e W6 ⟨rfl, h6⟩; have HW6 : Hid (W6 = W5) := (h6.elim (fun h => h.2) (fun h => absurd HL2.out (by omega))); rw [HT2.out, HW6.out]; clear h6))
        go_ret
        rw [HR2.out]
        exact ⟨rfl, HD5.out⟩
      · obtain ⟨j, hj⟩ : ∃ j, j = numF (b.drop 5) 0 11 := ⟨_, rfl⟩
        have hj2 : j < 2048 := by rw [hj]; exact numF_lt (b.drop 5) 0 11
        have HT2 : Hid (takeRes (b.drop 5) 0 11 = (((j : Nat) : Int), 0)) := by show _ = _; unfold takeRes; rw [if_neg (by omega), hj]
        have HR2 : Hid (biRes b out = byRes (j + 31) ((b.drop 5).drop 11) out) := by show _ = _; rw [HR.out, if_pos rfl, if_neg hl2, hj]
        have HL2 := Lib.hid hl2
        clear hl2 hj HR
        go_enter Tryd.func51, Tryd.ntmps51
        go_wp2_with (first
          | (go_at_call 49; (with_reducible show Calls _ _ _ wa _); refine (HD.out.reads 5 (by omega)).mono ?_; rintro e W5 ⟨rfl, h5⟩; have HD5 : Hid (DE n w W5 db rb b0 (b.drop 5) mode out) := (h5.elim (fun h => absurd h.1 HLT.out) (fun h => h.2)); have f5 := HD5.out.facts.1; rw [HT.out]; clear h5)
          | (go_at_call 49; refine (HD5.out.reads 11 (by omega)).mono ?_; rintro e W6 ⟨rfl, h6⟩; have HD6 : Hid (DE n w W6 db rb b0 ((b.drop 5).drop 11) mode out) := (h6.elim (fun h => absurd h.1 HL2.out) (fun h => h.2)); rw [HT2.out]; clear h6))
        go_loopw [34] (fun iv wr => ∃ (i : Nat) (b' : List Bool) (out' : List UInt8), i ≤ (j + 31) ∧ iv = .int .i64 i ∧ Hid (DE n w wr db rb b0 b' mode out') ∧ Hid (out'.length = out.length + i) ∧ Hid (byRes ((j + 31) - i) b' out' = biRes b out)) (fun iv _ => (j + 31) - (intOf iv).toNat)
        case atStart => exact ⟨0, _, out, Nat.zero_le _, rfl, HD6.out, rfl, by show _ = _; rw [Nat.sub_zero]; exact HR2.out.symm⟩
        case round =>
          obtain ⟨i, b', out', hi, rfl, hD, hL, hR⟩ := hrel
          have f1 := hD.out.facts.1
          by_cases hlt : i < (j + 31)
          · have HS : Hid (byRes ((j + 31) - i) b' out' = if b'.length < 8 then (10, b', out') else byRes ((j + 31) - (i + 1)) (b'.drop 8) (out' ++ [UInt8.ofNat (numF b' 0 8)])) := by
              show _ = _
              obtain ⟨q, hq⟩ : ∃ q, q = (j + 31) - (i + 1) := ⟨_, rfl⟩
              rw [show (j + 31) - i = q + 1 from by omega, ← hq]; rfl
            by_cases h8 : b'.length < 8
            · have HT8 : Hid (takeRes b' 0 8 = (0, 10)) := by show _ = _; unfold takeRes; rw [if_pos (by omega)]
              have HR8 : Hid (biRes b out = (10, b', out')) := by show _ = _; rw [← hR.out, HS.out, if_pos h8]
              have H8 := Lib.hid h8
              clear h8 HS hR
              go_wp2_with (go_at_call 49; refine (hD.out.reads 8 (by omega)).mono ?_; rintro e W7 ⟨rfl, h7⟩; have HW7 : Hid (W7 = wr) := (h7.elim (fun h => h.2) (fun h => absurd H8.out (by omega))); rw [HT8.out, HW7.out]; clear h7)
              go_ret
              rw [HR8.out]
              exact ⟨rfl, hD.out⟩
            · obtain ⟨c, hc⟩ : ∃ c, c = numF b' 0 8 := ⟨_, rfl⟩
              have hc256 : c < 256 := by rw [hc]; exact numF_lt b' 0 8
              have HT8 : Hid (takeRes b' 0 8 = (((c : Nat) : Int), 0)) := by show _ = _; unfold takeRes; rw [if_neg (by omega), hc]
              have HR8 : Hid (byRes ((j + 31) - (i + 1)) (b'.drop 8) (out' ++ [UInt8.ofNat c]) = biRes b out) := by show _ = _; rw [← hR.out, HS.out, if_neg h8, hc]
              have H8 := Lib.hid h8
              have hcw := u8_wrap hc256
              clear h8 HS hR hc
              generalize UInt8.ofNat c = x at *
              go_wp2_with (first
                | (go_at_call 49; refine (hD.out.reads 8 (by omega)).mono ?_; rintro e W7 ⟨rfl, h7⟩; have HD7 : Hid (DE n w W7 db rb b0 (b'.drop 8) mode out') := (h7.elim (fun h => absurd h.1 H8.out) (fun h => h.2)); obtain ⟨Ao, co, o1, o2, o3⟩ := HD7.out.outs; have HO2 := Lib.hid o2; rw [HT8.out]; clear h7 o2 o3)
                | (at_builtin; refine wpList_appendU (ownsRow_alloc' HO2.out _) (by have := HD7.out.ge; simp; omega) rfl _ _ rfl rfl W7.heap.size x rfl (RG.one _ _ _ _ rfl) (by have := hL.out; have := HOL.out; omega) ?_; intro A8 c8 W8 ho8 hg8; obtain ⟨⟨u8, g1⟩, g2, hd8⟩ := (HD7.out.below (bwA _ _)).grow2 (ownsRow_alloc' HO2.out _) hg8.out ho8.out; have HD8 := Lib.hid hd8; clear ho8 hg8 hd8))
              have hle : (out' ++ [x]).length = out'.length + 1 := by simp
              have hd9 := HD8.out
              rw [hle] at hd9
              exact ⟨⟨i + 1, b'.drop 8, out' ++ [x], by omega, by go_num, hd9, by show _ = _; rw [hle, hL.out]; omega, HR8.out⟩, by simp [intOf]; omega⟩
          · obtain rfl : i = (j + 31) := by omega
            have HR8 : Hid (biRes b out = (0, b', out')) := by show _ = _; rw [← hR.out, Nat.sub_self]; rfl
            go_wp2
            go_ret
            rw [HR8.out]
            exact ⟨rfl, hD.out⟩
    · have HR2 : Hid (biRes b out = byRes k (b.drop 5) out) := by show _ = _; rw [HR.out, if_neg k0]
      have kz : ((k : Int) == 0) = false := by rw [beq_eq_false_iff_ne]; omega
      clear HR k0
      go_enter Tryd.func51, Tryd.ntmps51
      go_wp2_with (go_at_call 49; refine (HD.out.reads 5 (by omega)).mono ?_; rintro e W5 ⟨rfl, h5⟩; have HD5 : Hid (DE n w W5 db rb b0 (b.drop 5) mode out) := (h5.elim (fun h => absurd h.1 HLT.out) (fun h => h.2)); rw [HT.out]; clear h5)
      go_loopw [34] (fun iv wr => ∃ (i : Nat) (b' : List Bool) (out' : List UInt8), i ≤ k ∧ iv = .int .i64 i ∧ Hid (DE n w wr db rb b0 b' mode out') ∧ Hid (out'.length = out.length + i) ∧ Hid (byRes (k - i) b' out' = biRes b out)) (fun iv _ => k - (intOf iv).toNat)
      case atStart => exact ⟨0, _, out, Nat.zero_le _, rfl, HD5.out, rfl, by show _ = _; rw [Nat.sub_zero]; exact HR2.out.symm⟩
      case round =>
        obtain ⟨i, b', out', hi, rfl, hD, hL, hR⟩ := hrel
        have f1 := hD.out.facts.1
        by_cases hlt : i < k
        · have HS : Hid (byRes (k - i) b' out' = if b'.length < 8 then (10, b', out') else byRes (k - (i + 1)) (b'.drop 8) (out' ++ [UInt8.ofNat (numF b' 0 8)])) := by
            show _ = _
            obtain ⟨q, hq⟩ : ∃ q, q = k - (i + 1) := ⟨_, rfl⟩
            rw [show k - i = q + 1 from by omega, ← hq]; rfl
          by_cases h8 : b'.length < 8
          · have HT8 : Hid (takeRes b' 0 8 = (0, 10)) := by show _ = _; unfold takeRes; rw [if_pos (by omega)]
            have HR8 : Hid (biRes b out = (10, b', out')) := by show _ = _; rw [← hR.out, HS.out, if_pos h8]
            have H8 := Lib.hid h8
            clear h8 HS hR
            go_wp2_with (go_at_call 49; refine (hD.out.reads 8 (by omega)).mono ?_; rintro e W7 ⟨rfl, h7⟩; have HW7 : Hid (W7 = wr) := (h7.elim (fun h => h.2) (fun h => absurd H8.out (by omega))); rw [HT8.out, HW7.out]; clear h7)
            go_ret
            rw [HR8.out]
            exact ⟨rfl, hD.out⟩
          · obtain ⟨c, hc⟩ : ∃ c, c = numF b' 0 8 := ⟨_, rfl⟩
            have hc256 : c < 256 := by rw [hc]; exact numF_lt b' 0 8
            have HT8 : Hid (takeRes b' 0 8 = (((c : Nat) : Int), 0)) := by show _ = _; unfold takeRes; rw [if_neg (by omega), hc]
            have HR8 : Hid (byRes (k - (i + 1)) (b'.drop 8) (out' ++ [UInt8.ofNat c]) = biRes b out) := by show _ = _; rw [← hR.out, HS.out, if_neg h8, hc]
            have H8 := Lib.hid h8
            have hcw := u8_wrap hc256
            clear h8 HS hR hc
            generalize UInt8.ofNat c = x at *
            go_wp2_with (first
              | (go_at_call 49; refine (hD.out.reads 8 (by omega)).mono ?_; rintro e W7 ⟨rfl, h7⟩; have HD7 : Hid (DE n w W7 db rb b0 (b'.drop 8) mode out') := (h7.elim (fun h => absurd h.1 H8.out) (fun h => h.2)); obtain ⟨Ao, co, o1, o2, o3⟩ := HD7.out.outs; have HO2 := Lib.hid o2; rw [HT8.out]; clear h7 o2 o3)
              | (at_builtin; refine wpList_appendU (ownsRow_alloc' HO2.out _) (by have := HD7.out.ge; simp; omega) rfl _ _ rfl rfl W7.heap.size x rfl (RG.one _ _ _ _ rfl) (by have := hL.out; have := HOL.out; omega) ?_; intro A8 c8 W8 ho8 hg8; obtain ⟨⟨u8, g1⟩, g2, hd8⟩ := (HD7.out.below (bwA _ _)).grow2 (ownsRow_alloc' HO2.out _) hg8.out ho8.out; have HD8 := Lib.hid hd8; clear ho8 hg8 hd8))
            have hle : (out' ++ [x]).length = out'.length + 1 := by simp
            have hd9 := HD8.out
            rw [hle] at hd9
            exact ⟨⟨i + 1, b'.drop 8, out' ++ [x], by omega, by go_num, hd9, by show _ = _; rw [hle, hL.out]; omega, HR8.out⟩, by simp [intOf]; omega⟩
        · obtain rfl : i = k := by omega
          have HR8 : Hid (biRes b out = (0, b', out')) := by show _ = _; rw [← hR.out, Nat.sub_self]; rfl
          go_wp2
          go_ret
          rw [HR8.out]
          exact ⟨rfl, hD.out⟩
end Go.Proofs.YtplppbfnlfehnaaDoor
