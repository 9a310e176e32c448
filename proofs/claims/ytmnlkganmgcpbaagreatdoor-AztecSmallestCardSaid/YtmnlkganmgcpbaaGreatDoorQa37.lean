import Derived.Test.YtmnlkganmgcpbaaGreatDoorQa35
import Derived.Test.YtmnlkganmgcpbaaGreatDoorQa36
namespace Go.Proofs.YtmnlkganmgcpbaaGreatDoor
open Go.RowKit
set_option linter.unusedVariables false
set_option linter.unusedSectionVars false
set_option linter.unusedSimpArgs false
theorem codInfo : (Tryz.prog.info? 91).map (·.zero) = some (some (.agg #[.int .i64 0, .int .i64 0, .int .i64 0, .int .i64 0, .int .i64 0])) := by kernel_rfl
theorem codSz : (Tryz.prog.info? 91).map (·.size) = some 5 := by kernel_rfl
theorem griInfo : (Tryz.prog.info? 71).map (·.zero) = some (some (.agg #[.int .i64 0, .bool false, .int .i64 0, .int .i64 0])) := by kernel_rfl
theorem griSz : (Tryz.prog.info? 71).map (·.size) = some 4 := by kernel_rfl
theorem ptElem : Tryz.prog.underlying 40 = some (.slice (Tryz.prog.elem 40)) := by kernel_rfl
theorem ptElemSz (w : World) : (sizeOf (Tryz.prog.elem 40)).run Tryz.prog w = .ok 2 w := by kernel_rfl
theorem exec_sliceP {a : Act} {o : Oper} {W : World} {x i : Operand} (ho : o.op = .slice 40 x (some i) none none) {A : Option Addr} {n c : Nat} (hx : a.eval x = .slice A n c) (k : Nat) (hi : a.eval i = .int .i64 (k : Int)) (hk : k ≤ n) {v : Value} (hv : sliced A k n c 2 = v) :
    (execOp a.eval o).run Tryz.prog W = .ok (.value v) W := by
  subst hv
  have hrun := run_slice_l (P := Tryz.prog) W 40 A n c ptElem .i64 (k : Int) (by omega) (by omega)
  rw [ptElemSz] at hrun
  simp only [Result.andThen_ok, Int.toNat_natCast] at hrun
  have hat := run_sliceAt_slice (P := Tryz.prog) W 40 (.slice A n c) (some (.int .i64 (k : Int))) none none ptElem
  unfold execOp
  simp only [ho, hx, hi, Option.map_some, Option.map_none, Sem.run_bind, Sem.run_pure, Result.andThen_ok, hat, hrun]
theorem SPf.from {B : Nat} {w : World} {A : Option Addr} {n c : Nat} {xs : List Pt} (h : SPf B w (.slice A n c) xs) (k : Nat) (hk : k ≤ n) : SPf B w (sliced A k n c 2) (xs.drop k) := by
  obtain ⟨⟨A', c', e, h1, h2, h3⟩, h4⟩ := h
  injection e with e1 e2 e3
  subst e1 e2 e3
  by_cases hck : c = k
  · have hx : xs.drop k = [] := List.drop_eq_nil_of_le (by omega)
    rw [hx]
    unfold sliced
    rw [if_pos hck]
    have hz : xs.length - k = 0 := by omega
    rw [hz]
    exact ⟨⟨A, c - k, rfl, Nat.zero_le _, by omega, fun h => absurd h (by simp)⟩, fun A' m k' ad e1 e2 => by injection e1 with e1 _ _; exact h4 A xs.length c ad rfl (e1.trans e2)⟩
  · unfold sliced
    rw [if_neg hck]
    refine ⟨⟨_, c - k, by rw [List.length_drop], by rw [List.length_drop]; omega, by omega, fun hn => ?_⟩, fun A' m k' ad e1 e2 => ?_⟩
    · rw [List.length_drop] at hn
      obtain ⟨g, o, e, hg, hc⟩ := h3 (by omega)
      refine ⟨g, o + k * 2, by rw [e, Option.map_some, add_plain], hg, fun j hj => ?_⟩
      rw [List.length_drop] at hj
      have h5 := hc (k + j) (by omega)
      have e6 : (xs.drop k).getD j (0, 0) = xs.getD (k + j) (0, 0) := by simp [List.getD]
      rw [e6, show o + k * 2 + j * 2 = o + (k + j) * 2 from by omega]
      exact h5
    · injection e1 with e1 _ _
      rw [e2] at e1
      cases A with
      | none => cases e1
      | some a0 =>
        have h5 := h4 (some a0) xs.length c a0 rfl rfl
        simp only [Option.map_some] at e1
        injection e1 with e1
        rw [← e1, block_of_add]; exact h5
theorem SR.keepX {α : Type} {f : α → Value} {d : α} {w W : World} {db : Nat} {A : Option Addr} {n c : Nat} {l : List α} (h : SR f d w A n c l) (hk : KeepX db w W) (ha : ∀ ad, A = some ad → ad.block ≠ db) : SR f d W A n c l := by
  refine ⟨h.hn, h.hc, h.hm, fun h0 => ?_⟩
  obtain ⟨ad, e, hl, hc⟩ := h.rd h0
  exact ⟨ad, e, Nat.lt_of_lt_of_le hl hk.sz, fun j hj => (hk.cell (by rw [block_of_add]; exact hl) (by rw [block_of_add]; exact ha ad e)).trans (hc j hj)⟩
abbrev codeV (L : Nat) (c : Bool) (k n db N : Nat) : Value := .agg #[.int .i64 (L : Int), .bool c, .int .i64 (k : Int), .int .i64 (n : Int), .int .i64 (n : Int), .slice (some ⟨db, 0, none⟩) N N]
abbrev zero6 : Array Value := #[.int .i64 0, .bool false, .int .i64 0, .int .i64 0, .int .i64 0, .slice none 0 0]
def PostC (wS : World) (L : Nat) (c : Bool) (z wn S P par : Nat) (A : Option Addr) (m ca : Nat) (a a' : Act) (W : World) : Prop := ∃ cb, a' = (((((((((((((a.put (some 15) (symv L c)).put (some 17) (symv L c)).put (some 19) (.slice A m ca)).put (some 20) (.int .i64 m)).put (some 16) (.int .i64 z)).put (some 18) (.int .i64 wn)).put (some 21) (.int .i64 par)).put (some 22) (.tuple #[codv 2 S P par 1, .int .i64 0])).put (some 14) (.tuple #[codv 2 S P par 1, .int .i64 0])).put (some 23) (codv 2 S P par 1)).put (some 24) (.int .i64 0)).put (some 6) (.pointer (some ⟨cb, 0, none⟩))).put (some 7) (.int .i64 0)) ∧ RowIs W cb (codC 2 S P par 1).toArray 91 ∧ Abv wS W ∧ wS.heap.size ≤ cb
def PostG (wS : World) (sb L : Nat) (c : Bool) (n C mm : Nat) (a a' : Act) (W : World) : Prop := ∃ gb, a' = ((((((a.put (some 64) (symv L c)).put (some 66) (.pointer (some ⟨sb, 1, none⟩))).put (some 67) (.bool c)).put (some 65) (.int .i64 n)).put (some 68) (gridV n c C mm)).put (some 11) (.pointer (some ⟨gb, 0, none⟩))) ∧ RowIs W gb (gridC n c C mm).toList.toArray 71 ∧ Abv wS W ∧ wS.heap.size ≤ gb
set_option maxRecDepth 100000 in
set_option maxHeartbeats 4000000 in
theorem encode_any (L : Nat) (c : Bool) (ws : List Nat) (A : Option Addr) (m ca : Nat) (w : World) (h1 : 1 ≤ L) (hL : L ≤ 32) (hc : c = true → L ≤ 4) (hw : LtAll (2 ^ sizeN L) ws) (hm1 : 1 ≤ ws.length) (hmo : ws.length ≤ mostN c) (hk : ws.length < wordsN L c) (hs : SR vN 0 w A m ca ws) :
    Calls Tryz.prog 35 #[symv L c, .slice A m ca] w fun e w' => ∃ db N, N = sideN L c * sideN L c ∧ e = .returned (.tuple #[codeV L c m (sideN L c) db N, .int .i64 0]) ∧ RowB w' db (drawL L c ws) ∧ w.heap.size ≤ db ∧ Below w.heap.size w w' := by
  have hmn : m = ws.length := hs.hn
  have HRD0 : RD w A (zl ws) := by
    obtain ⟨A', n', c', e, -, -, hr⟩ := SG.rd hs.sg
    injection e with e1 e2 e3
    rw [e1]; exact hr
  have hwf := words_fit (c := c) h1 hL hc
  have hsz := size_cases L
  have hcl := cen_le (c := c) h1 hL
  have hsl := side_big L c h1 hL
  have hm57 := mk57 c
  have hwle := words_le (c := c) hL
  have hE := encD_is (c := c) hw
  have hEl := encD_length (c := c) hw (by omega)
  have hcl2 := conL_length (c := c) hw (by omega)
  have hrm := words_room L c
  have hdl := data_length L c
  have hrl := room_le (c := c) hL
  have hmod : CodeOk 2 (2 ^ sizeN L) (prN (sizeN L)) (wordsN L c - ws.length) 1 := codz (size_WOk L) (by omega) (by omega)
  have hco9 : ws.length + (wordsN L c - ws.length) = wordsN L c := by omega
  have HSZ : Hid (∀ W, Calls Tryz.prog 33 #[symv L c] W fun e w' => e = .returned (.int .i64 ((sizeN L : Nat) : Int)) ∧ Below W.heap.size W w') := fun W => size_any L c W hL
  have HWD : Hid (∀ W, Calls Tryz.prog 44 #[symv L c] W fun e w' => e = .returned (.int .i64 ((wordsN L c : Nat) : Int)) ∧ Below W.heap.size W w') := fun W => words_any L c W hL
  have HSI : Hid (∀ W, Calls Tryz.prog 36 #[symv L c] W fun e w' => e = .returned (.int .i64 ((sideN L c : Nat) : Int)) ∧ Below W.heap.size W w') := fun W => side_any L c W hL
  have HNG : Hid (∀ W, Calls Tryz.prog 39 #[.int .i64 ((sideN L c : Nat) : Int), .bool c] W fun e w' => e = .returned (gridV (sideN L c) c (cenN L c) (mkN c)) ∧ Below W.heap.size W w') := fun W => newGrid_any (sideN L c) c W (by omega) (by omega)
  have HBK : Hid (∀ W, Calls Tryz.prog 83 #[gridV (sideN L c) c (cenN L c) (mkN c)] W fun e w' => ∃ db N, N = sideN L c * sideN L c ∧ e = .returned (matV (sideN L c) (sideN L c) db N) ∧ W.heap.size ≤ db ∧ RowB w' db (fixL (sideN L c) (cenN L c) c) ∧ Below W.heap.size W w') := fun W => blank_any (sideN L c) (cenN L c) (mkN c) c W rfl (by omega) (by omega) (by omega)
  have HPA : Hid (∀ W, Calls Tryz.prog 46 #[symv L c] W fun e w' => ∃ v, e = .returned v ∧ SPf W.heap.size w' v (dataL L c) ∧ Below W.heap.size W w') := fun W => path_any L c W hL
  have HMP : Hid (∀ W, Calls Tryz.prog 43 #[gridV (sideN L c) c (cenN L c) (mkN c)] W fun e w' => ∃ v, e = .returned v ∧ SPf W.heap.size w' v (modeL (cenN L c) c) ∧ Below W.heap.size W w') := fun W => modePath_any (sideN L c) (cenN L c) c W (by omega) (by omega)
  have HMO : Hid (∀ W, Calls Tryz.prog 23 #[.int .i64 L, .int .i64 m, .bool c] W (RT vB false W (msgL L c ws.length, 0))) := fun W => by rw [hmn]; exact Mode_yes L ws.length c W h1 hL hc hm1 hmo
  have HCD : Hid (∀ W, Calls Tryz.prog 61 #[.int .i64 ((sizeN L : Nat) : Int), .int .i64 ((wordsN L c - ws.length : Nat) : Int)] W fun e w' => e = .returned (.tuple #[codv 2 (2 ^ sizeN L) (prN (sizeN L)) (wordsN L c - ws.length) 1, .int .i64 0]) ∧ Below W.heap.size W w') := fun W => code_any (sizeN L) (wordsN L c - ws.length) W (size_WOk L) (by omega) (by omega)
  have HEN : Hid (∀ W, RD W A (zl ws) → Calls Tryz.prog 62 #[codv 2 (2 ^ sizeN L) (prN (sizeN L)) (wordsN L c - ws.length) 1, .slice A m ca] W (RetL W (zl (encD L c ws), 0))) := fun W hr => qEncode_yes 2 (2 ^ sizeN L) (prN (sizeN L)) (wordsN L c - ws.length) 1 ws m A ca W hmod hmn hw (by omega) (by omega) hr
  have HFW : Hid (∀ W A m c', SR vN 0 W A m c' (encD L c ws) → Calls Tryz.prog 63 #[.slice A m c', .int .i64 ((sizeN L : Nat) : Int)] W (RT vB false W (conL L c ws, 0))) := by
    show ∀ W A m c', _ → _
    intro W A m c' hs9
    have h9 := hs9.hn
    exact FromWords_any A m c' (sizeN L) _ W (by omega) (by omega) (by omega) hE.lt hs9
  have hdix : ∀ p ∈ dataL L c, ixN (sideN L c) p < sideN L c * sideN L c := fun p hp => ix_lt (data_in hL hp).1 (data_in hL hp).2
  have hmix : ∀ p ∈ modeL (cenN L c) c, ixN (sideN L c) p < sideN L c * sideN L c := fun p hp => by have := mode_in (c := c) (C := cenN L c) (by omega) hp; exact ix_lt (by omega) (by omega)
  have HDIX : Hid (∀ p ∈ (dataL L c).drop ((dataL L c).length - (conL L c ws).length), ixN (sideN L c) p < (fixL (sideN L c) (cenN L c) c).length) := by show ∀ p ∈ _, _; intro p hp; rw [fixL_length]; exact hdix p (List.mem_of_mem_drop hp)
  have HMIX : Hid (∀ l : List Bool, l.length = sideN L c * sideN L c → ∀ p ∈ modeL (cenN L c) c, ixN (sideN L c) p < l.length) := by show ∀ l : List Bool, _; intro l hl p hp; rw [hl]; exact hmix p hp
  have HDR : Hid (wrL (sideN L c) (wrL (sideN L c) (fixL (sideN L c) (cenN L c) c) ((dataL L c).drop ((dataL L c).length - (conL L c ws).length)) (conL L c ws)) (modeL (cenN L c) c) (msgL L c ws.length) = drawL L c ws) := rfl
  have HFL := Lib.hid (fixL_length (sideN L c) (cenN L c) c)
  have HWL := Lib.hid (fun d ps bs => wrL_length (sideN L c) d ps bs)
  have HLD : Hid (((dataL L c).drop ((dataL L c).length - (conL L c ws).length)).length = (conL L c ws).length) := by show _ = _; rw [List.length_drop]; omega
  have HLM : Hid ((modeL (cenN L c) c).length = (msgL L c ws.length).length) := by show _ = _; rw [msgL_length, mode_length]
  have HML1 : Hid (1 ≤ (msgL L c ws.length).length) := by show _ ≤ _; rw [msgL_length]; split <;> omega
  have hcl1 : 1 ≤ (conL L c ws).length := by rw [hcl2]; exact Nat.mul_pos (by omega) (by omega)
  have HCL1 := Lib.hid hcl1
  have hPD : (conL L c ws).length ≤ (dataL L c).length := by omega
  have hPD9 : (dataL L c).length ≤ 20000 := by omega
  have hn9 : sideN L c ≤ 161 := hsl.2
  obtain ⟨par, hpar⟩ : ∃ par, par = wordsN L c - ws.length := ⟨_, rfl⟩
  have hpar2 : par + ws.length = wordsN L c := by omega
  rw [← hpar] at HCD HEN
  clear hE hEl hcl2 hrm hdl hrl hmod hco9 hwf hcl hm57 hw hm1 hmo hdix hmix hpar hcl1 hk hsl h1 hL hc
  generalize drawL L c ws = dl at *
  generalize encD L c ws = en at *
  generalize conL L c ws = con at *
  generalize msgL L c ws.length = msg at *
  generalize dataL L c = pts at *
  generalize hfx : fixL (sideN L c) (cenN L c) c = fx at *
  clear hfx
  generalize modeL (cenN L c) c = mpts at *
  generalize hSe : 2 ^ sizeN L = S at *
  generalize hPe : prN (sizeN L) = P at *
  clear hSe hPe
  generalize sizeN L = z at *
  generalize wordsN L c = wn at *
  generalize sideN L c = n at *
  generalize cenN L c = C at *
  generalize mkN c = mm at *
  have hz12 : z ≤ 12 := by omega
  have epar : (wn : Int) - (m : Int) = (par : Int) := by omega
  have hpr9 : par ≤ 4000 := by omega
  have gpar : IntKind.i64.wrap (par : Int) = (par : Int) := wr64 _ (by omega) (by omega)
  have hm4 : m ≤ 4000 := by omega
  clear hsz hpar2
  obtain ⟨sb, hsb⟩ : ∃ sb, sb = w.heap.size := ⟨_, rfl⟩
  obtain ⟨rb, hrb⟩ : ∃ rb, rb = w.heap.size + 1 := ⟨_, rfl⟩
  obtain ⟨wS, hwS⟩ : ∃ wS, wS = (w.alloc (symB L c)).alloc (.cells zero6 30) := ⟨_, rfl⟩
  have HWS : Hid (Below w.heap.size w wS) := by show Below _ _ _; rw [hwS]; exact bwAlloc (bwA _ _) _
  have HSR : Hid (RowIs wS sb #[.int .i64 L, .bool c] 60) := by
    show RowIs _ _ _ _
    rw [hwS]
    have h1 : RowIs (w.alloc (symB L c)) sb #[.int .i64 L, .bool c] 60 := RowIs.new _ _ _ _ hsb
    exact h1.below (bwA _ _)
  have HRR : Hid (RowIs wS rb zero6 30) := by show RowIs _ _ _ _; rw [hwS]; exact RowIs.new _ _ _ _ (by simp [hrb])
  have HRB : Hid (w.heap.size ≤ rb ∧ sb < rb ∧ rb < wS.heap.size ∧ w.heap.size ≤ wS.heap.size) := by show _ ∧ _; rw [hwS, hrb, hsb]; simp; omega
  have CFS : Hid (∀ W, Abv wS W → W.cell? ⟨sb, 0, none⟩ = some (.int .i64 (L : Int)) ∧ W.cell? ⟨sb, 1, none⟩ = some (.bool c)) := fun W hW => ⟨(HSR.out.below hW).cell 0 _ rfl, (HSR.out.below hW).cell 1 _ rfl⟩
  have HRD := Lib.hid HRD0
  clear HRD0 hs
  have HMN := Lib.hid hmn
  clear hmn
  go_enter Tryz.func35, Tryz.ntmps35
  go_wp2
  simp only [← hrb, ← hwS]
  simp only [← hsb]
  clear hwS hrb
  have HSB := Lib.hid hsb
  clear hsb
  have HD0 : Hid (Below wS.heap.size wS wS.drew) := bwDrew (Below.refl _ _)
  refine wp_region_TP (S := Abv wS) (.br [(false, 0), (false, 2), (false, 4), (false, 5)] [1, 11] (fun k => if k = 1 then .br [] [3, 11] (fun k => if k = 3 then .br [(false, 6)] [7, 11] (fun k => if k = 7 then .last [(false, 8), (false, 9), (false, 10), (true, 11), (true, 12), (false, 13)] else .last [(true, 7), (false, 8), (false, 9), (false, 10), (true, 12), (false, 13)]) else .last [(true, 3), (false, 6), (true, 7), (false, 8), (false, 9), (false, 10), (true, 12), (false, 13)]) else .last [(true, 1), (true, 3), (false, 6), (true, 7), (false, 8), (false, 9), (false, 10), (true, 12), (false, 13)])) (PostC wS L c z wn S P par A m ca) (by kernel_rfl) (by kernel_rfl) HD0.out ?_ ?_
  · simp only [wpTree, attachW, List.getElem?_cons_zero, List.getElem?_cons_succ]
    repeat
      refine' wpHX_val rfl (fun W hW => ?_) ?_
      rotate_left
      · have hcf := CFS.out W hW; go_simp; rfl
      simp only [Act.put, List.setIfInBounds_toArray, List.set_cons_zero, List.set_cons_succ]
    refine wpHX_nil ?_
    intro k hk
    simp only [List.mem_cons, List.not_mem_nil, or_false] at hk
    rcases hk with rfl | rfl
    · simp only [reduceIte, Nat.reduceEqDiff, wpTree, attachW, List.getElem?_cons_zero, List.getElem?_cons_succ]
      refine' wpHX_acall rfl (fun W => ?_) ?_
      rotate_left 2
      · go_simp; exact ⟨rfl, rfl⟩
      refine (HSZ.out _).mono ?_
      rintro e U1 ⟨rfl, hb⟩
      have HB1 : Hid (Abv wS U1) := bwStep HD0.out hb
      clear hb
      refine ⟨_, rfl, HB1.out, ?_⟩
      simp only [Act.put, List.setIfInBounds_toArray, List.set_cons_zero, List.set_cons_succ]
      refine wpHX_nil ?_
      (try simp only [reduceIte, Nat.reduceEqDiff, wpTree, attachW, List.getElem?_cons_zero, List.getElem?_cons_succ])
      refine wpHX_nil ?_
      intro k hk
      simp only [List.mem_cons, List.not_mem_nil, or_false] at hk
      rcases hk with rfl | rfl
      · simp only [reduceIte, Nat.reduceEqDiff, wpTree, attachW, List.getElem?_cons_zero, List.getElem?_cons_succ]
        refine' wpHX_acall rfl (fun W => ?_) ?_
        rotate_left 2
        · go_simp; exact ⟨rfl, rfl⟩
        refine (HWD.out _).mono ?_
        rintro e U2 ⟨rfl, hb⟩
        have HB2 : Hid (Abv wS U2) := bwStep HB1.out hb
        clear hb
        refine ⟨_, rfl, HB2.out, ?_⟩
        simp only [Act.put, List.setIfInBounds_toArray, List.set_cons_zero, List.set_cons_succ]
        refine wpHX_nil ?_
        (try simp only [reduceIte, Nat.reduceEqDiff, wpTree, attachW, List.getElem?_cons_zero, List.getElem?_cons_succ])
        repeat
          refine' wpHX_val rfl (fun W hW => ?_) ?_
          rotate_left
          · have hcf := CFS.out W hW; go_simp; rfl
          simp only [Act.put, List.setIfInBounds_toArray, List.set_cons_zero, List.set_cons_succ]
        refine wpHX_nil ?_
        intro k hk
        simp only [List.mem_cons, List.not_mem_nil, or_false] at hk
        rcases hk with rfl | rfl
        · simp only [reduceIte, Nat.reduceEqDiff, wpTree, attachW, List.getElem?_cons_zero, List.getElem?_cons_succ]
          refine' wpHX_acall rfl (fun W => ?_) ?_
          rotate_left 2
          · go_simp; exact ⟨rfl, rfl⟩
          refine (HCD.out _).mono ?_
          rintro e U3 ⟨rfl, hb⟩
          have HB3 : Hid (Abv wS U3) := bwStep HB2.out hb
          clear hb
          refine ⟨_, rfl, HB3.out, ?_⟩
          simp only [Act.put, List.setIfInBounds_toArray, List.set_cons_zero, List.set_cons_succ]
          refine wpHX_nil ?_
          (try simp only [reduceIte, Nat.reduceEqDiff, wpTree, attachW, List.getElem?_cons_zero, List.getElem?_cons_succ])
          repeat
            refine' wpHX_val rfl (fun W hW => ?_) ?_
            rotate_left
            · have hcf := CFS.out W hW; go_simp; rfl
            simp only [Act.put, List.setIfInBounds_toArray, List.set_cons_zero, List.set_cons_succ]
          obtain ⟨U4, hU4⟩ : ∃ U, U = U3.alloc (.cells #[.int .i64 0, .int .i64 0, .int .i64 0, .int .i64 0, .int .i64 0] 91) := ⟨_, rfl⟩
          obtain ⟨b4, hb4⟩ : ∃ b, b = U3.heap.size := ⟨_, rfl⟩
          have HB4 : Hid (Abv wS U4) := by show Below _ _ _; rw [hU4]; exact bwAlloc HB3.out _
          have R4 : Hid (RowIs U4 b4 #[.int .i64 0, .int .i64 0, .int .i64 0, .int .i64 0, .int .i64 0] 91) := by show RowIs _ _ _ _; rw [hU4, hb4]; exact RowIs.new _ _ _ _ rfl
          have Z4 : Hid (wS.heap.size ≤ b4) := by show _ ≤ _; rw [hb4]; exact HB3.out.size
          refine' wpHX_allocA 91 rfl rfl _ codInfo (bwAlloc HB3.out _) ?_
          simp only [Act.put, List.setIfInBounds_toArray, List.set_cons_zero, List.set_cons_succ]
          rw [← hU4, ← hb4]
          clear hU4 hb4
          obtain ⟨U5, hU5⟩ : ∃ U, U = U4.setRow b4 (codC 2 S P par 1).toArray := ⟨_, rfl⟩
          have HB5 : Hid (Abv wS U5) := by show Below _ _ _; rw [hU5]; exact below_setRow HB4.out Z4.out _
          have R5 : Hid (RowIs U5 b4 (codC 2 S P par 1).toArray 91) := by show RowIs _ _ _ _; rw [hU5]; exact RowIs.set R4.out _
          refine wpHX_storeR 91 rfl _ _ rfl 91 b4 #[.int .i64 0, .int .i64 0, .int .i64 0, .int .i64 0, .int .i64 0] (codC 2 S P par 1) R4.out rfl rfl codSz rfl (by intro v hv; simp only [List.mem_cons, List.not_mem_nil, or_false] at hv; rcases hv with rfl | rfl | rfl | rfl | rfl <;> rfl) (by rw [← hU5]; exact HB5.out) ?_
          rw [← hU5]
          simp only [Act.put, List.setIfInBounds_toArray, List.set_cons_zero, List.set_cons_succ]
          clear hU5
          repeat
            refine' wpHX_val rfl (fun W hW => ?_) ?_
            rotate_left
            · have hcf := CFS.out W hW; go_simp; rfl
            simp only [Act.put, List.setIfInBounds_toArray, List.set_cons_zero, List.set_cons_succ]
          refine wpHX_nil ?_
          refine ⟨b4, ?_, R5.out, HB5.out, Z4.out⟩
          simp only [Act.put, List.setIfInBounds_toArray, List.set_cons_zero, List.set_cons_succ]
        · simp only [reduceIte, Nat.reduceEqDiff, wpTree, attachW, List.getElem?_cons_zero, List.getElem?_cons_succ]
          obtain ⟨U6, hU6⟩ : ∃ U, U = U2.alloc (.cells #[.int .i64 0, .int .i64 0, .int .i64 0, .int .i64 0, .int .i64 0] 91) := ⟨_, rfl⟩
          obtain ⟨b6, hb6⟩ : ∃ b, b = U2.heap.size := ⟨_, rfl⟩
          have HB6 : Hid (Abv wS U6) := by show Below _ _ _; rw [hU6]; exact bwAlloc HB2.out _
          have R6 : Hid (RowIs U6 b6 #[.int .i64 0, .int .i64 0, .int .i64 0, .int .i64 0, .int .i64 0] 91) := by show RowIs _ _ _ _; rw [hU6, hb6]; exact RowIs.new _ _ _ _ rfl
          have Z6 : Hid (wS.heap.size ≤ b6) := by show _ ≤ _; rw [hb6]; exact HB2.out.size
          refine' wpHX_allocA 91 rfl rfl _ codInfo (bwAlloc HB2.out _) ?_
          simp only [Act.put, List.setIfInBounds_toArray, List.set_cons_zero, List.set_cons_succ]
          rw [← hU6, ← hb6]
          clear hU6 hb6
          refine wpHX_nil ?_
          (try simp only [reduceIte, Nat.reduceEqDiff, wpTree, attachW, List.getElem?_cons_zero, List.getElem?_cons_succ])
          refine' wpHX_acall rfl (fun W => ?_) ?_
          rotate_left 2
          · go_simp; exact ⟨rfl, rfl⟩
          refine (HCD.out _).mono ?_
          rintro e U7 ⟨rfl, hb⟩
          have HB7 : Hid (Abv wS U7) := bwStep HB6.out hb
          have R7 := Lib.hid (R6.out.below hb)
          clear hb
          refine ⟨_, rfl, HB7.out, ?_⟩
          simp only [Act.put, List.setIfInBounds_toArray, List.set_cons_zero, List.set_cons_succ]
          repeat
            refine' wpHX_val rfl (fun W hW => ?_) ?_
            rotate_left
            · have hcf := CFS.out W hW; go_simp; rfl
            simp only [Act.put, List.setIfInBounds_toArray, List.set_cons_zero, List.set_cons_succ]
          obtain ⟨U8, hU8⟩ : ∃ U, U = U7.setRow b6 (codC 2 S P par 1).toArray := ⟨_, rfl⟩
          have HB8 : Hid (Abv wS U8) := by show Below _ _ _; rw [hU8]; exact below_setRow HB7.out Z6.out _
          have R8 : Hid (RowIs U8 b6 (codC 2 S P par 1).toArray 91) := by show RowIs _ _ _ _; rw [hU8]; exact RowIs.set R7.out _
          refine wpHX_storeR 91 rfl _ _ rfl 91 b6 #[.int .i64 0, .int .i64 0, .int .i64 0, .int .i64 0, .int .i64 0] (codC 2 S P par 1) R7.out rfl rfl codSz rfl (by intro v hv; simp only [List.mem_cons, List.not_mem_nil, or_false] at hv; rcases hv with rfl | rfl | rfl | rfl | rfl <;> rfl) (by rw [← hU8]; exact HB8.out) ?_
          rw [← hU8]
          simp only [Act.put, List.setIfInBounds_toArray, List.set_cons_zero, List.set_cons_succ]
          clear hU8
          repeat
            refine' wpHX_val rfl (fun W hW => ?_) ?_
            rotate_left
            · have hcf := CFS.out W hW; go_simp; rfl
            simp only [Act.put, List.setIfInBounds_toArray, List.set_cons_zero, List.set_cons_succ]
          refine wpHX_nil ?_
          refine ⟨b6, ?_, R8.out, HB8.out, Z6.out⟩
          simp only [Act.put, List.setIfInBounds_toArray, List.set_cons_zero, List.set_cons_succ]
      · simp only [reduceIte, Nat.reduceEqDiff, wpTree, attachW, List.getElem?_cons_zero, List.getElem?_cons_succ]
        obtain ⟨U9, hU9⟩ : ∃ U, U = U1.alloc (.cells #[.int .i64 0, .int .i64 0, .int .i64 0, .int .i64 0, .int .i64 0] 91) := ⟨_, rfl⟩
        obtain ⟨b9, hb9⟩ : ∃ b, b = U1.heap.size := ⟨_, rfl⟩
        have HB9 : Hid (Abv wS U9) := by show Below _ _ _; rw [hU9]; exact bwAlloc HB1.out _
        have R9 : Hid (RowIs U9 b9 #[.int .i64 0, .int .i64 0, .int .i64 0, .int .i64 0, .int .i64 0] 91) := by show RowIs _ _ _ _; rw [hU9, hb9]; exact RowIs.new _ _ _ _ rfl
        have Z9 : Hid (wS.heap.size ≤ b9) := by show _ ≤ _; rw [hb9]; exact HB1.out.size
        refine' wpHX_allocA 91 rfl rfl _ codInfo (bwAlloc HB1.out _) ?_
        simp only [Act.put, List.setIfInBounds_toArray, List.set_cons_zero, List.set_cons_succ]
        rw [← hU9, ← hb9]
        clear hU9 hb9
        refine wpHX_nil ?_
        (try simp only [reduceIte, Nat.reduceEqDiff, wpTree, attachW, List.getElem?_cons_zero, List.getElem?_cons_succ])
        refine' wpHX_acall rfl (fun W => ?_) ?_
        rotate_left 2
        · go_simp; exact ⟨rfl, rfl⟩
        refine (HWD.out _).mono ?_
        rintro e U10 ⟨rfl, hb⟩
        have HB10 : Hid (Abv wS U10) := bwStep HB9.out hb
        have R10 := Lib.hid (R9.out.below hb)
        clear hb
        refine ⟨_, rfl, HB10.out, ?_⟩
        simp only [Act.put, List.setIfInBounds_toArray, List.set_cons_zero, List.set_cons_succ]
        repeat
          refine' wpHX_val rfl (fun W hW => ?_) ?_
          rotate_left
          · have hcf := CFS.out W hW; go_simp; rfl
          simp only [Act.put, List.setIfInBounds_toArray, List.set_cons_zero, List.set_cons_succ]
        refine' wpHX_acall rfl (fun W => ?_) ?_
        rotate_left 2
        · go_simp; exact ⟨rfl, rfl⟩
        refine (HCD.out _).mono ?_
        rintro e U11 ⟨rfl, hb⟩
        have HB11 : Hid (Abv wS U11) := bwStep HB10.out hb
        have R11 := Lib.hid (R10.out.below hb)
        clear hb
        refine ⟨_, rfl, HB11.out, ?_⟩
        simp only [Act.put, List.setIfInBounds_toArray, List.set_cons_zero, List.set_cons_succ]
        repeat
          refine' wpHX_val rfl (fun W hW => ?_) ?_
          rotate_left
          · have hcf := CFS.out W hW; go_simp; rfl
          simp only [Act.put, List.setIfInBounds_toArray, List.set_cons_zero, List.set_cons_succ]
        obtain ⟨U12, hU12⟩ : ∃ U, U = U11.setRow b9 (codC 2 S P par 1).toArray := ⟨_, rfl⟩
        have HB12 : Hid (Abv wS U12) := by show Below _ _ _; rw [hU12]; exact below_setRow HB11.out Z9.out _
        have R12 : Hid (RowIs U12 b9 (codC 2 S P par 1).toArray 91) := by show RowIs _ _ _ _; rw [hU12]; exact RowIs.set R11.out _
        refine wpHX_storeR 91 rfl _ _ rfl 91 b9 #[.int .i64 0, .int .i64 0, .int .i64 0, .int .i64 0, .int .i64 0] (codC 2 S P par 1) R11.out rfl rfl codSz rfl (by intro v hv; simp only [List.mem_cons, List.not_mem_nil, or_false] at hv; rcases hv with rfl | rfl | rfl | rfl | rfl <;> rfl) (by rw [← hU12]; exact HB12.out) ?_
        rw [← hU12]
        simp only [Act.put, List.setIfInBounds_toArray, List.set_cons_zero, List.set_cons_succ]
        clear hU12
        repeat
          refine' wpHX_val rfl (fun W hW => ?_) ?_
          rotate_left
          · have hcf := CFS.out W hW; go_simp; rfl
          simp only [Act.put, List.setIfInBounds_toArray, List.set_cons_zero, List.set_cons_succ]
        refine wpHX_nil ?_
        refine ⟨b9, ?_, R12.out, HB12.out, Z9.out⟩
        simp only [Act.put, List.setIfInBounds_toArray, List.set_cons_zero, List.set_cons_succ]
    · simp only [reduceIte, Nat.reduceEqDiff, wpTree, attachW, List.getElem?_cons_zero, List.getElem?_cons_succ]
      obtain ⟨U13, hU13⟩ : ∃ U, U = wS.drew.alloc (.cells #[.int .i64 0, .int .i64 0, .int .i64 0, .int .i64 0, .int .i64 0] 91) := ⟨_, rfl⟩
      obtain ⟨b13, hb13⟩ : ∃ b, b = wS.drew.heap.size := ⟨_, rfl⟩
      have HB13 : Hid (Abv wS U13) := by show Below _ _ _; rw [hU13]; exact bwAlloc HD0.out _
      have R13 : Hid (RowIs U13 b13 #[.int .i64 0, .int .i64 0, .int .i64 0, .int .i64 0, .int .i64 0] 91) := by show RowIs _ _ _ _; rw [hU13, hb13]; exact RowIs.new _ _ _ _ rfl
      have Z13 : Hid (wS.heap.size ≤ b13) := by show _ ≤ _; rw [hb13]; exact HD0.out.size
      refine' wpHX_allocA 91 rfl rfl _ codInfo (bwAlloc HD0.out _) ?_
      simp only [Act.put, List.setIfInBounds_toArray, List.set_cons_zero, List.set_cons_succ]
      rw [← hU13, ← hb13]
      clear hU13 hb13
      refine wpHX_nil ?_
      (try simp only [reduceIte, Nat.reduceEqDiff, wpTree, attachW, List.getElem?_cons_zero, List.getElem?_cons_succ])
      refine' wpHX_acall rfl (fun W => ?_) ?_
      rotate_left 2
      · go_simp; exact ⟨rfl, rfl⟩
      refine (HSZ.out _).mono ?_
      rintro e U14 ⟨rfl, hb⟩
      have HB14 : Hid (Abv wS U14) := bwStep HB13.out hb
      have R14 := Lib.hid (R13.out.below hb)
      clear hb
      refine ⟨_, rfl, HB14.out, ?_⟩
      simp only [Act.put, List.setIfInBounds_toArray, List.set_cons_zero, List.set_cons_succ]
      refine' wpHX_acall rfl (fun W => ?_) ?_
      rotate_left 2
      · go_simp; exact ⟨rfl, rfl⟩
      refine (HWD.out _).mono ?_
      rintro e U15 ⟨rfl, hb⟩
      have HB15 : Hid (Abv wS U15) := bwStep HB14.out hb
      have R15 := Lib.hid (R14.out.below hb)
      clear hb
      refine ⟨_, rfl, HB15.out, ?_⟩
      simp only [Act.put, List.setIfInBounds_toArray, List.set_cons_zero, List.set_cons_succ]
      repeat
        refine' wpHX_val rfl (fun W hW => ?_) ?_
        rotate_left
        · have hcf := CFS.out W hW; go_simp; rfl
        simp only [Act.put, List.setIfInBounds_toArray, List.set_cons_zero, List.set_cons_succ]
      refine' wpHX_acall rfl (fun W => ?_) ?_
      rotate_left 2
      · go_simp; exact ⟨rfl, rfl⟩
      refine (HCD.out _).mono ?_
      rintro e U16 ⟨rfl, hb⟩
      have HB16 : Hid (Abv wS U16) := bwStep HB15.out hb
      have R16 := Lib.hid (R15.out.below hb)
      clear hb
      refine ⟨_, rfl, HB16.out, ?_⟩
      simp only [Act.put, List.setIfInBounds_toArray, List.set_cons_zero, List.set_cons_succ]
      repeat
        refine' wpHX_val rfl (fun W hW => ?_) ?_
        rotate_left
        · have hcf := CFS.out W hW; go_simp; rfl
        simp only [Act.put, List.setIfInBounds_toArray, List.set_cons_zero, List.set_cons_succ]
      obtain ⟨U17, hU17⟩ : ∃ U, U = U16.setRow b13 (codC 2 S P par 1).toArray := ⟨_, rfl⟩
      have HB17 : Hid (Abv wS U17) := by show Below _ _ _; rw [hU17]; exact below_setRow HB16.out Z13.out _
      have R17 : Hid (RowIs U17 b13 (codC 2 S P par 1).toArray 91) := by show RowIs _ _ _ _; rw [hU17]; exact RowIs.set R16.out _
      refine wpHX_storeR 91 rfl _ _ rfl 91 b13 #[.int .i64 0, .int .i64 0, .int .i64 0, .int .i64 0, .int .i64 0] (codC 2 S P par 1) R16.out rfl rfl codSz rfl (by intro v hv; simp only [List.mem_cons, List.not_mem_nil, or_false] at hv; rcases hv with rfl | rfl | rfl | rfl | rfl <;> rfl) (by rw [← hU17]; exact HB17.out) ?_
      rw [← hU17]
      simp only [Act.put, List.setIfInBounds_toArray, List.set_cons_zero, List.set_cons_succ]
      clear hU17
      repeat
        refine' wpHX_val rfl (fun W hW => ?_) ?_
        rotate_left
        · have hcf := CFS.out W hW; go_simp; rfl
        simp only [Act.put, List.setIfInBounds_toArray, List.set_cons_zero, List.set_cons_succ]
      refine wpHX_nil ?_
      refine ⟨b13, ?_, R17.out, HB17.out, Z13.out⟩
      simp only [Act.put, List.setIfInBounds_toArray, List.set_cons_zero, List.set_cons_succ]
  rintro a' w1 ⟨cb, rfl, hrc, hb1, hcb⟩
  have HRC := Lib.hid hrc
  have HB1 := Lib.hid hb1
  clear hrc hb1 hcb
  simp only [Act.put, List.setIfInBounds_toArray, List.set_cons_zero, List.set_cons_succ]
  have g0 : w1.cell? ⟨cb, 0, none⟩ = some (.int .i64 2) := HRC.out.cell 0 _ rfl
  have g1 : w1.cell? ⟨cb, 1, none⟩ = some (.int .i64 S) := HRC.out.cell 1 _ rfl
  have g2 : w1.cell? ⟨cb, 2, none⟩ = some (.int .i64 P) := HRC.out.cell 2 _ rfl
  have g3 : w1.cell? ⟨cb, 3, none⟩ = some (.int .i64 par) := HRC.out.cell 3 _ rfl
  have g4 : w1.cell? ⟨cb, 4, none⟩ = some (.int .i64 1) := HRC.out.cell 4 _ rfl
  go_wp2_with (first
    | (go_at_call 62; refine (HEN.out _ (HRD.out.below (bwStep HWS.out HB1.out))).mono ?_; rintro e w2 ⟨v2, rfl, hs2, hb2⟩; obtain ⟨A2, n2, c2, rfl, -, hp2, -⟩ := Ints.srN hs2; have HS2 := Lib.hid hp2; have HB2 : Hid (Below wS.heap.size wS w2) := bwStep HB1.out hb2; clear hs2 hb2 g0 g1 g2 g3 g4; obtain ⟨f0, f1⟩ := CFS.out _ HB2.out)
    | (go_at_call 33; refine (HSZ.out _).mono ?_; rintro e w3 ⟨rfl, hb3⟩; have HB3 : Hid (Below wS.heap.size wS w3) := bwStep HB2.out hb3; have HS3 := Lib.hid (HS2.out.below hb3); clear hb3 f0 f1; obtain ⟨f0, f1⟩ := CFS.out _ HB3.out)
    | (go_at_call 63; refine (HFW.out _ _ _ _ HS3.out).mono ?_; rintro e w4 ⟨v4, rfl, hs4, hb4⟩; obtain ⟨A4, n4, c4, rfl, hp4⟩ := hs4.parts; have HS4 := Lib.hid hp4; have HB4 : Hid (Below wS.heap.size wS w4) := bwStep HB3.out hb4; clear hs4 hb4 f0 f1; obtain ⟨f0, f1⟩ := CFS.out _ HB4.out)
    | (go_at_call 23; refine (HMO.out _).mono ?_; rintro e w10 ⟨v5, rfl, hs5, hb5⟩; obtain ⟨A5, n5, c5, rfl, hp5⟩ := hs5.parts; have HS5 := Lib.hid hp5; have HS6 := Lib.hid (HS4.out.below hb5); have HB10 : Hid (Below wS.heap.size wS w10) := bwStep HB4.out hb5; clear hs5 hb5 f0 f1))
  have HD1 : Hid (Below w10.heap.size w10 w10.drew) := bwDrew (Below.refl _ _)
  have CFT : Hid (∀ W, Abv w10 W → W.cell? ⟨sb, 0, none⟩ = some (.int .i64 (L : Int)) ∧ W.cell? ⟨sb, 1, none⟩ = some (.bool c)) := fun W hW => CFS.out W (bwStep HB10.out hW)
  refine wp_region_TP (S := Abv w10) (.br [(false, 0), (false, 2), (false, 3)] [1, 5] (fun k => if k = 1 then .br [] [4, 5] (fun k => if k = 4 then .last [(true, 5), (true, 6)] else .last [(true, 4), (true, 6)]) else .last [(true, 1), (true, 4), (true, 6)])) (PostG w10 sb L c n C mm) (by kernel_rfl) (by kernel_rfl) HD1.out ?_ ?_
  · simp only [wpTree, attachW, List.getElem?_cons_zero, List.getElem?_cons_succ]
    repeat
      refine' wpHX_val rfl (fun W hW => ?_) ?_
      rotate_left
      · have hcf := CFT.out W hW; go_simp; rfl
      simp only [Act.put, List.setIfInBounds_toArray, List.set_cons_zero, List.set_cons_succ]
    refine wpHX_nil ?_
    intro k hk
    simp only [List.mem_cons, List.not_mem_nil, or_false] at hk
    rcases hk with rfl | rfl
    · simp only [reduceIte, Nat.reduceEqDiff, wpTree, attachW, List.getElem?_cons_zero, List.getElem?_cons_succ]
      refine' wpHX_acall rfl (fun W => ?_) ?_
      rotate_left 2
      · go_simp; exact ⟨rfl, rfl⟩
      refine (HSI.out _).mono ?_
      rintro e U21 ⟨rfl, hb⟩
      have HB21 : Hid (Abv w10 U21) := bwStep HD1.out hb
      clear hb
      refine ⟨_, rfl, HB21.out, ?_⟩
      simp only [Act.put, List.setIfInBounds_toArray, List.set_cons_zero, List.set_cons_succ]
      refine wpHX_nil ?_
      (try simp only [reduceIte, Nat.reduceEqDiff, wpTree, attachW, List.getElem?_cons_zero, List.getElem?_cons_succ])
      refine wpHX_nil ?_
      intro k hk
      simp only [List.mem_cons, List.not_mem_nil, or_false] at hk
      rcases hk with rfl | rfl
      · simp only [reduceIte, Nat.reduceEqDiff, wpTree, attachW, List.getElem?_cons_zero, List.getElem?_cons_succ]
        refine' wpHX_acall rfl (fun W => ?_) ?_
        rotate_left 2
        · go_simp; exact ⟨rfl, rfl⟩
        refine (HNG.out _).mono ?_
        rintro e U22 ⟨rfl, hb⟩
        have HB22 : Hid (Abv w10 U22) := bwStep HB21.out hb
        clear hb
        refine ⟨_, rfl, HB22.out, ?_⟩
        simp only [Act.put, List.setIfInBounds_toArray, List.set_cons_zero, List.set_cons_succ]
        refine wpHX_nil ?_
        (try simp only [reduceIte, Nat.reduceEqDiff, wpTree, attachW, List.getElem?_cons_zero, List.getElem?_cons_succ])
        obtain ⟨U23, hU23⟩ : ∃ U, U = U22.alloc (.cells #[.int .i64 0, .bool false, .int .i64 0, .int .i64 0] 71) := ⟨_, rfl⟩
        obtain ⟨b23, hb23⟩ : ∃ b, b = U22.heap.size := ⟨_, rfl⟩
        have HB23 : Hid (Abv w10 U23) := by show Below _ _ _; rw [hU23]; exact bwAlloc HB22.out _
        have R23 : Hid (RowIs U23 b23 #[.int .i64 0, .bool false, .int .i64 0, .int .i64 0] 71) := by show RowIs _ _ _ _; rw [hU23, hb23]; exact RowIs.new _ _ _ _ rfl
        have Z23 : Hid (w10.heap.size ≤ b23) := by show _ ≤ _; rw [hb23]; exact HB22.out.size
        refine' wpHX_allocA 71 rfl rfl _ griInfo (bwAlloc HB22.out _) ?_
        simp only [Act.put, List.setIfInBounds_toArray, List.set_cons_zero, List.set_cons_succ]
        rw [← hU23, ← hb23]
        clear hU23 hb23
        obtain ⟨U24, hU24⟩ : ∃ U, U = U23.setRow b23 ((gridC n c C mm).toList).toArray := ⟨_, rfl⟩
        have HB24 : Hid (Abv w10 U24) := by show Below _ _ _; rw [hU24]; exact below_setRow HB23.out Z23.out _
        have R24 : Hid (RowIs U24 b23 ((gridC n c C mm).toList).toArray 71) := by show RowIs _ _ _ _; rw [hU24]; exact RowIs.set R23.out _
        refine wpHX_storeR 71 rfl _ _ rfl 71 b23 #[.int .i64 0, .bool false, .int .i64 0, .int .i64 0] ((gridC n c C mm).toList) R23.out rfl rfl griSz rfl (by intro v hv; simp only [List.mem_cons, List.not_mem_nil, or_false] at hv; rcases hv with rfl | rfl | rfl | rfl <;> rfl) (by rw [← hU24]; exact HB24.out) ?_
        rw [← hU24]
        simp only [Act.put, List.setIfInBounds_toArray, List.set_cons_zero, List.set_cons_succ]
        clear hU24
        refine wpHX_nil ?_
        refine ⟨b23, ?_, R24.out, HB24.out, Z23.out⟩
        simp only [Act.put, List.setIfInBounds_toArray, List.set_cons_zero, List.set_cons_succ]
      · simp only [reduceIte, Nat.reduceEqDiff, wpTree, attachW, List.getElem?_cons_zero, List.getElem?_cons_succ]
        obtain ⟨U25, hU25⟩ : ∃ U, U = U21.alloc (.cells #[.int .i64 0, .bool false, .int .i64 0, .int .i64 0] 71) := ⟨_, rfl⟩
        obtain ⟨b25, hb25⟩ : ∃ b, b = U21.heap.size := ⟨_, rfl⟩
        have HB25 : Hid (Abv w10 U25) := by show Below _ _ _; rw [hU25]; exact bwAlloc HB21.out _
        have R25 : Hid (RowIs U25 b25 #[.int .i64 0, .bool false, .int .i64 0, .int .i64 0] 71) := by show RowIs _ _ _ _; rw [hU25, hb25]; exact RowIs.new _ _ _ _ rfl
        have Z25 : Hid (w10.heap.size ≤ b25) := by show _ ≤ _; rw [hb25]; exact HB21.out.size
        refine' wpHX_allocA 71 rfl rfl _ griInfo (bwAlloc HB21.out _) ?_
        simp only [Act.put, List.setIfInBounds_toArray, List.set_cons_zero, List.set_cons_succ]
        rw [← hU25, ← hb25]
        clear hU25 hb25
        refine wpHX_nil ?_
        (try simp only [reduceIte, Nat.reduceEqDiff, wpTree, attachW, List.getElem?_cons_zero, List.getElem?_cons_succ])
        refine' wpHX_acall rfl (fun W => ?_) ?_
        rotate_left 2
        · go_simp; exact ⟨rfl, rfl⟩
        refine (HNG.out _).mono ?_
        rintro e U26 ⟨rfl, hb⟩
        have HB26 : Hid (Abv w10 U26) := bwStep HB25.out hb
        have R26 := Lib.hid (R25.out.below hb)
        clear hb
        refine ⟨_, rfl, HB26.out, ?_⟩
        simp only [Act.put, List.setIfInBounds_toArray, List.set_cons_zero, List.set_cons_succ]
        obtain ⟨U27, hU27⟩ : ∃ U, U = U26.setRow b25 ((gridC n c C mm).toList).toArray := ⟨_, rfl⟩
        have HB27 : Hid (Abv w10 U27) := by show Below _ _ _; rw [hU27]; exact below_setRow HB26.out Z25.out _
        have R27 : Hid (RowIs U27 b25 ((gridC n c C mm).toList).toArray 71) := by show RowIs _ _ _ _; rw [hU27]; exact RowIs.set R26.out _
        refine wpHX_storeR 71 rfl _ _ rfl 71 b25 #[.int .i64 0, .bool false, .int .i64 0, .int .i64 0] ((gridC n c C mm).toList) R26.out rfl rfl griSz rfl (by intro v hv; simp only [List.mem_cons, List.not_mem_nil, or_false] at hv; rcases hv with rfl | rfl | rfl | rfl <;> rfl) (by rw [← hU27]; exact HB27.out) ?_
        rw [← hU27]
        simp only [Act.put, List.setIfInBounds_toArray, List.set_cons_zero, List.set_cons_succ]
        clear hU27
        refine wpHX_nil ?_
        refine ⟨b25, ?_, R27.out, HB27.out, Z25.out⟩
        simp only [Act.put, List.setIfInBounds_toArray, List.set_cons_zero, List.set_cons_succ]
    · simp only [reduceIte, Nat.reduceEqDiff, wpTree, attachW, List.getElem?_cons_zero, List.getElem?_cons_succ]
      obtain ⟨U28, hU28⟩ : ∃ U, U = w10.drew.alloc (.cells #[.int .i64 0, .bool false, .int .i64 0, .int .i64 0] 71) := ⟨_, rfl⟩
      obtain ⟨b28, hb28⟩ : ∃ b, b = w10.drew.heap.size := ⟨_, rfl⟩
      have HB28 : Hid (Abv w10 U28) := by show Below _ _ _; rw [hU28]; exact bwAlloc HD1.out _
      have R28 : Hid (RowIs U28 b28 #[.int .i64 0, .bool false, .int .i64 0, .int .i64 0] 71) := by show RowIs _ _ _ _; rw [hU28, hb28]; exact RowIs.new _ _ _ _ rfl
      have Z28 : Hid (w10.heap.size ≤ b28) := by show _ ≤ _; rw [hb28]; exact HD1.out.size
      refine' wpHX_allocA 71 rfl rfl _ griInfo (bwAlloc HD1.out _) ?_
      simp only [Act.put, List.setIfInBounds_toArray, List.set_cons_zero, List.set_cons_succ]
      rw [← hU28, ← hb28]
      clear hU28 hb28
      refine wpHX_nil ?_
      (try simp only [reduceIte, Nat.reduceEqDiff, wpTree, attachW, List.getElem?_cons_zero, List.getElem?_cons_succ])
      refine' wpHX_acall rfl (fun W => ?_) ?_
      rotate_left 2
      · go_simp; exact ⟨rfl, rfl⟩
      refine (HSI.out _).mono ?_
      rintro e U29 ⟨rfl, hb⟩
      have HB29 : Hid (Abv w10 U29) := bwStep HB28.out hb
      have R29 := Lib.hid (R28.out.below hb)
      clear hb
      refine ⟨_, rfl, HB29.out, ?_⟩
      simp only [Act.put, List.setIfInBounds_toArray, List.set_cons_zero, List.set_cons_succ]
      refine' wpHX_acall rfl (fun W => ?_) ?_
      rotate_left 2
      · go_simp; exact ⟨rfl, rfl⟩
      refine (HNG.out _).mono ?_
      rintro e U30 ⟨rfl, hb⟩
      have HB30 : Hid (Abv w10 U30) := bwStep HB29.out hb
      have R30 := Lib.hid (R29.out.below hb)
      clear hb
      refine ⟨_, rfl, HB30.out, ?_⟩
      simp only [Act.put, List.setIfInBounds_toArray, List.set_cons_zero, List.set_cons_succ]
      obtain ⟨U31, hU31⟩ : ∃ U, U = U30.setRow b28 ((gridC n c C mm).toList).toArray := ⟨_, rfl⟩
      have HB31 : Hid (Abv w10 U31) := by show Below _ _ _; rw [hU31]; exact below_setRow HB30.out Z28.out _
      have R31 : Hid (RowIs U31 b28 ((gridC n c C mm).toList).toArray 71) := by show RowIs _ _ _ _; rw [hU31]; exact RowIs.set R30.out _
      refine wpHX_storeR 71 rfl _ _ rfl 71 b28 #[.int .i64 0, .bool false, .int .i64 0, .int .i64 0] ((gridC n c C mm).toList) R30.out rfl rfl griSz rfl (by intro v hv; simp only [List.mem_cons, List.not_mem_nil, or_false] at hv; rcases hv with rfl | rfl | rfl | rfl <;> rfl) (by rw [← hU31]; exact HB31.out) ?_
      rw [← hU31]
      simp only [Act.put, List.setIfInBounds_toArray, List.set_cons_zero, List.set_cons_succ]
      clear hU31
      refine wpHX_nil ?_
      refine ⟨b28, ?_, R31.out, HB31.out, Z28.out⟩
      simp only [Act.put, List.setIfInBounds_toArray, List.set_cons_zero, List.set_cons_succ]
  rintro a' w11 ⟨gb, rfl, hrg, hb11, hgb⟩
  have HRG : Hid (RowIs w11 gb (gridC n c C mm) 71) := hrg
  have HC11 := Lib.hid hb11
  have HB11 : Hid (Below wS.heap.size wS w11) := bwStep HB10.out hb11
  clear hrg hb11 hgb
  simp only [Act.put, List.setIfInBounds_toArray, List.set_cons_zero, List.set_cons_succ]
  obtain ⟨np, hnp⟩ : ∃ np, np = pts.length := ⟨_, rfl⟩
  rw [← hnp] at hPD hPD9
  have HNP := Lib.hid hnp
  clear hnp
  have hcon4 : n4 = con.length := HS6.out.hn
  obtain ⟨q, hq⟩ : ∃ q, q = np - con.length := ⟨_, rfl⟩
  have gq : IntKind.i64.wrap ((np : Int) - (n4 : Int)) = (q : Int) := by rw [wr64 _ (by omega) (by omega)]; omega
  have gq2 : (np : Int) - (n4 : Int) = (q : Int) := by omega
  have hqn : q ≤ np := by omega
  have gq3 : IntKind.i64.wrap (q : Int) = (q : Int) := wr64 _ (by omega) (by omega)
  have HQ : Hid (pts.length - con.length = q) := by show _ = _; rw [← HNP.out, hq]
  clear hq hcon4 hPD
  have r0 : w11.cell? ⟨gb, 0, none⟩ = some (.int .i64 n) := HRG.out.cell 0 _ rfl
  have r1 : w11.cell? ⟨gb, 1, none⟩ = some (.bool c) := HRG.out.cell 1 _ rfl
  have r2 : w11.cell? ⟨gb, 2, none⟩ = some (.int .i64 C) := HRG.out.cell 2 _ rfl
  have r3 : w11.cell? ⟨gb, 3, none⟩ = some (.int .i64 mm) := HRG.out.cell 3 _ rfl
  go_wp2_with (first
    | (go_at_call 83; refine (HBK.out _).mono ?_; rintro e w12 ⟨db, N, hN, rfl, hdb, hr12, hb12⟩; have HNN := Lib.hid hN; have HDB := Lib.hid hdb; have HR12 := Lib.hid hr12; have HC12 := Lib.hid hb12; have HB12 : Hid (Below wS.heap.size wS w12) := bwStep HB11.out hb12; clear hN hdb hr12 hb12 r0 r1 r2 r3; have HBM : Hid (Below wS.heap.size wS (w12.alloc (.cells (matC n n db N).toArray 28))) := bwAlloc HB12.out _; obtain ⟨f0, f1⟩ := CFS.out _ HBM.out)
    | (go_at_call 46; refine (HPA.out _).mono ?_; rintro e w13 ⟨v13, rfl, hs13, hb13⟩; obtain ⟨⟨A13, c13, rfl, hc13, -, -⟩, -⟩ := id hs13; rw [← HNP.out] at hs13 hc13; have HS13 := Lib.hid hs13; have HC13 := Lib.hid hb13; clear hs13 hb13 f0 f1))
  rw [← HNP.out]
  have HB13 : Hid (Below wS.heap.size wS w13) := bwStep HBM.out HC13.out
  obtain ⟨mb, hmb⟩ : ∃ mb, mb = w12.heap.size := ⟨_, rfl⟩
  simp only [← hmb]
  have HRM : Hid (RowIs w13 mb (matC n n db N).toArray 28) := by show RowIs _ _ _ _; exact (RowIs.new w12 _ _ _ hmb).below HC13.out
  have HNE : Hid (sb ≠ db ∧ rb ≠ db ∧ gb ≠ db ∧ mb ≠ db ∧ sb < w13.heap.size ∧ rb < w13.heap.size ∧ gb < w13.heap.size ∧ mb < w13.heap.size ∧ db < w13.heap.size ∧ w.heap.size ≤ db ∧ w10.heap.size ≤ db ∧ db < w12.heap.size + 1 ∧ w.heap.size ≤ w13.heap.size) := by
    show _ ∧ _
    have a1 := HRB.out
    have a2 := lt_of_heap HRG.out
    have a3 := HDB.out
    have a4 := HC11.out.size
    have a5 := HB10.out.size
    have a6 := HC12.out.size
    have a7 := HC13.out.size
    have a8 := lt_of_heap HR12.out
    simp at a7
    omega
  have HR13 : Hid (RowB w13 db fx) := (HR12.out.below (bwA _ _)).below HC13.out
  have HG13 : Hid (RowIs w13 gb (gridC n c C mm) 71) := ((HRG.out.below HC12.out).below (bwA _ _)).below HC13.out
  have HS613 : Hid (SR vB false w13 A4 n4 c4 con) := (((HS6.out.below HC11.out).below HC12.out).below (bwA _ _)).below HC13.out
  have HS513 : Hid (SR vB false w13 A5 n5 c5 msg) := (((HS5.out.below HC11.out).below HC12.out).below (bwA _ _)).below HC13.out
  have HA4 : Hid (∀ ad, A4 = some ad → ad.block ≠ db) := by
    show ∀ ad, _
    intro ad e
    obtain ⟨ad0, e0, h0, -⟩ := HS6.out.rd HCL1.out
    rw [e] at e0; injection e0 with e0
    rw [e0]
    have := HNE.out.2.2.2.2.2.2.2.2.2.2.1
    omega
  have HA5 : Hid (∀ ad, A5 = some ad → ad.block ≠ db) := by
    show ∀ ad, _
    intro ad e
    obtain ⟨ad0, e0, h0, -⟩ := HS5.out.rd HML1.out
    rw [e] at e0; injection e0 with e0
    rw [e0]
    have := HNE.out.2.2.2.2.2.2.2.2.2.2.1
    omega
  have HZ13 : Hid (db < (w12.alloc (.cells (matC n n db N).toArray 28)).heap.size) := by show _ < _; have := HNE.out.2.2.2.2.2.2.2.2.2.2.2.1; simp; omega
  clear hmb
  have CFX : Hid (∀ W, KeepX db w13 W → (W.cell? ⟨sb, 0, none⟩ = some (.int .i64 (L : Int)) ∧ W.cell? ⟨sb, 1, none⟩ = some (.bool c)) ∧ (W.cell? ⟨gb, 0, none⟩ = some (.int .i64 (n : Int)) ∧ W.cell? ⟨gb, 1, none⟩ = some (.bool c) ∧ W.cell? ⟨gb, 2, none⟩ = some (.int .i64 (C : Int)) ∧ W.cell? ⟨gb, 3, none⟩ = some (.int .i64 (mm : Int))) ∧ W.cell? ⟨mb, 0, none⟩ = some (.int .i64 (n : Int)) ∧ W.cell? ⟨mb, 1, none⟩ = some (.int .i64 (n : Int)) ∧ W.cell? ⟨mb, 2, none⟩ = some (.slice (some ⟨db, 0, none⟩) N N)) := by
    show ∀ W, _
    intro W hW
    have h0 := hW.row (HSR.out.below HB13.out) HNE.out.1
    have h1 := hW.row HG13.out HNE.out.2.2.1
    have h2 := hW.row HRM.out HNE.out.2.2.2.1
    exact ⟨⟨h0.cell 0 _ rfl, h0.cell 1 _ rfl⟩, ⟨h1.cell 0 _ rfl, h1.cell 1 _ rfl, h1.cell 2 _ rfl, h1.cell 3 _ rfl⟩, h2.cell 0 _ rfl, h2.cell 1 _ rfl, h2.cell 2 _ rfl⟩
  obtain ⟨A14, n14, c14, hsl⟩ : ∃ A' n' c', sliced A13 q np c13 2 = .slice A' n' c' := ⟨_, _, _, rfl⟩
  have HS14 : Hid (SPf (w12.alloc (.cells (matC n n db N).toArray 28)).heap.size w13 (.slice A14 n14 c14) (pts.drop q)) := by
    show SPf _ _ _ _
    rw [← hsl]
    exact SPf.from HS13.out q hqn
  rw [HQ.out] at HDIX HDR HLD
  have HD13 : Hid (KeepX db w13 w13.drew) := KeepX.below (bwDrew (Below.refl _ _))
  have hN9 : N ≤ 100000000 := by have := HNN.out; have : n * n ≤ 161 * 161 := Nat.mul_le_mul hn9 hn9; omega
  have HNF : Hid (N = fx.length) := by show _ = _; rw [HFL.out]; exact HNN.out
  refine wp_region_W (S := (fun W => KeepX db w13 W)) [(false, 0), (false, 1), (false, 2), (false, 3), (false, 4), (false, 5), (false, 6), (false, 8), (true, 7), (true, 9)] (by kernel_rfl) (by kernel_rfl) HD13.out ?_
  simp only [attachW, List.getElem?_cons_zero, List.getElem?_cons_succ]
  repeat
    refine' wpHX_val rfl (fun W hW => ?_) ?_
    rotate_left
    · have hcf := CFX.out W hW; go_simp; rfl
    simp only [Act.put, List.setIfInBounds_toArray, List.set_cons_zero, List.set_cons_succ]
  refine' wpHX_aval rfl (exec_sliceP rfl rfl q rfl hqn hsl) HD13.out ?_
  simp only [Act.put, List.setIfInBounds_toArray, List.set_cons_zero, List.set_cons_succ]
  refine' wpHX_acall rfl (fun W => ?_) ?_
  rotate_left 2
  · go_simp; exact ⟨rfl, rfl⟩
  refine (write_any n n db N n4 c4 fx (pts.drop q) con (.slice A14 n14 c14) A4 w13.drew (by omega) (by omega) HNF.out hN9 (HR13.out.below (bwDrew (Below.refl _ _))) (HS14.out.1.below (bwDrew (Below.refl _ _))) (fun A m k ad e1 e2 => by have h1 := HS14.out.2 A m k ad e1 e2; have h2 := HZ13.out; omega) (HS613.out.below (bwDrew (Below.refl _ _))) HA4.out HLD.out HDIX.out).mono ?_
  rintro e w14 ⟨rfl, hr14, hk14⟩
  have HR14 := Lib.hid hr14
  have HK14 : Hid (KeepX db w13 w14) := HD13.out.trans hk14
  clear hr14 hk14
  refine ⟨_, rfl, HK14.out, ?_⟩
  simp only [Act.put, List.setIfInBounds_toArray, List.set_cons_zero, List.set_cons_succ]
  refine wpHX_nil ?_
  go_wp2
  have HD14 : Hid (KeepX db w13 w14.drew) := HK14.out.trans (KeepX.below (bwDrew (Below.refl _ _)))
  have HL14 : Hid (N = (wrL n fx (pts.drop q) con).length) := by show _ = _; rw [HWL.out]; exact HNF.out
  have HML : Hid (∀ p ∈ mpts, ixN n p < (wrL n fx (pts.drop q) con).length) := HMIX.out _ (by rw [HWL.out, HFL.out])
  refine wp_region_W (S := (fun W => KeepX db w13 W)) [(false, 0), (false, 1), (false, 3), (true, 2), (true, 4)] (by kernel_rfl) (by kernel_rfl) HD14.out ?_
  simp only [attachW, List.getElem?_cons_zero, List.getElem?_cons_succ]
  repeat
    refine' wpHX_val rfl (fun W hW => ?_) ?_
    rotate_left
    · have hcf := CFX.out W hW; go_simp; rfl
    simp only [Act.put, List.setIfInBounds_toArray, List.set_cons_zero, List.set_cons_succ]
  refine' wpHX_acall rfl (fun W => ?_) ?_
  rotate_left 2
  · go_simp; exact ⟨rfl, rfl⟩
  refine (HMP.out _).mono ?_
  rintro e w15 ⟨v15, rfl, hs15, hb15⟩
  obtain ⟨⟨A15, c15, rfl, -, -⟩, -⟩ := id hs15
  have HS15 := Lib.hid hs15
  have HK15 : Hid (KeepX db w13 w15) := HD14.out.trans (KeepX.below hb15)
  have HR15 : Hid (RowB w15 db (wrL n fx (pts.drop q) con)) := (HR14.out.below (bwDrew (Below.refl _ _))).below hb15
  have HZ15 : Hid (db < w14.drew.heap.size) := Nat.lt_of_lt_of_le HNE.out.2.2.2.2.2.2.2.2.1 HD14.out.sz
  clear hs15 hb15
  refine ⟨_, rfl, HK15.out, ?_⟩
  simp only [Act.put, List.setIfInBounds_toArray, List.set_cons_zero, List.set_cons_succ]
  refine' wpHX_acall rfl (fun W => ?_) ?_
  rotate_left 2
  · go_simp; exact ⟨rfl, rfl⟩
  refine (write_any n n db N n5 c5 (wrL n fx (pts.drop q) con) mpts msg (.slice A15 mpts.length c15) A5 w15 (by omega) (by omega) HL14.out hN9 HR15.out HS15.out.1 (fun A m k ad e1 e2 => by have h1 := HS15.out.2 A m k ad e1 e2; have h2 := HZ15.out; omega) (HS513.out.keepX HK15.out HA5.out) HA5.out HLM.out HML.out).mono ?_
  rintro e w16 ⟨rfl, hr16, hk16⟩
  have HR16 : Hid (RowB w16 db dl) := by show RowB _ _ _; rw [← HDR.out]; exact hr16
  have HK16 : Hid (KeepX db w13 w16) := HK15.out.trans hk16
  clear hr16 hk16
  refine ⟨_, rfl, HK16.out, ?_⟩
  simp only [Act.put, List.setIfInBounds_toArray, List.set_cons_zero, List.set_cons_succ]
  refine wpHX_nil ?_
  obtain ⟨⟨f0, f1⟩, ⟨r0, r1, r2, r3⟩, k0, k1, k2⟩ := CFX.out w16 HK16.out
  have HRF : Hid (RowIs w16 rb zero6 30) := HK16.out.row (HRR.out.below HB13.out) HNE.out.2.1
  have c0 : w16.cell? ⟨rb, 0, none⟩ = some (.int .i64 0) := HRF.out.cell 0 _ rfl
  have c1 : w16.cell? ⟨rb, 1, none⟩ = some (.bool false) := HRF.out.cell 1 _ rfl
  have c2 : w16.cell? ⟨rb, 2, none⟩ = some (.int .i64 0) := HRF.out.cell 2 _ rfl
  have c3 : w16.cell? ⟨rb, 3, none⟩ = some (.int .i64 0) := HRF.out.cell 3 _ rfl
  have c4 : w16.cell? ⟨rb, 4, none⟩ = some (.int .i64 0) := HRF.out.cell 4 _ rfl
  have c5 : w16.cell? ⟨rb, 5, none⟩ = some (.slice none 0 0) := HRF.out.cell 5 _ rfl
  have d0 : w16.frozen? ⟨rb, 0, none⟩ = false := frozen_of_row _ _ _ _ _ HRF.out
  have d1 : w16.frozen? ⟨rb, 1, none⟩ = false := frozen_of_row _ _ _ _ _ HRF.out
  have d2 : w16.frozen? ⟨rb, 2, none⟩ = false := frozen_of_row _ _ _ _ _ HRF.out
  have d3 : w16.frozen? ⟨rb, 3, none⟩ = false := frozen_of_row _ _ _ _ _ HRF.out
  have d4 : w16.frozen? ⟨rb, 4, none⟩ = false := frozen_of_row _ _ _ _ _ HRF.out
  have d5 : w16.frozen? ⟨rb, 5, none⟩ = false := frozen_of_row _ _ _ _ _ HRF.out
  have HBW : Hid (Below w.heap.size w w16) := (HWS.out.trans (HB13.out.mono HRB.out.2.2.2)).trans (HK16.out.to HNE.out.2.2.2.2.2.2.2.2.2.1 HNE.out.2.2.2.2.2.2.2.2.2.2.2.2)
  have hrb0 : w.heap.size ≤ rb := HRB.out.1
  go_wp2
  refine bodyPost_ret (v := .tuple #[codeV L c m n db N, .int .i64 0]) (by simp [results, Tryz.results35, go_sem, c0, c1, c2, c3, c4, c5, d0, d1, d2, d3, d4, d5]) rfl ⟨db, N, HNN.out, rfl, ?_, HNE.out.2.2.2.2.2.2.2.2.2.1, ?_⟩
  · have hne : db ≠ rb := (HNE.out.2.1).symm
    exact RowIs.setcO (RowIs.setcO (RowIs.setcO (RowIs.setcO (RowIs.setcO (RowIs.setcO HR16.out _ _ hne) _ _ hne) _ _ hne) _ _ hne) _ _ hne) _ _ hne
  · exact (((((HBW.out.setCell hrb0 _).setCell hrb0 _).setCell hrb0 _).setCell hrb0 _).setCell hrb0 _).setCell hrb0 _
end Go.Proofs.YtmnlkganmgcpbaaGreatDoor
