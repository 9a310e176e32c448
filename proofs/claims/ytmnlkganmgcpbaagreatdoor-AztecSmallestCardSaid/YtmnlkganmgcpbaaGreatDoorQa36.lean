import Derived.Test.YtmnlkganmgcpbaaGreatDoorQa34
namespace Go.Proofs.YtmnlkganmgcpbaaGreatDoor
open Go.RowKit
set_option linter.unusedVariables false
set_option linter.unusedSectionVars false
set_option linter.unusedSimpArgs false
abbrev Sy := Nat × Bool
def syV (p : Sy) : List Value := [.int .i64 (p.1 : Int), .bool p.2]
theorem syV_one (p : Sy) : ∀ v ∈ syV p, v.oneCell' = true := by
  intro v hv
  simp only [syV, List.mem_cons, List.not_mem_nil, or_false] at hv
  rcases hv with rfl | rfl <;> rfl
theorem sysV_one (l : List Sy) : ∀ v ∈ l.flatMap syV, v.oneCell' = true := by
  intro v hv
  obtain ⟨p, -, hp⟩ := List.mem_flatMap.1 hv
  exact syV_one p v hp
theorem sysV_length (l : List Sy) : (l.flatMap syV).length = l.length * 2 := by
  induction l with
  | nil => rfl
  | cons p l ih => simp only [List.flatMap_cons, List.length_append, ih, List.length_cons]; show 2 + _ = _; omega
theorem sysV_get (l : List Sy) (i : Nat) (hi : i < l.length) : (l.flatMap syV)[2 * i]? = some (.int .i64 ((l.getD i (0, false)).1 : Int)) ∧ (l.flatMap syV)[2 * i + 1]? = some (.bool (l.getD i (0, false)).2) := by
  induction l generalizing i with
  | nil => simp at hi
  | cons p l ih =>
    cases i with
    | zero => exact ⟨rfl, rfl⟩
    | succ i =>
      have h := ih i (by simpa using hi)
      simp only [List.flatMap_cons, syV]
      rw [show 2 * (i + 1) = 2 * i + 2 from by omega]
      simp only [List.cons_append, List.nil_append, List.getElem?_cons_succ, List.getD_cons_succ]
      exact h
theorem syInfo : (Tryz.prog.info? 60).map (fun i => (i.zero, i.size, i.bytes)) = some (some (.agg #[.int .i64 0, .bool false]), 2, 16) := by kernel_rfl
def RY2 (w : World) (A : Option Addr) (xs : List Sy) : Prop := 0 < xs.length → ∃ g o, A = some ⟨g, o, none⟩ ∧ g < w.heap.size ∧ ∀ j, j < xs.length → w.cell? ⟨g, o + j * 2, none⟩ = some (.int .i64 ((xs.getD j (0, false)).1 : Int)) ∧ w.cell? ⟨g, o + j * 2 + 1, none⟩ = some (.bool (xs.getD j (0, false)).2)
def SY (w : World) (v : Value) (xs : List Sy) : Prop := ∃ A c, v = .slice A xs.length c ∧ xs.length ≤ c ∧ c ≤ maxLen ∧ RY2 w A xs
theorem SY.nil_ (w : World) : SY w (.slice none 0 0) [] := ⟨none, 0, rfl, by simp, by simp, fun h => absurd h (by simp)⟩
theorem SY.of_own {W : World} {base : Nat} {e : TypeId} {n : Nat} {v : Value} {xs : List Sy} (h : W.ownsRow base e 2 v n (xs.flatMap syV)) : SY W v xs := by
  have hl : xs.length = n := by have := h.1; rw [sysV_length] at this; omega
  rcases h.2 with ⟨rfl, rfl⟩ | ⟨g, cap, cur, rfl, hb, hg, hnc, hcm, _⟩
  · have : xs = [] := List.eq_nil_of_length_eq_zero hl
    subst this; exact SY.nil_ _
  · refine ⟨_, cap, by rw [hl], by omega, hcm, fun hn => ⟨g, 0, rfl, lt_of_heap hg, fun j hj => ?_⟩⟩
    have h1 := sysV_get xs j hj
    have e : 0 + j * 2 = 2 * j := by omega
    have c1 := h.cells (g := g) rfl (2 * j) _ h1.1
    have c2 := h.cells (g := g) rfl (2 * j + 1) _ h1.2
    rw [add_plain, Nat.zero_add] at c1 c2
    rw [e]
    exact ⟨c1, c2⟩
structure OGY (w wr : World) (v : Value) (l : List Sy) : Prop where
  B : Abv w wr
  O : wr.ownsRow w.heap.size 60 2 v l.length (l.flatMap syV)
theorem OGY.start (w : World) : OGY w w (.slice none 0 0) [] := ⟨Below.refl _ _, World.ownsRow_nil _ _ _ _⟩
theorem OGY.sp {w wr : World} {v : Value} {l : List Sy} (h : OGY w wr v l) : SY wr v l := SY.of_own h.O
theorem append_sys {W : World} {base : Nat} {v : Value} {n : Nat} {l : List Sy} (ty : TypeId) (hO : W.ownsRow base 60 2 v n (l.flatMap syV)) (hbase : base ≤ W.heap.size) (ad : Addr) (m c : Nat) (ys : List Sy) (hm : m = ys.length)
    (hc : ∀ j u, (ys.flatMap syV)[j]? = some u → W.cell? (ad.add j) = some u) (hl : n + m ≤ 1000000) :
    ∃ v' w', (Builtin.append_ #[62, 62] ty #[v, .slice (some ad) m c]).run Tryz.prog W = .ok v' w' ∧ w'.ownsRow base 60 2 v' (n + m) ((l ++ ys).flatMap syV) ∧ W.grownBy w' v.ownBlock ∧ (v'.ownBlock = v.ownBlock ∨ v'.ownBlock = some W.heap.size) := by
  obtain ⟨i0, hi, hz0, hz1, hz2⟩ := info_parts syInfo
  obtain ⟨v', w', hrun, h2, h3, _, h5⟩ := run_append_own_at (P := Tryz.prog) W base 62 ty 60 i0 _ 2 16 Tryz.underlying62 hi hz0 hz1 hz2 rfl (by omega) v n _ hO ad m c (ys.flatMap syV) (by rw [sysV_length, hm]) hc (sysV_one ys) (by unfold maxLen; omega) (by omega) hbase
  rw [← List.flatMap_append] at h2
  exact ⟨v', w', hrun, h2, h3, h5⟩
theorem wpList_append_sys {ops : Array Oper} {rest : List Oper} {o : Oper} {a : Act} {Q : Exit → Act → World → Prop} {W : World} {base : Nat} {v : Value} {n : Nat} {l : List Sy} (hO : W.ownsRow base 60 2 v n (l.flatMap syV)) (hbase : base ≤ W.heap.size) (hgd : o.guard = none) (s y : Operand)
    (ho : o.op = .call { callee := .builtin .append, args := #[s, y], argTypes := #[62, 62] }) (hs : a.eval s = v) (ad : Addr) (m c : Nat) (ys : List Sy) (hy : a.eval y = .slice (some ad) m c) (hm : m = ys.length)
    (hc : ∀ j u, (ys.flatMap syV)[j]? = some u → W.cell? (ad.add j) = some u) (hl : n + m ≤ 1000000)
    (hk : ∀ v' w', w'.ownsRow base 60 2 v' (n + m) ((l ++ ys).flatMap syV) → W.grownBy w' v.ownBlock → (v'.ownBlock = v.ownBlock ∨ v'.ownBlock = some W.heap.size) → wpList Tryz.prog ops Q rest (a.put o.dst v') w') : wpList Tryz.prog ops Q (o :: rest) a W := by
  refine wpList_plain hgd fun K hK => ?_
  obtain ⟨v', w', hrun, h2, h3, h5⟩ := append_sys o.type hO hbase ad m c ys hm hc hl
  unfold Oper.wp execOp
  simp only [ho, resolve, invoke, builtin, Sem.run_bind, Sem.run_pure, Result.andThen_ok, List.map_toArray, List.map_cons, List.map_nil, hs, hy, hrun]
  exact hK _ _ (hk v' w' h2 h3 h5)
theorem OGY.grow {w wr W w1 : World} {v v1 : Value} {l ys : List Sy} (h : OGY w wr v l) (hW : Below wr.heap.size wr W) (hown : w1.ownsRow w.heap.size 60 2 v1 (l.length + ys.length) ((l ++ ys).flatMap syV)) (hg : W.grownBy w1 v.ownBlock) : OGY w w1 v1 (l ++ ys) := by
  refine ⟨(bwStep h.B hW).grown hg (by have := (bwStep h.B hW).size; exact this) (fun k hk => (h.O.lt k hk).1), ?_⟩
  rw [List.length_append]; exact hown
theorem lit_sys (W : World) (ys : List Sy) (t : TypeId) : ∀ j u, (ys.flatMap syV)[j]? = some u → (W.alloc (.cells (ys.flatMap syV).toArray t)).cell? ((⟨W.heap.size, 0, none⟩ : Addr).add j) = some u := by
  intro j u hu
  have hj : j < (ys.flatMap syV).length := by
    rcases Nat.lt_or_ge j (ys.flatMap syV).length with h | h
    · exact h
    · rw [List.getElem?_eq_none h] at hu; cases hu
  rw [add_plain, Nat.zero_add]
  have := (CellsAt.new W (ys.flatMap syV).toArray t W.heap.size rfl).2 j (by simpa using hj)
  rw [this]
  simp only [List.toList_toArray, List.getD, hu, Option.getD_some]
theorem SY.lit (W : World) (ys : List Sy) (t : TypeId) (b n : Nat) (hb : b = W.heap.size) (hn : n = ys.length) (hm : n ≤ maxLen) : SY (W.alloc (.cells (ys.flatMap syV).toArray t)) (.slice (some ⟨b, 0, none⟩) n n) ys := by
  subst hb hn
  refine ⟨_, _, rfl, Nat.le_refl _, hm, fun _ => ⟨_, 0, rfl, by simp, fun j hj => ?_⟩⟩
  have h := sysV_get ys j hj
  have h1 := lit_sys W ys t _ _ h.1
  have h2 := lit_sys W ys t _ _ h.2
  rw [add_plain, Nat.zero_add] at h1 h2
  rw [Nat.zero_add, Nat.mul_comm]
  exact ⟨h1, h2⟩
def ch1 (j : Nat) : List Sy := (List.range j).map fun i => (i + 1, true)
def ch2 (j : Nat) : List Sy := (List.range j).map fun i => (i + 4, false)
theorem ch1_succ (j : Nat) : ch1 (j + 1) = ch1 j ++ [(j + 1, true)] := by unfold ch1; rw [List.range_succ, List.map_append]; rfl
theorem ch2_succ (j : Nat) : ch2 (j + 1) = ch2 j ++ [(j + 4, false)] := by unfold ch2; rw [List.range_succ, List.map_append]; rfl
theorem choiL_eq (c : Bool) : choiL c = ch1 4 ++ (if c = true then [] else ch2 29) := rfl
set_option maxRecDepth 100000 in
set_option maxHeartbeats 2000000 in
theorem choices_any (c : Bool) (w : World) : Calls Tryz.prog 31 #[.bool c] w fun e w' => ∃ v, e = .returned v ∧ SY w' v (choiL c) ∧ Below w.heap.size w w' := by
  obtain ⟨i0, hi, hz0, hz1, hz2⟩ := info_parts syInfo
  go_enter Tryz.func31, Tryz.ntmps31
  go_wp2
  go_loopw [3, 6] (fun ov iv wr => ∃ j : Nat, j ≤ 4 ∧ iv = .int .i64 j ∧ Hid (OGY w wr ov (ch1 j))) (fun _ iv _ => 4 - (intOf iv).toNat)
  case atStart => exact ⟨0, by omega, rfl, OGY.start _⟩
  case round =>
    obtain ⟨j, hj, rfl, hO⟩ := hrel
    by_cases hlt : j < 4
    · have HLE : Hid ((ch1 j).length ≤ 100) := by show _ ≤ _; unfold ch1; simp; omega
      have HNX := Lib.hid (ch1_succ j)
      generalize ch1 j = l at *
      have hj4 : (j : Int) < 4 := by omega
      go_wp2_with ((with_reducible show wpList _ _ _ (⟨_, Op.call ⟨Callee.builtin Builtin.append, _, _⟩, _, _, _, _⟩ :: _) _ _); (refine wpList_append_sys (base := w.heap.size) (l := l) (ownsRow_below hO.out.O (bwA _ _)) (by have := hO.out.B.size; simp; omega) rfl _ _ rfl rfl ⟨wr.heap.size, 0, none⟩ 1 1 [(j + 1, true)] rfl rfl (lit_sys wr [(j + 1, true)] _) (by have := HLE.out; omega) ?_; intro v1 w1 hown hg _; have HP : Hid (OGY w w1 v1 (l ++ [(j + 1, true)])) := hO.out.grow (bwA _ _) hown hg; clear hown hg))
      exact ⟨⟨j + 1, by omega, by go_num, by show OGY _ _ _ _; rw [HNX.out]; exact HP.out⟩, by simp [intOf]; omega⟩
    · have HJ4 : Hid (j = 4) := by show _ = _; omega
      have hjf : decide (j < 4) = false := by simp; omega
      have hjn : 4 ≤ j := by omega
      have HO4 : Hid (OGY w wr u3 (ch1 4)) := by show OGY _ _ _ _; rw [← HJ4.out]; exact hO.out
      clear hO hlt hj
      cases c with
      | true =>
        go_wp2
        go_ret
        exact ⟨_, rfl, by rw [choiL_eq, if_pos rfl, List.append_nil]; exact HO4.out.sp, HO4.out.B⟩
      | false =>
        have HO2 : Hid (OGY w wr u3 (ch1 4 ++ ch2 0)) := HO4.out
        clear HO4
        go_wp2
        go_loopw [3, 5] (fun ov iv wr => ∃ j : Nat, j ≤ 29 ∧ iv = .int .i64 ((j + 4 : Nat) : Int) ∧ Hid (OGY w wr ov (ch1 4 ++ ch2 j))) (fun _ iv _ => 33 - (intOf iv).toNat)
        case atStart => exact ⟨0, by omega, rfl, HO2.out⟩
        case round =>
          clear HO2
          obtain ⟨j, hj, rfl, hO⟩ := hrel
          obtain ⟨i, hi4⟩ : ∃ i, i = j + 4 := ⟨_, rfl⟩
          rw [← hi4]
          by_cases hlt : j < 29
          · have HLE : Hid ((ch1 4 ++ ch2 j).length ≤ 100) := by show _ ≤ _; unfold ch1 ch2; simp; omega
            have HNX : Hid (ch1 4 ++ ch2 (j + 1) = (ch1 4 ++ ch2 j) ++ [(i, false)]) := by show _ = _; rw [ch2_succ, hi4, List.append_assoc]
            generalize ch1 4 ++ ch2 j = l at *
            have hi32 : (i : Int) ≤ 32 := by omega
            have HI4 := Lib.hid hi4
            clear hi4
            go_wp2_with ((with_reducible show wpList _ _ _ (⟨_, Op.call ⟨Callee.builtin Builtin.append, _, _⟩, _, _, _, _⟩ :: _) _ _); (refine wpList_append_sys (base := w.heap.size) (l := l) (ownsRow_below hO.out.O (bwA _ _)) (by have := hO.out.B.size; simp; omega) rfl _ _ rfl rfl ⟨wr.heap.size, 0, none⟩ 1 1 [(i, false)] rfl rfl (lit_sys wr [(i, false)] _) (by have := HLE.out; omega) ?_; intro v1 w1 hown hg _; have HP : Hid (OGY w w1 v1 (l ++ [(i, false)])) := hO.out.grow (bwA _ _) hown hg; clear hown hg))
            exact ⟨⟨j + 1, by omega, by show Value.int _ _ = _; congr 1; have := HI4.out; omega, by show OGY _ _ _ _; rw [HNX.out]; exact HP.out⟩, by have := HI4.out; simp [intOf]; omega⟩
          · have hi33 : i = 33 := by omega
            have hj29 : j = 29 := by omega
            subst hi33 hj29
            clear hlt hj hi4
            go_wp2
            go_ret
            exact ⟨_, rfl, by rw [choiL_eq, if_neg (by decide)]; exact hO.out.sp, hO.out.B⟩
set_option maxRecDepth 100000 in
set_option maxHeartbeats 2000000 in
theorem fits_any (L : Nat) (c : Bool) (k size per : Nat) (w : World) (hL : L ≤ 32) (hk : k ≤ 100000) (hs : size ≤ 100000) (hp : per ≤ 100) : Calls Tryz.prog 34 #[symv L c, .int .i64 k, .int .i64 size, .int .i64 per] w fun e w' => e = .returned (.bool (fitB L c k size per)) ∧ Below w.heap.size w w' := by
  have CF := sym_cells w L c
  have HMD : Hid (∀ W, Calls Tryz.prog 57 #[.bool c] W fun e w' => e = .returned (.int .i64 ((mostN c : Nat) : Int)) ∧ w' = W) := fun W => mostData_any c W
  have HSZ : Hid (∀ W, Calls Tryz.prog 33 #[symv L c] W fun e w' => e = .returned (.int .i64 ((sizeN L : Nat) : Int)) ∧ Below W.heap.size W w') := fun W => size_any L c W hL
  have HWD : Hid (∀ W, Calls Tryz.prog 44 #[symv L c] W fun e w' => e = .returned (.int .i64 ((wordsN L c : Nat) : Int)) ∧ Below W.heap.size W w') := fun W => words_any L c W hL
  have HFB : Hid (fitB L c k size per = (decide (k ≤ mostN c) && decide (sizeN L * k + size * per / 100 + 11 ≤ sizeN L * wordsN L c))) := rfl
  have hm9 : mostN c ≤ 2048 := by cases c <;> decide
  have hz9 : sizeN L ≤ 12 := by rcases size_cases L with h | h | h | h <;> omega
  have hw9 := words_le (c := c) hL
  have HD0 : Hid (Abv (w.alloc (symB L c)) (w.alloc (symB L c)).drew) := bwDrew (Below.refl _ _)
  have HFIN : Hid (∀ W, Abv (w.alloc (symB L c)) W → Below w.heap.size w W) := fun W hW => bw1 hW
  generalize mostN c = mm at *
  generalize sizeN L = z at *
  generalize wordsN L c = wn at *
  obtain ⟨p1, hp1⟩ : ∃ p1, p1 = z * k := ⟨_, rfl⟩
  obtain ⟨p2, hp2⟩ : ∃ p2, p2 = size * per := ⟨_, rfl⟩
  obtain ⟨p3, hp3⟩ : ∃ p3, p3 = p2 / 100 := ⟨_, rfl⟩
  obtain ⟨p4, hp4⟩ : ∃ p4, p4 = z * wn := ⟨_, rfl⟩
  have q1 : p1 ≤ 1200000 := by rw [hp1]; exact Nat.mul_le_mul hz9 hk
  have q2 : p2 ≤ 10000000 := by rw [hp2]; exact Nat.mul_le_mul hs hp
  have q4 : p4 ≤ 48000 := by rw [hp4]; exact Nat.mul_le_mul hz9 hw9
  have q3 : p3 ≤ 100000 := by omega
  have g1 : (z : Int) * (k : Int) = (p1 : Int) := by rw [hp1]; simp
  have g2 : (size : Int) * (per : Int) = (p2 : Int) := by rw [hp2]; simp
  have g3 : (p2 : Int) / 100 = (p3 : Int) := by rw [hp3]; simp
  have g4 : (z : Int) * (wn : Int) = (p4 : Int) := by rw [hp4]; simp
  have w1 : IntKind.i64.wrap (p1 : Int) = (p1 : Int) := wr64 _ (by omega) (by omega)
  have w2 : IntKind.i64.wrap (p2 : Int) = (p2 : Int) := wr64 _ (by omega) (by omega)
  have w3 : IntKind.i64.wrap (p3 : Int) = (p3 : Int) := wr64 _ (by omega) (by omega)
  have w4 : IntKind.i64.wrap (p4 : Int) = (p4 : Int) := wr64 _ (by omega) (by omega)
  obtain ⟨s1, hs1⟩ : ∃ s1, s1 = p1 + p3 := ⟨_, rfl⟩
  obtain ⟨s2, hs2⟩ : ∃ s2, s2 = p1 + p3 + 11 := ⟨_, rfl⟩
  have w5 : IntKind.i64.wrap ((p1 : Int) + (p3 : Int)) = (s1 : Int) := by rw [wr64 _ (by omega) (by omega)]; omega
  have w6 : IntKind.i64.wrap ((s1 : Int) + 11) = (s2 : Int) := by rw [wr64 _ (by omega) (by omega)]; omega
  rw [← hp1, ← hp2, ← hp3, ← hp4, ← hs2] at HFB
  clear hp1 hp2 hp3 hp4 hs1 hs2 hm9 hz9 hw9
  by_cases h1 : k ≤ mm
  · have hk1 : (k : Int) ≤ (mm : Int) := by omega
    have HF2 : Hid (fitB L c k size per = decide (s2 ≤ p4)) := by show _ = _; rw [HFB.out, decide_eq_true h1, Bool.true_and]
    obtain ⟨b, hb⟩ : ∃ b, b = decide (s2 ≤ p4) := ⟨_, rfl⟩
    have hb2 : decide ((s2 : Int) ≤ (p4 : Int)) = b := by rw [hb, decide_eq_decide]; omega
    rw [← hb] at HF2
    have hb3 : decide (s2 ≤ p4) = b := hb.symm
    clear hb h1
    go_enter Tryz.func34, Tryz.ntmps34
    go_wp2
    refine wp_region_W (S := Abv (w.alloc (symB L c))) [(false, 0), (false, 1), (false, 2), (true, 3), (false, 4), (false, 5), (false, 6), (false, 8), (false, 10), (false, 11), (false, 12), (false, 13), (false, 16), (false, 18), (true, 7), (false, 9), (false, 14), (false, 15), (true, 17), (true, 19), (false, 20), (false, 21), (false, 22), (false, 23)] (by kernel_rfl) (by kernel_rfl) HD0.out ?_
    simp only [attachW, List.getElem?_cons_zero, List.getElem?_cons_succ]
    repeat
      first
      | refine' wpHX_val rfl (fun W hW => ?_) ?_
      | refine' wpHX_gval rfl (fun W hW => ?_) ?_
      rotate_left
      · have hcf := CF.out W hW; go_simp; rfl
      simp only [Act.put, List.setIfInBounds_toArray, List.set_cons_zero, List.set_cons_succ]
    refine' wpHX_acall rfl (fun W => ?_) ?_
    rotate_left 2
    · go_simp; exact ⟨rfl, rfl⟩
    refine (HMD.out _).mono ?_
    rintro e x1 ⟨rfl, hx⟩
    rw [hx]; clear hx
    refine ⟨_, rfl, HD0.out, ?_⟩
    simp only [Act.put, List.setIfInBounds_toArray, List.set_cons_zero, List.set_cons_succ]
    repeat
      first
      | refine' wpHX_val rfl (fun W hW => ?_) ?_
      | refine' wpHX_gval rfl (fun W hW => ?_) ?_
      rotate_left
      · have hcf := CF.out W hW; go_simp; rfl
      simp only [Act.put, List.setIfInBounds_toArray, List.set_cons_zero, List.set_cons_succ]
    refine' wpHX_acall rfl (fun W => ?_) ?_
    rotate_left 2
    · go_simp; exact ⟨rfl, rfl⟩
    refine (HSZ.out _).mono ?_
    rintro e x2 ⟨rfl, hb2'⟩
    have HB2 : Hid (Abv (w.alloc (symB L c)) x2) := bwStep HD0.out hb2'
    clear hb2'
    refine ⟨_, rfl, HB2.out, ?_⟩
    simp only [Act.put, List.setIfInBounds_toArray, List.set_cons_zero, List.set_cons_succ]
    repeat
      first
      | refine' wpHX_val rfl (fun W hW => ?_) ?_
      | refine' wpHX_gval rfl (fun W hW => ?_) ?_
      rotate_left
      · have hcf := CF.out W hW; go_simp; rfl
      simp only [Act.put, List.setIfInBounds_toArray, List.set_cons_zero, List.set_cons_succ]
    refine' wpHX_acall rfl (fun W => ?_) ?_
    rotate_left 2
    · go_simp; exact ⟨rfl, rfl⟩
    refine (HSZ.out _).mono ?_
    rintro e x3 ⟨rfl, hb3'⟩
    have HB3 : Hid (Abv (w.alloc (symB L c)) x3) := bwStep HB2.out hb3'
    clear hb3'
    refine ⟨_, rfl, HB3.out, ?_⟩
    simp only [Act.put, List.setIfInBounds_toArray, List.set_cons_zero, List.set_cons_succ]
    repeat
      first
      | refine' wpHX_val rfl (fun W hW => ?_) ?_
      | refine' wpHX_gval rfl (fun W hW => ?_) ?_
      rotate_left
      · have hcf := CF.out W hW; go_simp; rfl
      simp only [Act.put, List.setIfInBounds_toArray, List.set_cons_zero, List.set_cons_succ]
    refine' wpHX_acall rfl (fun W => ?_) ?_
    rotate_left 2
    · go_simp; exact ⟨rfl, rfl⟩
    refine (HWD.out _).mono ?_
    rintro e x4 ⟨rfl, hb4'⟩
    have HB4 : Hid (Abv (w.alloc (symB L c)) x4) := bwStep HB3.out hb4'
    clear hb4'
    refine ⟨_, rfl, HB4.out, ?_⟩
    simp only [Act.put, List.setIfInBounds_toArray, List.set_cons_zero, List.set_cons_succ]
    repeat
      first
      | refine' wpHX_val rfl (fun W hW => ?_) ?_
      | refine' wpHX_gval rfl (fun W hW => ?_) ?_
      rotate_left
      · have hcf := CF.out W hW; go_simp; rfl
      simp only [Act.put, List.setIfInBounds_toArray, List.set_cons_zero, List.set_cons_succ]
    refine wpHX_nil ?_
    go_wp2
    go_ret
    exact ⟨by rw [HF2.out]; rfl, HFIN.out _ HB4.out⟩
  · have hk1 : ¬ (k : Int) ≤ (mm : Int) := by omega
    have hk2 : decide (k ≤ mm) = false := decide_eq_false h1
    have HF2 : Hid (fitB L c k size per = false) := by show _ = _; rw [HFB.out, decide_eq_false h1, Bool.false_and]
    have hmk : mm < k := by omega
    clear h1
    go_enter Tryz.func34, Tryz.ntmps34
    go_wp2
    refine wp_region_W (S := Abv (w.alloc (symB L c))) [(false, 0), (false, 1), (false, 2), (true, 3), (false, 4), (false, 5), (false, 6), (false, 8), (false, 10), (false, 11), (false, 12), (false, 13), (false, 16), (false, 18), (true, 7), (false, 9), (false, 14), (false, 15), (true, 17), (true, 19), (false, 20), (false, 21), (false, 22), (false, 23)] (by kernel_rfl) (by kernel_rfl) HD0.out ?_
    simp only [attachW, List.getElem?_cons_zero, List.getElem?_cons_succ]
    repeat
      first
      | refine' wpHX_val rfl (fun W hW => ?_) ?_
      | refine' wpHX_gval rfl (fun W hW => ?_) ?_
      rotate_left
      · have hcf := CF.out W hW; go_simp; rfl
      simp only [Act.put, List.setIfInBounds_toArray, List.set_cons_zero, List.set_cons_succ]
    refine' wpHX_acall rfl (fun W => ?_) ?_
    rotate_left 2
    · go_simp; exact ⟨rfl, rfl⟩
    refine (HMD.out _).mono ?_
    rintro e x1 ⟨rfl, hx⟩
    rw [hx]; clear hx
    refine ⟨_, rfl, HD0.out, ?_⟩
    simp only [Act.put, List.setIfInBounds_toArray, List.set_cons_zero, List.set_cons_succ]
    repeat
      first
      | (refine' wpHX_not rfl ?_; simp only [Act.put, List.setIfInBounds_toArray, List.set_cons_zero, List.set_cons_succ])
      | (refine' wpHX_anot rfl HD0.out ?_; simp only [Act.put, List.setIfInBounds_toArray, List.set_cons_zero, List.set_cons_succ])
      | (refine' wpHX_val rfl (fun W hW => ?_) ?_; rotate_left; (· have hcf := CF.out W hW; go_simp; rfl); simp only [Act.put, List.setIfInBounds_toArray, List.set_cons_zero, List.set_cons_succ])
    refine wpHX_nil ?_
    go_wp2
    go_ret
    exact ⟨by rw [HF2.out]; rfl, HFIN.out _ HD0.out⟩
end Go.Proofs.YtmnlkganmgcpbaaGreatDoor
namespace Go.Proofs.YtmnlkganmgcpbaaGreatDoor
open Go.RowKit
set_option linter.unusedVariables false
set_option linter.unusedSectionVars false
set_option linter.unusedSimpArgs false
theorem SG.rd {w : World} {v : Value} {l : List Nat} (h : SG vN 0 w v l) : ∃ A n c, v = .slice A n c ∧ n = l.length ∧ SR vN 0 w A n c l ∧ RD w A (zl l) := by
  obtain ⟨A, n, c, rfl, hs⟩ := h.parts
  obtain ⟨A', c', e, -, -, hr⟩ := Ints.of_SG h
  injection e with e1 e2 e3
  exact ⟨A, n, c, rfl, hs.hn, hs, by rw [e1]; exact hr⟩
theorem Ints.srN {w : World} {v : Value} {l : List Nat} (h : Ints w v (zl l)) : ∃ A n c, v = .slice A n c ∧ n = l.length ∧ SR vN 0 w A n c l ∧ RD w A (zl l) := SG.rd (Ints.to_SG h)
theorem lowB_lens (a b : Nat) (c : Bool) : (lowB a (lbN c) ++ lowB b (dbN c)).length = mwN c * 4 := by
  rw [List.length_append, lowB_length, lowB_length]; cases c <;> rfl
set_option maxRecDepth 100000 in
set_option maxHeartbeats 4000000 in
theorem Mode_yes (L k : Nat) (c : Bool) (w : World) (h1 : 1 ≤ L) (hL : L ≤ 32) (hc : c = true → L ≤ 4) (k1 : 1 ≤ k) (hk : k ≤ mostN c) : Calls Tryz.prog 23 #[.int .i64 L, .int .i64 k, .bool c] w (RT vB false w (msgL L c k, 0)) := by
  have CF := sym_cells w L c
  have HEX : Hid (∀ W, Calls Tryz.prog 29 #[symv L c] W fun e w' => e = .returned (.bool true) ∧ Below W.heap.size W w') := fun W => by rw [← exB_of h1 hL hc]; exact exists_any L c W
  have HMD : Hid (∀ W, Calls Tryz.prog 57 #[.bool c] W fun e w' => e = .returned (.int .i64 ((mostN c : Nat) : Int)) ∧ w' = W) := fun W => mostData_any c W
  have HMS : Hid (∀ W, Calls Tryz.prog 58 #[.bool c] W fun e w' => e = .returned (.tuple #[.int .i64 ((lbN c : Nat) : Int), .int .i64 ((dbN c : Nat) : Int), .int .i64 ((mpN c : Nat) : Int)]) ∧ w' = W) := fun W => modeSizes_any c W
  obtain ⟨B, hB⟩ : ∃ B, B = lowB (L - 1) (lbN c) ++ lowB (k - 1) (dbN c) := ⟨_, rfl⟩
  have hBl : B.length = mwN c * 4 := by rw [hB]; exact lowB_lens _ _ _
  have hmw : mwN c ≤ 4 := by cases c <;> decide
  have hmw1 : 1 ≤ mwN c := by cases c <;> decide
  have hWl := wordsB_length B 4 (mwN c)
  have hWlt := wordsB_lt B 4 (mwN c)
  have hmsg : msgL L c k = bitsW (encW 16 19 (mpN c) 1 (wordsB B 4 (mwN c))) 4 := by rw [msgL_def, hB]
  have hCO := mp_ok c
  have hmp : mpN c ≤ 6 := by cases c <;> decide
  have hfit : mwN c + mpN c ≤ 15 := by cases c <;> decide
  have hE := encW_is (vfz wok4) (par := mpN c) (first := 1) hWlt
  change IsEnc 16 19 (mpN c) 1 _ (encW 16 19 (mpN c) 1 (wordsB B 4 (mwN c))) at hE
  have hEl := hE.ln
  have hElt := hE.lt
  rw [hWl] at hEl
  have hk9 : k ≤ 2048 := by have : mostN c ≤ 2048 := by cases c <;> decide
                            omega
  have hlb : lbN c ≤ 11 ∧ dbN c ≤ 11 := by cases c <;> decide
  obtain ⟨l1, hl1⟩ : ∃ l1, l1 = L - 1 := ⟨_, rfl⟩
  obtain ⟨q1, hq1⟩ : ∃ q1, q1 = k - 1 := ⟨_, rfl⟩
  have el1 : (L : Int) - 1 = (l1 : Int) := by omega
  have eq1 : (k : Int) - 1 = (q1 : Int) := by omega
  rw [← hl1, ← hq1] at hB
  have HCD : Hid (∀ W, Calls Tryz.prog 61 #[.int .i64 4, .int .i64 ((mpN c : Nat) : Int)] W fun e w' => e = .returned (.tuple #[codv 2 16 19 (mpN c) 1, .int .i64 0]) ∧ Below W.heap.size W w') := fun W => code4_any (mpN c) W hCO
  have HAP1 : Hid (∀ W, Calls Tryz.prog 59 #[.slice none 0 0, .int .i64 l1, .int .i64 ((lbN c : Nat) : Int)] W (RT vB false W (lowB l1 (lbN c), 0))) := fun W => AppendB_any none 0 0 [] l1 (lbN c) W (by omega) (by omega) (by omega) ⟨rfl, Nat.le_refl _, Nat.zero_le _, RG.nil_ _ _⟩
  have HAP2 : Hid (∀ W A m c', SR vB false W A m c' (lowB l1 (lbN c)) → Calls Tryz.prog 59 #[.slice A m c', .int .i64 q1, .int .i64 ((dbN c : Nat) : Int)] W (RT vB false W (B, 0))) := by
    show ∀ W A m c', _ → _
    intro W A m c' hs
    have := hs.hn
    rw [lowB_length] at this
    rw [hB]
    exact AppendB_any A m c' _ q1 (dbN c) W (by omega) (by omega) (by omega) hs
  have HWO : Hid (∀ W A m c', SR vB false W A m c' B → Calls Tryz.prog 60 #[.slice A m c', .int .i64 4, .bool false] W (RT vN 0 W (wordsB B 4 (mwN c), 0))) := by
    show ∀ W A m c', _ → _
    intro W A m c' hs
    have h9 := hs.hn
    rw [hBl] at h9
    exact WordsB_any A m c' 4 (mwN c) B W (by omega) (by omega) h9 (by omega) hs
  have HEN : Hid (∀ W A m c', SR vN 0 W A m c' (wordsB B 4 (mwN c)) → RD W A (zl (wordsB B 4 (mwN c))) → Calls Tryz.prog 62 #[codv 2 16 19 (mpN c) 1, .slice A m c'] W (RetL W (zl (encW 16 19 (mpN c) 1 (wordsB B 4 (mwN c))), 0))) := by
    show ∀ W A m c', _ → _ → _
    intro W A m c' hs hr
    have h9 := hs.hn
    have h8 := h9
    rw [hWl] at h8
    exact qEncode_yes 2 16 19 (mpN c) 1 _ m A c' W hCO h9 hWlt (by omega) (by omega) hr
  have HFW : Hid (∀ W A m c', SR vN 0 W A m c' (encW 16 19 (mpN c) 1 (wordsB B 4 (mwN c))) → Calls Tryz.prog 63 #[.slice A m c', .int .i64 4] W (RT vB false W (msgL L c k, 0))) := by
    show ∀ W A m c', _ → _
    intro W A m c' hs
    have h9 := hs.hn
    rw [hmsg]
    exact FromWords_any A m c' 4 _ W (by omega) (by omega) (by omega) hElt hs
  have hmo : k ≤ mostN c := hk
  clear hB hBl hWl hWlt hmsg hCO hmp hfit hE hEl hElt hl1 hq1 hc hmw hmw1
  generalize lbN c = lb at *
  generalize dbN c = db at *
  generalize mpN c = mp at *
  generalize wordsB B 4 (mwN c) = ws at *
  generalize encW 16 19 mp 1 ws = en at *
  generalize msgL L c k = ms at *
  generalize lowB l1 lb = b1 at *
  have hk1 : ¬ (k : Int) < 1 := by omega
  generalize mostN c = mm at *
  have hk2 : ¬ (mm : Int) < (k : Int) := by omega
  go_enter Tryz.func23, Tryz.ntmps23
  go_wp2_with (first
    | (go_at_call 29; refine (HEX.out _).mono ?_; rintro e w1 ⟨rfl, hb1⟩; have HB1 : Hid (Below w.heap.size w w1) := bw1 hb1; clear hb1)
    | (go_at_call 57; refine (HMD.out _).mono ?_; rintro e w2 ⟨rfl, hw2⟩; rw [hw2]; clear hw2)
    | (go_at_call 58; refine (HMS.out _).mono ?_; rintro e w3 ⟨rfl, hw3⟩; rw [hw3]; clear hw3)
    | (go_at_call 59; (with_reducible show Calls _ _ #[.slice none 0 0, _, _] _ _); refine (HAP1.out _).mono ?_; rintro e w4 ⟨v4, rfl, hs4, hb4⟩; obtain ⟨A4, n4, c4, rfl, hp4⟩ := hs4.parts; have HS4 := Lib.hid hp4; have HB4 : Hid (Below w.heap.size w w4) := bwStep HB1.out hb4; clear hs4 hb4)
    | (go_at_call 59; refine (HAP2.out _ _ _ _ HS4.out).mono ?_; rintro e w5 ⟨v5, rfl, hs5, hb5⟩; obtain ⟨A5, n5, c5, rfl, hp5⟩ := hs5.parts; have HS5 := Lib.hid hp5; have HB5 : Hid (Below w.heap.size w w5) := bwStep HB4.out hb5; clear hs5 hb5)
    | (go_at_call 60; refine (HWO.out _ _ _ _ HS5.out).mono ?_; rintro e w6 ⟨v6, rfl, hs6, hb6⟩; obtain ⟨A6, n6, c6, rfl, -, hp6, hr6⟩ := hs6.rd; have HS6 := Lib.hid hp6; have HR6 := Lib.hid hr6; have HB6 : Hid (Below w.heap.size w w6) := bwStep HB5.out hb6; clear hs6 hb6 hr6)
    | (go_at_call 61; refine (HCD.out _).mono ?_; rintro e w7 ⟨rfl, hb7⟩; have HB7 : Hid (Below w.heap.size w w7) := bwStep HB6.out hb7; have HS7 := Lib.hid (HS6.out.below hb7); have HR7 := Lib.hid (HR6.out.below hb7); clear hb7)
    | (go_at_call 62; refine (HEN.out _ _ _ _ (HS7.out.below (bwA _ _)) (HR7.out.below (bwA _ _))).mono ?_; rintro e w8 ⟨v8, rfl, hs8, hb8⟩; obtain ⟨A8, n8, c8, rfl, -, hp8, -⟩ := Ints.srN hs8; have HS8 := Lib.hid hp8; have HB8 : Hid (Below w.heap.size w w8) := bwStep (bwAlloc HB7.out _) hb8; clear hs8 hb8)
    | (go_at_call 63; refine (HFW.out _ _ _ _ HS8.out).mono ?_; rintro e w9 ⟨v9, rfl, hs9, hb9⟩; have HS9 := Lib.hid hs9; have HB9 : Hid (Below w.heap.size w w9) := bwStep HB8.out hb9; clear hs9 hb9))
  go_ret2
  exact RT.mk rfl HS9.out HB9.out
end Go.Proofs.YtmnlkganmgcpbaaGreatDoor
namespace Go.Proofs.YtmnlkganmgcpbaaGreatDoor
open Go.RowKit
set_option linter.unusedVariables false
set_option linter.unusedSimpArgs false
set_option linter.unusedSectionVars false
theorem stuff_facts {l : List UInt8} {C : Nat → Nat → Nat} (hl : l.length ≤ 60) (hC : Cost (bA l) C) (L : Nat) {ws : List Nat} (hws : ws = stuffL (txtL l) (sizeN L)) : LtAll (2 ^ sizeN L) ws ∧ ws.length ≤ (txtL l).length ∧ (txtL l).length ≤ ws.length * sizeN L ∧ (txtL l).length ≤ 501 := by
  have htl := txtL_len (by omega) hC
  have hsz := size_cases L
  obtain ⟨e, e1, e2, e3, e4, e5, e6, e7⟩ := unstuff_stuff (txtL l) (sizeN L) (by omega) (by omega) (by omega)
  rw [← hws] at e4 e6 e7
  refine ⟨fun i => ?_, e7, e4, by omega⟩
  rcases Nat.lt_or_ge i ws.length with hi | hi
  · have : ws.getD i 0 ∈ ws := by simp only [List.getD, List.getElem?_eq_getElem hi, Option.getD_some]; exact List.getElem_mem hi
    have := (e6 _ this).2; omega
  · rw [getD_ge hi]; exact Nat.two_pow_pos _
theorem encD_is {L : Nat} {c : Bool} {ws : List Nat} (hw : LtAll (2 ^ sizeN L) ws) : IsEnc (2 ^ sizeN L) (prN (sizeN L)) (wordsN L c - ws.length) 1 ws (encD L c ws) := encW_is (vfz (size_WOk L)) hw
theorem encD_length {L : Nat} {c : Bool} {ws : List Nat} (hw : LtAll (2 ^ sizeN L) ws) (hk : ws.length ≤ wordsN L c) : (encD L c ws).length = wordsN L c := by rw [(encD_is hw).ln]; omega
theorem conL_length {L : Nat} {c : Bool} {ws : List Nat} (hw : LtAll (2 ^ sizeN L) ws) (hk : ws.length ≤ wordsN L c) : (conL L c ws).length = wordsN L c * sizeN L := by unfold conL; rw [bitsW_length, encD_length hw hk]
theorem words_room (L : Nat) (c : Bool) : wordsN L c * sizeN L ≤ roomN L c := Nat.div_mul_le_self _ _
theorem msgL_length (L : Nat) (c : Bool) (k : Nat) : (msgL L c k).length = if c = true then 28 else 40 := by
  unfold msgL
  rw [bitsW_length, encW_length, wordsB_length]
  cases c <;> rfl
section
variable {L : Nat} {c : Bool} (h1 : 1 ≤ L) (hL : L ≤ 32) (hc : c = true → L ≤ 4) {ws : List Nat} (hw : LtAll (2 ^ sizeN L) ws) (hk : ws.length ≤ wordsN L c)
include h1 hL hw hk
end
theorem getD_set_ne (d : List Bool) {i j : Nat} (b : Bool) (h : i ≠ j) : (d.set i b).getD j false = d.getD j false := by
  simp only [List.getD]
  rw [List.getElem?_set_ne h]
section
variable {n : Nat} {d : List Bool} {ps : List Pt} (hi : ∀ p ∈ ps, ixN n p < d.length) (hn : ps.Pairwise fun p q => ixN n p ≠ ixN n q)
include hi hn
end
section
variable {L : Nat} {c : Bool} (h1 : 1 ≤ L) (hL : L ≤ 32) (hc : c = true → L ≤ 4) {ws : List Nat} (hw : LtAll (2 ^ sizeN L) ws) (hk : ws.length ≤ wordsN L c)
include h1 hL hw hk
end
end Go.Proofs.YtmnlkganmgcpbaaGreatDoor
