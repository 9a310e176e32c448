import Derived.Test.YtplppbfnlfehnaaDoorAztSM
namespace Go.Proofs.YtplppbfnlfehnaaDoor
open Go.RowKit Go.WideMaps Go.Maps
set_option linter.unusedVariables false
/-! the reference's Encode -/
def zStep : Opt := ⟨0, -1, 0, false, 0, 0, 0⟩
theorem CS.congr {w wr : World} {cb n : Nat} {C C' : Nat → Nat → Nat} (h : CS w wr cb n C) (hc : ∀ a m, m < 5 → C a m = C' a m) (hb : ∀ a m, C' a m ≤ 1099511627776) : CS w wr cb n C' := by
  obtain ⟨cur, h1, h2, h3⟩ := h.R
  exact ⟨h.B, h.lo, ⟨cur, h1, h2, fun a m ha hm => by rw [h3 a m ha hm, hc a m hm]⟩, hb⟩
theorem SLi.load {wr : World} {g m : Nat} {l : List Opt} (h : SLi wr g m l) {j : Nat} {o : Opt} (hj : l[j]? = some o) : ∀ q v, (stV m o)[q]? = some v → wr.cell? ((⟨g, j * 11, none⟩ : Addr).add q) = some v := by
  intro q v hq
  rw [add_plain]
  exact h.2 j o hj q v hq
theorem exec_loadStep {a : Act} {o : Oper} {W : World} {q : Operand} (ho : o.op = .load 55 q) (g f mm : Nat) (x : Opt) (hp : a.eval q = .pointer (some ⟨g, f, none⟩)) (h : ∀ j v, (stV mm x)[j]? = some v → W.cell? ((⟨g, f, none⟩ : Addr).add j) = some v) :
    (execOp a.eval o).run Tryd.prog W = .ok (.value (.agg (stV mm x).toArray)) W := by
  have hrun := run_loadVar_cells (P := Tryd.prog) W 55 _ ⟨g, f, none⟩ (stV mm x) Tryd.underlying55 rfl stepSz h
  unfold execOp
  simp only [ho, hp, Instr.loadAt, Instr.sureAddr, Sem.run_bind, Sem.run_pure, Result.andThen_ok, hrun]
def bkF (vv ww : Nat → Nat) : Nat → List Bool
  | 0 => []
  | k + 1 => bkF vv ww k ++ lowB (vv k) (ww k)
theorem bkF_len {vv ww : Nat → Nat} (h : ∀ k, ww k ≤ 62) : ∀ k, (bkF vv ww k).length ≤ 62 * k
  | 0 => Nat.le_refl _
  | k + 1 => by
    have h1 := bkF_len (vv := vv) h k
    have h2 := h k
    unfold bkF
    rw [List.length_append, lowB_length]; omega
def wws (m : Nat) (o : Opt) : List Nat := [m, o.w1, o.w2, 0]
theorem wws_cell {W : World} {b m : Nat} {o : Opt} (h : CellsAt W b (stV m o)) {k : Nat} (hk : k < 4) : W.cell? ⟨b, 4 + k, none⟩ = some (.int .i64 (((wws m o).getD k 0 : Nat) : Int)) := by
  have h4 : k = 0 ∨ k = 1 ∨ k = 2 ∨ k = 3 := by omega
  rcases h4 with rfl | rfl | rfl | rfl
  · exact h.2 4 (by show 4 < 11; omega)
  · exact h.2 5 (by show 5 < 11; omega)
  · exact h.2 6 (by show 6 < 11; omega)
  · exact h.2 7 (by show 7 < 11; omega)
theorem bkF_four (m : Nat) (o : Opt) : bkF (fun k => (vks o).getD k 0) (fun k => (wws m o).getD k 0) 4 = (lowB o.num m ++ lowB o.v1 o.w1) ++ lowB o.v2 o.w2 := by
  show ((([] ++ lowB o.num m) ++ lowB o.v1 o.w1) ++ lowB o.v2 o.w2) ++ lowB 0 0 = _
  rw [lowB_zero, List.append_nil, List.nil_append]
theorem Atom.run_le {p : ByteArray} {a m : Nat} {o : Opt} (h : Atom p a m o) : o.run ≤ 2078 := by
  cases h with
  | chars n hn hk hp => exact Nat.zero_le _
  | latch n hn hk => exact Nat.zero_le _
  | shift n s hn hk hs hk2 hp => exact Nat.zero_le _
  | short n j hn hk h1 h2 h3 => show j ≤ _; omega
  | long n j hn hk h1 h2 h3 => exact h2
theorem byF_step {p : ByteArray} {a r : Nat} (h : a ≤ r) : byF p a (r + 1 - a) = byF p a (r - a) ++ lowB (p.data.toList.getD r 0).toNat 8 := by
  obtain ⟨d, rfl⟩ : ∃ d, r = a + d := ⟨r - a, by omega⟩
  rw [show a + d + 1 - a = d + 1 from by omega, show a + d - a = d from by omega]
  rfl
theorem byF_le (p : ByteArray) (a : Nat) (k : Nat) : (byF p a k).length = 8 * k := byF_len p a k
set_option maxRecDepth 100000 in
set_option maxHeartbeats 8000000 in
theorem REncode_ref (A : Option Addr) (n c : Nat) (l : List UInt8) (w : World) (hp : SR vU 0 w A n c l) (hn : n ≤ 2000) (C : Nat → Nat → Nat) (hC : Cost (bA l) C) :
    Calls Tryd.prog 13 #[.slice A n c] w (RT vB false w (encP (bA l) C, 0)) := by
  have hN : n = l.length := hp.hn
  have HP := Lib.hid hp
  have HLB : Hid (∀ j, l.getD j 0 = (bA l).data.toList.getD j 0) := by show ∀ j, _; intro j; show _ = l.toArray.toList.getD j 0; rw [List.toList_toArray]
  have HSTEPS : Hid (∀ (a m : Nat) (W : World), Abv w W → a ≤ n → m < 5 → Calls Tryd.prog 27 #[.slice A n c, .int .i64 (a : Int), .int .i64 (m : Int)] W fun e w' => ∃ v, e = .returned v ∧ OGS (widthN m) W w' v (stepsL (bA l) a m)) :=
    fun a m W hW ha hm => RSteps_ref A n c l a m W (hp.below hW) (by omega) ha hm
  have HCOST : Hid (Calls Tryd.prog 26 #[.slice A n c] w fun e w' => ∃ cb, e = .returned (.slice (some ⟨cb, 0, none⟩) (n + 1) (n + 1)) ∧ CS w w' cb n C) := by
    show Calls _ _ _ _ _
    refine (RCosts_ref A n c l w hp (by omega)).mono ?_
    rintro e w' ⟨cb, C', h1, h2, h3⟩
    exact ⟨cb, h1, h2.congr (fun a m hm => h3.uniq (hC.ac (by rw [bA_size]; omega)) a m hm) (fun a m => by have := hC.top a m; omega)⟩
  obtain ⟨p, hpd⟩ : ∃ p, p = bA l := ⟨_, rfl⟩
  have hsz : p.size = n := by rw [hpd, bA_size, hN]
  have HSZ := Lib.hid hsz
  rw [← hpd] at HSTEPS hC HLB
  rw [← hpd]
  have HCC := Lib.hid hC
  obtain ⟨E, hE⟩ : ∃ E, E = encP p C := ⟨_, rfl⟩
  have HE0 : Hid (encF p (stepF C p) (C 0 0) 0 0 = E) := by show _ = _; rw [hE]; rfl
  have hEL : E.length = C 0 0 := by rw [hE]; exact encP_len (by rw [hsz]; omega) hC
  have HELB : Hid (E.length ≤ 40000) := by
    show _ ≤ _
    have h1 := cost_bound (l := l) (C := C) (by omega) (by rw [← hpd]; exact hC.ac (by rw [hsz]; omega))
    omega
  have HEL := Lib.hid hEL
  rw [← hE]
  have d0 : decide ((4096 : Int) < (n : Int)) = false := by simp; omega
  clear hp hN hpd hsz hC hE hEL
  go_enter Tryd.func13, Tryd.ntmps13
  go_wp2_with fail
  refine HCOST.out.mono ?_
  rintro e w1 ⟨cb, rfl, hcs⟩
  have HCS := Lib.hid hcs
  clear hcs HCOST
  go_wp2_with fail
  go_loopw [5, 6, 7] (fun ov iv mv wr => ∃ (a m F : Nat) (out : List Bool) (Ao : Option Addr) (co : Nat), a ≤ n ∧ m < 5 ∧ iv = .int .i64 a ∧ mv = .int .i64 m ∧ ov = .slice Ao out.length co ∧ Hid (SR vB false wr Ao out.length co out) ∧ Hid (CS w wr cb n C) ∧ Hid (out ++ encF p (stepF C p) F a m = E) ∧ Hid (C a m ≤ F) ∧ Hid (out.length + C a m = E.length)) (fun _ iv mv _ => C (intOf iv).toNat (intOf mv).toNat)
  case atStart => exact ⟨0, 0, C 0 0, [], none, 0, by omega, by omega, rfl, rfl, rfl, ⟨rfl, Nat.le_refl _, by unfold maxLen; omega, RG.nil_ _ _⟩, HCS.out, HE0.out, Nat.le_refl _, by show _ = _; rw [HEL.out]; simp⟩
  case round =>
    clear HCS
    obtain ⟨a, m, F, out, Ao, co, ha, hm, rfl, rfl, rfl, hO, hCS, hEE, hF, hOL⟩ := hrel
    by_cases han : a < n
    · have hap : a < p.size := by rw [HSZ.out]; exact han
      obtain ⟨o0, hs0, hA0, ht0, hl0⟩ := HCC.out.stepA (by rw [HSZ.out]; omega) a m hap hm
      have HS0 := Lib.hid hs0
      have HA0 := Lib.hid hA0
      have HT0 := Lib.hid ht0
      have HL0 := Lib.hid hl0
      have HSTP := Lib.hid (HSTEPS.out a m wr hCS.out.B ha hm)
      clear hs0 hA0 ht0 hl0
      go_wp2_with fail
      refine HSTP.out.mono ?_
      rintro e w3 ⟨v, rfl, hv⟩
      obtain ⟨As, cs, rfl, hrow⟩ := hv.row
      have hcl := hCS.out.lt
      obtain ⟨L, hL⟩ : ∃ L, L = stepsL p a m := ⟨_, rfl⟩
      obtain ⟨len, hlen⟩ : ∃ len, len = L.length := ⟨_, rfl⟩
      rw [← hL] at hrow
      rw [← hL]
      rw [← hlen] at hrow
      rw [← hlen]
      have HL := Lib.hid hL
      have HLEN := Lib.hid hlen
      have hlen3 : len ≤ 3200 := by
        rw [hlen, hL]
        unfold stepsL
        rw [List.length_append, rsR_len]
        have h1 := rsK_len p a m (2 ^ widthN m)
        have h2 := pow_width m
        have h3 : rsT p a m ≤ 2078 := by unfold rsT; split <;> omega
        generalize 2 ^ widthN m = Q at *
        omega
      have HROW : Hid (0 < len → ∃ g, As = some ⟨g, 0, none⟩ ∧ SLi w3 g (widthN m) L) := by
        show _ → _
        intro h0
        obtain ⟨g, h1, h2, h3⟩ := hrow h0
        exact ⟨g, h1, h3⟩
      have HC3 : Hid (CS w w3 cb n C) := hCS.out.below hv.B
      have HO3 : Hid (SR vB false w3 Ao out.length co out) := hO.out.below hv.B
      clear HSTP hv hrow hcl hlen hL hCS hO
      have HR0 : Hid (RowIs (w3.alloc (.cells #[.int .i64 0, .int .i64 0, .int .i64 0, .int .i64 0, .int .i64 0, .int .i64 0, .int .i64 0, .int .i64 0, .int .i64 0, .int .i64 0, .int .i64 0] 55)) w3.heap.size (stV 0 zStep).toArray 55) := RowIs.new _ _ _ _ rfl
      have HB0 : Hid (Abv w3 (w3.alloc (.cells #[.int .i64 0, .int .i64 0, .int .i64 0, .int .i64 0, .int .i64 0, .int .i64 0, .int .i64 0, .int .i64 0, .int .i64 0, .int .i64 0, .int .i64 0] 55))) := bwA _ _
      go_wp2_with fail
      generalize (w3.alloc (.cells #[.int .i64 0, .int .i64 0, .int .i64 0, .int .i64 0, .int .i64 0, .int .i64 0, .int .i64 0, .int .i64 0, .int .i64 0, .int .i64 0, .int .i64 0] 55)) = w4 at *
      obtain ⟨Bb, hBb⟩ : ∃ Bb, Bb = w3.heap.size := ⟨_, rfl⟩
      have HBB := Lib.hid hBb
      rw [← hBb] at HR0
      rw [← hBb]
      clear hBb
      obtain ⟨x, hx⟩ : ∃ x, x = C a m := ⟨_, rfl⟩
      have HX := Lib.hid hx
      clear hx
      go_loopw [10, 11] (fun fv kv wr => ∃ (k : Nat) (fd : Bool) (mb : Nat) (ob : Opt), k ≤ len ∧ kv = .int .i64 k ∧ fv = .bool fd ∧ Hid (Abv w3 wr) ∧ Hid (RowIs wr Bb (stV mb ob).toArray 55) ∧ Hid (BestI C L x k fd ob) ∧ Hid (fd = true → mb = widthN m)) (fun _ kv _ => len - (intOf kv).toNat)
      case atStart => exact ⟨0, false, 0, zStep, Nat.zero_le _, rfl, rfl, HB0.out, HR0.out, BestI.start _, fun h => by cases h⟩
      case round =>
        clear HR0 HB0
        obtain ⟨k, fd, mb, ob, hk, rfl, rfl, hW, hR, hBI, hMB⟩ := hrel
        by_cases hlt : k < len
        · obtain ⟨g, rfl, hsl⟩ := HROW.out (by omega)
          obtain ⟨o, ho⟩ : ∃ o, L[k]? = some o := ⟨_, List.getElem?_eq_getElem (by rw [← HLEN.out]; exact hlt)⟩
          have HO := Lib.hid ho
          have hA : Atom p a m o := stepsL_atom hap (by rw [← HL.out]; exact List.mem_of_getElem? ho)
          obtain ⟨osz, hosz⟩ : ∃ x, x = o.size := ⟨_, rfl⟩
          obtain ⟨oat, hoat⟩ : ∃ x, x = o.at_ := ⟨_, rfl⟩
          obtain ⟨omd, homd⟩ : ∃ x, x = o.mode := ⟨_, rfl⟩
          have q3 : osz ≤ 20000 := by rw [hosz]; exact hA.size_le
          have q1 : oat ≤ n := by rw [hoat, ← HSZ.out]; exact hA.at_le hap
          have q2 : omd < 5 := by rw [homd]; exact hA.mode_lt hm
          obtain ⟨cv, hcv⟩ : ∃ x, x = C oat omd := ⟨_, rfl⟩
          have hcvb : cv ≤ 1073741824 := by rw [hcv]; exact HCC.out.top _ _
          obtain ⟨x1, hx1⟩ : ∃ x1, x1 = osz + cv := ⟨_, rfl⟩
          have HX1 : Hid (x1 = o.tot C) := by show _ = _; rw [hx1, hcv, hosz, hoat, homd]; rfl
          have hslW : Hid (∀ W, Abv wr W → SLi W g (widthN m) L) := fun W hW2 => hsl.below (bwStep hW.out hW2)
          have hcsW : Hid (∀ W, Abv wr W → CS w W cb n C) := fun W hW2 => HC3.out.below (bwStep hW.out hW2)
          have CF : Hid (∀ W, Abv wr W → W.cell? ⟨g, k * 11 + 8, none⟩ = some (.int .i64 (osz : Int)) ∧ W.cell? ⟨g, k * 11 + 9, none⟩ = some (.int .i64 (oat : Int)) ∧ W.cell? ⟨g, k * 11 + 10, none⟩ = some (.int .i64 (omd : Int)) ∧ W.cell? ⟨cb, oat * 5 + omd, none⟩ = some (.int .i64 (cv : Int)) ∧ W.cell? ⟨cb, a * 5 + m, none⟩ = some (.int .i64 (x : Int))) := by
            show ∀ W, _
            intro W hW2
            obtain ⟨h1, h2, h3⟩ := (hslW.out W hW2).facts ho
            rw [hosz, hoat, homd]
            refine ⟨h1, h2, h3, ?_, ?_⟩
            · rw [hcv, hoat, homd, hoat.symm, homd.symm]
              exact (hcsW.out W hW2).cell _ _ q1 q2
            · rw [HX.out]
              exact (hcsW.out W hW2).cell _ _ ha hm
          have HXW : Hid (IntKind.i64.wrap ((osz : Int) + (cv : Int)) = (x1 : Int)) := by show _ = _; rw [hx1, IntKind.wrap_i64]; omega
          have ha3 : (oat : Int) < (n : Int) + 1 := by omega
          have ha4 : (a : Int) < (n : Int) + 1 := by omega
          have hm3 : (omd : Int) < 5 := by omega
          have hm4 : (m : Int) < 5 := by omega
          clear ho hA hosz hoat homd hcv hx1
          by_cases hxx : x1 = x
          · have z1 : ((x1 : Int) == (x : Int)) = true := by rw [beq_iff_eq]; omega
            cases fd with
            | false =>
              have HBN : Hid (BestI C L x (k + 1) true o) := hBI.out.first HO.out (by rw [← HX1.out]; exact hxx)
              clear hxx hBI
              go_wp2_with fail
              refine wp_region_W (S := Abv wr) [(false, 0), (false, 1), (false, 2), (false, 3), (false, 4), (false, 5), (false, 6), (false, 7), (false, 8), (false, 9), (false, 10), (false, 11), (false, 12), (false, 13), (false, 14), (false, 15), (false, 16), (false, 17), (false, 18), (false, 19), (false, 20), (false, 21), (false, 22), (false, 23), (false, 24), (false, 25), (false, 26), (false, 27), (false, 28), (false, 29), (false, 30), (false, 31), (false, 32), (false, 33), (false, 34), (false, 35), (false, 36), (false, 37), (true, 38), (false, 39), (false, 40)] (by kernel_rfl) (by kernel_rfl) (bwDrew (Below.refl _ _)) ?_
              simp only [attachW, List.getElem?_cons_zero, List.getElem?_cons_succ]
              refine' wpHX_val rfl (fun W hW => ?_) ?_
              rotate_left
              · have hcf := CF.out W hW; go_simp; rfl
              simp only [Act.put, List.setIfInBounds_toArray, List.set_cons_zero, List.set_cons_succ]
              refine' wpHX_val rfl (fun W hW => ?_) ?_
              rotate_left
              · have hcf := CF.out W hW; go_simp; rfl
              simp only [Act.put, List.setIfInBounds_toArray, List.set_cons_zero, List.set_cons_succ]
              refine' wpHX_val rfl (fun W hW => ?_) ?_
              rotate_left
              · have hcf := CF.out W hW; go_simp; rfl
              simp only [Act.put, List.setIfInBounds_toArray, List.set_cons_zero, List.set_cons_succ]
              refine' wpHX_val rfl (fun W hW => ?_) ?_
              rotate_left
              · have hcf := CF.out W hW; go_simp; rfl
              simp only [Act.put, List.setIfInBounds_toArray, List.set_cons_zero, List.set_cons_succ]
              refine' wpHX_val rfl (fun W hW => ?_) ?_
              rotate_left
              · have hcf := CF.out W hW; go_simp; rfl
              simp only [Act.put, List.setIfInBounds_toArray, List.set_cons_zero, List.set_cons_succ]
              refine' wpHX_val rfl (fun W hW => ?_) ?_
              rotate_left
              · have hcf := CF.out W hW; go_simp; rfl
              simp only [Act.put, List.setIfInBounds_toArray, List.set_cons_zero, List.set_cons_succ]
              refine' wpHX_val rfl (fun W hW => ?_) ?_
              rotate_left
              · have hcf := CF.out W hW; go_simp; rfl
              simp only [Act.put, List.setIfInBounds_toArray, List.set_cons_zero, List.set_cons_succ]
              refine' wpHX_val rfl (fun W hW => ?_) ?_
              rotate_left
              · have hcf := CF.out W hW; go_simp; rfl
              simp only [Act.put, List.setIfInBounds_toArray, List.set_cons_zero, List.set_cons_succ]
              refine' wpHX_val rfl (fun W hW => ?_) ?_
              rotate_left
              · have hcf := CF.out W hW; go_simp; rfl
              simp only [Act.put, List.setIfInBounds_toArray, List.set_cons_zero, List.set_cons_succ]
              refine' wpHX_val rfl (fun W hW => ?_) ?_
              rotate_left
              · have hcf := CF.out W hW; go_simp; rfl
              simp only [Act.put, List.setIfInBounds_toArray, List.set_cons_zero, List.set_cons_succ]
              refine' wpHX_val rfl (fun W hW => ?_) ?_
              rotate_left
              · have hcf := CF.out W hW; go_simp; rfl
              simp only [Act.put, List.setIfInBounds_toArray, List.set_cons_zero, List.set_cons_succ]
              refine' wpHX_val rfl (fun W hW => ?_) ?_
              rotate_left
              · have hcf := CF.out W hW; go_simp; rfl
              simp only [Act.put, List.setIfInBounds_toArray, List.set_cons_zero, List.set_cons_succ]
              refine' wpHX_val rfl (fun W hW => ?_) ?_
              rotate_left
              · have hcf := CF.out W hW; go_simp; rfl
              simp only [Act.put, List.setIfInBounds_toArray, List.set_cons_zero, List.set_cons_succ]
              refine' wpHX_val rfl (fun W hW => ?_) ?_
              rotate_left
              · have hcf := CF.out W hW; go_simp; rfl
              simp only [Act.put, List.setIfInBounds_toArray, List.set_cons_zero, List.set_cons_succ]
              refine' wpHX_val rfl (fun W hW => ?_) ?_
              rotate_left
              · have hcf := CF.out W hW; go_simp; rfl
              simp only [Act.put, List.setIfInBounds_toArray, List.set_cons_zero, List.set_cons_succ]
              refine' wpHX_val rfl (fun W hW => ?_) ?_
              rotate_left
              · have hcf := CF.out W hW; go_simp; rfl
              simp only [Act.put, List.setIfInBounds_toArray, List.set_cons_zero, List.set_cons_succ]
              refine' wpHX_val rfl (fun W hW => ?_) ?_
              rotate_left
              · have hcf := CF.out W hW; go_simp; rfl
              simp only [Act.put, List.setIfInBounds_toArray, List.set_cons_zero, List.set_cons_succ]
              refine' wpHX_val rfl (fun W hW => ?_) ?_
              rotate_left
              · have hcf := CF.out W hW; go_simp; rfl
              simp only [Act.put, List.setIfInBounds_toArray, List.set_cons_zero, List.set_cons_succ]
              refine' wpHX_val rfl (fun W hW => ?_) ?_
              rotate_left
              · have hcf := CF.out W hW; go_simp; rfl
              simp only [Act.put, List.setIfInBounds_toArray, List.set_cons_zero, List.set_cons_succ]
              refine' wpHX_val rfl (fun W hW => ?_) ?_
              rotate_left
              · have hcf := CF.out W hW; go_simp; rfl
              simp only [Act.put, List.setIfInBounds_toArray, List.set_cons_zero, List.set_cons_succ]
              refine' wpHX_val (v := .int .i64 (x1 : Int)) rfl (fun W hW => ?_) ?_
              · go_simp
                exact HXW.out
              simp only [Act.put, List.setIfInBounds_toArray, List.set_cons_zero, List.set_cons_succ]
              refine' wpHX_val rfl (fun W hW => ?_) ?_
              rotate_left
              · have hcf := CF.out W hW; go_simp; rfl
              simp only [Act.put, List.setIfInBounds_toArray, List.set_cons_zero, List.set_cons_succ]
              refine' wpHX_val rfl (fun W hW => ?_) ?_
              rotate_left
              · have hcf := CF.out W hW; go_simp; rfl
              simp only [Act.put, List.setIfInBounds_toArray, List.set_cons_zero, List.set_cons_succ]
              refine' wpHX_val rfl (fun W hW => ?_) ?_
              rotate_left
              · have hcf := CF.out W hW; go_simp; rfl
              simp only [Act.put, List.setIfInBounds_toArray, List.set_cons_zero, List.set_cons_succ]
              refine' wpHX_val rfl (fun W hW => ?_) ?_
              rotate_left
              · have hcf := CF.out W hW; go_simp; rfl
              simp only [Act.put, List.setIfInBounds_toArray, List.set_cons_zero, List.set_cons_succ]
              refine' wpHX_val rfl (fun W hW => ?_) ?_
              rotate_left
              · have hcf := CF.out W hW; go_simp; rfl
              simp only [Act.put, List.setIfInBounds_toArray, List.set_cons_zero, List.set_cons_succ]
              refine' wpHX_val rfl (fun W hW => ?_) ?_
              rotate_left
              · have hcf := CF.out W hW; go_simp; rfl
              simp only [Act.put, List.setIfInBounds_toArray, List.set_cons_zero, List.set_cons_succ]
              refine' wpHX_val rfl (fun W hW => ?_) ?_
              rotate_left
              · have hcf := CF.out W hW; go_simp; rfl
              simp only [Act.put, List.setIfInBounds_toArray, List.set_cons_zero, List.set_cons_succ]
              refine' wpHX_val (v := .bool true) rfl (fun W hW => ?_) ?_
              · go_simp
              simp only [Act.put, List.setIfInBounds_toArray, List.set_cons_zero, List.set_cons_succ]
              refine' wpHX_val rfl (fun W hW => ?_) ?_
              rotate_left
              · have hcf := CF.out W hW; go_simp; rfl
              simp only [Act.put, List.setIfInBounds_toArray, List.set_cons_zero, List.set_cons_succ]
              repeat
                refine' wpHX_gval rfl (fun W hW => ?_) ?_
                rotate_left
                · have hcf := CF.out W hW; go_simp; rfl
                simp only [Act.put, List.setIfInBounds_toArray, List.set_cons_zero, List.set_cons_succ]
              refine wpHX_not rfl ?_
              simp only [Act.put, List.setIfInBounds_toArray, List.set_cons_zero, List.set_cons_succ]
              refine wpHX_not rfl ?_
              simp only [Act.put, List.setIfInBounds_toArray, List.set_cons_zero, List.set_cons_succ]
              refine wpHX_not rfl ?_
              simp only [Act.put, List.setIfInBounds_toArray, List.set_cons_zero, List.set_cons_succ]
              refine wpHX_not rfl ?_
              simp only [Act.put, List.setIfInBounds_toArray, List.set_cons_zero, List.set_cons_succ]
              refine wpHX_not rfl ?_
              simp only [Act.put, List.setIfInBounds_toArray, List.set_cons_zero, List.set_cons_succ]
              refine wpHX_anot rfl (bwDrew (Below.refl _ _)) ?_
              simp only [Act.put, List.setIfInBounds_toArray, List.set_cons_zero, List.set_cons_succ]
              repeat
                refine' wpHX_gval rfl (fun W hW => ?_) ?_
                rotate_left
                · have hcf := CF.out W hW; go_simp; rfl
                simp only [Act.put, List.setIfInBounds_toArray, List.set_cons_zero, List.set_cons_succ]
              refine wpHX_nil ?_
              have HW5 : Hid (Abv w3 wr.drew) := bwDrew hW.out
              have HR5 : Hid (RowIs wr.drew Bb (stV mb ob).toArray 55) := hR.out.below (bwDrew (Below.refl _ _))
              have HLD : Hid (∀ q v, (stV (widthN m) o)[q]? = some v → wr.drew.cell? ((⟨g, k * 11, none⟩ : Addr).add q) = some v) := (hslW.out _ (bwDrew (Below.refl _ _))).load HO.out
              clear hR hW CF hslW hcsW
              generalize wr.drew = w5 at *
              go_wp2_with (first
                | ((with_reducible show wpList _ _ _ (⟨_, Op.load 55 _, _, _, _, _⟩ :: _) _ _); refine wpList_loadAgg rfl 55 _ rfl _ Tryd.underlying55 rfl ⟨g, k * 11, none⟩ (stV (widthN m) o) stepSz rfl HLD.out ?_)
                | ((with_reducible show wpList _ _ _ (⟨_, Op.store 55 _ _, _, _, _, _⟩ :: _) _ _); refine wpList_storeAgg rfl 55 _ _ rfl 55 Bb 0 _ (stV (widthN m) o) rfl rfl HR5.out stepSz (by show 0 + 11 ≤ 11; omega) (stV_one _ _) ?_))
              rw [splice_all (stV mb ob) (stV (widthN m) o) rfl]
              exact ⟨⟨k + 1, true, widthN m, o, by omega, by go_num, rfl, below_setRow HW5.out (Nat.le_of_eq HBB.out.symm) _, HR5.out.set _, HBN.out, fun _ => rfl⟩, by simp [intOf]; omega⟩
            | true =>
              have hmb : mb = widthN m := hMB.out rfl
              cases hls : lessV o ob with
              | true =>
                have HBN : Hid (BestI C L x (k + 1) true o) := hBI.out.take HO.out (by rw [← HX1.out]; exact hxx) hls
                have HLS := Lib.hid hls
                clear hxx hBI hls hmb
                go_wp2_with fail
                refine wp_region_W (S := Abv wr) [(false, 0), (false, 1), (false, 2), (false, 3), (false, 4), (false, 5), (false, 6), (false, 7), (false, 8), (false, 9), (false, 10), (false, 11), (false, 12), (false, 13), (false, 14), (false, 15), (false, 16), (false, 17), (false, 18), (false, 19), (false, 20), (false, 21), (false, 22), (false, 23), (false, 24), (false, 25), (false, 26), (false, 27), (false, 28), (false, 29), (false, 30), (false, 31), (false, 32), (false, 33), (false, 34), (false, 35), (false, 36), (false, 37), (true, 38), (false, 39), (false, 40)] (by kernel_rfl) (by kernel_rfl) (bwDrew (Below.refl _ _)) ?_
                simp only [attachW, List.getElem?_cons_zero, List.getElem?_cons_succ]
                refine' wpHX_val rfl (fun W hW => ?_) ?_
                rotate_left
                · have hcf := CF.out W hW; go_simp; rfl
                simp only [Act.put, List.setIfInBounds_toArray, List.set_cons_zero, List.set_cons_succ]
                refine' wpHX_val rfl (fun W hW => ?_) ?_
                rotate_left
                · have hcf := CF.out W hW; go_simp; rfl
                simp only [Act.put, List.setIfInBounds_toArray, List.set_cons_zero, List.set_cons_succ]
                refine' wpHX_val rfl (fun W hW => ?_) ?_
                rotate_left
                · have hcf := CF.out W hW; go_simp; rfl
                simp only [Act.put, List.setIfInBounds_toArray, List.set_cons_zero, List.set_cons_succ]
                refine' wpHX_val rfl (fun W hW => ?_) ?_
                rotate_left
                · have hcf := CF.out W hW; go_simp; rfl
                simp only [Act.put, List.setIfInBounds_toArray, List.set_cons_zero, List.set_cons_succ]
                refine' wpHX_val rfl (fun W hW => ?_) ?_
                rotate_left
                · have hcf := CF.out W hW; go_simp; rfl
                simp only [Act.put, List.setIfInBounds_toArray, List.set_cons_zero, List.set_cons_succ]
                refine' wpHX_val rfl (fun W hW => ?_) ?_
                rotate_left
                · have hcf := CF.out W hW; go_simp; rfl
                simp only [Act.put, List.setIfInBounds_toArray, List.set_cons_zero, List.set_cons_succ]
                refine' wpHX_val rfl (fun W hW => ?_) ?_
                rotate_left
                · have hcf := CF.out W hW; go_simp; rfl
                simp only [Act.put, List.setIfInBounds_toArray, List.set_cons_zero, List.set_cons_succ]
                refine' wpHX_val rfl (fun W hW => ?_) ?_
                rotate_left
                · have hcf := CF.out W hW; go_simp; rfl
                simp only [Act.put, List.setIfInBounds_toArray, List.set_cons_zero, List.set_cons_succ]
                refine' wpHX_val rfl (fun W hW => ?_) ?_
                rotate_left
                · have hcf := CF.out W hW; go_simp; rfl
                simp only [Act.put, List.setIfInBounds_toArray, List.set_cons_zero, List.set_cons_succ]
                refine' wpHX_val rfl (fun W hW => ?_) ?_
                rotate_left
                · have hcf := CF.out W hW; go_simp; rfl
                simp only [Act.put, List.setIfInBounds_toArray, List.set_cons_zero, List.set_cons_succ]
                refine' wpHX_val rfl (fun W hW => ?_) ?_
                rotate_left
                · have hcf := CF.out W hW; go_simp; rfl
                simp only [Act.put, List.setIfInBounds_toArray, List.set_cons_zero, List.set_cons_succ]
                refine' wpHX_val rfl (fun W hW => ?_) ?_
                rotate_left
                · have hcf := CF.out W hW; go_simp; rfl
                simp only [Act.put, List.setIfInBounds_toArray, List.set_cons_zero, List.set_cons_succ]
                refine' wpHX_val rfl (fun W hW => ?_) ?_
                rotate_left
                · have hcf := CF.out W hW; go_simp; rfl
                simp only [Act.put, List.setIfInBounds_toArray, List.set_cons_zero, List.set_cons_succ]
                refine' wpHX_val rfl (fun W hW => ?_) ?_
                rotate_left
                · have hcf := CF.out W hW; go_simp; rfl
                simp only [Act.put, List.setIfInBounds_toArray, List.set_cons_zero, List.set_cons_succ]
                refine' wpHX_val rfl (fun W hW => ?_) ?_
                rotate_left
                · have hcf := CF.out W hW; go_simp; rfl
                simp only [Act.put, List.setIfInBounds_toArray, List.set_cons_zero, List.set_cons_succ]
                refine' wpHX_val rfl (fun W hW => ?_) ?_
                rotate_left
                · have hcf := CF.out W hW; go_simp; rfl
                simp only [Act.put, List.setIfInBounds_toArray, List.set_cons_zero, List.set_cons_succ]
                refine' wpHX_val rfl (fun W hW => ?_) ?_
                rotate_left
                · have hcf := CF.out W hW; go_simp; rfl
                simp only [Act.put, List.setIfInBounds_toArray, List.set_cons_zero, List.set_cons_succ]
                refine' wpHX_val rfl (fun W hW => ?_) ?_
                rotate_left
                · have hcf := CF.out W hW; go_simp; rfl
                simp only [Act.put, List.setIfInBounds_toArray, List.set_cons_zero, List.set_cons_succ]
                refine' wpHX_val rfl (fun W hW => ?_) ?_
                rotate_left
                · have hcf := CF.out W hW; go_simp; rfl
                simp only [Act.put, List.setIfInBounds_toArray, List.set_cons_zero, List.set_cons_succ]
                refine' wpHX_val rfl (fun W hW => ?_) ?_
                rotate_left
                · have hcf := CF.out W hW; go_simp; rfl
                simp only [Act.put, List.setIfInBounds_toArray, List.set_cons_zero, List.set_cons_succ]
                refine' wpHX_val (v := .int .i64 (x1 : Int)) rfl (fun W hW => ?_) ?_
                · go_simp
                  exact HXW.out
                simp only [Act.put, List.setIfInBounds_toArray, List.set_cons_zero, List.set_cons_succ]
                refine' wpHX_val rfl (fun W hW => ?_) ?_
                rotate_left
                · have hcf := CF.out W hW; go_simp; rfl
                simp only [Act.put, List.setIfInBounds_toArray, List.set_cons_zero, List.set_cons_succ]
                refine' wpHX_val rfl (fun W hW => ?_) ?_
                rotate_left
                · have hcf := CF.out W hW; go_simp; rfl
                simp only [Act.put, List.setIfInBounds_toArray, List.set_cons_zero, List.set_cons_succ]
                refine' wpHX_val rfl (fun W hW => ?_) ?_
                rotate_left
                · have hcf := CF.out W hW; go_simp; rfl
                simp only [Act.put, List.setIfInBounds_toArray, List.set_cons_zero, List.set_cons_succ]
                refine' wpHX_val rfl (fun W hW => ?_) ?_
                rotate_left
                · have hcf := CF.out W hW; go_simp; rfl
                simp only [Act.put, List.setIfInBounds_toArray, List.set_cons_zero, List.set_cons_succ]
                refine' wpHX_val rfl (fun W hW => ?_) ?_
                rotate_left
                · have hcf := CF.out W hW; go_simp; rfl
                simp only [Act.put, List.setIfInBounds_toArray, List.set_cons_zero, List.set_cons_succ]
                refine' wpHX_val rfl (fun W hW => ?_) ?_
                rotate_left
                · have hcf := CF.out W hW; go_simp; rfl
                simp only [Act.put, List.setIfInBounds_toArray, List.set_cons_zero, List.set_cons_succ]
                refine' wpHX_val rfl (fun W hW => ?_) ?_
                rotate_left
                · have hcf := CF.out W hW; go_simp; rfl
                simp only [Act.put, List.setIfInBounds_toArray, List.set_cons_zero, List.set_cons_succ]
                refine' wpHX_val (v := .bool true) rfl (fun W hW => ?_) ?_
                · go_simp
                simp only [Act.put, List.setIfInBounds_toArray, List.set_cons_zero, List.set_cons_succ]
                refine' wpHX_val rfl (fun W hW => ?_) ?_
                rotate_left
                · have hcf := CF.out W hW; go_simp; rfl
                simp only [Act.put, List.setIfInBounds_toArray, List.set_cons_zero, List.set_cons_succ]
                refine' wpHX_gval rfl (fun W hW => ?_) ?_
                rotate_left
                · have hcf := CF.out W hW; go_simp; rfl
                simp only [Act.put, List.setIfInBounds_toArray, List.set_cons_zero, List.set_cons_succ]
                refine' wpHX_gval rfl (fun W hW => ?_) ?_
                rotate_left
                · have hcf := CF.out W hW; go_simp; rfl
                simp only [Act.put, List.setIfInBounds_toArray, List.set_cons_zero, List.set_cons_succ]
                refine' wpHX_gval rfl (fun W hW => ?_) ?_
                rotate_left
                · have hcf := CF.out W hW; go_simp; rfl
                simp only [Act.put, List.setIfInBounds_toArray, List.set_cons_zero, List.set_cons_succ]
                refine' wpHX_gval rfl (fun W hW => ?_) ?_
                rotate_left
                · have hcf := CF.out W hW; go_simp; rfl
                simp only [Act.put, List.setIfInBounds_toArray, List.set_cons_zero, List.set_cons_succ]
                refine' wpHX_gval rfl (fun W hW => ?_) ?_
                rotate_left
                · have hcf := CF.out W hW; go_simp; rfl
                simp only [Act.put, List.setIfInBounds_toArray, List.set_cons_zero, List.set_cons_succ]
                refine' wpHX_gval rfl (fun W hW => ?_) ?_
                rotate_left
                · have hcf := CF.out W hW; go_simp; rfl
                simp only [Act.put, List.setIfInBounds_toArray, List.set_cons_zero, List.set_cons_succ]
                refine' wpHX_gval rfl (fun W hW => exec_loadStep rfl g (k * 11) (widthN m) o rfl ((hslW.out W hW).load HO.out)) ?_
                simp only [Act.put, List.setIfInBounds_toArray, List.set_cons_zero, List.set_cons_succ]
                refine' wpHX_gval rfl (fun W hW => exec_loadStep rfl Bb 0 mb ob rfl (load_cells (hR.out.below hW).cells)) ?_
                simp only [Act.put, List.setIfInBounds_toArray, List.set_cons_zero, List.set_cons_succ]
                refine' wpHX_acall rfl (fun W => ?_) ?_
                rotate_left 2
                · go_simp; exact ⟨rfl, rfl⟩
                refine (RLess_ref (widthN m) mb o ob _).mono ?_
                rintro e w5 ⟨rfl, hb5⟩
                rw [HLS.out]
                have HB5 : Hid (Abv wr w5) := (bwDrew (Below.refl _ _)).trans hb5
                clear hb5
                refine ⟨_, rfl, HB5.out, ?_⟩
                simp only [Act.put, List.setIfInBounds_toArray, List.set_cons_zero, List.set_cons_succ]
                repeat
                  refine' wpHX_gval rfl (fun W hW => ?_) ?_
                  rotate_left
                  · have hcf := CF.out W hW; go_simp; rfl
                  simp only [Act.put, List.setIfInBounds_toArray, List.set_cons_zero, List.set_cons_succ]
                refine wpHX_nil ?_
                have HW5 : Hid (Abv w3 w5) := bwStep hW.out HB5.out
                have HR5 : Hid (RowIs w5 Bb (stV mb ob).toArray 55) := hR.out.below HB5.out
                have HLD : Hid (∀ q v, (stV (widthN m) o)[q]? = some v → w5.cell? ((⟨g, k * 11, none⟩ : Addr).add q) = some v) := (hslW.out _ HB5.out).load HO.out
                clear hR hW CF hslW hcsW HB5
                go_wp2_with (first
                  | ((with_reducible show wpList _ _ _ (⟨_, Op.load 55 _, _, _, _, _⟩ :: _) _ _); refine wpList_loadAgg rfl 55 _ rfl _ Tryd.underlying55 rfl ⟨g, k * 11, none⟩ (stV (widthN m) o) stepSz rfl HLD.out ?_)
                  | ((with_reducible show wpList _ _ _ (⟨_, Op.store 55 _ _, _, _, _, _⟩ :: _) _ _); refine wpList_storeAgg rfl 55 _ _ rfl 55 Bb 0 _ (stV (widthN m) o) rfl rfl HR5.out stepSz (by show 0 + 11 ≤ 11; omega) (stV_one _ _) ?_))
                rw [splice_all (stV mb ob) (stV (widthN m) o) rfl]
                exact ⟨⟨k + 1, true, widthN m, o, by omega, by go_num, rfl, below_setRow HW5.out (Nat.le_of_eq HBB.out.symm) _, HR5.out.set _, HBN.out, fun _ => rfl⟩, by simp [intOf]; omega⟩
              | false =>
                have HBN : Hid (BestI C L x (k + 1) true ob) := hBI.out.keep HO.out hls
                have HLS := Lib.hid hls
                clear hxx hBI hls hmb
                go_wp2_with fail
                refine wp_region_W (S := Abv wr) [(false, 0), (false, 1), (false, 2), (false, 3), (false, 4), (false, 5), (false, 6), (false, 7), (false, 8), (false, 9), (false, 10), (false, 11), (false, 12), (false, 13), (false, 14), (false, 15), (false, 16), (false, 17), (false, 18), (false, 19), (false, 20), (false, 21), (false, 22), (false, 23), (false, 24), (false, 25), (false, 26), (false, 27), (false, 28), (false, 29), (false, 30), (false, 31), (false, 32), (false, 33), (false, 34), (false, 35), (false, 36), (false, 37), (true, 38), (false, 39), (false, 40)] (by kernel_rfl) (by kernel_rfl) (bwDrew (Below.refl _ _)) ?_
                simp only [attachW, List.getElem?_cons_zero, List.getElem?_cons_succ]
                refine' wpHX_val rfl (fun W hW => ?_) ?_
                rotate_left
                · have hcf := CF.out W hW; go_simp; rfl
                simp only [Act.put, List.setIfInBounds_toArray, List.set_cons_zero, List.set_cons_succ]
                refine' wpHX_val rfl (fun W hW => ?_) ?_
                rotate_left
                · have hcf := CF.out W hW; go_simp; rfl
                simp only [Act.put, List.setIfInBounds_toArray, List.set_cons_zero, List.set_cons_succ]
                refine' wpHX_val rfl (fun W hW => ?_) ?_
                rotate_left
                · have hcf := CF.out W hW; go_simp; rfl
                simp only [Act.put, List.setIfInBounds_toArray, List.set_cons_zero, List.set_cons_succ]
                refine' wpHX_val rfl (fun W hW => ?_) ?_
                rotate_left
                · have hcf := CF.out W hW; go_simp; rfl
                simp only [Act.put, List.setIfInBounds_toArray, List.set_cons_zero, List.set_cons_succ]
                refine' wpHX_val rfl (fun W hW => ?_) ?_
                rotate_left
                · have hcf := CF.out W hW; go_simp; rfl
                simp only [Act.put, List.setIfInBounds_toArray, List.set_cons_zero, List.set_cons_succ]
                refine' wpHX_val rfl (fun W hW => ?_) ?_
                rotate_left
                · have hcf := CF.out W hW; go_simp; rfl
                simp only [Act.put, List.setIfInBounds_toArray, List.set_cons_zero, List.set_cons_succ]
                refine' wpHX_val rfl (fun W hW => ?_) ?_
                rotate_left
                · have hcf := CF.out W hW; go_simp; rfl
                simp only [Act.put, List.setIfInBounds_toArray, List.set_cons_zero, List.set_cons_succ]
                refine' wpHX_val rfl (fun W hW => ?_) ?_
                rotate_left
                · have hcf := CF.out W hW; go_simp; rfl
                simp only [Act.put, List.setIfInBounds_toArray, List.set_cons_zero, List.set_cons_succ]
                refine' wpHX_val rfl (fun W hW => ?_) ?_
                rotate_left
                · have hcf := CF.out W hW; go_simp; rfl
                simp only [Act.put, List.setIfInBounds_toArray, List.set_cons_zero, List.set_cons_succ]
                refine' wpHX_val rfl (fun W hW => ?_) ?_
                rotate_left
                · have hcf := CF.out W hW; go_simp; rfl
                simp only [Act.put, List.setIfInBounds_toArray, List.set_cons_zero, List.set_cons_succ]
                refine' wpHX_val rfl (fun W hW => ?_) ?_
                rotate_left
                · have hcf := CF.out W hW; go_simp; rfl
                simp only [Act.put, List.setIfInBounds_toArray, List.set_cons_zero, List.set_cons_succ]
                refine' wpHX_val rfl (fun W hW => ?_) ?_
                rotate_left
                · have hcf := CF.out W hW; go_simp; rfl
                simp only [Act.put, List.setIfInBounds_toArray, List.set_cons_zero, List.set_cons_succ]
                refine' wpHX_val rfl (fun W hW => ?_) ?_
                rotate_left
                · have hcf := CF.out W hW; go_simp; rfl
                simp only [Act.put, List.setIfInBounds_toArray, List.set_cons_zero, List.set_cons_succ]
                refine' wpHX_val rfl (fun W hW => ?_) ?_
                rotate_left
                · have hcf := CF.out W hW; go_simp; rfl
                simp only [Act.put, List.setIfInBounds_toArray, List.set_cons_zero, List.set_cons_succ]
                refine' wpHX_val rfl (fun W hW => ?_) ?_
                rotate_left
                · have hcf := CF.out W hW; go_simp; rfl
                simp only [Act.put, List.setIfInBounds_toArray, List.set_cons_zero, List.set_cons_succ]
                refine' wpHX_val rfl (fun W hW => ?_) ?_
                rotate_left
                · have hcf := CF.out W hW; go_simp; rfl
                simp only [Act.put, List.setIfInBounds_toArray, List.set_cons_zero, List.set_cons_succ]
                refine' wpHX_val rfl (fun W hW => ?_) ?_
                rotate_left
                · have hcf := CF.out W hW; go_simp; rfl
                simp only [Act.put, List.setIfInBounds_toArray, List.set_cons_zero, List.set_cons_succ]
                refine' wpHX_val rfl (fun W hW => ?_) ?_
                rotate_left
                · have hcf := CF.out W hW; go_simp; rfl
                simp only [Act.put, List.setIfInBounds_toArray, List.set_cons_zero, List.set_cons_succ]
                refine' wpHX_val rfl (fun W hW => ?_) ?_
                rotate_left
                · have hcf := CF.out W hW; go_simp; rfl
                simp only [Act.put, List.setIfInBounds_toArray, List.set_cons_zero, List.set_cons_succ]
                refine' wpHX_val rfl (fun W hW => ?_) ?_
                rotate_left
                · have hcf := CF.out W hW; go_simp; rfl
                simp only [Act.put, List.setIfInBounds_toArray, List.set_cons_zero, List.set_cons_succ]
                refine' wpHX_val (v := .int .i64 (x1 : Int)) rfl (fun W hW => ?_) ?_
                · go_simp
                  exact HXW.out
                simp only [Act.put, List.setIfInBounds_toArray, List.set_cons_zero, List.set_cons_succ]
                refine' wpHX_val rfl (fun W hW => ?_) ?_
                rotate_left
                · have hcf := CF.out W hW; go_simp; rfl
                simp only [Act.put, List.setIfInBounds_toArray, List.set_cons_zero, List.set_cons_succ]
                refine' wpHX_val rfl (fun W hW => ?_) ?_
                rotate_left
                · have hcf := CF.out W hW; go_simp; rfl
                simp only [Act.put, List.setIfInBounds_toArray, List.set_cons_zero, List.set_cons_succ]
                refine' wpHX_val rfl (fun W hW => ?_) ?_
                rotate_left
                · have hcf := CF.out W hW; go_simp; rfl
                simp only [Act.put, List.setIfInBounds_toArray, List.set_cons_zero, List.set_cons_succ]
                refine' wpHX_val rfl (fun W hW => ?_) ?_
                rotate_left
                · have hcf := CF.out W hW; go_simp; rfl
                simp only [Act.put, List.setIfInBounds_toArray, List.set_cons_zero, List.set_cons_succ]
                refine' wpHX_val rfl (fun W hW => ?_) ?_
                rotate_left
                · have hcf := CF.out W hW; go_simp; rfl
                simp only [Act.put, List.setIfInBounds_toArray, List.set_cons_zero, List.set_cons_succ]
                refine' wpHX_val rfl (fun W hW => ?_) ?_
                rotate_left
                · have hcf := CF.out W hW; go_simp; rfl
                simp only [Act.put, List.setIfInBounds_toArray, List.set_cons_zero, List.set_cons_succ]
                refine' wpHX_val rfl (fun W hW => ?_) ?_
                rotate_left
                · have hcf := CF.out W hW; go_simp; rfl
                simp only [Act.put, List.setIfInBounds_toArray, List.set_cons_zero, List.set_cons_succ]
                refine' wpHX_val (v := .bool true) rfl (fun W hW => ?_) ?_
                · go_simp
                simp only [Act.put, List.setIfInBounds_toArray, List.set_cons_zero, List.set_cons_succ]
                refine' wpHX_val rfl (fun W hW => ?_) ?_
                rotate_left
                · have hcf := CF.out W hW; go_simp; rfl
                simp only [Act.put, List.setIfInBounds_toArray, List.set_cons_zero, List.set_cons_succ]
                refine' wpHX_gval rfl (fun W hW => ?_) ?_
                rotate_left
                · have hcf := CF.out W hW; go_simp; rfl
                simp only [Act.put, List.setIfInBounds_toArray, List.set_cons_zero, List.set_cons_succ]
                refine' wpHX_gval rfl (fun W hW => ?_) ?_
                rotate_left
                · have hcf := CF.out W hW; go_simp; rfl
                simp only [Act.put, List.setIfInBounds_toArray, List.set_cons_zero, List.set_cons_succ]
                refine' wpHX_gval rfl (fun W hW => ?_) ?_
                rotate_left
                · have hcf := CF.out W hW; go_simp; rfl
                simp only [Act.put, List.setIfInBounds_toArray, List.set_cons_zero, List.set_cons_succ]
                refine' wpHX_gval rfl (fun W hW => ?_) ?_
                rotate_left
                · have hcf := CF.out W hW; go_simp; rfl
                simp only [Act.put, List.setIfInBounds_toArray, List.set_cons_zero, List.set_cons_succ]
                refine' wpHX_gval rfl (fun W hW => ?_) ?_
                rotate_left
                · have hcf := CF.out W hW; go_simp; rfl
                simp only [Act.put, List.setIfInBounds_toArray, List.set_cons_zero, List.set_cons_succ]
                refine' wpHX_gval rfl (fun W hW => ?_) ?_
                rotate_left
                · have hcf := CF.out W hW; go_simp; rfl
                simp only [Act.put, List.setIfInBounds_toArray, List.set_cons_zero, List.set_cons_succ]
                refine' wpHX_gval rfl (fun W hW => exec_loadStep rfl g (k * 11) (widthN m) o rfl ((hslW.out W hW).load HO.out)) ?_
                simp only [Act.put, List.setIfInBounds_toArray, List.set_cons_zero, List.set_cons_succ]
                refine' wpHX_gval rfl (fun W hW => exec_loadStep rfl Bb 0 mb ob rfl (load_cells (hR.out.below hW).cells)) ?_
                simp only [Act.put, List.setIfInBounds_toArray, List.set_cons_zero, List.set_cons_succ]
                refine' wpHX_acall rfl (fun W => ?_) ?_
                rotate_left 2
                · go_simp; exact ⟨rfl, rfl⟩
                refine (RLess_ref (widthN m) mb o ob _).mono ?_
                rintro e w5 ⟨rfl, hb5⟩
                rw [HLS.out]
                have HB5 : Hid (Abv wr w5) := (bwDrew (Below.refl _ _)).trans hb5
                clear hb5
                refine ⟨_, rfl, HB5.out, ?_⟩
                simp only [Act.put, List.setIfInBounds_toArray, List.set_cons_zero, List.set_cons_succ]
                repeat
                  refine' wpHX_gval rfl (fun W hW => ?_) ?_
                  rotate_left
                  · have hcf := CF.out W hW; go_simp; rfl
                  simp only [Act.put, List.setIfInBounds_toArray, List.set_cons_zero, List.set_cons_succ]
                refine wpHX_nil ?_
                have HW5 : Hid (Abv w3 w5) := bwStep hW.out HB5.out
                have HR5 : Hid (RowIs w5 Bb (stV mb ob).toArray 55) := hR.out.below HB5.out
                have HLD : Hid (∀ q v, (stV (widthN m) o)[q]? = some v → w5.cell? ((⟨g, k * 11, none⟩ : Addr).add q) = some v) := (hslW.out _ HB5.out).load HO.out
                clear hR hW CF hslW hcsW HB5
                go_wp2_with fail
                exact ⟨⟨k + 1, true, mb, ob, by omega, by go_num, rfl, HW5.out, HR5.out, HBN.out, fun _ => hMB.out trivial⟩, by simp [intOf]; omega⟩
          · have z1 : ((x1 : Int) == (x : Int)) = false := by rw [beq_eq_false_iff_ne]; omega
            have HBN : Hid (BestI C L x (k + 1) fd ob) := hBI.out.skip HO.out (by rw [← HX1.out]; exact hxx)
            clear hxx hBI
            go_wp2_with fail
            refine wp_region_W (S := Abv wr) [(false, 0), (false, 1), (false, 2), (false, 3), (false, 4), (false, 5), (false, 6), (false, 7), (false, 8), (false, 9), (false, 10), (false, 11), (false, 12), (false, 13), (false, 14), (false, 15), (false, 16), (false, 17), (false, 18), (false, 19), (false, 20), (false, 21), (false, 22), (false, 23), (false, 24), (false, 25), (false, 26), (false, 27), (false, 28), (false, 29), (false, 30), (false, 31), (false, 32), (false, 33), (false, 34), (false, 35), (false, 36), (false, 37), (true, 38), (false, 39), (false, 40)] (by kernel_rfl) (by kernel_rfl) (bwDrew (Below.refl _ _)) ?_
            simp only [attachW, List.getElem?_cons_zero, List.getElem?_cons_succ]
            refine' wpHX_val rfl (fun W hW => ?_) ?_
            rotate_left
            · have hcf := CF.out W hW; go_simp; rfl
            simp only [Act.put, List.setIfInBounds_toArray, List.set_cons_zero, List.set_cons_succ]
            refine' wpHX_val rfl (fun W hW => ?_) ?_
            rotate_left
            · have hcf := CF.out W hW; go_simp; rfl
            simp only [Act.put, List.setIfInBounds_toArray, List.set_cons_zero, List.set_cons_succ]
            refine' wpHX_val rfl (fun W hW => ?_) ?_
            rotate_left
            · have hcf := CF.out W hW; go_simp; rfl
            simp only [Act.put, List.setIfInBounds_toArray, List.set_cons_zero, List.set_cons_succ]
            refine' wpHX_val rfl (fun W hW => ?_) ?_
            rotate_left
            · have hcf := CF.out W hW; go_simp; rfl
            simp only [Act.put, List.setIfInBounds_toArray, List.set_cons_zero, List.set_cons_succ]
            refine' wpHX_val rfl (fun W hW => ?_) ?_
            rotate_left
            · have hcf := CF.out W hW; go_simp; rfl
            simp only [Act.put, List.setIfInBounds_toArray, List.set_cons_zero, List.set_cons_succ]
            refine' wpHX_val rfl (fun W hW => ?_) ?_
            rotate_left
            · have hcf := CF.out W hW; go_simp; rfl
            simp only [Act.put, List.setIfInBounds_toArray, List.set_cons_zero, List.set_cons_succ]
            refine' wpHX_val rfl (fun W hW => ?_) ?_
            rotate_left
            · have hcf := CF.out W hW; go_simp; rfl
            simp only [Act.put, List.setIfInBounds_toArray, List.set_cons_zero, List.set_cons_succ]
            refine' wpHX_val rfl (fun W hW => ?_) ?_
            rotate_left
            · have hcf := CF.out W hW; go_simp; rfl
            simp only [Act.put, List.setIfInBounds_toArray, List.set_cons_zero, List.set_cons_succ]
            refine' wpHX_val rfl (fun W hW => ?_) ?_
            rotate_left
            · have hcf := CF.out W hW; go_simp; rfl
            simp only [Act.put, List.setIfInBounds_toArray, List.set_cons_zero, List.set_cons_succ]
            refine' wpHX_val rfl (fun W hW => ?_) ?_
            rotate_left
            · have hcf := CF.out W hW; go_simp; rfl
            simp only [Act.put, List.setIfInBounds_toArray, List.set_cons_zero, List.set_cons_succ]
            refine' wpHX_val rfl (fun W hW => ?_) ?_
            rotate_left
            · have hcf := CF.out W hW; go_simp; rfl
            simp only [Act.put, List.setIfInBounds_toArray, List.set_cons_zero, List.set_cons_succ]
            refine' wpHX_val rfl (fun W hW => ?_) ?_
            rotate_left
            · have hcf := CF.out W hW; go_simp; rfl
            simp only [Act.put, List.setIfInBounds_toArray, List.set_cons_zero, List.set_cons_succ]
            refine' wpHX_val rfl (fun W hW => ?_) ?_
            rotate_left
            · have hcf := CF.out W hW; go_simp; rfl
            simp only [Act.put, List.setIfInBounds_toArray, List.set_cons_zero, List.set_cons_succ]
            refine' wpHX_val rfl (fun W hW => ?_) ?_
            rotate_left
            · have hcf := CF.out W hW; go_simp; rfl
            simp only [Act.put, List.setIfInBounds_toArray, List.set_cons_zero, List.set_cons_succ]
            refine' wpHX_val rfl (fun W hW => ?_) ?_
            rotate_left
            · have hcf := CF.out W hW; go_simp; rfl
            simp only [Act.put, List.setIfInBounds_toArray, List.set_cons_zero, List.set_cons_succ]
            refine' wpHX_val rfl (fun W hW => ?_) ?_
            rotate_left
            · have hcf := CF.out W hW; go_simp; rfl
            simp only [Act.put, List.setIfInBounds_toArray, List.set_cons_zero, List.set_cons_succ]
            refine' wpHX_val rfl (fun W hW => ?_) ?_
            rotate_left
            · have hcf := CF.out W hW; go_simp; rfl
            simp only [Act.put, List.setIfInBounds_toArray, List.set_cons_zero, List.set_cons_succ]
            refine' wpHX_val rfl (fun W hW => ?_) ?_
            rotate_left
            · have hcf := CF.out W hW; go_simp; rfl
            simp only [Act.put, List.setIfInBounds_toArray, List.set_cons_zero, List.set_cons_succ]
            refine' wpHX_val rfl (fun W hW => ?_) ?_
            rotate_left
            · have hcf := CF.out W hW; go_simp; rfl
            simp only [Act.put, List.setIfInBounds_toArray, List.set_cons_zero, List.set_cons_succ]
            refine' wpHX_val rfl (fun W hW => ?_) ?_
            rotate_left
            · have hcf := CF.out W hW; go_simp; rfl
            simp only [Act.put, List.setIfInBounds_toArray, List.set_cons_zero, List.set_cons_succ]
            refine' wpHX_val (v := .int .i64 (x1 : Int)) rfl (fun W hW => ?_) ?_
            · go_simp
              exact HXW.out
            simp only [Act.put, List.setIfInBounds_toArray, List.set_cons_zero, List.set_cons_succ]
            refine' wpHX_val rfl (fun W hW => ?_) ?_
            rotate_left
            · have hcf := CF.out W hW; go_simp; rfl
            simp only [Act.put, List.setIfInBounds_toArray, List.set_cons_zero, List.set_cons_succ]
            refine' wpHX_val rfl (fun W hW => ?_) ?_
            rotate_left
            · have hcf := CF.out W hW; go_simp; rfl
            simp only [Act.put, List.setIfInBounds_toArray, List.set_cons_zero, List.set_cons_succ]
            refine' wpHX_val rfl (fun W hW => ?_) ?_
            rotate_left
            · have hcf := CF.out W hW; go_simp; rfl
            simp only [Act.put, List.setIfInBounds_toArray, List.set_cons_zero, List.set_cons_succ]
            refine' wpHX_val rfl (fun W hW => ?_) ?_
            rotate_left
            · have hcf := CF.out W hW; go_simp; rfl
            simp only [Act.put, List.setIfInBounds_toArray, List.set_cons_zero, List.set_cons_succ]
            refine' wpHX_val rfl (fun W hW => ?_) ?_
            rotate_left
            · have hcf := CF.out W hW; go_simp; rfl
            simp only [Act.put, List.setIfInBounds_toArray, List.set_cons_zero, List.set_cons_succ]
            refine' wpHX_val rfl (fun W hW => ?_) ?_
            rotate_left
            · have hcf := CF.out W hW; go_simp; rfl
            simp only [Act.put, List.setIfInBounds_toArray, List.set_cons_zero, List.set_cons_succ]
            refine' wpHX_val rfl (fun W hW => ?_) ?_
            rotate_left
            · have hcf := CF.out W hW; go_simp; rfl
            simp only [Act.put, List.setIfInBounds_toArray, List.set_cons_zero, List.set_cons_succ]
            refine' wpHX_val (v := .bool false) rfl (fun W hW => ?_) ?_
            · go_simp
            simp only [Act.put, List.setIfInBounds_toArray, List.set_cons_zero, List.set_cons_succ]
            refine' wpHX_val rfl (fun W hW => ?_) ?_
            rotate_left
            · have hcf := CF.out W hW; go_simp; rfl
            simp only [Act.put, List.setIfInBounds_toArray, List.set_cons_zero, List.set_cons_succ]
            refine wpHX_not rfl ?_
            simp only [Act.put, List.setIfInBounds_toArray, List.set_cons_zero, List.set_cons_succ]
            refine wpHX_not rfl ?_
            simp only [Act.put, List.setIfInBounds_toArray, List.set_cons_zero, List.set_cons_succ]
            refine wpHX_not rfl ?_
            simp only [Act.put, List.setIfInBounds_toArray, List.set_cons_zero, List.set_cons_succ]
            refine wpHX_not rfl ?_
            simp only [Act.put, List.setIfInBounds_toArray, List.set_cons_zero, List.set_cons_succ]
            refine wpHX_not rfl ?_
            simp only [Act.put, List.setIfInBounds_toArray, List.set_cons_zero, List.set_cons_succ]
            refine wpHX_not rfl ?_
            simp only [Act.put, List.setIfInBounds_toArray, List.set_cons_zero, List.set_cons_succ]
            refine wpHX_not rfl ?_
            simp only [Act.put, List.setIfInBounds_toArray, List.set_cons_zero, List.set_cons_succ]
            refine wpHX_not rfl ?_
            simp only [Act.put, List.setIfInBounds_toArray, List.set_cons_zero, List.set_cons_succ]
            refine wpHX_anot rfl (bwDrew (Below.refl _ _)) ?_
            simp only [Act.put, List.setIfInBounds_toArray, List.set_cons_zero, List.set_cons_succ]
            refine wpHX_not rfl ?_
            simp only [Act.put, List.setIfInBounds_toArray, List.set_cons_zero, List.set_cons_succ]
            refine' wpHX_val rfl (fun W hW => ?_) ?_
            rotate_left
            · have hcf := CF.out W hW; go_simp; rfl
            simp only [Act.put, List.setIfInBounds_toArray, List.set_cons_zero, List.set_cons_succ]
            refine wpHX_nil ?_
            have HW5 : Hid (Abv w3 wr.drew) := bwDrew hW.out
            have HR5 : Hid (RowIs wr.drew Bb (stV mb ob).toArray 55) := hR.out.below (bwDrew (Below.refl _ _))
            have HLD : Hid (∀ q v, (stV (widthN m) o)[q]? = some v → wr.drew.cell? ((⟨g, k * 11, none⟩ : Addr).add q) = some v) := (hslW.out _ (bwDrew (Below.refl _ _))).load HO.out
            clear hR hW CF hslW hcsW
            generalize wr.drew = w5 at *
            go_wp2_with fail
            exact ⟨⟨k + 1, fd, mb, ob, by omega, by go_num, rfl, HW5.out, HR5.out, HBN.out, hMB.out⟩, by simp [intOf]; omega⟩
        · have hkl : k = len := by omega
          have hres := BestI.is (by rw [HSZ.out]; omega) HCC.out hap hm HS0.out (fd := fd) (ob := ob) (by
            have h := hBI.out
            rw [hkl, HLEN.out, HX.out, HL.out] at h
            exact h)
          obtain ⟨rfl, rfl⟩ := hres
          have hmb : mb = widthN m := hMB.out rfl
          subst hmb
          obtain ⟨vv, hvv⟩ : ∃ vv : Nat → Nat, vv = fun k => (vks ob).getD k 0 := ⟨_, rfl⟩
          obtain ⟨ww, hww⟩ : ∃ ww : Nat → Nat, ww = fun k => (wws (widthN m) ob).getD k 0 := ⟨_, rfl⟩
          have HVW : Hid (∀ W, Abv wr W → ∀ k, k < 4 → W.cell? ⟨Bb, k, none⟩ = some (.int .i64 ((vv k : Nat) : Int)) ∧ W.cell? ⟨Bb, 4 + k, none⟩ = some (.int .i64 ((ww k : Nat) : Int))) := by
            show ∀ W, _
            intro W hW2 k hk
            rw [hvv, hww]
            exact ⟨vks_cell (hR.out.below hW2).cells hk, wws_cell (hR.out.below hW2).cells hk⟩
          have HVB : Hid (∀ k, vv k ≤ 4096 ∧ ww k ≤ 62) := by
            show ∀ k, _
            intro k
            obtain ⟨h1, h2, h3⟩ := HA0.out.vb
            obtain ⟨h4, h5⟩ := ob.w_le
            have h6 := widthN_le m
            rw [hvv, hww]
            match k with
            | 0 => exact ⟨by show ob.num ≤ _; omega, by show widthN m ≤ _; omega⟩
            | 1 => exact ⟨by show ob.v1 ≤ _; omega, by show ob.w1 ≤ _; omega⟩
            | 2 => exact ⟨by show ob.v2 ≤ _; omega, by show ob.w2 ≤ _; omega⟩
            | 3 => exact ⟨by show 0 ≤ 4096; omega, by show 0 ≤ 62; omega⟩
            | k + 4 => exact ⟨by show 0 ≤ 4096; omega, by show 0 ≤ 62; omega⟩
          have HBK : Hid (bkF vv ww 4 ++ (if ob.run ≠ 0 then byF p a ob.run else []) = optBits p a m ob) := by
            show _ = _
            rw [HA0.out.bits, hvv, hww, bkF_four]
          clear hvv hww hBI hMB
          have HC5 : Hid (CS w wr cb n C) := HC3.out.below hW.out
          have HO5 : Hid (SR vB false wr Ao out.length co out) := HO3.out.below hW.out
          have HRF : Hid (RowIs wr Bb (stV (widthN m) ob).toArray 55) := hR.out
          subst hkl
          clear hW hR HC3 HO3 HROW
          go_wp2_with fail
          obtain ⟨w6, rfl⟩ : ∃ w6 : World, w6 = wr := ⟨_, rfl⟩
          go_loopw [5, 12] (fun ov kv wr => ∃ (q : Nat) (out2 : List Bool) (A2 : Option Addr) (c2 : Nat), q ≤ 4 ∧ kv = .int .i64 q ∧ ov = .slice A2 out2.length c2 ∧ Hid (out2 = out ++ bkF vv ww q) ∧ Hid (SR vB false wr A2 out2.length c2 out2) ∧ Hid (Abv w6 wr)) (fun _ kv _ => 4 - (intOf kv).toNat)
          case atStart => exact ⟨0, out, Ao, co, by omega, rfl, rfl, by show _ = _; rw [show bkF vv ww 0 = [] from rfl, List.append_nil], HO5.out, Below.refl _ _⟩
          case round =>
            clear HO5
            obtain ⟨q, out2, A2, c2, hq, rfl, rfl, hE2, hS2, hW2⟩ := hrel
            have HLN : Hid (out2.length ≤ 41000) := by
              show _ ≤ _
              rw [hE2.out, List.length_append]
              have h1 := bkF_len (vv := vv) (ww := ww) (fun k => (HVB.out k).2) q
              have h2 := hOL.out
              have h3 := HELB.out
              omega
            by_cases hq4 : q < 4
            · obtain ⟨vq, hvq⟩ : ∃ vq, vq = vv q := ⟨_, rfl⟩
              obtain ⟨wq, hwq⟩ : ∃ wq, wq = ww q := ⟨_, rfl⟩
              have hvb : vq ≤ 4096 := by rw [hvq]; exact (HVB.out q).1
              have hwb : wq ≤ 62 := by rw [hwq]; exact (HVB.out q).2
              have HE3 : Hid (out ++ bkF vv ww (q + 1) = out2 ++ lowB vq wq) := by show _ = _; rw [hE2.out, hvq, hwq, List.append_assoc]; rfl
              have hq3 : (q : Int) < 4 := by omega
              have CF : Hid (∀ W, Abv wr W → W.cell? ⟨Bb, q, none⟩ = some (.int .i64 (vq : Int)) ∧ W.cell? ⟨Bb, 4 + q, none⟩ = some (.int .i64 (wq : Int))) := by
                show ∀ W, _
                intro W hW3
                rw [hvq, hwq]
                exact HVW.out W (bwStep hW2.out hW3) q hq4
              clear hvq hwq hE2
              go_wp2_with fail
              refine wp_region_W (S := Abv wr) [(false, 0), (false, 1), (false, 2), (false, 3), (false, 4), (false, 5), (false, 6), (false, 7), (false, 8), (true, 9), (false, 10), (false, 11), (false, 12), (false, 13)] (by kernel_rfl) (by kernel_rfl) (bwDrew (Below.refl _ _)) ?_
              simp only [attachW, List.getElem?_cons_zero, List.getElem?_cons_succ]
              refine' wpHX_val rfl (fun W hW => ?_) ?_
              rotate_left
              · have hcf := CF.out W hW; go_simp; rfl
              simp only [Act.put, List.setIfInBounds_toArray, List.set_cons_zero, List.set_cons_succ]
              refine' wpHX_val rfl (fun W hW => ?_) ?_
              rotate_left
              · have hcf := CF.out W hW; go_simp; rfl
              simp only [Act.put, List.setIfInBounds_toArray, List.set_cons_zero, List.set_cons_succ]
              refine' wpHX_val rfl (fun W hW => ?_) ?_
              rotate_left
              · have hcf := CF.out W hW; go_simp; rfl
              simp only [Act.put, List.setIfInBounds_toArray, List.set_cons_zero, List.set_cons_succ]
              refine' wpHX_val rfl (fun W hW => ?_) ?_
              rotate_left
              · have hcf := CF.out W hW; go_simp; rfl
              simp only [Act.put, List.setIfInBounds_toArray, List.set_cons_zero, List.set_cons_succ]
              refine' wpHX_val rfl (fun W hW => ?_) ?_
              rotate_left
              · have hcf := CF.out W hW; go_simp; rfl
              simp only [Act.put, List.setIfInBounds_toArray, List.set_cons_zero, List.set_cons_succ]
              refine' wpHX_val rfl (fun W hW => ?_) ?_
              rotate_left
              · have hcf := CF.out W hW; go_simp; rfl
              simp only [Act.put, List.setIfInBounds_toArray, List.set_cons_zero, List.set_cons_succ]
              refine' wpHX_val rfl (fun W hW => ?_) ?_
              rotate_left
              · have hcf := CF.out W hW; go_simp; rfl
              simp only [Act.put, List.setIfInBounds_toArray, List.set_cons_zero, List.set_cons_succ]
              refine' wpHX_val rfl (fun W hW => ?_) ?_
              rotate_left
              · have hcf := CF.out W hW; go_simp; rfl
              simp only [Act.put, List.setIfInBounds_toArray, List.set_cons_zero, List.set_cons_succ]
              refine' wpHX_val rfl (fun W hW => ?_) ?_
              rotate_left
              · have hcf := CF.out W hW; go_simp; rfl
              simp only [Act.put, List.setIfInBounds_toArray, List.set_cons_zero, List.set_cons_succ]
              refine' wpHX_acall rfl (fun W => ?_) ?_
              rotate_left 2
              · go_simp; exact ⟨rfl, rfl⟩
              refine (RAppend_any A2 out2.length c2 out2 vq wq _ (hS2.out.below (bwDrew (Below.refl _ _))) (by omega) hwb (by have := HLN.out; omega)).mono ?_
              rintro e w7 ⟨v7, rfl, hs7, hb7⟩
              obtain ⟨A7, n7, c7, rfl, hr7⟩ := hs7.parts
              obtain rfl : n7 = (out2 ++ lowB vq wq).length := hr7.hn
              have HB7 : Hid (Abv wr w7) := (bwDrew (Below.refl _ _)).trans hb7
              have HR7 := Lib.hid hr7
              clear hs7 hb7 hr7
              rw [← HE3.out] at HR7
              rw [← HE3.out]
              generalize hout3 : out ++ bkF vv ww (q + 1) = out3 at *
              have HE4 := Lib.hid hout3.symm
              clear hout3 HE3
              refine ⟨_, rfl, HB7.out, ?_⟩
              simp only [Act.put, List.setIfInBounds_toArray, List.set_cons_zero, List.set_cons_succ]
              refine' wpHX_val rfl (fun W hW => ?_) ?_
              rotate_left
              · have hcf := CF.out W hW; go_simp; rfl
              simp only [Act.put, List.setIfInBounds_toArray, List.set_cons_zero, List.set_cons_succ]
              refine' wpHX_val rfl (fun W hW => ?_) ?_
              rotate_left
              · have hcf := CF.out W hW; go_simp; rfl
              simp only [Act.put, List.setIfInBounds_toArray, List.set_cons_zero, List.set_cons_succ]
              refine' wpHX_val rfl (fun W hW => ?_) ?_
              rotate_left
              · have hcf := CF.out W hW; go_simp; rfl
              simp only [Act.put, List.setIfInBounds_toArray, List.set_cons_zero, List.set_cons_succ]
              refine' wpHX_val rfl (fun W hW => ?_) ?_
              rotate_left
              · have hcf := CF.out W hW; go_simp; rfl
              simp only [Act.put, List.setIfInBounds_toArray, List.set_cons_zero, List.set_cons_succ]
              refine wpHX_nil ?_
              go_wp2_with fail
              exact ⟨⟨q + 1, out3, A7, c7, by omega, by go_num, rfl, HE4.out, HR7.out, bwStep hW2.out HB7.out⟩, by simp [intOf]; omega⟩
            · obtain rfl : q = 4 := by omega
              have HRr : Hid (∀ W, Abv wr W → CellsAt W Bb (stV (widthN m) ob)) := fun W hW3 => (HRF.out.below (bwStep hW2.out hW3)).cells
              obtain ⟨num, hnum⟩ : ∃ x, x = ob.num := ⟨_, rfl⟩
              obtain ⟨oat, hoat⟩ : ∃ x, x = ob.at_ := ⟨_, rfl⟩
              obtain ⟨omd, homd⟩ : ∃ x, x = ob.mode := ⟨_, rfl⟩
              obtain ⟨run, hrun⟩ : ∃ x, x = ob.run := ⟨_, rfl⟩
              have HF3 : Hid (∀ W, Abv wr W → W.cell? ⟨Bb, 0, none⟩ = some (.int .i64 (num : Int)) ∧ W.cell? ⟨Bb, 9, none⟩ = some (.int .i64 (oat : Int)) ∧ W.cell? ⟨Bb, 10, none⟩ = some (.int .i64 (omd : Int))) := by
                show ∀ W, _
                intro W hW3
                have h := HRr.out W hW3
                rw [hnum, hoat, homd]
                exact ⟨h.2 0 (by show 0 < 11; omega), h.2 9 (by show 9 < 11; omega), h.2 10 (by show 10 < 11; omega)⟩
              have HRUN : Hid ((num = 31 ∧ m ≤ 2) ↔ run ≠ 0) := by show _ ↔ _; rw [hnum, hrun]; exact HA0.out.run31 hm
              have HATR : Hid (run ≠ 0 → oat = a + run) := by show _ → _; rw [hoat, hrun]; exact HA0.out.at_run
              have HATL : Hid (oat ≤ n) := by show _ ≤ _; rw [hoat, ← HSZ.out]; exact HA0.out.at_le hap
              have HMDL : Hid (omd < 5) := by show _ < _; rw [homd]; exact HA0.out.mode_lt hm
              have HFIN : Hid (∃ F', (out2 ++ byF p a run) ++ encF p (stepF C p) F' oat omd = E ∧ C oat omd ≤ F' ∧ (out2 ++ byF p a run).length + C oat omd = E.length ∧ C oat omd < C a m) := by
                show ∃ F', _
                have e1 : out2 ++ byF p a run = out ++ optBits p a m ob := by
                  have e2 : byF p a run = (if ob.run ≠ 0 then byF p a ob.run else []) := by
                    rw [hrun]
                    by_cases h : ob.run = 0
                    · rw [if_neg (fun e => e h), h]; rfl
                    · rw [if_pos h]
                  rw [← HBK.out, hE2.out, List.append_assoc, e2]
                have h1 := hF.out
                have h2 := HT0.out
                have h3 := HA0.out.size_pos
                unfold Opt.tot at h2
                obtain ⟨F', rfl⟩ : ∃ F', F = F' + 1 := ⟨F - 1, by omega⟩
                refine ⟨F', ?_, ?_, ?_, ?_⟩
                · rw [e1, List.append_assoc, hoat, homd, ← encF_succ hap HS0.out]; exact hEE.out
                · rw [hoat, homd]; omega
                · rw [e1, List.length_append, HL0.out, hoat, homd]
                  have := hOL.out
                  omega
                · rw [hoat, homd]; omega
              have HRL : Hid (run ≤ 2078) := by show _ ≤ _; rw [hrun]; exact HA0.out.run_le
              clear hnum hoat homd hrun HRr hE2 hEE hF HBK HVW HVB
              go_wp2_with fail
              obtain ⟨w8, rfl⟩ : ∃ w8 : World, w8 = wr := ⟨_, rfl⟩
              go_loopw [5, 13] (fun ov kv wr => ∃ (r : Nat) (out3 : List Bool) (A3 : Option Addr) (c3 : Nat), a ≤ r ∧ r ≤ a + run ∧ kv = .int .i64 r ∧ ov = .slice A3 out3.length c3 ∧ Hid (out3 = out2 ++ byF p a (r - a)) ∧ Hid (SR vB false wr A3 out3.length c3 out3) ∧ Hid (Abv w8 wr)) (fun _ kv _ => a + run - (intOf kv).toNat)
              case atStart => exact ⟨a, out2, A2, c2, Nat.le_refl _, Nat.le_add_right _ _, rfl, rfl, by show _ = _; rw [Nat.sub_self, show byF p a 0 = [] from rfl, List.append_nil], hS2.out, Below.refl _ _⟩
              case round =>
                clear hS2
                obtain ⟨r, out3, A3, c3, har, hq, rfl, rfl, hE3, hS3, hW3⟩ := hrel
                obtain ⟨f0, f9, f10⟩ := HF3.out wr hW3.out
                have HCE : Hid (CS w wr cb n C) := HC5.out.below (bwStep hW2.out hW3.out)
                by_cases hqr : r < a + run
                · obtain ⟨hn31, hm2⟩ := HRUN.out.2 (by omega)
                  have hat := HATR.out (by omega)
                  have hatl := HATL.out
                  have dn : ((num : Int) == 31) = true := by rw [beq_iff_eq]; omega
                  have dm : decide ((m : Int) ≤ 2) = true := by simp; omega
                  have hro : r < oat := by omega
                  have hrn : (r : Int) < (n : Int) := by omega
                  have HPr := HP.out.below HCE.out.B
                  have hnl := HPr.hn
                  obtain ⟨ad, rfl, hadw, hcs⟩ := HPr.rd (by omega)
                  have hx9 := hcs r (by omega)
                  obtain ⟨xb, hxb⟩ : ∃ xb, xb = l.getD r 0 := ⟨_, rfl⟩
                  rw [← hxb] at hx9
                  have hx8 : wr.cell? (ad.add r) = some (.int .u8 ((xb.toNat : Nat) : Int)) := hx9
                  have hxl : xb.toNat < 256 := xb.toNat_lt
                  have HBY : Hid (out2 ++ byF p a (r + 1 - a) = out3 ++ lowB xb.toNat 8) := by
                    show _ = _
                    rw [byF_step har, hE3.out, List.append_assoc, hxb, HLB.out]
                  have HLN3 : Hid (out3.length ≤ 200000) := by
                    show _ ≤ _
                    rw [hE3.out, List.length_append, byF_len]
                    have h1 := HLN.out
                    have h2 := HRL.out
                    omega
                  clear hx9 hxb hadw hcs HPr hnl hE3 hn31 hat hatl
                  go_wp2_with (go_at_call 29; refine (RAppend_any A3 out3.length c3 out3 xb.toNat 8 _ hS3.out (by omega) (by omega) (by have := HLN3.out; omega)).mono ?_; rintro e w9 ⟨v9, rfl, hs9, hb9⟩; obtain ⟨A9, n9, c9, rfl, hr9⟩ := hs9.parts; obtain rfl : n9 = (out3 ++ lowB xb.toNat 8).length := hr9.hn; have HB9 := Lib.hid hb9; have HR9 := Lib.hid hr9; clear hs9 hb9 hr9)
                  go_simp
                  exact ⟨⟨r + 1, by omega, by omega, by omega, out3 ++ lowB xb.toNat 8, A9, c9, ⟨rfl, List.length_append.symm, rfl⟩, HBY.out.symm, HR9.out, bwStep hW3.out HB9.out⟩, by simp [intOf]; omega⟩
                · have hqq : r = a + run := by omega
                  obtain ⟨F', g1, g2, g3, g4⟩ := HFIN.out
                  have e9 : out2 ++ byF p a run = out3 := by rw [hE3.out, hqq, Nat.add_sub_cancel_left]
                  rw [e9] at g1 g3
                  have G1 := Lib.hid g1
                  have G2 := Lib.hid g2
                  have G3 := Lib.hid g3
                  have G4 := Lib.hid g4
                  clear g1 g2 g3 g4 HFIN e9 hE3
                  by_cases hn31 : num = 31
                  · have dn : ((num : Int) == 31) = true := by rw [beq_iff_eq]; omega
                    by_cases hm2 : m ≤ 2
                    · have hat := HATR.out (HRUN.out.1 ⟨hn31, hm2⟩)
                      have dm : decide ((m : Int) ≤ 2) = true := by simp; omega
                      obtain rfl : r = oat := by omega
                      clear hat hqq hn31 hm2
                      go_wp2_with fail
                      exact ⟨⟨r, omd, F', out3, A3, c3, HATL.out, HMDL.out, rfl, rfl, rfl, hS3.out, HCE.out, G1.out, G2.out, G3.out⟩, G4.out⟩
                    · have dm : decide ((m : Int) ≤ 2) = false := by simp; omega
                      clear hqq hn31
                      go_wp2_with fail
                      exact ⟨⟨oat, omd, F', out3, A3, c3, HATL.out, HMDL.out, rfl, rfl, rfl, hS3.out, HCE.out, G1.out, G2.out, G3.out⟩, G4.out⟩
                  · have dn : ((num : Int) == 31) = false := by rw [beq_eq_false_iff_ne]; omega
                    clear hqq hn31
                    go_wp2_with fail
                    exact ⟨⟨oat, omd, F', out3, A3, c3, HATL.out, HMDL.out, rfl, rfl, rfl, hS3.out, HCE.out, G1.out, G2.out, G3.out⟩, G4.out⟩
    · obtain rfl : a = n := by omega
      have HOE : Hid (out = E) := by
        show _ = _
        have h := hEE.out
        rw [encF_end (by rw [HSZ.out]; exact Nat.le_refl _), List.append_nil] at h
        exact h
      have HB : Hid (Abv w wr) := hCS.out.B
      clear hEE hF hOL hCS
      go_wp2_with fail
      go_ret2
      exact RT.mk rfl (by rw [← HOE.out]; exact hO.out.sg) HB.out
end Go.Proofs.YtplppbfnlfehnaaDoor
