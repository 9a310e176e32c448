import Derived.Test.YtplppbfnlfehnaaDoorAztE
namespace Go.Proofs.YtplppbfnlfehnaaDoor
open Go.RowKit
set_option linter.unusedVariables false
/-! numbers of bits -/
/-- the number of the first k bits from a place -/
def numF (b : List Bool) (at_ : Nat) : Nat → Nat
  | 0 => 0
  | k + 1 => 2 * numF b at_ k + (if b.getD (at_ + k) false then 1 else 0)
theorem numF_lt (b : List Bool) (k j : Nat) : numF b k j < 2 ^ j := by
  induction j with
  | zero => simp [numF]
  | succ j ih =>
    have : (if b.getD (k + j) false then 1 else 0) ≤ 1 := by split <;> omega
    show 2 * numF b k j + (if b.getD (k + j) false then 1 else 0) < 2 ^ (j + 1)
    rw [Nat.pow_succ]; omega
theorem or_one (x : Nat) (hx : x ≤ 2199023255552) : bits BinOp.or IntKind.i64 ((x : Int) * 2) 1 = ((2 * x + 1 : Nat) : Int) := by
  have e : ((x : Int) * 2) = ((2 * x : Nat) : Int) := by omega
  have e2 : 2 * x ||| 1 = 2 * x + 1 := by
    have := Nat.two_pow_add_eq_or_of_lt (i := 1) (b := 1) (by decide) x
    simpa using this.symm
  rw [e]
  show IntKind.i64.wrap ((BitVec.ofInt 64 ((2 * x : Nat) : Int) ||| BitVec.ofInt 64 ((1 : Nat) : Int)).toNat : Int) = _
  rw [BitVec.toNat_or, ofInt_i64 _ (by omega), ofInt_i64 1 (by decide), e2, IntKind.wrap_i64]
  omega
set_option maxRecDepth 100000 in
set_option maxHeartbeats 2000000 in
theorem number_any (A : Option Addr) (n c : Nat) (b : List Bool) (w : World) (hn : n ≤ 40) (hb : SR vB false w A n c b) :
    Calls Tryd.prog 72 #[.slice A n c] w fun e w' => e = .returned (.int .i64 ((numF b 0 n : Nat) : Int)) ∧ w' = w := by
  have HB := Lib.hid hb
  have HN : Hid (n = b.length) := hb.hn
  clear hb
  go_enter Tryd.func72, Tryd.ntmps72
  go_wp2
  go_loop [3, 8] (fun vv iv => ∃ k x : Nat, k ≤ n ∧ iv = .int .i64 k ∧ vv = .int .i64 x ∧ x ≤ 2199023255552 ∧ Hid (x = numF b 0 k)) (fun _ iv => n - (intOf iv).toNat)
  case atStart => exact ⟨0, 0, Nat.zero_le _, rfl, rfl, by omega, rfl⟩
  case round =>
    obtain ⟨k, x, hk, rfl, rfl, hx, HX⟩ := hrel
    by_cases hlt : k < n
    · obtain ⟨ad, rfl, hadw, hca⟩ := HB.out.rd (by rw [← HN.out]; omega)
      have hx1 := hca k (by rw [← HN.out]; exact hlt)
      clear hca
      have HS : Hid (∀ y, b.getD k false = y → numF b 0 (k + 1) = 2 * x + (if y then 1 else 0)) := by
        show ∀ y, _
        rintro y rfl
        rw [HX.out]
        show 2 * _ + (if b.getD (0 + k) false then 1 else 0) = _
        rw [Nat.zero_add]
      generalize b.getD k false = y at *
      cases y with
      | true =>
        have ho := or_one x hx
        have HS2 := Lib.hid (HS.out true rfl)
        have hb2 : 2 * x + 1 ≤ 2199023255552 := by
          have h1 := numF_lt b 0 (k + 1)
          rw [HS2.out] at h1
          have h2 : 2 ^ (k + 1) ≤ 2 ^ 40 := Nat.pow_le_pow_right (by omega) (by omega)
          have h3 : (2 : Nat) ^ 40 = 1099511627776 := by decide
          simp only [if_true] at h1
          omega
        go_wp2
        exact ⟨⟨k + 1, 2 * x + 1, by omega, by go_num, rfl, hb2, HS2.out.symm⟩, by simp [intOf]; omega⟩
      | false =>
        have HS2 := Lib.hid (HS.out false rfl)
        have hb2 : 2 * x ≤ 2199023255552 := by
          have h1 := numF_lt b 0 (k + 1)
          rw [HS2.out] at h1
          have h2 : 2 ^ (k + 1) ≤ 2 ^ 40 := Nat.pow_le_pow_right (by omega) (by omega)
          have h3 : (2 : Nat) ^ 40 = 1099511627776 := by decide
          omega
        go_wp2
        exact ⟨⟨k + 1, 2 * x, by omega, by go_num, by go_num, hb2, HS2.out.symm⟩, by simp [intOf]; omega⟩
    · obtain rfl : k = n := by omega
      go_wp2
      go_ret
      exact ⟨by rw [← HX.out]; rfl, rfl⟩
theorem RG.drop {α : Type} {f : α → Value} {d : α} {w : World} {ad : Addr} {l : List α} (h : RG f d w (some ad) l) (k : Nat) : RG f d w (some (ad.add k)) (l.drop k) := fun hn => by
  rw [List.length_drop] at hn
  obtain ⟨ad', e, h1, h2⟩ := h (by omega)
  injection e with e
  subst e
  refine ⟨_, rfl, by rw [block_of_add]; exact h1, fun j hj => ?_⟩
  rw [List.length_drop] at hj
  rw [add_of_add, h2 (k + j) (by omega)]
  simp [List.getD]
theorem RG.take {α : Type} {f : α → Value} {d : α} {w : World} {A : Option Addr} {l : List α} (h : RG f d w A l) (k : Nat) : RG f d w A (l.take k) := fun hn => by
  rw [List.length_take] at hn
  obtain ⟨ad, e, h1, h2⟩ := h (by omega)
  refine ⟨ad, e, h1, fun j hj => ?_⟩
  rw [List.length_take] at hj
  rw [h2 j (by omega)]
  simp only [List.getD]
  rw [List.getElem?_take_of_lt (by omega)]
theorem numF_drop (b : List Bool) (k n : Nat) : ∀ j, numF (b.drop k) n j = numF b (k + n) j := by
  intro j
  induction j with
  | zero => rfl
  | succ j ih =>
    show 2 * numF (b.drop k) n j + (if (b.drop k).getD (n + j) false then 1 else 0) = 2 * numF b (k + n) j + (if b.getD (k + n + j) false then 1 else 0)
    rw [ih]
    congr 2
    simp [List.getD, Nat.add_assoc]
theorem numF_take (b : List Bool) (k m : Nat) : ∀ j, k + j ≤ m → numF (b.take m) k j = numF b k j := by
  intro j
  induction j with
  | zero => intro _; rfl
  | succ j ih =>
    intro h
    show 2 * numF (b.take m) k j + (if (b.take m).getD (k + j) false then 1 else 0) = 2 * numF b k j + (if b.getD (k + j) false then 1 else 0)
    rw [ih (by omega)]
    congr 2
    simp only [List.getD]
    rw [List.getElem?_take_of_lt (by omega)]
def takeRes (b : List Bool) (at_ n : Nat) : Int × Int := if b.length < at_ + n then (0, 10) else (((numF b at_ n : Nat) : Int), 0)
def RP (w : World) (L : Int × Int) (e : Ending) (w' : World) : Prop := e = .returned (.tuple #[.int .i64 L.1, .int .i64 L.2]) ∧ Below w.heap.size w w'
theorem RP.mk {w w' : World} {R : Int × Int} {v err : Int} (h : R = (v, err)) (hb : Below w.heap.size w w') : RP w R (.returned (.tuple #[.int .i64 v, .int .i64 err])) w' := by
  subst h; exact ⟨rfl, hb⟩
set_option maxRecDepth 100000 in
set_option maxHeartbeats 2000000 in
theorem Take0_any (A : Option Addr) (n c m : Nat) (b : List Bool) (w : World) (hm : m ≤ 40) (hn : n ≤ 1048576) (hb : SR vB false w A n c b) :
    Calls Tryd.prog 65 #[.slice A n c, .int .i64 0, .int .i64 m] w (fun e w' => e = .returned (.tuple #[.int .i64 (takeRes b 0 m).1, .int .i64 (takeRes b 0 m).2]) ∧ w' = w) := by
  have HB := Lib.hid hb
  have HN : Hid (n = b.length) := hb.hn
  by_cases hlt : n < m
  · have HF : Hid (takeRes b 0 m = (0, 10)) := by show _ = _; unfold takeRes; rw [if_pos (by rw [← HN.out]; omega)]
    clear hb
    go_enter Tryd.func65, Tryd.ntmps65
    go_wp2
    go_ret2
    rw [HF.out]
    exact ⟨rfl, rfl⟩
  · have HF : Hid (takeRes b 0 m = (((numF b 0 m : Nat) : Int), 0)) := by show _ = _; unfold takeRes; rw [if_neg (by rw [← HN.out]; omega)]
    have hcap := hb.hc
    clear hb
    go_enter Tryd.func65, Tryd.ntmps65
    have HNB : Hid (Calls Tryd.prog 72 #[.slice A m c] w fun e w' => e = .returned (.int .i64 ((numF b 0 m : Nat) : Int)) ∧ w' = w) := by
      show Calls _ _ _ _ _
      rw [← numF_take b 0 m m (by omega)]
      exact number_any A m c (b.take m) w hm ⟨by rw [List.length_take, ← HN.out]; omega, by omega, HB.out.hm, HB.out.rd.take m⟩
    go_wp2_with (go_at_call 72; refine HNB.out.mono ?_; rintro e w' ⟨rfl, hw'⟩; rw [hw']; clear hw')
    go_ret2
    rw [HF.out]
    exact ⟨rfl, rfl⟩
theorem SR.drop {α : Type} {f : α → Value} {d : α} {w : World} {A A' : Option Addr} {n c m c' : Nat} {l : List α} (h : SR f d w A n c l) (hm : m ≤ n) (hA : n = m ∨ ∃ ad, A = some ad ∧ A' = some (ad.add m)) (hc : c' = c - m) : SR f d w A' (n - m) c' (l.drop m) := by
  have hn := h.hn
  have h1 := h.hc
  have h2 := h.hm
  refine ⟨by rw [List.length_drop, ← hn], by omega, by omega, ?_⟩
  rcases hA with e | ⟨ad, rfl, rfl⟩
  · intro h0; rw [List.length_drop] at h0; omega
  · exact h.rd.drop m
/-! the reader: a cell with what is left, and a flag -/
def rdC (A : Option Addr) (n c : Nat) : List Value := [.slice A n c, .bool true]
theorem rdC_cells {W : World} {b n c : Nat} {A : Option Addr} (h : CellsAt W b (rdC A n c)) : W.cell? ⟨b, 0, none⟩ = some (.slice A n c) ∧ W.cell? ⟨b, 1, none⟩ = some (.bool true) := ⟨h.2 0 (by simp [rdC]), h.2 1 (by simp [rdC])⟩
theorem Left_any (rb : Nat) (A : Option Addr) (n c : Nat) (w : World) (h : CellsAt w rb (rdC A n c)) :
    Calls Tryd.prog 48 #[.pointer (some ⟨rb, 0, none⟩)] w fun e w' => e = .returned (.int .i64 n) ∧ w' = w := by
  obtain ⟨h0, h1⟩ := rdC_cells h
  clear h
  go_enter Tryd.func48, Tryd.ntmps48
  go_wp2
  go_ret
  exact ⟨rfl, rfl⟩
set_option maxRecDepth 100000 in
set_option maxHeartbeats 2000000 in
theorem next_any (rb : Nat) (A : Option Addr) (n c m : Nat) (b : List Bool) (w : World) (h : CellsAt w rb (rdC A n c)) (hf : w.frozen? ⟨rb, 0, none⟩ = false) (hm : m ≤ 40) (hn : n ≤ 1048576) (hb : SR vB false w A n c b) :
    Calls Tryd.prog 59 #[.pointer (some ⟨rb, 0, none⟩), .int .i64 m] w fun e w' => e = .returned (.tuple #[.int .i64 (takeRes b 0 m).1, .int .i64 (takeRes b 0 m).2]) ∧
      ((b.length < m ∧ w' = w) ∨ (m ≤ b.length ∧ ∃ A' c', w' = w.setCell ⟨rb, 0, none⟩ (.slice A' (n - m) c') ∧ SR vB false w A' (n - m) c' (b.drop m))) := by
  obtain ⟨h0, h1⟩ := rdC_cells h
  have HB := Lib.hid hb
  have HN : Hid (n = b.length) := hb.hn
  clear h
  by_cases hlt : n < m
  · have HF : Hid (takeRes b 0 m = (0, 10)) := by show _ = _; unfold takeRes; rw [if_pos (by rw [← HN.out]; omega)]
    have HT : Hid (Calls Tryd.prog 65 #[.slice A n c, .int .i64 0, .int .i64 m] w (fun e w' => e = .returned (.tuple #[.int .i64 (takeRes b 0 m).1, .int .i64 (takeRes b 0 m).2]) ∧ w' = w)) := Take0_any A n c m b w hm hn hb
    clear hb
    go_enter Tryd.func59, Tryd.ntmps59
    go_wp2_with (go_at_call 65; refine HT.out.mono ?_; rintro e w' ⟨rfl, hw'⟩; rw [hw', HF.out]; clear hw')
    go_ret2
    rw [HF.out]
    exact ⟨rfl, .inl ⟨by rw [← HN.out]; exact hlt, rfl⟩⟩
  · have HF : Hid (takeRes b 0 m = (((numF b 0 m : Nat) : Int), 0)) := by show _ = _; unfold takeRes; rw [if_neg (by rw [← HN.out]; omega)]
    have HT : Hid (Calls Tryd.prog 65 #[.slice A n c, .int .i64 0, .int .i64 m] w (fun e w' => e = .returned (.tuple #[.int .i64 (takeRes b 0 m).1, .int .i64 (takeRes b 0 m).2]) ∧ w' = w)) := Take0_any A n c m b w hm hn hb
    have hc := hb.hc
    clear hb
    go_enter Tryd.func59, Tryd.ntmps59
    go_wp2_with (go_at_call 65; refine HT.out.mono ?_; rintro e w' ⟨rfl, hw'⟩; rw [hw', HF.out]; clear hw')
    all_goals
      go_ret2
      rw [HF.out]
      refine ⟨rfl, .inr ⟨by rw [← HN.out]; omega, _, _, rfl, ?_⟩⟩
    · exact HB.out.drop (by omega) (.inl (by omega)) (by omega)
    · rcases Nat.eq_or_lt_of_le (show m ≤ n by omega) with e | e
      · exact HB.out.drop (by omega) (.inl e.symm) rfl
      · obtain ⟨ad, rfl, _⟩ := HB.out.rd (by rw [← HN.out]; omega)
        exact HB.out.drop (by omega) (.inr ⟨ad, rfl, rfl⟩) rfl
set_option maxRecDepth 100000 in
set_option maxHeartbeats 2000000 in
theorem RTake_any (rb : Nat) (A : Option Addr) (n c m : Nat) (b : List Bool) (w : World) (h : CellsAt w rb (rdC A n c)) (hf : w.frozen? ⟨rb, 0, none⟩ = false) (hm : m ≤ 40) (hn : n ≤ 1048576) (hb : SR vB false w A n c b) :
    Calls Tryd.prog 49 #[.pointer (some ⟨rb, 0, none⟩), .int .i64 m] w fun e w' => e = .returned (.tuple #[.int .i64 (takeRes b 0 m).1, .int .i64 (takeRes b 0 m).2]) ∧
      ((b.length < m ∧ w' = w) ∨ (m ≤ b.length ∧ ∃ A' c', w' = w.setCell ⟨rb, 0, none⟩ (.slice A' (n - m) c') ∧ SR vB false w A' (n - m) c' (b.drop m))) := by
  have HNX : Hid (Calls Tryd.prog 59 #[.pointer (some ⟨rb, 0, none⟩), .int .i64 m] w _) := next_any rb A n c m b w h hf hm hn hb
  obtain ⟨h0, h1⟩ := rdC_cells h
  clear h hb
  go_enter Tryd.func49, Tryd.ntmps49
  go_wp2_with (go_at_call 59; refine HNX.out.mono ?_; rintro e w' ⟨rfl, hw'⟩; have HW := Lib.hid hw'; clear hw')
  go_ret2
  exact ⟨rfl, HW.out⟩
/-! a reader of its own -/
set_option maxRecDepth 100000 in
set_option maxHeartbeats 2000000 in
theorem NewReader_any (A : Option Addr) (n c : Nat) (b : List Bool) (w : World) (hn : n ≤ 1048576) (hb : SR vB false w A n c b) :
    Calls Tryd.prog 30 #[.slice A n c] w fun e w' => ∃ rb A' c', e = .returned (.pointer (some ⟨rb, 0, none⟩)) ∧ CellsAt w' rb (rdC A' n c') ∧ w'.frozen? ⟨rb, 0, none⟩ = false ∧ SR vB false w' A' n c' b ∧ w.heap.size ≤ rb ∧ (∀ ad, A' = some ad → ad.block ≠ rb) ∧ Below w.heap.size w w' := by
  obtain ⟨i0, hi, hz0, hz1, hz2⟩ := info_parts boolInfo
  have HB := Lib.hid hb
  have HN : Hid (n = b.length) := hb.hn
  clear hb
  go_enter Tryd.func30, Tryd.ntmps30
  go_wp2_with (at_builtin; refine wpList_append_G (f := vB) (d := false) oneB rfl _ _ _ rfl w.heap.size 4 i0 _ 1 Tryd.underlying24 hi hz0 hz1 hz2 rfl (.slice none 0 0) 0 [] rfl (World.ownsRow_nil _ _ _ _) A n c b rfl HN.out HB.out.rd (by unfold maxLen; omega) (by omega) (Nat.le_refl _) ?_; intro v1 w1 hown hg; have HB1 : Hid (Below w.heap.size w w1) := (Below.refl _ _).grown hg (Nat.le_refl _) (fun q hq => by cases hq); have hown' : w1.ownsRow w.heap.size 4 1 v1 b.length (b.map vB) := (by rw [← HN.out]; simpa using hown); obtain ⟨A1, n1, c1, rfl, hs1⟩ := (SG.of_own (f := vB) (d := false) hown').parts; have hn1 : n1 = n := hs1.hn.trans HN.out.symm; rw [hn1] at hs1 hown' ⊢; have HO1 := Lib.hid hown'; have HS1 := Lib.hid hs1; clear hown hown' hg hs1 hn1)
  go_ret
  refine ⟨_, _, _, rfl, CellsAt.new _ _ _ _ rfl, World.frozen?_alloc_at _ _ _ _ rfl, HS1.out.below (bwA _ _), HB1.out.size, ?_, bwAlloc HB1.out _⟩
  intro ad e
  subst e
  have := HO1.out.lt ad.block rfl
  omega
end Go.Proofs.YtplppbfnlfehnaaDoor
