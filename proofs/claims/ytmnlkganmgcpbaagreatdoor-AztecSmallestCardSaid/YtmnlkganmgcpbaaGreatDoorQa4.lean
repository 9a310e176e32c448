import Derived.Test.YtmnlkganmgcpbaaGreatDoorQa3
import Derived.Maps.Views
import Derived.Maps.OwnSet
import Derived.DeepKeys4
namespace Go.Proofs.YtmnlkganmgcpbaaGreatDoor
open Go.RowKit
set_option linter.unusedVariables false
theorem own_lit {α : Type} {f : α → Value} (U : World) (xs : List α) (e : TypeId) (n : Nat) (hn : n = xs.length) (hm : n ≤ maxLen) : (U.alloc (.cells (xs.map f).toArray e)).ownsRow U.heap.size e 1 (.slice (some ⟨U.heap.size, 0, none⟩) n n) n (xs.map f) := by
  refine ⟨by simp [hn], .inr ⟨U.heap.size, n, (xs.map f).toArray, rfl, Nat.le_refl _, heap_alloc_new U _, Nat.le_refl _, hm, by simp [hn], by show List.take (n * 1) (xs.map f) = _; exact List.take_of_length_le (by simp [hn])⟩⟩
theorem Split_any (s : ByteArray) (w : World) (hs : s.size ≤ 1000) (ha : s.data.toList.all (fun b => decide (b.toNat < 128)) = true) :
    Calls Tryz.prog 178 #[.string s, .string ByteArray.empty] w fun e w' => ∃ A c, e = .returned (.slice A s.size c) ∧ SR Value.string ByteArray.empty w' A s.size c (Lib.charsB s) ∧ Below w.heap.size w w' := by
  have hl : s.size = (Lib.charsB s).length := (Lib.charsUpTo_length s s.size).symm
  refine (Tryz.strings_Split_chars s ByteArray.empty w rfl (by omega) (fun j b hb => ?_)).mono ?_
  · rw [List.all_eq_true] at ha
    exact of_decide_eq_true (ha b (List.mem_of_getElem? hb))
  · rintro e w' ⟨rfl, rfl⟩
    exact ⟨_, _, rfl, SR.lit (w.iter s s.size) (Lib.charsB s) 9 _ _ rfl hl (by unfold maxLen; omega), (bwA w _).trans ((bwA _ _).mono (by show _ ≤ (w.heap.push _).size; simp))⟩
abbrev tx0 : ByteArray := ⟨#[65, 66, 67, 68, 69, 70, 71, 72, 73, 74, 75, 76, 77, 78, 79, 80, 81, 82, 83, 84, 85, 86, 87, 88, 89, 90]⟩
abbrev tx1 : ByteArray := ⟨#[97, 98, 99, 100, 101, 102, 103, 104, 105, 106, 107, 108, 109, 110, 111, 112, 113, 114, 115, 116, 117, 118, 119, 120, 121, 122]⟩
abbrev tx2 : ByteArray := ⟨#[1, 2, 3, 4, 5, 6, 7, 8, 9, 10, 11, 12, 13, 27, 28, 29, 30, 31, 64, 92, 94, 95, 96, 124, 126, 127]⟩
abbrev tx3 : ByteArray := ⟨#[33, 34, 35, 36, 37, 38, 39, 40, 41, 42, 43, 44, 45, 46, 47, 58, 59, 60, 61, 62, 63, 91, 93, 123, 125]⟩
abbrev tx4 : ByteArray := ⟨#[48, 49, 50, 51, 52, 53, 54, 55, 56, 57, 44, 46]⟩
abbrev tsp : ByteArray := ⟨#[32]⟩
abbrev tpl : List ByteArray := [⟨#[13]⟩, ⟨#[13, 10]⟩, ⟨#[46, 32]⟩, ⟨#[44, 32]⟩, ⟨#[58, 32]⟩]
def texts : Nat → List ByteArray
  | 0 => [tsp] ++ Lib.charsB tx0
  | 1 => [tsp] ++ Lib.charsB tx1
  | 2 => [tsp] ++ Lib.charsB tx2
  | 3 => tpl ++ Lib.charsB tx3
  | _ => [tsp] ++ Lib.charsB tx4
abbrev mc (kind mode : Int) (text : ByteArray) : List Value := [.int .i64 kind, .int .i64 mode, .string text]
def zeroTab : Array Value := (List.replicate 160 (mc 0 0 ByteArray.empty)).flatten.toArray
theorem zeroTab_fact : (Tryz.prog.info? 170).map (·.zero) = some (some (.agg zeroTab)) := by kernel_rfl
def putM (cur : Array Value) (i : Nat) (c : List Value) : Array Value := (splice cur.toList (3 * i) c).toArray
theorem putM_size (cur : Array Value) (i : Nat) (c : List Value) (h : 3 * i + c.length ≤ cur.size) : (putM cur i c).size = cur.size := by
  unfold putM
  rw [List.size_toArray, length_splice _ _ _ (by simpa using h)]; simp
def tabI (cur : Array Value) (l : List ByteArray) (base : Nat) : Nat → Array Value
  | 0 => cur
  | j + 1 => putM (tabI cur l base j) (base + j + 1) (mc 1 0 (l.getD j ByteArray.empty))
def tabO : Nat → Array Value
  | 0 => zeroTab
  | k + 1 => tabI (tabO k) (texts k) (32 * k) (texts k).length
theorem zeroTab_size : zeroTab.size = 480 := by kernel_rfl
theorem texts_len : ∀ k, (texts k).length ≤ 31
  | 0 => by decide
  | 1 => by decide
  | 2 => by decide
  | 3 => by decide
  | _ + 4 => by show ([tsp] ++ Lib.charsB tx4).length ≤ 31; decide
theorem cell_setRow (w : World) (g : Nat) (c : Array Value) (a : Addr) (h : a.block ≠ g) : (w.setRow g c).cell? a = w.cell? a := by
  unfold World.cell?
  rw [setRow_other w g a.block c h]
theorem mc_one (k m : Int) (t : ByteArray) : ∀ v ∈ mc k m t, v.oneCell' = true := by
  intro v hv
  simp only [List.mem_cons, List.not_mem_nil, or_false] at hv
  rcases hv with rfl | rfl | rfl <;> rfl
theorem mem_splice {α : Type} (l : List α) (i : Nat) (c : List α) (v : α) (h : v ∈ splice l i c) : v ∈ l ∨ v ∈ c := by
  unfold splice at h
  simp only [List.mem_append] at h
  rcases h with h | h | h
  · exact .inl (List.mem_of_mem_take h)
  · exact .inr h
  · exact .inl (List.mem_of_mem_drop h)
structure TS (w wr : World) (cs cur : Array Value) : Prop where
  B : Below w.heap.size w wr
  R0 : RowIs wr w.heap.size zeroTab 170
  R1 : RowIs wr (w.heap.size + 1) cur 170
  X : ∀ k, k < 5 → ∃ A n c, cs[k]? = some (.slice A n c) ∧ SR Value.string ByteArray.empty wr A n c (texts k) ∧ ∀ ad, A = some ad → w.heap.size + 2 ≤ ad.block
  Z : cur.size = 480
  O : ∀ v ∈ cur.toList, v.oneCell' = true
theorem TS.fit {w wr : World} {cs cur : Array Value} (h : TS w wr cs cur) {f : Nat} {ce : List Value} (h1 : ce.length = 3) (hf : f + 3 ≤ 480) : f + ce.length ≤ cur.size := by rw [h1, h.Z]; exact hf
theorem TS.put {w wr : World} {cs cur : Array Value} (h : TS w wr cs cur) (f i : Nat) (ce : List Value) (hf : f = 3 * i) (hi : i < 160) (h1 : ce.length = 3) (h2 : ∀ v ∈ ce, v.oneCell' = true) :
    TS w (wr.setRow (w.heap.size + 1) (splice cur.toList f ce).toArray) cs (putM cur i ce) := by
  subst hf
  show TS w (wr.setRow (w.heap.size + 1) (putM cur i ce)) cs (putM cur i ce)
  refine ⟨below_setRow h.B (by omega) _, h.R0.other _ (by omega), h.R1.set _, fun k hk => ?_, ?_, fun v hv => ?_⟩
  · obtain ⟨A, n, c, h1, h2, h3⟩ := h.X k hk
    refine ⟨A, n, c, h1, ⟨h2.hn, h2.hc, h2.hm, fun hn => ?_⟩, h3⟩
    obtain ⟨ad, e, h4, h5⟩ := h2.rd hn
    have h6 := h3 ad e
    refine ⟨ad, e, by rw [size_setRow]; exact h4, fun j hj => ?_⟩
    rw [cell_setRow _ _ _ _ (by rw [block_of_add]; omega)]
    exact h5 j hj
  · rw [putM_size _ _ _ (by rw [h1, h.Z]; omega), h.Z]
  · rcases mem_splice _ _ _ _ (by simpa [putM] using hv) with h9 | h9
    · exact h.O v h9
    · exact h2 v h9
theorem TS.put' {w wr : World} {cs cur : Array Value} (h : TS w wr cs cur) (f : Nat) (ce : List Value) (hf : f % 3 = 0) (hi : f < 480) (h1 : ce.length = 3) (h2 : ∀ v ∈ ce, v.oneCell' = true) :
    TS w (wr.setRow (w.heap.size + 1) (splice cur.toList f ce).toArray) cs (putM cur (f / 3) ce) := h.put f _ ce (by omega) (by omega) h1 h2
theorem zeroTab_one : ∀ v ∈ zeroTab.toList, v.oneCell' = true := by
  intro v hv
  simp only [zeroTab, List.mem_flatten] at hv
  obtain ⟨l, hl, hv⟩ := hv
  rw [List.eq_of_mem_replicate hl] at hv
  exact mc_one _ _ _ v hv
def shN : Nat → Nat
  | 0 => 0
  | 1 => 1
  | 2 => 2
  | _ => 4
theorem shN_lt (k : Nat) : shN k < 5 := by unfold shN; split <;> omega
def tabS : Nat → Array Value
  | 0 => tabO 5
  | k + 1 => putM (tabS k) (32 * shN k) (mc 3 3 ByteArray.empty)
def tabB : Nat → Array Value
  | 0 => tabS 4
  | k + 1 => putM (tabB k) (32 * k + 31) (mc 4 0 ByteArray.empty)
def theTab : Array Value := putM (putM (putM (putM (putM (putM (putM (putM (putM (putM (putM (putM (tabB 3) (84 / 3) (mc 2 1 ByteArray.empty)) (87 / 3) (mc 2 2 ByteArray.empty)) (90 / 3) (mc 2 4 ByteArray.empty)) (180 / 3) (mc 3 0 ByteArray.empty)) (183 / 3) (mc 2 2 ByteArray.empty)) (186 / 3) (mc 2 4 ByteArray.empty)) (276 / 3) (mc 2 1 ByteArray.empty)) (279 / 3) (mc 2 0 ByteArray.empty)) (282 / 3) (mc 2 3 ByteArray.empty)) (381 / 3) (mc 2 0 ByteArray.empty)) (426 / 3) (mc 2 0 ByteArray.empty)) (429 / 3) (mc 3 0 ByteArray.empty)
theorem intSz : (Tryz.prog.info? 3).map (·.size) = some 1 := by kernel_rfl
theorem tabSz : (Tryz.prog.info? 170).map (·.size) = some 480 := by kernel_rfl
theorem tabSz' : (Tryz.prog.info? 170).map (·.size) = some theTab.size := by kernel_rfl
theorem TS.fin {w wr : World} {cs cur : Array Value} (h : TS w wr cs cur) : 0 + cur.toList.length ≤ zeroTab.size := by rw [zeroTab_size, Array.length_toList, h.Z]; omega
theorem TS.tabSz {w wr : World} {cs cur : Array Value} (h : TS w wr cs cur) : (Tryz.prog.info? 170).map (·.size) = some cur.toList.length := by rw [Array.length_toList, h.Z]; exact _root_.Go.Proofs.YtmnlkganmgcpbaaGreatDoor.tabSz
theorem TS.last {w wr : World} {cs cur : Array Value} (h : TS w wr cs cur) : RowIs (wr.setRow w.heap.size (splice zeroTab.toList 0 cur.toList).toArray) w.heap.size cur 170 ∧ Below w.heap.size w (wr.setRow w.heap.size (splice zeroTab.toList 0 cur.toList).toArray) := by
  have e : (splice zeroTab.toList 0 cur.toList).toArray = cur := by
    unfold splice
    rw [List.take_zero, List.nil_append, List.drop_eq_nil_of_le (by simp [h.Z, zeroTab_size]), List.append_nil]
  rw [e]
  exact ⟨h.R0.set _, below_setRow h.B (Nat.le_refl _) _⟩
theorem meanSz : (Tryz.prog.info? 168).map (·.size) = some 3 := by kernel_rfl
theorem sliceSz : (Tryz.prog.info? 214).map (·.size) = some 1 := by kernel_rfl
theorem wpList_put {ops : Array Oper} {rest : List Oper} {o : Oper} {a : Act} {Q : Exit → Act → World → Prop} {w wr : World} {cs cur : Array Value} (h : TS w wr cs cur) (hgd : o.guard = none) (p x : Operand) (ho : o.op = .store 168 p x)
    (f : Nat) (ce : List Value) (hp : a.eval p = .pointer (some ⟨w.heap.size + 1, f, none⟩)) (hx : a.eval x = .agg ce.toArray) (h1 : ce.length = 3) (h2 : ∀ v ∈ ce, v.oneCell' = true) (hf : f % 3 = 0) (hi : f < 480)
    (hk : ∀ w5, Hid (TS w w5 cs (putM cur (f / 3) ce)) → wpList Tryz.prog ops Q rest (a.put o.dst undef) w5) : wpList Tryz.prog ops Q (o :: rest) a wr :=
  wpList_storeAgg hgd 168 p x ho 170 (w.heap.size + 1) f cur ce hp hx h.R1 (by rw [h1]; exact meanSz) (h.fit h1 (by omega)) h2 (hk _ (h.put' f ce hf hi h1 h2))
theorem wpList_tload {ops : Array Oper} {rest : List Oper} {o : Oper} {a : Act} {Q : Exit → Act → World → Prop} {w wr : World} {cs cur : Array Value} (h : TS w wr cs cur) (hgd : o.guard = none) (p : Operand) (ho : o.op = .load 170 p)
    (hp : a.eval p = .pointer (some ⟨w.heap.size + 1, 0, none⟩))
    (hk : ∀ c', Hid (c' = cur) → wpList Tryz.prog ops Q rest (a.put o.dst (.agg c')) wr) : wpList Tryz.prog ops Q (o :: rest) a wr :=
  wpList_load_row hgd 170 p ho (w.heap.size + 1) hp 170 cur (0, 0) _ h.R1 Tryz.underlying170 rfl (by rw [h.Z]; exact tabSz) (hk _ rfl)
theorem wpList_tstore {ops : Array Oper} {rest : List Oper} {o : Oper} {a : Act} {Q : Exit → Act → World → Prop} {w wr : World} {cs cur c' : Array Value} (h : TS w wr cs cur) (hc : c' = cur) (hgd : o.guard = none) (p x : Operand) (ho : o.op = .store 170 p x)
    (hp : a.eval p = .pointer (some ⟨w.heap.size, 0, none⟩)) (hx : a.eval x = .agg c')
    (hk : ∀ w5, Hid (RowIs w5 w.heap.size c' 170 ∧ Below w.heap.size w w5) → wpList Tryz.prog ops Q rest (a.put o.dst undef) w5) : wpList Tryz.prog ops Q (o :: rest) a wr := by
  subst hc
  exact wpList_storeAgg hgd 170 p x ho 170 w.heap.size 0 zeroTab c'.toList hp hx h.R0 h.tabSz h.fin h.O (hk _ h.last)
set_option maxRecDepth 100000 in
set_option maxHeartbeats 4000000 in
theorem table_any (w : World) :
    Calls Tryz.prog 129 #[] w fun e w' => e = .returned (.agg theTab) ∧ Below w.heap.size w w' := by
  obtain ⟨i0, hi, hz0, hz1, hz2⟩ := info_parts strInfo
  go_enter Tryz.func129, Tryz.ntmps129
  go_wp2_with (refine wpList_allocAgg rfl 170 rfl zeroTab zeroTab_fact ?_)
  have HR0 : Hid (RowIs ((w.alloc (.cells zeroTab 170)).alloc (.cells zeroTab 170)) w.heap.size zeroTab 170) := RowIs.below (W := w.alloc (.cells zeroTab 170)) (heap_alloc_new _ _) (bwA _ _)
  have HR1 : Hid (RowIs ((w.alloc (.cells zeroTab 170)).alloc (.cells zeroTab 170)) (w.heap.size + 1) zeroTab 170) := by
    have h := heap_alloc_new (w.alloc (.cells zeroTab 170)) (.cells zeroTab 170)
    rw [show (w.alloc (.cells zeroTab 170)).heap.size = w.heap.size + 1 from by simp] at h
    exact h
  have HW0 : Hid (Below w.heap.size w ((w.alloc (.cells zeroTab 170)).alloc (.cells zeroTab 170))) := bwAlloc (bwA _ _) _
  have hu : ((w.alloc (.cells zeroTab 170)).alloc (.cells zeroTab 170)).heap.size = w.heap.size + 1 + 1 := by simp
  generalize (w.alloc (.cells zeroTab 170)).alloc (.cells zeroTab 170) = X0 at *
  rw [← hu]
  have HUZ := Lib.hid hu
  clear hu
  refine (Split_any tx0 _ (by decide) (by decide)).mono ?_
  rintro e S0 ⟨A0, c0, rfl, hs, hb⟩
  have HS0 := Lib.hid hs
  have HO0 : Hid (S0.ownsRow X0.heap.size 9 1 (.slice (some ⟨X0.heap.size, 0, none⟩) 1 1) 1 ([tsp].map Value.string)) := ownsRow_below (own_lit X0 [tsp] 9 1 rfl (by unfold maxLen; omega)) hb
  have HC0 : Hid (Abv X0 S0) := bwStep (bwA _ _) hb
  clear hs hb
  go_wp2_with (at_builtin; refine wpList_append_G (f := Value.string) (d := ByteArray.empty) oneS rfl _ _ _ rfl X0.heap.size 9 i0 _ 16 Tryz.underlying214 hi hz0 hz1 hz2 rfl _ 1 [tsp] rfl HO0.out A0 _ c0 (Lib.charsB tx0) rfl HS0.out.hn HS0.out.rd (by have : tx0.size = 26 := rfl; unfold maxLen; omega) (by have : tx0.size = 26 := rfl; omega) HC0.out.size ?_; intro v0 X1 hown hg; have HG0 : Hid (Below X0.heap.size X0 X1) := HC0.out.grown hg HC0.out.size (fun q hq => (HO0.out.lt q hq).1); obtain ⟨B0, n0, k0, rfl, hsr⟩ := (SG.of_own (f := Value.string) (d := ByteArray.empty) hown).parts; have HV0 : Hid (SR Value.string ByteArray.empty X1 B0 n0 k0 (texts 0)) := hsr; have HL0 : Hid (∀ ad, B0 = some ad → X0.heap.size ≤ ad.block) := (fun ad e => (hown.lt ad.block (by rw [e]; rfl)).1); clear hsr; have HU1 : Hid (Abv X0 X1) := HG0.out; clear HG0 HC0 HO0 HS0; clear hown hg)
  refine (Split_any tx1 _ (by decide) (by decide)).mono ?_
  rintro e S1 ⟨A1, c1, rfl, hs, hb⟩
  have HS1 := Lib.hid hs
  have HO1 : Hid (S1.ownsRow X1.heap.size 9 1 (.slice (some ⟨X1.heap.size, 0, none⟩) 1 1) 1 ([tsp].map Value.string)) := ownsRow_below (own_lit X1 [tsp] 9 1 rfl (by unfold maxLen; omega)) hb
  have HC1 : Hid (Abv X1 S1) := bwStep (bwA _ _) hb
  clear hs hb
  go_wp2_with (at_builtin; refine wpList_append_G (f := Value.string) (d := ByteArray.empty) oneS rfl _ _ _ rfl X1.heap.size 9 i0 _ 16 Tryz.underlying214 hi hz0 hz1 hz2 rfl _ 1 [tsp] rfl HO1.out A1 _ c1 (Lib.charsB tx1) rfl HS1.out.hn HS1.out.rd (by have : tx1.size = 26 := rfl; unfold maxLen; omega) (by have : tx1.size = 26 := rfl; omega) HC1.out.size ?_; intro v1 X2 hown hg; have HG0 : Hid (Below X1.heap.size X1 X2) := HC1.out.grown hg HC1.out.size (fun q hq => (HO1.out.lt q hq).1); obtain ⟨B1, n1, k1, rfl, hsr⟩ := (SG.of_own (f := Value.string) (d := ByteArray.empty) hown).parts; have HV1 : Hid (SR Value.string ByteArray.empty X2 B1 n1 k1 (texts 1)) := hsr; have HL1 : Hid (∀ ad, B1 = some ad → X1.heap.size ≤ ad.block) := (fun ad e => (hown.lt ad.block (by rw [e]; rfl)).1); clear hsr; have HU2 : Hid (Abv X0 X2) := bwStep HU1.out HG0.out; have HB12 := HG0; clear HG0 HC1 HO1 HS1; clear hown hg)
  refine (Split_any tx2 _ (by decide) (by decide)).mono ?_
  rintro e S2 ⟨A2, c2, rfl, hs, hb⟩
  have HS2 := Lib.hid hs
  have HO2 : Hid (S2.ownsRow X2.heap.size 9 1 (.slice (some ⟨X2.heap.size, 0, none⟩) 1 1) 1 ([tsp].map Value.string)) := ownsRow_below (own_lit X2 [tsp] 9 1 rfl (by unfold maxLen; omega)) hb
  have HC2 : Hid (Abv X2 S2) := bwStep (bwA _ _) hb
  clear hs hb
  go_wp2_with (at_builtin; refine wpList_append_G (f := Value.string) (d := ByteArray.empty) oneS rfl _ _ _ rfl X2.heap.size 9 i0 _ 16 Tryz.underlying214 hi hz0 hz1 hz2 rfl _ 1 [tsp] rfl HO2.out A2 _ c2 (Lib.charsB tx2) rfl HS2.out.hn HS2.out.rd (by have : tx2.size = 26 := rfl; unfold maxLen; omega) (by have : tx2.size = 26 := rfl; omega) HC2.out.size ?_; intro v2 X3 hown hg; have HG0 : Hid (Below X2.heap.size X2 X3) := HC2.out.grown hg HC2.out.size (fun q hq => (HO2.out.lt q hq).1); obtain ⟨B2, n2, k2, rfl, hsr⟩ := (SG.of_own (f := Value.string) (d := ByteArray.empty) hown).parts; have HV2 : Hid (SR Value.string ByteArray.empty X3 B2 n2 k2 (texts 2)) := hsr; have HL2 : Hid (∀ ad, B2 = some ad → X2.heap.size ≤ ad.block) := (fun ad e => (hown.lt ad.block (by rw [e]; rfl)).1); clear hsr; have HU3 : Hid (Abv X0 X3) := bwStep HU2.out HG0.out; have HB13 : Hid (Abv X1 X3) := bwStep HB12.out HG0.out; have HB23 := HG0; clear HB12; clear HG0 HC2 HO2 HS2; clear hown hg)
  refine (Split_any tx3 _ (by decide) (by decide)).mono ?_
  rintro e S3 ⟨A3, c3, rfl, hs, hb⟩
  have HS3 := Lib.hid hs
  have HO3 : Hid (S3.ownsRow X3.heap.size 9 1 (.slice (some ⟨X3.heap.size, 0, none⟩) 5 5) 5 (tpl.map Value.string)) := ownsRow_below (own_lit X3 tpl 9 5 rfl (by unfold maxLen; omega)) hb
  have HC3 : Hid (Abv X3 S3) := bwStep (bwA _ _) hb
  clear hs hb
  go_wp2_with (at_builtin; refine wpList_append_G (f := Value.string) (d := ByteArray.empty) oneS rfl _ _ _ rfl X3.heap.size 9 i0 _ 16 Tryz.underlying214 hi hz0 hz1 hz2 rfl _ 5 tpl rfl HO3.out A3 _ c3 (Lib.charsB tx3) rfl HS3.out.hn HS3.out.rd (by have : tx3.size = 25 := rfl; unfold maxLen; omega) (by have : tx3.size = 25 := rfl; omega) HC3.out.size ?_; intro v3 X4 hown hg; have HG0 : Hid (Below X3.heap.size X3 X4) := HC3.out.grown hg HC3.out.size (fun q hq => (HO3.out.lt q hq).1); obtain ⟨B3, n3, k3, rfl, hsr⟩ := (SG.of_own (f := Value.string) (d := ByteArray.empty) hown).parts; have HV3 : Hid (SR Value.string ByteArray.empty X4 B3 n3 k3 (texts 3)) := hsr; have HL3 : Hid (∀ ad, B3 = some ad → X3.heap.size ≤ ad.block) := (fun ad e => (hown.lt ad.block (by rw [e]; rfl)).1); clear hsr; have HU4 : Hid (Abv X0 X4) := bwStep HU3.out HG0.out; have HB14 : Hid (Abv X1 X4) := bwStep HB13.out HG0.out; have HB24 : Hid (Abv X2 X4) := bwStep HB23.out HG0.out; have HB34 := HG0; clear HB13 HB23; clear HG0 HC3 HO3 HS3; clear hown hg)
  refine (Split_any tx4 _ (by decide) (by decide)).mono ?_
  rintro e S4 ⟨A4, c4, rfl, hs, hb⟩
  have HS4 := Lib.hid hs
  have HO4 : Hid (S4.ownsRow X4.heap.size 9 1 (.slice (some ⟨X4.heap.size, 0, none⟩) 1 1) 1 ([tsp].map Value.string)) := ownsRow_below (own_lit X4 [tsp] 9 1 rfl (by unfold maxLen; omega)) hb
  have HC4 : Hid (Abv X4 S4) := bwStep (bwA _ _) hb
  clear hs hb
  go_wp2_with (at_builtin; refine wpList_append_G (f := Value.string) (d := ByteArray.empty) oneS rfl _ _ _ rfl X4.heap.size 9 i0 _ 16 Tryz.underlying214 hi hz0 hz1 hz2 rfl _ 1 [tsp] rfl HO4.out A4 _ c4 (Lib.charsB tx4) rfl HS4.out.hn HS4.out.rd (by have : tx4.size = 12 := rfl; unfold maxLen; omega) (by have : tx4.size = 12 := rfl; omega) HC4.out.size ?_; intro v4 X5 hown hg; have HG0 : Hid (Below X4.heap.size X4 X5) := HC4.out.grown hg HC4.out.size (fun q hq => (HO4.out.lt q hq).1); obtain ⟨B4, n4, k4, rfl, hsr⟩ := (SG.of_own (f := Value.string) (d := ByteArray.empty) hown).parts; have HV4 : Hid (SR Value.string ByteArray.empty X5 B4 n4 k4 (texts 4)) := hsr; have HL4 : Hid (∀ ad, B4 = some ad → X4.heap.size ≤ ad.block) := (fun ad e => (hown.lt ad.block (by rw [e]; rfl)).1); clear hsr; have HU5 : Hid (Abv X0 X5) := bwStep HU4.out HG0.out; have HB15 : Hid (Abv X1 X5) := bwStep HB14.out HG0.out; have HB25 : Hid (Abv X2 X5) := bwStep HB24.out HG0.out; have HB35 : Hid (Abv X3 X5) := bwStep HB34.out HG0.out; have HB45 := HG0; clear HB14 HB24 HB34; clear HG0 HC4 HO4 HS4; clear hown hg)
  have HTS : Hid (TS w (X5.alloc (.cells #[.slice B0 n0 k0, .slice B1 n1 k1, .slice B2 n2 k2, .slice B3 n3 k3, .slice B4 n4 k4] 216)) #[.slice B0 n0 k0, .slice B1 n1 k1, .slice B2 n2 k2, .slice B3 n3 k3, .slice B4 n4 k4] (tabO 0)) := by
    have z := HUZ.out
    have y1 := HU1.out.size
    have y2 := HU2.out.size
    have y3 := HU3.out.size
    have y4 := HU4.out.size
    have y5 := HU5.out.size
    have b0 : Below X0.heap.size X0 (X5.alloc (.cells #[.slice B0 n0 k0, .slice B1 n1 k1, .slice B2 n2 k2, .slice B3 n3 k3, .slice B4 n4 k4] 216)) := bwAlloc HU5.out _
    have g1 : Below X1.heap.size X1 X5 := HB15.out
    have g2 : Below X2.heap.size X2 X5 := HB25.out
    have g3 : Below X3.heap.size X3 X5 := HB35.out
    have g4 : Below X4.heap.size X4 X5 := HB45.out
    refine ⟨bwStep HW0.out b0, HR0.out.below b0, HR1.out.below b0, fun k hk => ?_, zeroTab_size, zeroTab_one⟩
    have h5 : k = 0 ∨ k = 1 ∨ k = 2 ∨ k = 3 ∨ k = 4 := by omega
    rcases h5 with rfl | rfl | rfl | rfl | rfl
    · exact ⟨B0, n0, k0, rfl, HV0.out.below (bwAlloc g1 _), fun ad e => by have := HL0.out ad e; omega⟩
    · exact ⟨B1, n1, k1, rfl, HV1.out.below (bwAlloc g2 _), fun ad e => by have := HL1.out ad e; omega⟩
    · exact ⟨B2, n2, k2, rfl, HV2.out.below (bwAlloc g3 _), fun ad e => by have := HL2.out ad e; omega⟩
    · exact ⟨B3, n3, k3, rfl, HV3.out.below (bwAlloc g4 _), fun ad e => by have := HL3.out ad e; omega⟩
    · exact ⟨B4, n4, k4, rfl, HV4.out.below (bwA _ _), fun ad e => by have := HL4.out ad e; omega⟩
  clear HUZ HR0 HR1 HW0 HU1 HU2 HU3 HU4 HU5 HB15 HB25 HB35 HB45 HV0 HV1 HV2 HV3 HV4 HL0 HL1 HL2 HL3 HL4
  have hcsz : (#[Value.slice B0 n0 k0, .slice B1 n1 k1, .slice B2 n2 k2, .slice B3 n3 k3, .slice B4 n4 k4] : Array Value).size = 5 := rfl
  generalize (#[Value.slice B0 n0 k0, .slice B1 n1 k1, .slice B2 n2 k2, .slice B3 n3 k3, .slice B4 n4 k4] : Array Value) = cs at *
  go_loopw [28] (fun iv wr => ∃ k : Nat, k ≤ 5 ∧ iv = .int .i64 k ∧ Hid (TS w wr cs (tabO k))) (fun iv _ => 5 - (intOf iv).toNat)
  case atStart => exact ⟨0, by omega, rfl, HTS.out⟩
  case round =>
    obtain ⟨k, hk, rfl, hT⟩ := hrel
    by_cases hlt : k < 5
    · obtain ⟨A, n, c, hx, hs, _⟩ := hT.out.X k hlt
      have HX := Lib.hid hx
      have HS := Lib.hid hs
      clear hx hs
      have htl := texts_len k
      go_wp2_with (refine wpList_indexOne rfl 216 _ _ rfl 5 214 Tryz.underlying216 _ Tryz.underlying214 rfl sliceSz cs .i64 k k rfl rfl rfl hlt _ HX.out ?_)
      obtain ⟨wo, rfl⟩ : ∃ wo : World, wo = wr := ⟨_, rfl⟩
      go_loopw [34] (fun iv wr => ∃ j : Nat, j ≤ n ∧ iv = .int .i64 j ∧ Hid (TS w wr cs (tabI (tabO k) (texts k) (32 * k) j))) (fun iv _ => n - (intOf iv).toNat)
      case atStart => exact ⟨0, by omega, rfl, hT.out⟩
      case round =>
        obtain ⟨j, hj, rfl, hU⟩ := hrel
        obtain ⟨A', n', c', hx', hs', _⟩ := hU.out.X k hlt
        rw [HX.out] at hx'
        injection hx' with hx'
        injection hx' with hx1 hx2 hx3
        subst hx1 hx2 hx3
        by_cases hlt2 : j < n
        · obtain ⟨ad, rfl, hadw, hca⟩ := hs'.rd (by rw [← hs'.hn]; omega)
          have hx1 := hca j (by rw [← hs'.hn]; exact hlt2)
          have hjl : j < 31 := by have := hs'.hn; omega
          obtain ⟨tx, htx⟩ : ∃ tx, tx = (texts k).getD j ByteArray.empty := ⟨_, rfl⟩
          have HTX := Lib.hid htx
          rw [← htx] at hx1
          clear hca hs' htx
          have HU : Hid (TS w (wr.setRow (w.heap.size + 1) (splice (tabI (tabO k) (texts k) (32 * k) j).toList (k * 96 + (j + 1) * 3) (mc 1 0 tx)).toArray) cs (putM (tabI (tabO k) (texts k) (32 * k) j) (32 * k + j + 1) (mc 1 0 tx))) := hU.out.put _ _ _ (by omega) (by omega) rfl (mc_one 1 0 tx)
          have HFIT : Hid (k * 96 + (j + 1) * 3 + (mc 1 0 tx).length ≤ (tabI (tabO k) (texts k) (32 * k) j).size) := hU.out.fit rfl (by omega)
          have HM : Hid (∀ v ∈ mc 1 0 tx, v.oneCell' = true) := mc_one 1 0 tx
          have hmc : Hid (mc 1 0 tx = [.int .i64 1, .int .i64 0, .string tx]) := rfl
          generalize mc 1 0 tx = ce at *
          go_wp2_with (refine wpList_storeAgg rfl 168 _ _ rfl 170 (w.heap.size + 1) (k * 96 + (j + 1) * 3) (tabI (tabO k) (texts k) (32 * k) j) ce rfl (by rw [hmc.out]; rfl) hU.out.R1 (by rw [hmc.out]; exact meanSz) HFIT.out HM.out ?_; generalize World.setRow _ _ _ = w5 at *)
          refine ⟨⟨j + 1, by omega, by go_num, ?_⟩, by simp [intOf]; omega⟩
          have h9 := HU.out
          rw [hmc.out, HTX.out] at h9
          exact h9
        · obtain rfl : j = n := by omega
          have hq : j = (texts k).length := hs'.hn
          clear hs'
          have HQ := Lib.hid hq
          clear hq
          go_wp2
          refine ⟨⟨k + 1, by omega, by go_num, ?_⟩, by simp [intOf]; omega⟩
          have h9 := hU.out
          rw [HQ.out] at h9
          exact h9
    · have h5 : k = 5 := by omega
      clear HTS
      have HT : Hid (TS w wr cs (tabS 0)) := by
        have h9 := hT.out
        rw [h5] at h9
        exact h9
      clear h5
      clear hT
      go_wp2
      go_loopw [49] (fun iv wr => ∃ k : Nat, k ≤ 4 ∧ iv = .int .i64 k ∧ Hid (TS w wr cs (tabS k))) (fun iv _ => 4 - (intOf iv).toNat)
      case atStart => exact ⟨0, by omega, rfl, HT.out⟩
      case round =>
        clear HT
        obtain ⟨k, hk, rfl, hT⟩ := hrel
        by_cases hlt : k < 4
        · have hT2 : Hid (TS w wr cs (tabS k)) := hT
          have HT : Hid (TS w (wr.setRow (w.heap.size + 1) (splice (tabS k).toList (shN k * 96) (mc 3 3 ByteArray.empty)).toArray) cs (tabS (k + 1))) := hT.out.put _ _ _ (by omega) (by have := shN_lt k; omega) rfl (mc_one _ _ _)
          have HX : Hid (#[Value.int .i64 0, .int .i64 1, .int .i64 2, .int .i64 4][k]? = some (.int .i64 (shN k))) := by
            have h5 : k = 0 ∨ k = 1 ∨ k = 2 ∨ k = 3 := by omega
            rcases h5 with rfl | rfl | rfl | rfl <;> rfl
          have hm5 := shN_lt k
          generalize shN k = m at *
          go_wp2_with (first | (refine wpList_indexOne rfl 128 _ _ rfl 4 3 Tryz.underlying128 _ Tryz.underlying3 rfl intSz _ .i64 k k rfl rfl rfl hlt _ HX.out ?_) | (refine wpList_storeAgg rfl 168 _ _ rfl 170 (w.heap.size + 1) (m * 96) _ (mc 3 3 ByteArray.empty) rfl rfl hT2.out.R1 meanSz (hT2.out.fit rfl (by omega)) (mc_one 3 3 ByteArray.empty) ?_; generalize World.setRow _ _ _ = w5 at *))
          exact ⟨⟨k + 1, by omega, by go_num, HT.out⟩, by simp [intOf]; omega⟩
        · have h5 : k = 4 := by omega
          have HT : Hid (TS w wr cs (tabB 0)) := by
            have h9 := hT.out
            rw [h5] at h9
            exact h9
          clear h5
          clear hT
          go_wp2
          go_loopw [58] (fun iv wr => ∃ k : Nat, k ≤ 3 ∧ iv = .int .i64 k ∧ Hid (TS w wr cs (tabB k))) (fun iv _ => 3 - (intOf iv).toNat)
          case atStart => exact ⟨0, by omega, rfl, HT.out⟩
          case round =>
            clear HT
            obtain ⟨k, hk, rfl, hT⟩ := hrel
            by_cases hlt : k < 3
            · have hT2 : Hid (TS w wr cs (tabB k)) := hT
              have HT : Hid (TS w (wr.setRow (w.heap.size + 1) (splice (tabB k).toList (k * 96 + 93) (mc 4 0 ByteArray.empty)).toArray) cs (tabB (k + 1))) := hT.out.put _ _ _ (by omega) (by omega) rfl (mc_one _ _ _)
              have HX : Hid (#[Value.int .i64 0, .int .i64 1, .int .i64 2][k]? = some (.int .i64 k)) := by
                have h5 : k = 0 ∨ k = 1 ∨ k = 2 := by omega
                rcases h5 with rfl | rfl | rfl <;> rfl
              go_wp2_with (first | (refine wpList_indexOne rfl 217 _ _ rfl 3 3 Tryz.underlying217 _ Tryz.underlying3 rfl intSz _ .i64 k k rfl rfl rfl hlt _ HX.out ?_) | (refine wpList_storeAgg rfl 168 _ _ rfl 170 (w.heap.size + 1) (k * 96 + 93) _ (mc 4 0 ByteArray.empty) rfl rfl hT2.out.R1 meanSz (hT2.out.fit rfl (by omega)) (mc_one 4 0 ByteArray.empty) ?_; generalize World.setRow _ _ _ = w5 at *))
              exact ⟨⟨k + 1, by omega, by go_num, HT.out⟩, by simp [intOf]; omega⟩
            · have h5 : k = 3 := by omega
              have HT : Hid (TS w wr cs (tabB 3)) := by
                have h9 := hT.out
                rw [h5] at h9
                exact h9
              clear h5
              clear hT
              go_wp2_with (first | (refine wpList_put HT.out rfl _ _ rfl _ [_, _, _] rfl rfl rfl (mc_one _ _ _) (by decide) (by decide) ?_; clear HT; intro w5 HT) | (refine wpList_tload HT.out rfl _ rfl rfl ?_; intro cur HC) | (refine wpList_tstore HT.out HC.out rfl _ _ rfl rfl rfl ?_; intro w6 HZ; have hc : Hid (cur = theTab) := HC.out; clear HT HC; have HC := hc; clear hc))
              (try simp only [Exit.inBlock, Exit.then])
              refine bodyPost_ret (results_cell_row rfl _ _ w.heap.size 170 cur (0, 0) _ rfl HZ.out.1 Tryz.underlying170 rfl (by rw [HC.out]; exact tabSz')) rfl ?_
              exact ⟨by rw [HC.out], HZ.out.2⟩
end Go.Proofs.YtmnlkganmgcpbaaGreatDoor
namespace Go.Proofs.YtmnlkganmgcpbaaGreatDoor
open Go.RowKit
set_option linter.unusedVariables false
def kindF (m n : Nat) : Nat :=
  if 1 ≤ n ∧ n ≤ (texts m).length then 1 else
  match m, n with
  | 0, 0 => 3 | 1, 0 => 3 | 2, 0 => 3 | 4, 0 => 3 | 1, 28 => 3 | 4, 15 => 3
  | 0, 31 => 4 | 1, 31 => 4 | 2, 31 => 4
  | 0, 28 => 2 | 0, 29 => 2 | 0, 30 => 2 | 1, 29 => 2 | 1, 30 => 2 | 2, 28 => 2 | 2, 29 => 2 | 2, 30 => 2 | 3, 31 => 2 | 4, 14 => 2
  | _, _ => 0
def modeF (m n : Nat) : Nat :=
  match m, n with
  | 0, 0 => 3 | 1, 0 => 3 | 2, 0 => 3 | 4, 0 => 3
  | 0, 28 => 1 | 0, 29 => 2 | 0, 30 => 4 | 1, 29 => 2 | 1, 30 => 4 | 2, 28 => 1 | 2, 30 => 3
  | _, _ => 0
def charF (m n : Nat) : ByteArray := if n = 0 then ByteArray.empty else (texts m).getD (n - 1) ByteArray.empty
abbrev ent (m n : Nat) : List Value := [.int .i64 ((kindF m n : Nat) : Int), .int .i64 ((modeF m n : Nat) : Int), .string (charF m n)]
def rowF (m : Nat) : List Value := (List.range 32).flatMap (ent m)
def tabF : List Value := (List.range 5).flatMap rowF
set_option maxRecDepth 100000 in
theorem tab_eq : theTab.toList = tabF := by kernel_rfl
theorem flat_get {α : Type} (L : Nat) (f : Nat → List α) (hf : ∀ i, (f i).length = L) : ∀ (k i j : Nat), i < k → j < L → ((List.range k).flatMap f)[i * L + j]? = (f i)[j]? := by
  intro k
  induction k with
  | zero => intro i j h; omega
  | succ k ih =>
    intro i j hi hj
    have hl : ((List.range k).flatMap f).length = k * L := by
      clear ih hi
      induction k with
      | zero => simp
      | succ k ih => rw [List.range_succ, List.flatMap_append, List.length_append, ih]; simp [hf, Nat.succ_mul]
    rw [List.range_succ, List.flatMap_append]
    by_cases h : i < k
    · rw [List.getElem?_append_left (by rw [hl]; calc i * L + j < i * L + L := by omega
          _ = (i + 1) * L := by rw [Nat.succ_mul]
          _ ≤ k * L := Nat.mul_le_mul_right _ (by omega))]
      exact ih i j h hj
    · obtain rfl : i = k := by omega
      rw [List.getElem?_append_right (by rw [hl]; omega), hl]
      simp
theorem flat_len {α : Type} (L : Nat) (f : Nat → List α) (hf : ∀ i, (f i).length = L) (k : Nat) : ((List.range k).flatMap f).length = k * L := by
  induction k with
  | zero => simp
  | succ k ih => rw [List.range_succ, List.flatMap_append, List.length_append, ih]; simp [hf, Nat.succ_mul]
theorem rowF_len (m : Nat) : (rowF m).length = 96 := flat_len 3 (ent m) (fun _ => rfl) 32
theorem rowF_get (m n j : Nat) (hn : n < 32) (hj : j < 3) : (rowF m)[n * 3 + j]? = (ent m n)[j]? := flat_get 3 (ent m) (fun _ => rfl) 32 n j hn hj
theorem theTab_get (m k : Nat) (hm : m < 5) (hk : k < 96) : theTab[m * 96 + k]? = (rowF m)[k]? := by
  have h := flat_get 96 rowF rowF_len 5 m k hm hk
  rw [← h, ← Array.getElem?_toList, tab_eq]; rfl
theorem theTab_size : theTab.size = 480 := by
  rw [← Array.length_toList, tab_eq]; exact flat_len 96 rowF rowF_len 5
theorem row_ent (m n : Nat) (hn : n < 32) : (rowF m).toArray.extract (n * 3) (n * 3 + 3) = (ent m n).toArray := by
  apply Array.ext'
  rw [Array.toList_extract, List.extract_eq_take_drop]
  apply List.ext_getElem?
  intro j
  rw [List.getElem?_take]
  by_cases hj : j < 3
  · rw [if_pos (by omega), List.getElem?_drop]; exact rowF_get m n j hn hj
  · rw [if_neg (by omega), List.getElem?_eq_none (by show 3 ≤ j; omega)]
structure Opt where
  num : Nat
  sec : Int
  run : Nat
  long : Bool
  size : Nat
  at_ : Nat
  mode : Nat
deriving DecidableEq
def Opt.vals (o : Opt) : List Value := [.int .i64 (o.num : Int), .int .i64 o.sec, .int .i64 (o.run : Int), .bool o.long, .int .i64 (o.size : Int), .int .i64 (o.at_ : Int), .int .i64 (o.mode : Int)]
def Opt.val (o : Opt) : Value := .agg o.vals.toArray
def Opt.tot (C : Nat → Nat → Nat) (o : Opt) : Nat := o.size + C o.at_ o.mode
structure SW (w : World) (sb cb cap hb : Nat) (p : ByteArray) (C : Nat → Nat → Nat) : Prop where
  lt : sb < w.heap.size
  c0 : w.cell? ⟨sb, 0, none⟩ = some (.string p)
  ct : ∀ i v, theTab[i]? = some v → w.cell? ⟨sb, 1 + i, none⟩ = some v
  cc : w.cell? ⟨sb, 481, none⟩ = some (.slice (some ⟨cb, 0, none⟩) (p.size + 1) cap)
  cm : w.cell? ⟨sb, 482, none⟩ = some (.map (some hb))
  cl : cb < w.heap.size
  cz : ∀ a m, a ≤ p.size → m < 5 → w.cell? ⟨cb, a * 5 + m, none⟩ = some (.int .i64 ((C a m : Nat) : Int))
  hc : p.size + 1 ≤ cap
  hp : p.size ≤ 4096
  b : ∀ a m, C a m ≤ 1073741824
theorem SW.below {w W : World} {sb cb cap hb : Nat} {p : ByteArray} {C : Nat → Nat → Nat} (h : SW w sb cb cap hb p C) (hW : Below w.heap.size w W) : SW W sb cb cap hb p C :=
  ⟨Nat.lt_of_lt_of_le h.lt hW.size, (hW.cell h.lt).trans h.c0, fun i v hv => (hW.cell h.lt).trans (h.ct i v hv), (hW.cell h.lt).trans h.cc, (hW.cell h.lt).trans h.cm, Nat.lt_of_lt_of_le h.cl hW.size,
    fun a m ha hm => (hW.cell h.cl).trans (h.cz a m ha hm), h.hc, h.hp, h.b⟩
theorem Opt.cells (W : World) (o : Opt) (t : TypeId) (b : Nat) (hb : b = W.heap.size) : CellsAt (W.alloc (.cells o.vals.toArray t)) b o.vals := CellsAt.new W o.vals.toArray t b hb
theorem opt_cells {W : World} {b : Nat} {o : Opt} (h : CellsAt W b o.vals) :
    W.cell? ⟨b, 0, none⟩ = some (.int .i64 (o.num : Int)) ∧ W.cell? ⟨b, 1, none⟩ = some (.int .i64 o.sec) ∧ W.cell? ⟨b, 2, none⟩ = some (.int .i64 (o.run : Int)) ∧ W.cell? ⟨b, 3, none⟩ = some (.bool o.long) ∧
    W.cell? ⟨b, 4, none⟩ = some (.int .i64 (o.size : Int)) ∧ W.cell? ⟨b, 5, none⟩ = some (.int .i64 (o.at_ : Int)) ∧ W.cell? ⟨b, 6, none⟩ = some (.int .i64 (o.mode : Int)) :=
  ⟨h.2 0 (by simp [Opt.vals]), h.2 1 (by simp [Opt.vals]), h.2 2 (by simp [Opt.vals]), h.2 3 (by simp [Opt.vals]), h.2 4 (by simp [Opt.vals]), h.2 5 (by simp [Opt.vals]), h.2 6 (by simp [Opt.vals])⟩
set_option maxRecDepth 100000 in
set_option maxHeartbeats 2000000 in
theorem total_any (o : Opt) (w : World) (sb cb cap hb : Nat) (p : ByteArray) (C : Nat → Nat → Nat) (h : SW w sb cb cap hb p C) (ha : o.at_ ≤ p.size) (hm : o.mode < 5) (hs : o.size ≤ 1073741824) :
    Calls Tryz.prog 180 #[.pointer (some ⟨sb, 0, none⟩), o.val] w fun e w' => e = .returned (.int .i64 ((o.tot C : Nat) : Int)) ∧ Below w.heap.size w w' := by
  have hC := h.b o.at_ o.mode
  have hsz := h.hp
  have hcap := h.hc
  obtain ⟨num, sec, run, long, size, at_, mode⟩ := o
  have HT : Hid (Opt.tot C ⟨num, sec, run, long, size, at_, mode⟩ = size + C at_ mode) := rfl
  have CF : Hid (∀ W, Abv (w.alloc (.cells (Opt.vals ⟨num, sec, run, long, size, at_, mode⟩).toArray 181)) W →
      W.cell? ⟨w.heap.size, 4, none⟩ = some (.int .i64 (size : Int)) ∧ W.cell? ⟨w.heap.size, 5, none⟩ = some (.int .i64 (at_ : Int)) ∧ W.cell? ⟨w.heap.size, 6, none⟩ = some (.int .i64 (mode : Int)) ∧
      W.cell? ⟨sb, 481, none⟩ = some (.slice (some ⟨cb, 0, none⟩) (p.size + 1) cap) ∧ W.cell? ⟨cb, at_ * 5 + mode, none⟩ = some (.int .i64 ((C at_ mode : Nat) : Int))) := by
    show ∀ W, _
    intro W hW'
    have h1 := opt_cells ((CellsAt.new w (Opt.vals ⟨num, sec, run, long, size, at_, mode⟩).toArray 181 w.heap.size rfl).below hW')
    have h2 := (h.below (bwA _ _)).below hW'
    exact ⟨h1.2.2.2.2.1, h1.2.2.2.2.2.1, h1.2.2.2.2.2.2, h2.cc, h2.cz at_ mode ha hm⟩
  have HV : Hid (Opt.val ⟨num, sec, run, long, size, at_, mode⟩ = .agg #[.int .i64 (num : Int), .int .i64 sec, .int .i64 (run : Int), .bool long, .int .i64 (size : Int), .int .i64 (at_ : Int), .int .i64 (mode : Int)]) := rfl
  rw [HV.out, HT.out]
  clear h HT HV
  generalize C at_ mode = c at *
  have ha2 : at_ ≤ 4096 := by simp only at ha; omega
  simp only at hm hs ha
  have ha3 : (at_ : Int) < (p.size : Int) + 1 := by omega
  have hm3 : (mode : Int) < 5 := by omega
  have hw : IntKind.i64.wrap ((size : Int) + (c : Int)) = ((size + c : Nat) : Int) := by rw [wr64 _ (by omega) (by omega)]; omega
  go_enter Tryz.func180, Tryz.ntmps180
  go_wp2
  refine wp_region_W (S := Abv (w.alloc (.cells (Opt.vals ⟨num, sec, run, long, size, at_, mode⟩).toArray 181))) [(false, 0), (false, 1), (false, 2), (false, 3), (false, 4), (false, 5), (false, 6), (false, 7), (false, 8), (false, 9), (false, 10), (false, 11), (false, 12), (false, 13), (false, 14), (false, 15), (false, 16)] (by kernel_rfl) (by kernel_rfl) (bwDrew (Below.refl _ _)) ?_
  simp only [attachW, List.getElem?_cons_zero, List.getElem?_cons_succ]
  repeat
    refine' wpHX_val rfl (fun W hW => ?_) ?_
    rotate_left
    · have hcf := CF.out W hW; go_simp; rfl
    simp only [Act.put, List.setIfInBounds_toArray, List.set_cons_zero, List.set_cons_succ]
  refine wpHX_nil ?_
  go_wp2
  go_ret
  exact ⟨rfl, (bwA w _).trans ((bwDrew (Below.refl _ _)).mono (by simp))⟩
end Go.Proofs.YtmnlkganmgcpbaaGreatDoor
