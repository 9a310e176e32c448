import Derived.Test.YtplppbfnlfehnaaDoorAztPE
import Derived.Test.YtplppbfnlfehnaaDoorAztSA
namespace Go.Proofs.YtplppbfnlfehnaaDoor
open Go.RowKit Go.WideMaps Go.Maps
set_option linter.unusedVariables false
/-! no shorter bit string, and none of the same length that comes before: plain facts -/
/-! the best run is the first of the best -/
abbrev longO (num a m j : Nat) : Opt := ⟨num, -1, j, true, widthN m + 16 + 8 * j, a + j, m⟩
abbrev shortO (num a m j : Nat) : Opt := ⟨num, -1, j, false, widthN m + 5 + 8 * j, a + j, m⟩
section
variable {C : Nat → Nat → Nat} {num a m K : Nat}
theorem tryO_or {best : Opt} {n sz : Nat} {lg : Bool} : (tryO C num a m best n sz lg = ⟨num, -1, n, lg, sz + 8 * n, a + n, m⟩ ∧ (best.run = 0 ∨ Opt.tot C ⟨num, -1, n, lg, sz + 8 * n, a + n, m⟩ < best.tot C)) ∨ (tryO C num a m best n sz lg = best ∧ best.run ≠ 0 ∧ best.tot C ≤ Opt.tot C ⟨num, -1, n, lg, sz + 8 * n, a + n, m⟩) := by
  unfold tryO
  split
  · exact .inl ⟨rfl, by assumption⟩
  · rename_i h
    exact .inr ⟨rfl, fun e => h (.inl e), by
      rcases Nat.lt_or_ge (Opt.tot C ⟨num, -1, n, lg, sz + 8 * n, a + n, m⟩) (best.tot C) with h1 | h1
      · exact absurd (.inr h1) h
      · exact h1⟩
theorem bLong_first : ∀ k, 1 ≤ k → (bLong C num a m k).long = true ∧ (bLong C num a m k).run < 31 + k ∧ 0 < (bLong C num a m k).run ∧ ∀ j, j < k → (longO num a m (31 + j)).tot C = (bLong C num a m k).tot C → (bLong C num a m k).run ≤ 31 + j
  | 0, h => by omega
  | k + 1, _ => by
    rcases tryO_or (C := C) (num := num) (a := a) (m := m) (best := bLong C num a m k) (n := 31 + k) (sz := widthN m + 16) (lg := true) with ⟨e, h⟩ | ⟨e, h1, h2⟩
    · have e' : bLong C num a m (k + 1) = longO num a m (31 + k) := e
      rw [e']
      refine ⟨rfl, by show 31 + k < 31 + (k + 1); omega, by show 0 < 31 + k; omega, fun j hj ht => ?_⟩
      by_cases hjk : j = k
      · subst hjk; exact Nat.le_refl _
      · exfalso
        have h3 := bLong_le (C := C) (num := num) (at_ := a) (m := m) k (31 + j) (by omega) (by omega)
        have h4 : (bLong C num a m k).run ≠ 0 := by have := (bLong_first k (by omega)).2.2.1; omega
        rcases h with h | h
        · exact h4 h
        · have h5 : (longO num a m (31 + k)).tot C < (bLong C num a m k).tot C := h
          have h6 : (bLong C num a m k).tot C ≤ (longO num a m (31 + j)).tot C := h3
          omega
    · have e' : bLong C num a m (k + 1) = bLong C num a m k := e
      rw [e']
      have hk : 1 ≤ k := by
        cases k with
        | zero => exact absurd rfl h1
        | succ k => omega
      obtain ⟨i1, i2, i3, i4⟩ := bLong_first k hk
      refine ⟨i1, by omega, i3, fun j hj ht => ?_⟩
      by_cases hjk : j = k
      · omega
      · exact i4 j (by omega) ht
theorem bShort_run0 : ∀ k, 1 ≤ k ∨ 1 ≤ K → (bShort C num a m K k).run ≠ 0
  | 0, h => by
    have := (bLong_first (C := C) (num := num) (a := a) (m := m) K (by omega)).2.2.1
    show (bLong C num a m K).run ≠ 0
    omega
  | k + 1, _ => tryO_run0 (by omega)
theorem bShort_first : ∀ k, (∀ j, j < K → (longO num a m (31 + j)).tot C = (bShort C num a m K k).tot C → (bShort C num a m K k).long = true ∧ (bShort C num a m K k).run ≤ 31 + j) ∧
    (∀ j, 1 ≤ j → j ≤ k → (shortO num a m j).tot C = (bShort C num a m K k).tot C → (bShort C num a m K k).long = true ∨ (bShort C num a m K k).run ≤ j) ∧ ((bShort C num a m K k).long = true ∨ (bShort C num a m K k).run ≤ k)
  | 0 => by
    refine ⟨fun j hj ht => ?_, fun j h1 h2 => by omega, ?_⟩
    · have h := bLong_first (C := C) (num := num) (a := a) (m := m) K (by omega)
      exact ⟨h.1, h.2.2.2 j hj ht⟩
    · by_cases hK : 1 ≤ K
      · exact .inl (bLong_first K hK).1
      · have : K = 0 := by omega
        subst this
        exact .inr (Nat.le_refl _)
  | k + 1 => by
    obtain ⟨i1, i2, i3⟩ := bShort_first k
    rcases tryO_or (C := C) (num := num) (a := a) (m := m) (best := bShort C num a m K k) (n := 1 + k) (sz := widthN m + 5) (lg := false) with ⟨e, h⟩ | ⟨e, h1, h2⟩
    · have e' : bShort C num a m K (k + 1) = shortO num a m (1 + k) := e
      rw [e']
      refine ⟨fun j hj ht => ?_, fun j h1 h2 ht => ?_, .inr (by show 1 + k ≤ k + 1; omega)⟩
      · exfalso
        have h4 := bShort_run0 (C := C) (num := num) (a := a) (m := m) (K := K) k (by omega)
        rcases h with h | h
        · exact h4 h
        · have h5 : (shortO num a m (1 + k)).tot C < (bShort C num a m K k).tot C := h
          have h6 := (bShort_le2 (C := C) (num := num) (at_ := a) (m := m) (K := K) (by omega) k).1
          have h7 : (bLong C num a m K).tot C ≤ (longO num a m (31 + j)).tot C := bLong_le K (31 + j) (by omega) (by omega)
          omega
      · by_cases hjk : j = k + 1
        · exact .inr (by show 1 + k ≤ j; omega)
        · exfalso
          have h4 := bShort_run0 (C := C) (num := num) (a := a) (m := m) (K := K) k (by omega)
          rcases h with h | h
          · exact h4 h
          · have h5 : (shortO num a m (1 + k)).tot C < (bShort C num a m K k).tot C := h
            have h6 : (bShort C num a m K k).tot C ≤ (shortO num a m j).tot C := bShort_le k j h1 (by omega)
            omega
    · have e' : bShort C num a m K (k + 1) = bShort C num a m K k := e
      rw [e']
      refine ⟨i1, fun j h3 h4 ht => ?_, ?_⟩
      · by_cases hjk : j = k + 1
        · rcases i3 with i3 | i3
          · exact .inl i3
          · exact .inr (by omega)
        · exact i2 j h3 (by omega) ht
      · rcases i3 with i3 | i3
        · exact .inl i3
        · exact .inr (by omega)
end
/-! bits that come before others -/
def Bef (x y : List Bool) : Prop := ∃ i, i < x.length ∧ i < y.length ∧ (∀ j, j < i → x.getD j false = y.getD j false) ∧ x.getD i false = false ∧ y.getD i false = true
theorem getD_left {x r : List Bool} {i : Nat} (h : i < x.length) : (x ++ r).getD i false = x.getD i false := by simp only [List.getD, List.getElem?_append_left h]
theorem getD_right {x r : List Bool} {i : Nat} : (x ++ r).getD (x.length + i) false = r.getD i false := by
  simp only [List.getD]
  rw [List.getElem?_append_right (by omega), Nat.add_sub_cancel_left]
theorem Bef.app {x y : List Bool} (h : Bef x y) (r r' : List Bool) : Bef (x ++ r) (y ++ r') := by
  obtain ⟨i, h1, h2, h3, h4, h5⟩ := h
  refine ⟨i, by rw [List.length_append]; omega, by rw [List.length_append]; omega, fun j hj => ?_, ?_, ?_⟩
  · rw [getD_left (by omega), getD_left (by omega)]; exact h3 j hj
  · rw [getD_left h1]; exact h4
  · rw [getD_left h2]; exact h5
theorem Bef.pre {x y : List Bool} (h : Bef x y) (z : List Bool) : Bef (z ++ x) (z ++ y) := by
  obtain ⟨i, h1, h2, h3, h4, h5⟩ := h
  refine ⟨z.length + i, by rw [List.length_append]; omega, by rw [List.length_append]; omega, fun j hj => ?_, ?_, ?_⟩
  · by_cases hjz : j < z.length
    · rw [getD_left hjz, getD_left hjz]
    · obtain ⟨q, rfl⟩ : ∃ q, j = z.length + q := ⟨j - z.length, by omega⟩
      rw [getD_right, getD_right]; exact h3 q (by omega)
  · rw [getD_right]; exact h4
  · rw [getD_right]; exact h5
theorem lowB_bef : ∀ (j u v : Nat), u < v → v < 2 ^ j → Bef (lowB u j) (lowB v j)
  | 0, u, v, h, h2 => by have : v < 1 := by simpa using h2
                         omega
  | j + 1, u, v, h, h2 => by
    have eu : u = 2 * (u / 2) + u % 2 := by omega
    have ev : v = 2 * (v / 2) + v % 2 := by omega
    have lu := lowB_step (u / 2) (u % 2) j (by omega)
    have lv := lowB_step (v / 2) (v % 2) j (by omega)
    rw [← eu] at lu
    rw [← ev] at lv
    rw [lu, lv]
    rw [Nat.pow_succ] at h2
    by_cases hq : u / 2 < v / 2
    · exact (lowB_bef j _ _ hq (by omega)).app _ _
    · have e1 : u / 2 = v / 2 := by omega
      have e2 : u % 2 = 0 := by omega
      have e3 : v % 2 = 1 := by omega
      rw [e1, e2, e3]
      refine Bef.pre ?_ _
      exact ⟨0, by simp, by simp, fun j hj => by omega, rfl, rfl⟩
def LexOK (c b : List Bool) : Prop := ∀ i, i < c.length → (∀ j, j < i → c.getD j false = b.getD j false) → c.getD i false ≠ b.getD i false → b.getD i false = true
theorem LexOK.nil_ (b : List Bool) : LexOK [] b := fun i h => by simp at h
theorem Bef.lex {x y : List Bool} (h : Bef x y) : LexOK x y := by
  obtain ⟨i0, h1, h2, h3, h4, h5⟩ := h
  intro i hi ha hne
  rcases Nat.lt_trichotomy i i0 with h6 | h6 | h6
  · exact absurd (h3 i h6) hne
  · subst h6; exact h5
  · have := ha i0 h6
    rw [h4, h5] at this; cases this
theorem LexOK.pre {c b : List Bool} (h : LexOK c b) (x : List Bool) : LexOK (x ++ c) (x ++ b) := by
  intro i hi ha hne
  by_cases hx : i < x.length
  · rw [getD_left hx, getD_left hx] at hne; exact absurd rfl hne
  · obtain ⟨q, rfl⟩ : ∃ q, i = x.length + q := ⟨i - x.length, by omega⟩
    rw [List.length_append] at hi
    rw [getD_right, getD_right] at hne
    rw [getD_right]
    refine h q (by omega) (fun j hj => ?_) hne
    have := ha (x.length + j) (by omega)
    rw [getD_right, getD_right] at this
    exact this
/-! the option that the search takes comes first -/
theorem find_optK {C : Nat → Nat → Nat} {p : ByteArray} {a m : Nat} {q : Opt → Bool} {o0 : Opt} : ∀ k, (optK C p a m k).find? q = some o0 → ∃ n, n < k ∧ (optN C p a m n).find? q = some o0 ∧ ∀ n', n' < n → ∀ o' ∈ optN C p a m n', q o' = false
  | 0, h => by cases h
  | k + 1, h => by
    unfold optK at h
    rw [List.find?_append] at h
    cases hf : (optK C p a m k).find? q with
    | some x =>
      rw [hf] at h
      have e : x = o0 := by simpa using h
      subst e
      obtain ⟨n, h1, h2, h3⟩ := find_optK k hf
      exact ⟨n, by omega, h2, h3⟩
    | none =>
      rw [hf] at h
      refine ⟨k, by omega, by simpa using h, fun n' hn' o' ho' => ?_⟩
      rw [List.find?_eq_none] at hf
      simpa using hf o' (mem_optK ho' k hn')
theorem find_optSK {p : ByteArray} {a m n md : Nat} {q : Opt → Bool} {o0 : Opt} : ∀ k, (optSK p a m n md k).find? q = some o0 → ∃ s, s < k ∧ (optS p a m n md s).find? q = some o0 ∧ ∀ s', s' < s → ∀ o' ∈ optS p a m n md s', q o' = false
  | 0, h => by cases h
  | k + 1, h => by
    unfold optSK at h
    rw [List.find?_append] at h
    cases hf : (optSK p a m n md k).find? q with
    | some x =>
      rw [hf] at h
      have e : x = o0 := by simpa using h
      subst e
      obtain ⟨s, h1, h2, h3⟩ := find_optSK k hf
      exact ⟨s, by omega, h2, h3⟩
    | none =>
      rw [hf] at h
      refine ⟨k, by omega, by simpa using h, fun n' hn' o' ho' => ?_⟩
      rw [List.find?_eq_none] at hf
      simpa using hf o' (mem_optSK ho' k hn')
theorem optN_num {C : Nat → Nat → Nat} {p : ByteArray} {a m n : Nat} (ha : a < p.size) {o : Opt} (ho : o ∈ optN C p a m n) : o.num = n := by
  unfold optN at ho
  split at ho
  · split at ho
    · rw [List.mem_singleton] at ho; subst ho; rfl
    · cases ho
  split at ho
  · rw [List.mem_singleton] at ho; subst ho; rfl
  split at ho
  · obtain ⟨s, hs, h⟩ := optSK_mem 32 ho
    unfold optS at h
    split at h
    · rw [List.mem_singleton] at h; subst h; rfl
    · cases h
  split at ho
  · rw [List.mem_singleton] at ho; subst ho
    obtain ⟨h1, h2⟩ := binOpt_good (C := C) (num := n) (m := m) ha
    rcases h1 with h1 | ⟨e, _⟩
    · exact absurd h1 h2
    · rw [e]
  · cases ho
theorem Atom.kind {p : ByteArray} {a m : Nat} {o : Opt} (h : Atom p a m o) : kindF m o.num ≠ 0 := by
  cases h <;> simp only <;> omega
theorem optBits_num (p : ByteArray) (a m : Nat) (o : Opt) : optBits p a m o = lowB o.num (widthN m) ++ ((if 0 ≤ o.sec then lowB o.sec.toNat 5 else []) ++ runB p a o) := by
  unfold optBits; rw [List.append_assoc]
theorem runB_L (p : ByteArray) (a : Nat) (o : Opt) (h : 0 < o.run) (hl : o.long = true) : runB p a o = (lowB 0 5 ++ lowB (o.run - 31) 11) ++ byF p a o.run := by
  unfold runB
  rw [if_pos h, if_pos hl]
theorem runB_S (p : ByteArray) (a : Nat) (o : Opt) (h : 0 < o.run) (hl : o.long = false) : runB p a o = lowB o.run 5 ++ byF p a o.run := by
  unfold runB
  rw [if_pos h, if_neg (by rw [hl]; simp)]
theorem step_first {p : ByteArray} {C : Nat → Nat → Nat} (hp : p.size ≤ 4096) (h : Cost p C) {a m : Nat} (ha : a < p.size) (hm : m < 5) {o0 o : Opt} (h0 : stepF C p a m = some o0) (ho : Atom p a m o) (ht : o.tot C = C a m) :
    o0 = o ∨ Bef (optBits p a m o0) (optBits p a m o) := by
  unfold stepF at h0
  have hq0 := List.find?_some h0
  obtain ⟨n, hn, hf, hbe⟩ := find_optK 32 h0
  have hm0 := List.mem_of_find?_eq_some hf
  have hn0 := optN_num ha hm0
  obtain ⟨o2, g1, g2, g3⟩ := ho.opt (C := C) ha
  have hq2 : (o2.tot C == C a m) = true := by
    have h1 := (h.fix a ha).1 m hm o2 (mem_optK g1 32 ho.num_lt)
    rw [beq_iff_eq]; omega
  have hle : n ≤ o.num := by
    rcases Nat.lt_or_ge o.num n with h1 | h1
    · have h2 : (o2.tot C == C a m) = false := hbe o.num h1 o2 g1
      rw [hq2] at h2; cases h2
    · exact h1
  rcases Nat.eq_or_lt_of_le hle with he | hlt
  · have hn1 : o0.num = o.num := by omega
    rw [he] at hf hm0
    have hA0 := optN_atom ha ho.num_lt hm0
    cases ho with
    | chars n1 hn1' hk hpr =>
      replace hm0 : o0 ∈ optN C p a m n1 := hm0
      replace hf : (optN C p a m n1).find? (fun o => o.tot C == C a m) = some o0 := hf
      left
      unfold optN at hm0
      rw [if_pos hk, if_pos hpr] at hm0
      exact List.mem_singleton.1 hm0
    | latch n1 hn1' hk =>
      replace hm0 : o0 ∈ optN C p a m n1 := hm0
      replace hf : (optN C p a m n1).find? (fun o => o.tot C == C a m) = some o0 := hf
      left
      unfold optN at hm0
      rw [if_neg (by omega), if_pos hk] at hm0
      exact List.mem_singleton.1 hm0
    | shift n1 s hn1' hk hs hk2 hpr =>
      replace hm0 : o0 ∈ optN C p a m n1 := hm0
      replace hf : (optN C p a m n1).find? (fun o => o.tot C == C a m) = some o0 := hf
      unfold optN at hf
      rw [if_neg (by omega), if_neg (by omega), if_pos hk] at hf
      obtain ⟨s0, h1, h2, h3⟩ := find_optSK 32 hf
      have h4 := List.mem_of_find?_eq_some h2
      have hos : (⟨n1, (s : Int), 0, false, widthN m + widthN (modeF m n1), a + (charF (modeF m n1) s).size, m⟩ : Opt) ∈ optS p a m n1 (modeF m n1) s := by
        unfold optS
        rw [if_pos ⟨hk2, hpr⟩]; exact List.mem_singleton.2 rfl
      have hs0 : s0 ≤ s := by
        rcases Nat.lt_or_ge s s0 with h5 | h5
        · have h6 := h3 s h5 _ hos
          rw [beq_eq_false_iff_ne] at h6
          exact absurd ht h6
        · exact h5
      have e0 : o0 = ⟨n1, (s0 : Int), 0, false, widthN m + widthN (modeF m n1), a + (charF (modeF m n1) s0).size, m⟩ := by
        unfold optS at h4
        split at h4
        · exact List.mem_singleton.1 h4
        · cases h4
      rcases Nat.eq_or_lt_of_le hs0 with h5 | h5
      · left; rw [e0, h5]
      · right
        rw [e0, optBits_num, optBits_num]
        refine Bef.pre ?_ _
        show Bef ((if (0 : Int) ≤ (s0 : Int) then lowB (s0 : Int).toNat 5 else []) ++ _) ((if (0 : Int) ≤ (s : Int) then lowB (s : Int).toNat 5 else []) ++ _)
        rw [if_pos (by omega), if_pos (by omega), Int.toNat_natCast, Int.toNat_natCast]
        exact (lowB_bef 5 s0 s h5 (by omega)).app _ _
    | short n1 j hn1' hk h1 h2 h3 =>
      replace hm0 : o0 ∈ optN C p a m n1 := hm0
      replace hf : (optN C p a m n1).find? (fun o => o.tot C == C a m) = some o0 := hf
      have e0 : o0 = binOpt C n1 a m (p.size - a) := by
        unfold optN at hm0
        rw [if_neg (by omega), if_neg (by omega), if_neg (by omega), if_pos hk] at hm0
        exact List.mem_singleton.1 hm0
      obtain ⟨b1, b2⟩ := binOpt_good (C := C) (num := n1) (m := m) ha
      rw [← e0] at b1 b2
      have ht0 : o0.tot C = (shortO n1 a m j).tot C := by
        have : o0.tot C = C a m := by simpa using hq0
        rw [this]; exact ht.symm
      have hfi := (bShort_first (C := C) (num := n1) (a := a) (m := m) (K := min (p.size - a) 2078 - 30) (min (p.size - a) 31)).2.1 j h1 (by omega) (by show _ = (binOpt C n1 a m (p.size - a)).tot C; rw [← e0]; exact ht0.symm)
      have hfi' : o0.long = true ∨ o0.run ≤ j := by rw [e0]; exact hfi
      rcases b1 with b1 | ⟨e, b3, b4, b5⟩
      · exact absurd b1 b2
      cases hlg : o0.long with
      | true =>
        right
        rw [hlg] at e
        rw [e, optBits_num, optBits_num]
        refine Bef.pre ?_ _
        show Bef ((if (0 : Int) ≤ -1 then _ else []) ++ runB p a ⟨n1, -1, o0.run, true, _, _, m⟩) ((if (0 : Int) ≤ -1 then _ else []) ++ runB p a ⟨n1, -1, j, false, _, _, m⟩)
        rw [if_neg (by omega), List.nil_append, List.nil_append]
        rw [runB_L _ _ _ (by exact b3) rfl, runB_S _ _ _ (show 0 < j by omega) rfl]
        show Bef ((lowB 0 5 ++ lowB (o0.run - 31) 11) ++ _) (lowB j 5 ++ _)
        rw [List.append_assoc]
        exact (lowB_bef 5 0 j (by omega) (by omega)).app _ _
      | false =>
        have hr : o0.run ≤ j := by
          rcases hfi' with h | h
          · rw [hlg] at h; cases h
          · exact h
        rw [hlg] at e
        rcases Nat.eq_or_lt_of_le hr with h5 | h5
        · left; rw [e, h5]; rfl
        · right
          rw [e, optBits_num, optBits_num]
          refine Bef.pre ?_ _
          show Bef ((if (0 : Int) ≤ -1 then _ else []) ++ runB p a ⟨n1, -1, o0.run, false, _, _, m⟩) ((if (0 : Int) ≤ -1 then _ else []) ++ runB p a ⟨n1, -1, j, false, _, _, m⟩)
          rw [if_neg (by omega), List.nil_append, List.nil_append]
          rw [runB_S _ _ _ (by exact b3) rfl, runB_S _ _ _ (show 0 < j by omega) rfl]
          show Bef (lowB o0.run 5 ++ _) (lowB j 5 ++ _)
          exact (lowB_bef 5 _ j h5 (by omega)).app _ _
    | long n1 j hn1' hk h1 h2 h3 =>
      replace hm0 : o0 ∈ optN C p a m n1 := hm0
      replace hf : (optN C p a m n1).find? (fun o => o.tot C == C a m) = some o0 := hf
      have e0 : o0 = binOpt C n1 a m (p.size - a) := by
        unfold optN at hm0
        rw [if_neg (by omega), if_neg (by omega), if_neg (by omega), if_pos hk] at hm0
        exact List.mem_singleton.1 hm0
      obtain ⟨b1, b2⟩ := binOpt_good (C := C) (num := n1) (m := m) ha
      rw [← e0] at b1 b2
      have ht0 : o0.tot C = (longO n1 a m j).tot C := by
        have : o0.tot C = C a m := by simpa using hq0
        rw [this]; exact ht.symm
      have hfi := (bShort_first (C := C) (num := n1) (a := a) (m := m) (K := min (p.size - a) 2078 - 30) (min (p.size - a) 31)).1 (j - 31) (by omega) (by show _ = (binOpt C n1 a m (p.size - a)).tot C; rw [← e0, show 31 + (j - 31) = j from by omega]; exact ht0.symm)
      have hfi' : o0.long = true ∧ o0.run ≤ j := by
        rw [e0]; exact ⟨hfi.1, by have := hfi.2; unfold binOpt; omega⟩
      rcases b1 with b1 | ⟨e, b3, b4, b5⟩
      · exact absurd b1 b2
      have hlg := hfi'.1
      have b6 := b5 hlg
      rw [hlg] at e
      rcases Nat.eq_or_lt_of_le hfi'.2 with h5 | h5
      · left; rw [e, h5]; rfl
      · right
        rw [e, optBits_num, optBits_num]
        refine Bef.pre ?_ _
        show Bef ((if (0 : Int) ≤ -1 then _ else []) ++ runB p a ⟨n1, -1, o0.run, true, _, _, m⟩) ((if (0 : Int) ≤ -1 then _ else []) ++ runB p a ⟨n1, -1, j, true, _, _, m⟩)
        rw [if_neg (by omega), List.nil_append, List.nil_append]
        rw [runB_L _ _ _ (by exact b3) rfl, runB_L _ _ _ (show 0 < j by omega) rfl]
        show Bef ((lowB 0 5 ++ lowB (o0.run - 31) 11) ++ _) ((lowB 0 5 ++ lowB (j - 31) 11) ++ _)
        rw [List.append_assoc, List.append_assoc]
        refine Bef.pre ?_ _
        exact (lowB_bef 11 _ _ (by omega) (by omega)).app _ _
  · right
    rw [optBits_num, optBits_num]
    exact (lowB_bef (widthN m) o0.num o.num (by omega) (kind_lt m hm o.num ho.num_lt ho.kind)).app _ _
end Go.Proofs.YtplppbfnlfehnaaDoor
namespace Go.Proofs.YtplppbfnlfehnaaDoor
open Go.RowKit Go.WideMaps Go.Maps
set_option linter.unusedVariables false
/-! the reference's costs: plain facts -/
theorem kind4_31 : ∀ m, m < 5 → ∀ n, n < 32 → kindF m n = 4 → n = 31 ∧ m ≤ 2 := of_decide_eq_true (by kernel_rfl)
theorem kind31 : ∀ m, m < 3 → kindF m 31 = 4 ∧ widthN m = 5 := of_decide_eq_true (by kernel_rfl)
theorem pow_width (m : Nat) : 2 ^ widthN m ≤ 32 := by unfold widthN; split <;> decide
theorem mem_rsK {p : ByteArray} {a m n : Nat} {o : Opt} (h : o ∈ rsN p a m n) : ∀ k, n < k → o ∈ rsK p a m k
  | 0, hk => by omega
  | k + 1, hk => by
    unfold rsK
    rw [List.mem_append]
    by_cases e : n = k
    · subst e; exact .inr h
    · exact .inl (mem_rsK h k (by omega))
theorem rsK_mem {p : ByteArray} {a m : Nat} {o : Opt} : ∀ k, o ∈ rsK p a m k → ∃ n, n < k ∧ o ∈ rsN p a m n
  | 0, h => by cases h
  | k + 1, h => by
    unfold rsK at h
    rw [List.mem_append] at h
    rcases h with h | h
    · obtain ⟨s, h1, h2⟩ := rsK_mem k h
      exact ⟨s, by omega, h2⟩
    · exact ⟨k, by omega, h⟩
theorem mem_rsR {a m j : Nat} (h : 1 ≤ j) : ∀ k, j ≤ k → runO a m j ∈ rsR a m k
  | 0, hk => by omega
  | k + 1, hk => by
    unfold rsR
    rw [List.mem_append]
    by_cases e : j = k + 1
    · subst e; exact .inr (List.mem_singleton.2 rfl)
    · exact .inl (mem_rsR h k (by omega))
theorem rsR_mem {a m : Nat} {o : Opt} : ∀ k, o ∈ rsR a m k → ∃ j, 1 ≤ j ∧ j ≤ k ∧ o = runO a m j
  | 0, h => by cases h
  | k + 1, h => by
    unfold rsR at h
    rw [List.mem_append] at h
    rcases h with h | h
    · obtain ⟨j, h1, h2, h3⟩ := rsR_mem k h
      exact ⟨j, h1, by omega, h3⟩
    · exact ⟨k + 1, by omega, Nat.le_refl _, List.mem_singleton.1 h⟩
theorem rsN_atom {p : ByteArray} {a m n : Nat} (hn : n < 32) {o : Opt} (ho : o ∈ rsN p a m n) : Atom p a m o := by
  unfold rsN at ho
  split at ho
  · split at ho
    · rw [List.mem_singleton] at ho; subst ho; exact .chars n hn (by assumption) (by assumption)
    · cases ho
  split at ho
  · rw [List.mem_singleton] at ho; subst ho; exact .latch n hn (by assumption)
  split at ho
  · rename_i h3
    obtain ⟨s, hs, h⟩ := optSK_mem 32 ho
    unfold optS at h
    split at h
    · rename_i h4
      rw [List.mem_singleton] at h; subst h
      exact .shift n s hn h3 hs h4.1 h4.2
    · cases h
  · cases ho
theorem stepsL_atom {p : ByteArray} {a m : Nat} {o : Opt} (ha : a < p.size) (ho : o ∈ stepsL p a m) : Atom p a m o := by
  unfold stepsL at ho
  rw [List.mem_append] at ho
  rcases ho with ho | ho
  · obtain ⟨n, hn, h⟩ := rsK_mem _ ho
    exact rsN_atom (Nat.lt_of_lt_of_le hn (pow_width m)) h
  · obtain ⟨j, h1, h2, rfl⟩ := rsR_mem _ ho
    unfold rsT at h2
    split at h2
    · obtain ⟨k1, k2⟩ := kind31 m (by omega)
      unfold runO
      split
      · have := Atom.long (p := p) (a := a) (m := m) 31 j (by omega) k1 (by omega) (by omega) (by omega)
        rw [k2] at this; exact this
      · have := Atom.short (p := p) (a := a) (m := m) 31 j (by omega) k1 (by omega) (by omega) (by omega)
        rw [k2] at this; exact this
    · omega
theorem Atom.mem {p : ByteArray} {a m : Nat} {o : Opt} (hm : m < 5) (ha : a < p.size) (h : Atom p a m o) : o ∈ stepsL p a m ∨ ∃ o' ∈ stepsL p a m, o'.size < o.size ∧ o'.at_ = o.at_ ∧ o'.mode = o.mode := by
  have key : ∀ n, n < 32 → kindF m n ≠ 0 → ∀ o, o ∈ rsN p a m n → o ∈ stepsL p a m := fun n hn hk o ho => by
    unfold stepsL
    exact List.mem_append.2 (.inl (mem_rsK ho _ (kind_lt m hm n hn hk)))
  have run : ∀ j, m ≤ 2 → 1 ≤ j → j ≤ 2078 → a + j ≤ p.size → runO a m j ∈ stepsL p a m := fun j h2 h1 h3 h4 => by
    unfold stepsL
    refine List.mem_append.2 (.inr (mem_rsR h1 _ ?_))
    unfold rsT
    rw [if_pos h2]; omega
  cases h with
  | chars n hn hk hp =>
    refine .inl (key n hn (by omega) _ ?_)
    unfold rsN
    rw [if_pos hk, if_pos hp]; exact List.mem_singleton.2 rfl
  | latch n hn hk =>
    refine .inl (key n hn (by omega) _ ?_)
    unfold rsN
    rw [hk, if_neg (by omega), if_pos rfl]; exact List.mem_singleton.2 rfl
  | shift n s hn hk hs hk2 hp =>
    refine .inl (key n hn (by omega) _ ?_)
    unfold rsN
    rw [hk, if_neg (by omega), if_neg (by omega), if_pos rfl]
    refine mem_optSK (s := s) ?_ 32 hs
    unfold optS
    rw [if_pos ⟨hk2, hp⟩]; exact List.mem_singleton.2 rfl
  | short n j hn hk h1 h2 h3 =>
    obtain ⟨rfl, hm2⟩ := kind4_31 m hm n hn hk
    have h := run j hm2 h1 (by omega) h3
    unfold runO at h
    rw [if_neg (by omega)] at h
    rw [(kind31 m (by omega)).2]
    exact .inl h
  | long n j hn hk h1 h2 h3 =>
    obtain ⟨rfl, hm2⟩ := kind4_31 m hm n hn hk
    have h := run j hm2 (by omega) h2 h3
    unfold runO at h
    rw [(kind31 m (by omega)).2]
    by_cases h31 : 31 < j
    · rw [if_pos h31] at h
      exact .inl h
    · rw [if_neg h31] at h
      exact .inr ⟨_, h, by show 10 + 8 * j < 5 + 16 + 8 * j; omega, rfl, rfl⟩
theorem Atom.size_le {p : ByteArray} {a m : Nat} {o : Opt} (h : Atom p a m o) : o.size ≤ 20000 := by
  have w1 := widthN_le m
  cases h with
  | chars n hn hk hp => show widthN m ≤ _; omega
  | latch n hn hk => show widthN m ≤ _; omega
  | shift n s hn hk hs hk2 hp => have w2 := widthN_le (modeF m n); show widthN m + widthN (modeF m n) ≤ _; omega
  | short n j hn hk h1 h2 h3 => show widthN m + 5 + 8 * j ≤ _; omega
  | long n j hn hk h1 h2 h3 => show widthN m + 16 + 8 * j ≤ _; omega
def RFix (C : Nat → Nat → Nat) (p : ByteArray) (a : Nat) : Prop := (∀ m, m < 5 → ∀ o ∈ stepsL p a m, C a m ≤ o.tot C) ∧ (∀ m, m < 5 → C a m = 1099511627776 ∨ ∃ o ∈ stepsL p a m, o.tot C = C a m)
theorem RFix.congr {C C' : Nat → Nat → Nat} {p : ByteArray} {a : Nat} (ha : a < p.size) (h : ∀ a' m, a ≤ a' → C' a' m = C a' m) (hf : RFix C p a) : RFix C' p a := by
  have et : ∀ m, ∀ o ∈ stepsL p a m, o.tot C' = o.tot C := fun m o ho => by unfold Opt.tot; rw [h _ _ (stepsL_atom ha ho).at_ge]
  refine ⟨fun m hm o ho => ?_, fun m hm => ?_⟩
  · rw [et m o ho, h _ _ (Nat.le_refl _)]
    exact hf.1 m hm o ho
  · rw [h _ _ (Nat.le_refl _)]
    rcases hf.2 m hm with h1 | ⟨o, h1, h2⟩
    · exact .inl h1
    · exact .inr ⟨o, h1, by rw [et m o h1]; exact h2⟩
theorem RFix.ac {C : Nat → Nat → Nat} {p : ByteArray} (hp : p.size ≤ 4096) (hf : ∀ a, a < p.size → RFix C p a) (hz : ∀ a m, p.size ≤ a → C a m = 0) : ACost p C := by
  have hle : ∀ a m, a < p.size → m < 5 → ∀ o, Atom p a m o → C a m ≤ o.tot C := by
    intro a m ha hm o ho
    rcases ho.mem hm ha with h | ⟨o', h, h1, h2, h3⟩
    · exact (hf a ha).1 m hm o h
    · refine Nat.le_trans ((hf a ha).1 m hm o' h) ?_
      unfold Opt.tot
      rw [h2, h3]; omega
  have hup : ∀ k a, p.size ≤ a + k → C a 0 ≤ 18 * (p.size - a) := by
    intro k
    induction k with
    | zero => intro a ha; rw [hz a 0 ha]; exact Nat.zero_le _
    | succ k ih =>
      intro a ha
      by_cases h1 : a < p.size
      · have h2 := hle a 0 h1 (by omega) _ (Atom.short 31 1 (by omega) (kind31 0 (by omega)).1 (by omega) (by omega) (by omega))
        have h3 := ih (a + 1) (by omega)
        have h4 : C a 0 ≤ 5 + 5 + 8 * 1 + C (a + 1) 0 := h2
        omega
      · rw [hz a 0 (by omega)]; exact Nat.zero_le _
  have hla : ∀ a m n, a < p.size → m < 5 → n < 32 → kindF m n = 2 → C a m ≤ widthN m + C a (modeF m n) := fun a m n ha hm hn hk => hle a m ha hm _ (Atom.latch n hn hk)
  have hto : ∀ a m, a < p.size → m < 5 → C a m ≤ 9 + C a 0 := by
    intro a m ha hm
    have l1 := hla a 4 14 ha (by omega) (by omega) (by kernel_rfl)
    have e1 : modeF 4 14 = 0 := by kernel_rfl
    have e2 : modeF 1 30 = 4 := by kernel_rfl
    have e3 : modeF 2 29 = 0 := by kernel_rfl
    have e4 : modeF 3 31 = 0 := by kernel_rfl
    have w4 : widthN 4 = 4 := rfl
    have w1 : widthN 1 = 5 := rfl
    have w2 : widthN 2 = 5 := rfl
    have w3 : widthN 3 = 5 := rfl
    rw [e1, w4] at l1
    have h5 : m = 0 ∨ m = 1 ∨ m = 2 ∨ m = 3 ∨ m = 4 := by omega
    rcases h5 with rfl | rfl | rfl | rfl | rfl
    · omega
    · have l2 := hla a 1 30 ha (by omega) (by omega) (by kernel_rfl)
      rw [e2, w1] at l2; omega
    · have l2 := hla a 2 29 ha (by omega) (by omega) (by kernel_rfl)
      rw [e3, w2] at l2; omega
    · have l2 := hla a 3 31 ha (by omega) (by omega) (by kernel_rfl)
      rw [e4, w3] at l2; omega
    · omega
  refine ⟨hle, fun a m ha hm => ?_, hz⟩
  rcases (hf a ha).2 m hm with h | ⟨o, h1, h2⟩
  · have h3 := hto a m ha hm
    have h4 := hup p.size a (by omega)
    omega
  · exact ⟨o, stepsL_atom ha h1, h2⟩
/-- every cost is none yet or that of a step -/
def InvR (C : Nat → Nat → Nat) (L : Nat → List Opt) (a : Nat) : Prop := ∀ m, m < 5 → C a m = 1099511627776 ∨ ∃ o ∈ L m, o.tot C ≤ C a m
theorem InvR.upd {C : Nat → Nat → Nat} {L : Nat → List Opt} {a m : Nat} (h : InvR C L a) {o : Opt} (ho : o ∈ L m) (hlt : o.tot C < C a m) : InvR (updC C a m (o.tot C)) L a := by
  intro m' hm'
  have hle := updC_le (C := C) (a := a) (m := m) (x := o.tot C) (Nat.le_of_lt hlt)
  by_cases e : m' = m
  · subst e
    right
    exact ⟨o, ho, by rw [updC_same]; exact tot_mono hle o⟩
  · rw [updC_off _ _ _ _ _ _ (fun h => e h.2)]
    rcases h m' hm' with h1 | ⟨o', h1, h2⟩
    · exact .inl h1
    · exact .inr ⟨o', h1, Nat.le_trans (tot_mono hle o') h2⟩
theorem RFix.mk_ {C : Nat → Nat → Nat} {p : ByteArray} {a : Nat} (h1 : InvR C (stepsL p a) a) (h2 : ∀ m, m < 5 → ∀ o ∈ stepsL p a m, C a m ≤ o.tot C) : RFix C p a := by
  refine ⟨h2, fun m hm => ?_⟩
  rcases h1 m hm with h | ⟨o, h3, h4⟩
  · exact .inl h
  · exact .inr ⟨o, h3, Nat.le_antisymm h4 (h2 m hm o h3)⟩
/-! the table of the costs in memory -/
structure CS (w wr : World) (cb n : Nat) (C : Nat → Nat → Nat) : Prop where
  B : Abv w wr
  lo : w.heap.size ≤ cb
  R : ∃ cur, RowIs wr cb cur 58 ∧ cur.size = 5 * (n + 1) ∧ ∀ a m, a ≤ n → m < 5 → cur[a * 5 + m]? = some (.int .i64 ((C a m : Nat) : Int))
  b : ∀ a m, C a m ≤ 1099511627776
theorem CS.below {w wr W : World} {cb n : Nat} {C : Nat → Nat → Nat} (h : CS w wr cb n C) (hW : Below wr.heap.size wr W) : CS w W cb n C := by
  obtain ⟨cur, h1, h2⟩ := h.R
  exact ⟨bwStep h.B hW, h.lo, ⟨cur, h1.below hW, h2⟩, h.b⟩
theorem CS.lt {w wr : World} {cb n : Nat} {C : Nat → Nat → Nat} (h : CS w wr cb n C) : cb < wr.heap.size := by
  obtain ⟨cur, h1, h2⟩ := h.R
  exact lt_of_heap h1
theorem CS.cell {w wr : World} {cb n : Nat} {C : Nat → Nat → Nat} (h : CS w wr cb n C) (a m : Nat) (ha : a ≤ n) (hm : m < 5) : wr.cell? ⟨cb, a * 5 + m, none⟩ = some (.int .i64 ((C a m : Nat) : Int)) := by
  obtain ⟨cur, h1, h2, h3⟩ := h.R
  exact h1.cell _ _ (h3 a m ha hm)
theorem CS.fz {w wr : World} {cb n : Nat} {C : Nat → Nat → Nat} (h : CS w wr cb n C) (i : Nat) : wr.frozen? ⟨cb, i, none⟩ = false := by
  obtain ⟨cur, h1, h2⟩ := h.R
  exact frozen_of_row _ _ _ _ _ h1
theorem CS.set {w wr : World} {cb n : Nat} {C : Nat → Nat → Nat} (h : CS w wr cb n C) (a m x : Nat) (ha : a ≤ n) (hm : m < 5) (hx : x ≤ 1099511627776) : CS w (wr.setCell ⟨cb, a * 5 + m, none⟩ (.int .i64 (x : Int))) cb n (updC C a m x) := by
  obtain ⟨cur, h1, h2, h3⟩ := h.R
  refine ⟨h.B.setCell h.lo _, h.lo, ⟨_, h1.setc _, by simp [h2], fun a' m' ha' hm' => ?_⟩, fun a' m' => ?_⟩
  · by_cases e : a' = a ∧ m' = m
    · obtain ⟨rfl, rfl⟩ := e
      rw [updC_same, Array.getElem?_setIfInBounds_self_of_lt (by omega)]
    · rw [Array.getElem?_setIfInBounds_ne (by omega), h3 a' m' ha' hm', updC_off _ _ _ _ _ _ e]
  · by_cases e : a' = a ∧ m' = m
    · obtain ⟨rfl, rfl⟩ := e
      rw [updC_same]; exact hx
    · rw [updC_off _ _ _ _ _ _ e]; exact h.b a' m'
def farC (C : Nat → Nat → Nat) (a : Nat) : Nat → Nat → Nat := fun a' m => if a' = a then 1099511627776 else C a' m
abbrev farV : List Value := [.int .i64 1099511627776, .int .i64 1099511627776, .int .i64 1099511627776, .int .i64 1099511627776, .int .i64 1099511627776]
theorem splice_get {α : Type} (L : List α) (off : Nat) (cs : List α) (i : Nat) (h : off + cs.length ≤ L.length) : (splice L off cs)[i]? = if off ≤ i ∧ i < off + cs.length then cs[i - off]? else L[i]? := by
  unfold splice
  by_cases h1 : i < off
  · rw [if_neg (by omega), List.getElem?_append_left (by rw [List.length_take]; omega), List.getElem?_take, if_pos h1]
  · rw [List.getElem?_append_right (by rw [List.length_take]; omega), List.length_take, Nat.min_eq_left (by omega)]
    by_cases h2 : i < off + cs.length
    · rw [if_pos (by omega), List.getElem?_append_left (by omega)]
    · rw [if_neg (by omega), List.getElem?_append_right (by omega), List.getElem?_drop]
      congr 1; omega
theorem CS.far {w wr : World} {cb n : Nat} {C : Nat → Nat → Nat} (h : CS w wr cb n C) (a : Nat) (ha : a ≤ n) {cur : Array Value} (h1 : RowIs wr cb cur 58) : CS w (wr.setRow cb (splice cur.toList (a * 5) farV).toArray) cb n (farC C a) := by
  obtain ⟨cur', h1', h2, h3⟩ := h.R
  have e : cur' = cur := by
    have h4 : wr.heap[cb]? = some (.cells cur' 58 (0, 0)) := h1'
    have h5 : wr.heap[cb]? = some (.cells cur 58 (0, 0)) := h1
    rw [h4] at h5
    injection h5 with h5
    injection h5
  subst e
  have hcl : cur'.toList.length = cur'.size := Array.length_toList
  have hl : a * 5 + farV.length ≤ cur'.toList.length := by rw [hcl, h2]; show a * 5 + 5 ≤ _; omega
  refine ⟨below_setRow h.B h.lo _, h.lo, ⟨_, h1.set _, by rw [List.size_toArray, length_splice _ _ _ hl, hcl, h2], fun a' m' ha' hm' => ?_⟩, fun a' m' => ?_⟩
  · rw [List.getElem?_toArray, splice_get _ _ _ _ hl]
    unfold farC
    by_cases e : a' = a
    · subst e
      rw [if_pos (by show a' * 5 ≤ a' * 5 + m' ∧ a' * 5 + m' < a' * 5 + 5; omega), if_pos rfl, Nat.add_sub_cancel_left]
      have h5 : m' = 0 ∨ m' = 1 ∨ m' = 2 ∨ m' = 3 ∨ m' = 4 := by omega
      rcases h5 with rfl | rfl | rfl | rfl | rfl <;> rfl
    · rw [if_neg (by show ¬ (a * 5 ≤ a' * 5 + m' ∧ a' * 5 + m' < a * 5 + 5); omega), if_neg e, Array.getElem?_toList]
      exact h3 a' m' ha' hm'
  · unfold farC
    split
    · exact Nat.le_refl _
    · exact h.b a' m'
theorem CS.sum {w wr : World} {cb n : Nat} {C : Nat → Nat → Nat} (h : CS w wr cb n C) (a : Nat) (ha : a ≤ n) : sumW wr cb a = sumC C a := by
  have k : ∀ m, m < 5 → costAt wr cb a m = C a m := fun m hm => by unfold costAt; rw [h.cell a m ha hm]; simp
  unfold sumW sumC
  rw [k 0 (by omega), k 1 (by omega), k 2 (by omega), k 3 (by omega), k 4 (by omega)]
/-! a list of steps in memory, which is read -/
def SLi (wr : World) (g m : Nat) (l : List Opt) : Prop := g < wr.heap.size ∧ ∀ j o, l[j]? = some o → ∀ q v, (stV m o)[q]? = some v → wr.cell? ⟨g, j * 11 + q, none⟩ = some v
theorem SLi.below {wr W : World} {g m : Nat} {l : List Opt} (h : SLi wr g m l) (hW : Below wr.heap.size wr W) : SLi W g m l := ⟨Nat.lt_of_lt_of_le h.1 hW.size, fun j o hj q v hq => (hW.cell (p := ⟨g, j * 11 + q, none⟩) h.1).trans (h.2 j o hj q v hq)⟩
theorem SLi.setc {wr : World} {g m : Nat} {l : List Opt} (h : SLi wr g m l) (a : Addr) (ha : a.block ≠ g) (u : Value) : SLi (wr.setCell a u) g m l := ⟨by simpa using h.1, fun j o hj q v hq => (World.cell?_setCell_other wr _ _ _ (fun e => ha (by rw [e]))).trans (h.2 j o hj q v hq)⟩
theorem flat_st_get (m : Nat) : ∀ (l : List Opt) (j k : Nat) (o : Opt), l[j]? = some o → k < 11 → (l.flatMap (stV m))[j * 11 + k]? = (stV m o)[k]?
  | [], j, k, o, h, hk => by simp at h
  | x :: l, 0, k, o, h, hk => by
    simp only [List.getElem?_cons_zero, Option.some.injEq] at h
    subst h
    rw [List.flatMap_cons, List.getElem?_append_left (by show 0 * 11 + k < 11; omega)]
    simp
  | x :: l, j + 1, k, o, h, hk => by
    rw [List.flatMap_cons, List.getElem?_append_right (by show 11 ≤ _; omega)]
    rw [← flat_st_get m l j k o (by simpa using h) hk]
    congr 1
    show (j + 1) * 11 + k - 11 = _
    omega
theorem OGS.row {m : Nat} {w wr : World} {v : Value} {l : List Opt} (h : OGS m w wr v l) : ∃ A c, v = .slice A l.length c ∧ (0 < l.length → ∃ g, A = some ⟨g, 0, none⟩ ∧ w.heap.size ≤ g ∧ SLi wr g m l) := by
  obtain ⟨A, c, rfl⟩ := ownsRow_shape h.O
  refine ⟨A, c, rfl, fun h0 => ?_⟩
  obtain ⟨g, cap, hv, h1, hlt⟩ := h.O.form (by omega)
  have hA : A = some ⟨g, 0, none⟩ := by injection hv
  subst hA
  refine ⟨g, rfl, (h.O.lt g rfl).1, hlt, fun j o hj q u hq => ?_⟩
  have hq11 : q < 11 := by
    rcases Nat.lt_or_ge q 11 with h2 | h2
    · exact h2
    · rw [List.getElem?_eq_none (by show 11 ≤ q; exact h2)] at hq; cases hq
  have hc := h.O.cells (g := g) rfl _ _ ((flat_st_get m l j q o hj hq11).trans hq)
  rw [add_plain, Nat.zero_add] at hc
  exact hc
theorem SLi.facts {wr : World} {g m : Nat} {l : List Opt} (h : SLi wr g m l) {j : Nat} {o : Opt} (hj : l[j]? = some o) : wr.cell? ⟨g, j * 11 + 8, none⟩ = some (.int .i64 (o.size : Int)) ∧ wr.cell? ⟨g, j * 11 + 9, none⟩ = some (.int .i64 (o.at_ : Int)) ∧ wr.cell? ⟨g, j * 11 + 10, none⟩ = some (.int .i64 (o.mode : Int)) :=
  ⟨h.2 j o hj 8 _ rfl, h.2 j o hj 9 _ rfl, h.2 j o hj 10 _ rfl⟩
end Go.Proofs.YtplppbfnlfehnaaDoor
namespace Go.Proofs.YtplppbfnlfehnaaDoor
open Go.RowKit Go.WideMaps Go.Maps
set_option linter.unusedVariables false
/-! the reference's costs: the walk -/
theorem costsInfo : (Tryd.prog.info? 58).map (fun i => (i.zero, i.size, i.bytes)) = some (some (.agg #[.int .i64 0, .int .i64 0, .int .i64 0, .int .i64 0, .int .i64 0]), 5, 40) := by kernel_rfl
theorem arr5Sz : (Tryd.prog.info? 56).map (·.size) = some 5 := by kernel_rfl
theorem farV_one : ∀ v ∈ farV, v.oneCell' = true := by
  intro v hv
  simp only [farV, List.mem_cons, List.not_mem_nil, or_false] at hv
  rcases hv with rfl | rfl | rfl | rfl | rfl <;> rfl
theorem exec_makeK {a : Act} {o : Oper} {W : World} {l c : Operand} (ho : o.op = .makeSlice 49 l c) (n : Nat) (hn : n ≤ 4096) (hl : a.eval l = .int .i64 ((n : Int) + 1)) (hc : a.eval c = .int .i64 ((n : Int) + 1)) :
    ∃ W', (execOp a.eval o).run Tryd.prog W = .ok (.value (.slice (some ⟨W.heap.size, 0, none⟩) (n + 1) (n + 1))) W' ∧ CS W W' W.heap.size n (fun _ _ => 0) := by
  obtain ⟨i0, hi, hz0, hz1, hz2⟩ := info_parts costsInfo
  have hr := run_make (P := Tryd.prog) W 49 58 i0 _ Tryd.underlying49 hi hz0 .i64 .i64 ((n + 1 : Nat) : Int) ((n + 1 : Nat) : Int) (by omega) (Int.le_refl _) (by rw [hz2]; omega) (by omega)
  simp only [Int.toNat_natCast] at hr
  rw [hz1] at hr
  have hrun : (execOp a.eval o).run Tryd.prog W = .ok (.value (.slice (some ⟨W.heap.size, 0, none⟩) (n + 1) (n + 1))) (W.alloc (.cells (madeCells #[Value.int .i64 0, .int .i64 0, .int .i64 0, .int .i64 0, .int .i64 0] ((n + 1) * 5)) 58)) := by
    unfold execOp
    rw [Int.natCast_add] at hr
    simp only [ho, hl, hc, Sem.run_bind, Sem.run_pure]
    rw [show ((n : Int) + 1) = ((n : Int) + ((1 : Nat) : Int)) from rfl, hr]
    rfl
  refine ⟨_, hrun, bwA _ _, Nat.le_refl _, ⟨_, heap_alloc_new W _, by unfold madeCells; simp; omega, fun a m ha hm => ?_⟩, fun _ _ => Nat.zero_le _⟩
  unfold madeCells
  rw [Array.getElem?_map, Array.getElem?_range, if_pos (by omega)]
  have h5 : (a * 5 + m) % 5 = 0 ∨ (a * 5 + m) % 5 = 1 ∨ (a * 5 + m) % 5 = 2 ∨ (a * 5 + m) % 5 = 3 ∨ (a * 5 + m) % 5 = 4 := by omega
  show some (#[Value.int .i64 0, .int .i64 0, .int .i64 0, .int .i64 0, .int .i64 0][(a * 5 + m) % 5]!) = _
  rcases h5 with h | h | h | h | h <;> rw [h] <;> rfl
theorem wpList_valueK {P : Program} {ops : Array Oper} {rest : List Oper} {o : Oper} {a : Act} {Q : Exit → Act → World → Prop} {w w' : World} {v : Value} (hgd : o.guard = none) (hv : (execOp a.eval o).run P w = .ok (.value v) w') (hk : wpList P ops Q rest (a.put o.dst v) w') : wpList P ops Q (o :: rest) a w := by
  refine wpList_plain hgd fun K hK => ?_
  unfold Oper.wp
  rw [hv]
  exact hK _ _ hk
theorem wpList_makeK {ops : Array Oper} {rest : List Oper} {o : Oper} {a : Act} {Q : Exit → Act → World → Prop} {W : World} {l c : Operand} (n : Nat) (hn : n ≤ 4096) (hgd : o.guard = none) (ho : o.op = .makeSlice 49 l c) (hl : a.eval l = .int .i64 ((n : Int) + 1)) (hc : a.eval c = .int .i64 ((n : Int) + 1))
    (hk : ∀ W', Hid (CS W W' W.heap.size n (fun _ _ => 0)) → wpList Tryd.prog ops Q rest (a.put o.dst (.slice (some ⟨W.heap.size, 0, none⟩) (n + 1) (n + 1))) W') : wpList Tryd.prog ops Q (o :: rest) a W := by
  obtain ⟨W', hrun, h1⟩ := exec_makeK (a := a) (W := W) ho n hn hl hc
  exact wpList_valueK hgd hrun (hk W' h1)
set_option maxRecDepth 100000 in
set_option maxHeartbeats 8000000 in
theorem RCosts_ref (A : Option Addr) (n c : Nat) (l : List UInt8) (w : World) (hp : SR vU 0 w A n c l) (hn : n ≤ 4096) :
    Calls Tryd.prog 26 #[.slice A n c] w fun e w' => ∃ cb C, e = .returned (.slice (some ⟨cb, 0, none⟩) (n + 1) (n + 1)) ∧ CS w w' cb n C ∧ ACost (bA l) C := by
  have hN : n = l.length := hp.hn
  have HP := Lib.hid hp
  obtain ⟨p, hpd⟩ : ∃ p, p = bA l := ⟨_, rfl⟩
  have hsz : p.size = n := by rw [hpd, bA_size, hN]
  have HSZ := Lib.hid hsz
  have HPD := Lib.hid hpd
  rw [← hpd]
  clear hp hN hpd hsz
  go_enter Tryd.func26, Tryd.ntmps26
  go_wp2_with ((with_reducible show wpList _ _ _ (⟨_, Op.makeSlice 49 _ _, _, _, _, _⟩ :: _) _ _); refine wpList_makeK n hn rfl rfl rfl rfl ?_; intro W1 HCS)
  obtain ⟨cb, hcb⟩ : ∃ cb, cb = w.heap.size := ⟨_, rfl⟩
  rw [← hcb] at HCS
  rw [← hcb]
  clear hcb
  go_loopw [4] (fun iv wr => ∃ (k : Nat) (j : Int) (C : Nat → Nat → Nat), k ≤ n ∧ iv = .int .i64 j ∧ Hid (j = (n : Int) - 1 - k) ∧ Hid (CS w wr cb n C) ∧ Hid (∀ a, n ≤ a + k → a < n → RFix C p a) ∧ Hid (∀ a m, n ≤ a → C a m = 0)) (fun iv _ => (intOf iv + 1).toNat)
  case atStart => exact ⟨0, (n : Int) - 1, fun _ _ => 0, Nat.zero_le _, rfl, by show _ = _; simp, HCS.out, fun a h1 h2 => by omega, fun _ _ _ => rfl⟩
  case round =>
    clear HCS
    obtain ⟨k, j, C, hk, rfl, hJ, hC, hFx, hZr⟩ := hrel
    by_cases hkn : k < n
    · obtain ⟨i, hi⟩ : ∃ i : Nat, j = (i : Int) := ⟨n - 1 - k, by have := hJ.out; omega⟩
      subst hi
      have hik : i + k + 1 = n := by have := hJ.out; omega
      have hin : i < n := by omega
      have hip : i < p.size := by rw [HSZ.out]; exact hin
      have hi1 : (i : Int) < (n : Int) + 1 := by omega
      obtain ⟨cur, hcur⟩ := hC.out.R
      have HCUR : Hid (RowIs wr cb cur 58) := hcur.1
      have HCZ : Hid (i * 5 + 5 ≤ cur.size) := by show _ ≤ _; rw [hcur.2.1]; omega
      have HC0 : Hid (CS w (wr.setRow cb (splice cur.toList (i * 5) farV).toArray) cb n (farC C i)) := hC.out.far i (by omega) hcur.1
      have HFX : Hid (∀ a, i < a → a < n → RFix (farC C i) p a) := by
        show ∀ a, _
        intro a h1 h2
        refine (hFx.out a (by omega) h2).congr (by rw [HSZ.out]; exact h2) (fun a' m h3 => ?_)
        unfold farC
        rw [if_neg (by omega)]
      have HZR : Hid (∀ a m, n ≤ a → farC C i a m = 0) := by
        show ∀ a, _
        intro a m h
        unfold farC
        rw [if_neg (by omega)]
        exact hZr.out a m h
      have HFAR : Hid (∀ m, farC C i i m = 1099511627776) := fun m => if_pos rfl
      clear hFx hZr hcur hC hJ
      generalize farC C i = C0 at *
      obtain ⟨L, hL⟩ : ∃ L : Nat → List Opt, L = stepsL p i := ⟨_, rfl⟩
      have HL := Lib.hid hL
      have HLK : Hid (∀ m, m < 5 → ∀ o ∈ L m, o.at_ ≤ n ∧ o.mode < 5 ∧ o.size ≤ 20000) := by
        show ∀ m, _
        intro m hm o ho
        rw [hL] at ho
        have hA := stepsL_atom hip ho
        exact ⟨by have := hA.at_le hip; rw [HSZ.out] at this; exact this, hA.mode_lt hm, hA.size_le⟩
      clear hL
      have HIV0 : Hid (InvR C0 L i) := fun m hm => .inl (HFAR.out m)
      clear HFAR
      go_wp2_with ((with_reducible show wpList _ _ _ (⟨_, Op.store 56 _ _, _, _, _, _⟩ :: _) _ _); refine wpList_storeAgg rfl 56 _ _ rfl 58 cb (i * 5) cur farV rfl rfl HCUR.out arr5Sz HCZ.out farV_one ?_)
      generalize (wr.setRow cb (splice cur.toList (i * 5) farV).toArray) = w2 at *
      clear HCUR HCZ
      go_loopw [5] (fun bv wr => ∃ (ch : Bool) (C2 : Nat → Nat → Nat), bv = .bool ch ∧ Hid (CS w wr cb n C2) ∧ Hid (∀ a m, a ≠ i → C2 a m = C0 a m) ∧ Hid (InvR C2 L i) ∧ Hid (ch = false → ∀ m, m < 5 → ∀ o ∈ L m, C2 i m ≤ o.tot C2)) (fun bv wr => 2 * sumW wr cb i + boolOf bv)
      case atStart => exact ⟨true, C0, rfl, HC0.out, fun _ _ _ => rfl, HIV0.out, fun h => by cases h⟩
      case round =>
        clear HC0 HIV0
        obtain ⟨ch, C2, rfl, hC, hOff, hIV, hFx⟩ := hrel
        cases ch with
        | true =>
          clear hFx
          have HSUM : Hid (sumW wr cb i = sumC C2 i) := hC.out.sum i (by omega)
          obtain ⟨sm, hsm⟩ : ∃ sm, sm = sumC C2 i := ⟨_, rfl⟩
          rw [← hsm] at HSUM
          have HSM := Lib.hid hsm
          clear hsm
          go_wp2_with fail
          obtain ⟨wo, rfl⟩ : ∃ wo : World, wo = wr := ⟨_, rfl⟩
          go_loopw [5, 6] (fun bv mv wr => ∃ (m : Nat) (ch : Bool) (C3 : Nat → Nat → Nat), m ≤ 5 ∧ mv = .int .i64 m ∧ bv = .bool ch ∧ Hid (CS w wr cb n C3) ∧ Hid (∀ a m, a ≠ i → C3 a m = C0 a m) ∧ Hid (InvR C3 L i) ∧ Hid (ch = false → C3 = C2 ∧ ∀ m', m' < m → ∀ o ∈ L m', C3 i m' ≤ o.tot C3) ∧ Hid (ch = true → sumC C3 i < sm)) (fun _ mv _ => 5 - (intOf mv).toNat)
          case atStart => exact ⟨0, false, C2, by omega, rfl, rfl, hC.out, hOff.out, hIV.out, fun _ => ⟨rfl, fun m hm => by omega⟩, fun h => by cases h⟩
          case round =>
            clear hC hOff hIV
            obtain ⟨m, ch, C3, hm, rfl, rfl, hC, hOff, hIV, hF, hT⟩ := hrel
            by_cases hlt : m < 5
            · have HSTP : Hid (Calls Tryd.prog 27 #[.slice A n c, .int .i64 (i : Int), .int .i64 (m : Int)] wr fun e w' => ∃ v, e = .returned v ∧ OGS (widthN m) wr w' v (L m)) := by
                show Calls _ _ _ _ _
                rw [HL.out, HPD.out]
                exact RSteps_ref A n c l i m wr (HP.out.below hC.out.B) hn (by omega) hlt
              go_wp2_with fail
              refine HSTP.out.mono ?_
              rintro e w3 ⟨v, rfl, hv⟩
              obtain ⟨As, cs, rfl, hrow⟩ := hv.row
              have hcl := hC.out.lt
              obtain ⟨len, hlen⟩ : ∃ len, len = (L m).length := ⟨_, rfl⟩
              have HLEN := Lib.hid hlen
              have hlen3 : len ≤ 3200 := by
                rw [hlen, HL.out]
                unfold stepsL
                rw [List.length_append, rsR_len]
                have h1 := rsK_len p i m (2 ^ widthN m)
                have h2 := pow_width m
                have h3 : rsT p i m ≤ 2078 := by unfold rsT; split <;> omega
                generalize 2 ^ widthN m = E at *
                omega
              rw [← hlen] at hrow
              rw [← hlen]
              have HROW : Hid (0 < len → ∃ g, As = some ⟨g, 0, none⟩ ∧ g ≠ cb ∧ SLi w3 g (widthN m) (L m)) := by
                show _ → _
                intro h0
                obtain ⟨g, h1, h2, h3⟩ := hrow h0
                exact ⟨g, h1, by omega, h3⟩
              have HC3 : Hid (CS w w3 cb n C3) := hC.out.below hv.B
              clear HSTP hv hrow hcl hlen hC
              go_wp2_with fail
              go_loopw [5, 8] (fun bv kv wr => ∃ (j : Nat) (ch : Bool) (C4 : Nat → Nat → Nat), j ≤ len ∧ kv = .int .i64 j ∧ bv = .bool ch ∧ Hid (CS w wr cb n C4) ∧ Hid (0 < len → ∃ g, As = some ⟨g, 0, none⟩ ∧ g ≠ cb ∧ SLi wr g (widthN m) (L m)) ∧ Hid (∀ a m, a ≠ i → C4 a m = C0 a m) ∧ Hid (InvR C4 L i) ∧ Hid (ch = false → C4 = C2 ∧ (∀ m', m' < m → ∀ o ∈ L m', C4 i m' ≤ o.tot C4) ∧ ∀ j', j' < j → ∀ o, (L m)[j']? = some o → C4 i m ≤ o.tot C4) ∧ Hid (ch = true → sumC C4 i < sm)) (fun _ kv _ => len - (intOf kv).toNat)
              case atStart => exact ⟨0, ch, C3, Nat.zero_le _, rfl, rfl, HC3.out, HROW.out, hOff.out, hIV.out, fun h => ⟨(hF.out h).1, (hF.out h).2, fun j' h' => by omega⟩, hT.out⟩
              case round =>
                clear HC3 HROW hOff hIV hF hT
                obtain ⟨j, ch, C4, hj, rfl, rfl, hC, hRow, hOff, hIV, hF, hT⟩ := hrel
                by_cases hlt2 : j < len
                · obtain ⟨g, rfl, hgc, hsl⟩ := hRow.out (by omega)
                  obtain ⟨o, ho⟩ : ∃ o, (L m)[j]? = some o := ⟨_, List.getElem?_eq_getElem (by rw [← HLEN.out]; exact hlt2)⟩
                  have HO := Lib.hid ho
                  have hmem : o ∈ L m := List.mem_of_getElem? ho
                  have HM := Lib.hid hmem
                  have HOK : Hid (o.at_ ≤ n ∧ o.mode < 5 ∧ o.size ≤ 20000) := HLK.out m hlt o hmem
                  obtain ⟨osz, hosz⟩ : ∃ x, x = o.size := ⟨_, rfl⟩
                  obtain ⟨oat, hoat⟩ : ∃ x, x = o.at_ := ⟨_, rfl⟩
                  obtain ⟨omd, homd⟩ : ∃ x, x = o.mode := ⟨_, rfl⟩
                  obtain ⟨q1, q2, q3⟩ := HOK.out
                  rw [← hosz] at q3
                  rw [← hoat] at q1
                  rw [← homd] at q2
                  obtain ⟨cv, hcv⟩ : ∃ x, x = C4 oat omd := ⟨_, rfl⟩
                  have hcvb : cv ≤ 1099511627776 := by rw [hcv]; exact hC.out.b _ _
                  obtain ⟨x1, hx1⟩ : ∃ x1, x1 = osz + cv := ⟨_, rfl⟩
                  have HX1 : Hid (x1 = o.tot C4) := by show _ = _; rw [hx1, hcv, hosz, hoat, homd]; rfl
                  obtain ⟨x2, hx2⟩ : ∃ x2, x2 = C4 i m := ⟨_, rfl⟩
                  have HX2 := Lib.hid hx2
                  have CF : Hid (∀ W, Abv wr W → W.cell? ⟨g, j * 11 + 8, none⟩ = some (.int .i64 (osz : Int)) ∧ W.cell? ⟨g, j * 11 + 9, none⟩ = some (.int .i64 (oat : Int)) ∧ W.cell? ⟨g, j * 11 + 10, none⟩ = some (.int .i64 (omd : Int)) ∧ W.cell? ⟨cb, oat * 5 + omd, none⟩ = some (.int .i64 (cv : Int))) := by
                    show ∀ W, _
                    intro W hW
                    obtain ⟨h1, h2, h3⟩ := (hsl.below hW).facts ho
                    rw [hosz, hoat, homd]
                    refine ⟨h1, h2, h3, ?_⟩
                    rw [hcv, hoat, homd]
                    exact (hC.out.below hW).cell _ _ HOK.out.1 HOK.out.2.1
                  have HCD : Hid (CS w wr.drew cb n C4) := hC.out.below (bwDrew (Below.refl _ _))
                  have HSD : Hid (SLi wr.drew g (widthN m) (L m)) := hsl.below (bwDrew (Below.refl _ _))
                  have f1 := HCD.out.cell i m (by omega) hlt
                  have f2 := HCD.out.fz (i * 5 + m)
                  rw [← hx2] at f1
                  obtain ⟨sv, hsv⟩ : ∃ sv : Int, sv = IntKind.i64.wrap ((osz : Int) + (cv : Int)) := ⟨_, rfl⟩
                  have HXE : Hid ((x1 : Int) = sv) := by show _ = _; rw [hx1, hsv, IntKind.wrap_i64]; omega
                  have HSV := Lib.hid hsv
                  clear hsv
                  have ha3 : (oat : Int) < (n : Int) + 1 := by omega
                  have hm3 : (omd : Int) < 5 := by omega
                  have hm4 : (m : Int) < 5 := by omega
                  have HSLE : Hid (sumC C4 i ≤ sm) := by
                    show _ ≤ _
                    cases ch with
                    | true => exact Nat.le_of_lt (hT.out rfl)
                    | false => rw [(hF.out rfl).1, ← HSM.out]; exact Nat.le_refl _
                  have HGC := Lib.hid hgc
                  clear hRow hsl ho hmem hosz hoat homd hcv hx1 hx2 hC hgc
                  go_wp2_with fail
                  refine wp_region_W (S := Abv wr) [(false, 0), (false, 1), (false, 2), (false, 3), (false, 4), (false, 5), (false, 6), (false, 7), (false, 8), (false, 9), (false, 10), (false, 11), (false, 12), (false, 13), (false, 14), (false, 15), (false, 16), (false, 17), (false, 18), (false, 19), (false, 20), (false, 21)] (by kernel_rfl) (by kernel_rfl) (bwDrew (Below.refl _ _)) ?_
                  simp only [attachW, List.getElem?_cons_zero, List.getElem?_cons_succ]
                  repeat
                    refine' wpHX_val rfl (fun W hW => ?_) ?_
                    rotate_left
                    · have hcf := CF.out W hW; go_simp; rfl
                    simp only [Act.put, List.setIfInBounds_toArray, List.set_cons_zero, List.set_cons_succ]
                  refine wpHX_nil ?_
                  generalize wr.drew = w5 at *
                  rw [← HSV.out]
                  by_cases hx : x1 < x2
                  · have d1 : decide (sv < (x2 : Int)) = true := by rw [← HXE.out]; simp; omega
                    have HST : Hid (CS w (w5.setCell ⟨cb, i * 5 + m, none⟩ (.int .i64 sv)) cb n (updC C4 i m x1)) := by
                      have h := HCD.out.set i m x1 (by omega) hlt (by have := HX2.out; have := HCD.out.b i m; omega)
                      rw [HXE.out] at h
                      exact h
                    go_wp2_with fail
                    exact ⟨⟨j + 1, true, updC C4 i m x1, by omega, by go_num, rfl, HST.out, fun _ => ⟨g, rfl, HGC.out, HSD.out.setc _ (Ne.symm HGC.out) _⟩,
                      (fun a m' hne => by rw [updC_off _ _ _ _ _ _ (fun h => hne h.1)]; exact hOff.out a m' hne), (by show InvR _ _ _; rw [HX1.out]; exact hIV.out.upd HM.out (by rw [← HX1.out, ← HX2.out]; exact hx)), (fun h => by cases h),
                      fun _ => Nat.lt_of_lt_of_le (sumC_upd hlt (by rw [← HX2.out]; exact hx)) HSLE.out⟩, by simp [intOf]; omega⟩
                  · have d1 : decide (sv < (x2 : Int)) = false := by rw [← HXE.out]; simp; omega
                    have hx9 : C4 i m ≤ o.tot C4 := by rw [← HX1.out, ← HX2.out]; omega
                    have HX9 := Lib.hid hx9
                    clear hx hx9
                    go_wp2_with fail
                    exact ⟨⟨j + 1, ch, C4, by omega, by go_num, rfl, HCD.out, fun _ => ⟨g, rfl, HGC.out, HSD.out⟩, hOff.out, hIV.out, fun h => ⟨(hF.out h).1, (hF.out h).2.1, seen_step (hF.out h).2.2 HO.out HX9.out⟩, hT.out⟩, by simp [intOf]; omega⟩
                · have hj2 : j = len := by omega
                  have HFF : Hid (ch = false → C4 = C2 ∧ ∀ m', m' < m + 1 → ∀ o ∈ L m', C4 i m' ≤ o.tot C4) := by
                    show _ → _
                    intro h
                    obtain ⟨h1, h2, h3⟩ := hF.out h
                    refine ⟨h1, fun m' hm' o ho => ?_⟩
                    rcases Nat.lt_or_ge m' m with h4 | h4
                    · exact h2 m' h4 o ho
                    · obtain rfl : m' = m := by omega
                      obtain ⟨j', hj', e⟩ := List.getElem_of_mem ho
                      exact h3 j' (by rw [hj2, HLEN.out]; exact hj') o (by rw [List.getElem?_eq_getElem hj', e])
                  clear hF
                  subst hj2
                  go_wp2_with fail
                  exact ⟨⟨m + 1, ch, C4, by omega, by go_num, rfl, hC.out, hOff.out, hIV.out, HFF.out, hT.out⟩, by simp [intOf]; omega⟩
            · have h5 : m = 5 := by omega
              have HF2 : Hid (ch = false → ∀ m', m' < 5 → ∀ o ∈ L m', C3 i m' ≤ o.tot C3) := fun h m' hm' => (hF.out h).2 m' (by omega)
              have HME : Hid (2 * sumW wr cb i + boolOf (.bool ch) < 2 * sm + 1) := by
                show _ < _
                rw [hC.out.sum i (by omega)]
                cases ch with
                | true => have := hT.out rfl; show 2 * _ + 1 < _; omega
                | false => rw [(hF.out rfl).1, ← HSM.out]; show 2 * _ + 0 < _; omega
              clear hF hT
              go_wp2_with fail
              refine ⟨⟨ch, C3, rfl, hC.out, hOff.out, hIV.out, HF2.out⟩, ?_⟩
              show 2 * sumW wr cb i + boolOf (.bool ch) < 2 * sumW wo cb i + boolOf (.bool true)
              rw [HSUM.out]
              exact HME.out
        | false =>
          have HOKI : Hid (RFix C2 p i) := by
            show RFix _ _ _
            have h1 := hFx.out rfl
            have h2 := hIV.out
            rw [HL.out] at h1 h2
            exact RFix.mk_ h2 h1
          have HFX2 : Hid (∀ a, n ≤ a + (k + 1) → a < n → RFix C2 p a) := by
            show ∀ a, _
            intro a h1 h2
            by_cases e : a = i
            · rw [e]; exact HOKI.out
            · exact (HFX.out a (by omega) h2).congr (by rw [HSZ.out]; exact h2) (fun a' m h3 => hOff.out a' m (by omega))
          have HZ2 : Hid (∀ a m, n ≤ a → C2 a m = 0) := fun a m h => by rw [hOff.out a m (by omega)]; exact HZR.out a m h
          clear hFx hIV hOff HFX HZR HOKI
          go_wp2_with fail
          exact ⟨⟨k + 1, (i : Int) - 1, C2, by omega, by go_num, by show _ = _; omega, hC.out, HFX2.out, HZ2.out⟩, by simp [intOf] <;> omega⟩
    · have hj : j = -1 := by have := hJ.out; omega
      subst hj
      have HAC : Hid (ACost p C) := by
        show ACost _ _
        exact RFix.ac (by rw [HSZ.out]; exact hn) (fun a ha => hFx.out a (by omega) (by rw [← HSZ.out]; exact ha)) (fun a m h => hZr.out a m (by rw [← HSZ.out]; exact h))
      clear hFx hZr
      go_wp2_with fail
      go_ret
      exact ⟨cb, C, rfl, hC.out, HAC.out⟩
end Go.Proofs.YtplppbfnlfehnaaDoor
namespace Go.Proofs.YtplppbfnlfehnaaDoor
open Go.RowKit Go.WideMaps Go.Maps
set_option linter.unusedVariables false
/-! the reference's less -/
def vks (o : Opt) : List Nat := [o.num, o.v1, o.v2, 0]
def lessV (o o' : Opt) : Bool := if o.num ≠ o'.num then decide (o.num < o'.num) else if o.v1 ≠ o'.v1 then decide (o.v1 < o'.v1) else if o.v2 ≠ o'.v2 then decide (o.v2 < o'.v2) else false
theorem lessV_at {o o' : Opt} {k : Nat} (hk : k < 4) (h : ∀ j, j < k → (vks o).getD j 0 = (vks o').getD j 0) (hne : (vks o).getD k 0 ≠ (vks o').getD k 0) : lessV o o' = decide ((vks o).getD k 0 < (vks o').getD k 0) := by
  have h4 : k = 0 ∨ k = 1 ∨ k = 2 ∨ k = 3 := by omega
  unfold lessV
  rcases h4 with rfl | rfl | rfl | rfl
  · replace hne : o.num ≠ o'.num := hne
    rw [if_pos hne]; rfl
  · have h0 : o.num = o'.num := h 0 (by omega)
    replace hne : o.v1 ≠ o'.v1 := hne
    rw [if_neg (fun e => e h0), if_pos hne]; rfl
  · have h0 : o.num = o'.num := h 0 (by omega)
    have h1 : o.v1 = o'.v1 := h 1 (by omega)
    replace hne : o.v2 ≠ o'.v2 := hne
    rw [if_neg (fun e => e h0), if_neg (fun e => e h1), if_pos hne]; rfl
  · exact absurd rfl hne
theorem lessV_eq {o o' : Opt} (h : ∀ j, j < 4 → (vks o).getD j 0 = (vks o').getD j 0) : lessV o o' = false := by
  have h0 : o.num = o'.num := h 0 (by omega)
  have h1 : o.v1 = o'.v1 := h 1 (by omega)
  have h2 : o.v2 = o'.v2 := h 2 (by omega)
  unfold lessV
  rw [if_neg (fun e => e h0), if_neg (fun e => e h1), if_neg (fun e => e h2)]
theorem vks_cell {W : World} {b m : Nat} {o : Opt} (h : CellsAt W b (stV m o)) {k : Nat} (hk : k < 4) : W.cell? ⟨b, k, none⟩ = some (.int .i64 (((vks o).getD k 0 : Nat) : Int)) := by
  have h4 : k = 0 ∨ k = 1 ∨ k = 2 ∨ k = 3 := by omega
  rcases h4 with rfl | rfl | rfl | rfl
  · exact h.2 0 (by show 0 < 11; omega)
  · exact h.2 1 (by show 1 < 11; omega)
  · exact h.2 2 (by show 2 < 11; omega)
  · exact h.2 3 (by show 3 < 11; omega)
set_option maxRecDepth 100000 in
set_option maxHeartbeats 4000000 in
theorem RLess_ref (m m' : Nat) (o o' : Opt) (w : World) : Calls Tryd.prog 28 #[.agg (stV m o).toArray, .agg (stV m' o').toArray] w fun e w' => e = .returned (.bool (lessV o o')) ∧ Below w.heap.size w w' := by
  have HX : Hid (CellsAt ((w.alloc (.cells (stV m o).toArray 55)).alloc (.cells (stV m' o').toArray 55)) w.heap.size (stV m o)) := (CellsAt.new w (stV m o).toArray _ _ rfl).below (bwA _ _)
  have HY : Hid (CellsAt ((w.alloc (.cells (stV m o).toArray 55)).alloc (.cells (stV m' o').toArray 55)) (w.heap.size + 1) (stV m' o')) := CellsAt.new _ (stV m' o').toArray _ _ (by simp)
  have HB : Hid (Abv w ((w.alloc (.cells (stV m o).toArray 55)).alloc (.cells (stV m' o').toArray 55))) := bwAlloc (bwA _ _) _
  have HXY : Hid (∀ W, Abv ((w.alloc (.cells (stV m o).toArray 55)).alloc (.cells (stV m' o').toArray 55)) W → ∀ k, k < 4 → W.cell? ⟨w.heap.size, k, none⟩ = some (.int .i64 (((vks o).getD k 0 : Nat) : Int)) ∧ W.cell? ⟨w.heap.size + 1, k, none⟩ = some (.int .i64 (((vks o').getD k 0 : Nat) : Int))) :=
    fun W hW k hk => ⟨vks_cell (HX.out.below hW) hk, vks_cell (HY.out.below hW) hk⟩
  have HLA : Hid (∀ k, k < 4 → (∀ j, j < k → (vks o).getD j 0 = (vks o').getD j 0) → (vks o).getD k 0 ≠ (vks o').getD k 0 → lessV o o' = decide ((vks o).getD k 0 < (vks o').getD k 0)) := fun k hk h1 h2 => lessV_at hk h1 h2
  have HLE : Hid ((∀ j, j < 4 → (vks o).getD j 0 = (vks o').getD j 0) → lessV o o' = false) := lessV_eq
  clear HX HY
  obtain ⟨xs, hxs⟩ : ∃ xs : Nat → Nat, xs = fun k => (vks o).getD k 0 := ⟨_, rfl⟩
  obtain ⟨ys, hys⟩ : ∃ ys : Nat → Nat, ys = fun k => (vks o').getD k 0 := ⟨_, rfl⟩
  have HXY2 : Hid (∀ W, Abv ((w.alloc (.cells (stV m o).toArray 55)).alloc (.cells (stV m' o').toArray 55)) W → ∀ k, k < 4 → W.cell? ⟨w.heap.size, k, none⟩ = some (.int .i64 ((xs k : Nat) : Int)) ∧ W.cell? ⟨w.heap.size + 1, k, none⟩ = some (.int .i64 ((ys k : Nat) : Int))) := by rw [hxs, hys]; exact HXY
  have HLA2 : Hid (∀ k, k < 4 → (∀ j, j < k → xs j = ys j) → xs k ≠ ys k → lessV o o' = decide (xs k < ys k)) := by rw [hxs, hys]; exact HLA
  have HLE2 : Hid ((∀ j, j < 4 → xs j = ys j) → lessV o o' = false) := by rw [hxs, hys]; exact HLE
  clear HXY HLA HLE hxs hys
  generalize lessV o o' = LV at *
  generalize stV m o = va at *
  generalize stV m' o' = vb at *
  go_enter Tryd.func28, Tryd.ntmps28
  go_wp2
  generalize ((w.alloc (.cells va.toArray 55)).alloc (.cells vb.toArray 55)) = W0 at *
  generalize w.heap.size = X at *
  go_loopw [5] (fun iv wr => ∃ k : Nat, k ≤ 4 ∧ iv = .int .i64 k ∧ Hid (Abv W0 wr) ∧ Hid (∀ j, j < k → xs j = ys j)) (fun iv _ => 4 - (intOf iv).toNat)
  case atStart => exact ⟨0, by omega, rfl, Below.refl _ _, fun j hj => by omega⟩
  case round =>
    obtain ⟨k, hk, rfl, hW, hJ⟩ := hrel
    by_cases hlt : k < 4
    · obtain ⟨x, hx⟩ : ∃ x, x = xs k := ⟨_, rfl⟩
      obtain ⟨y, hy⟩ : ∃ y, y = ys k := ⟨_, rfl⟩
      have hk4 : (k : Int) < 4 := by omega
      have CF : Hid (∀ W, Abv wr W → W.cell? ⟨X, k, none⟩ = some (.int .i64 (x : Int)) ∧ W.cell? ⟨X + 1, k, none⟩ = some (.int .i64 (y : Int))) := by
        show ∀ W, _
        intro W hW2
        rw [hx, hy]
        exact HXY2.out W (bwStep hW.out hW2) k hlt
      have HWD : Hid (Abv W0 wr.drew) := bwDrew hW.out
      have HXX := Lib.hid hx
      have HYY := Lib.hid hy
      clear hx hy
      go_wp2_with fail
      refine wp_region_W (S := Abv wr) [(false, 0), (false, 1), (false, 2), (false, 3), (false, 4), (false, 5), (false, 6), (false, 7), (false, 8)] (by kernel_rfl) (by kernel_rfl) (bwDrew (Below.refl _ _)) ?_
      simp only [attachW, List.getElem?_cons_zero, List.getElem?_cons_succ]
      repeat
        refine' wpHX_val rfl (fun W hW => ?_) ?_
        rotate_left
        · have hcf := CF.out W hW; go_simp; rfl
        simp only [Act.put, List.setIfInBounds_toArray, List.set_cons_zero, List.set_cons_succ]
      refine wpHX_nil ?_
      have CF2 : Hid (∀ W, Abv wr.drew W → W.cell? ⟨X, k, none⟩ = some (.int .i64 (x : Int)) ∧ W.cell? ⟨X + 1, k, none⟩ = some (.int .i64 (y : Int))) := fun W hW2 => CF.out W (bwStep (bwDrew (Below.refl _ _)) hW2)
      clear CF
      generalize wr.drew = w5 at *
      by_cases hxy : x = y
      · have d1 : ((x : Int) != (y : Int)) = false := by rw [hxy]; simp
        have HJ2 : Hid (∀ j, j < k + 1 → xs j = ys j) := by
          show ∀ j, _
          intro j hj
          by_cases e : j = k
          · rw [e, ← HXX.out, ← HYY.out]; exact hxy
          · exact hJ.out j (by omega)
        clear hxy CF2
        go_wp2_with fail
        exact ⟨⟨k + 1, by omega, by go_num, HWD.out, HJ2.out⟩, by simp [intOf]; omega⟩
      · have d1 : ((x : Int) != (y : Int)) = true := by simp; omega
        have HR : Hid (LV = decide (x < y)) := by
          show _ = _
          rw [HLA2.out k hlt hJ.out (by rw [← HXX.out, ← HYY.out]; exact hxy), ← HXX.out, ← HYY.out]
        clear hxy
        go_wp2_with fail
        refine wp_region_W (S := Abv w5) [(false, 0), (false, 1), (false, 2), (false, 3), (false, 4), (false, 5), (false, 6), (false, 7), (false, 8), (false, 9)] (by kernel_rfl) (by kernel_rfl) (bwDrew (Below.refl _ _)) ?_
        simp only [attachW, List.getElem?_cons_zero, List.getElem?_cons_succ]
        repeat
          refine' wpHX_val rfl (fun W hW => ?_) ?_
          rotate_left
          · have hcf := CF2.out W hW; go_simp; rfl
          simp only [Act.put, List.setIfInBounds_toArray, List.set_cons_zero, List.set_cons_succ]
        refine wpHX_nil ?_
        go_wp2_with fail
        go_ret
        exact ⟨by rw [HR.out]; rfl, HB.out.trans ((bwDrew HWD.out).mono HB.out.size)⟩
    · have hk4 : k = 4 := by omega
      have HR : Hid (LV = false) := HLE2.out (by rw [← hk4]; exact hJ.out)
      clear hJ
      subst hk4
      go_wp2_with fail
      go_ret
      exact ⟨by rw [HR.out]; rfl, HB.out.trans (hW.out.mono HB.out.size)⟩
end Go.Proofs.YtplppbfnlfehnaaDoor
namespace Go.Proofs.YtplppbfnlfehnaaDoor
open Go.RowKit Go.WideMaps Go.Maps
set_option linter.unusedVariables false
/-! the step that the reference takes: plain facts -/
theorem lessV_iff (a b : Opt) : lessV a b = true ↔ (a.num < b.num ∨ (a.num = b.num ∧ (a.v1 < b.v1 ∨ (a.v1 = b.v1 ∧ a.v2 < b.v2)))) := by
  unfold lessV
  split
  · rw [decide_eq_true_eq]; omega
  · split
    · rw [decide_eq_true_eq]; omega
    · split
      · rw [decide_eq_true_eq]; omega
      · constructor
        · intro h; cases h
        · intro h; omega
theorem lessV_num {a b : Opt} (h : a.num < b.num) : lessV a b = true := (lessV_iff a b).2 (.inl h)
theorem lessV_v1 {a b : Opt} (e : a.num = b.num) (h : a.v1 < b.v1) : lessV a b = true := (lessV_iff a b).2 (.inr ⟨e, .inl h⟩)
theorem lessV_v2 {a b : Opt} (e : a.num = b.num) (e1 : a.v1 = b.v1) (h : a.v2 < b.v2) : lessV a b = true := (lessV_iff a b).2 (.inr ⟨e, .inr ⟨e1, h⟩⟩)
theorem lessV_trans {a b c : Opt} (h1 : lessV a b = true) (h2 : lessV b c = true) : lessV a c = true := by
  rw [lessV_iff] at h1 h2 ⊢
  omega
theorem lessV_self (a : Opt) : lessV a a = false := by
  rw [← Bool.not_eq_true, lessV_iff]; omega
theorem v1_run {o : Opt} (h : o.run ≠ 0) : o.v1 = if o.long = true then 0 else o.run := by unfold Opt.v1; rw [if_neg h]
theorem v2_run {o : Opt} (h : o.run ≠ 0) : o.v2 = if o.long = true then o.run - 31 else 0 := by unfold Opt.v2; rw [if_neg h]
theorem step_least {p : ByteArray} {C : Nat → Nat → Nat} (hp : p.size ≤ 4096) (h : Cost p C) {a m : Nat} (ha : a < p.size) (hm : m < 5) {o0 o : Opt} (h0 : stepF C p a m = some o0) (ho : Atom p a m o) (ht : o.tot C = C a m) :
    o0 = o ∨ lessV o0 o = true := by
  unfold stepF at h0
  have hq0 := List.find?_some h0
  obtain ⟨n, hn, hf, hbe⟩ := find_optK 32 h0
  have hm0 := List.mem_of_find?_eq_some hf
  have hn0 := optN_num ha hm0
  obtain ⟨o2, g1, g2, g3⟩ := ho.opt (C := C) ha
  have hq2 : (o2.tot C == C a m) = true := by
    have h1 := (h.fix a ha).1 m hm o2 (mem_optK g1 32 ho.num_lt)
    rw [beq_iff_eq]; omega
  have hle : n ≤ o.num := by
    rcases Nat.lt_or_ge o.num n with h1 | h1
    · have h2 : (o2.tot C == C a m) = false := hbe o.num h1 o2 g1
      rw [hq2] at h2; cases h2
    · exact h1
  rcases Nat.eq_or_lt_of_le hle with he | hlt
  · have hn1 : o0.num = o.num := by omega
    rw [he] at hf hm0
    have hA0 := optN_atom ha ho.num_lt hm0
    cases ho with
    | chars n1 hn1' hk hpr =>
      replace hm0 : o0 ∈ optN C p a m n1 := hm0
      replace hf : (optN C p a m n1).find? (fun o => o.tot C == C a m) = some o0 := hf
      left
      unfold optN at hm0
      rw [if_pos hk, if_pos hpr] at hm0
      exact List.mem_singleton.1 hm0
    | latch n1 hn1' hk =>
      replace hm0 : o0 ∈ optN C p a m n1 := hm0
      replace hf : (optN C p a m n1).find? (fun o => o.tot C == C a m) = some o0 := hf
      left
      unfold optN at hm0
      rw [if_neg (by omega), if_pos hk] at hm0
      exact List.mem_singleton.1 hm0
    | shift n1 s hn1' hk hs hk2 hpr =>
      replace hm0 : o0 ∈ optN C p a m n1 := hm0
      replace hf : (optN C p a m n1).find? (fun o => o.tot C == C a m) = some o0 := hf
      unfold optN at hf
      rw [if_neg (by omega), if_neg (by omega), if_pos hk] at hf
      obtain ⟨s0, h1, h2, h3⟩ := find_optSK 32 hf
      have h4 := List.mem_of_find?_eq_some h2
      have hos : (⟨n1, (s : Int), 0, false, widthN m + widthN (modeF m n1), a + (charF (modeF m n1) s).size, m⟩ : Opt) ∈ optS p a m n1 (modeF m n1) s := by
        unfold optS
        rw [if_pos ⟨hk2, hpr⟩]; exact List.mem_singleton.2 rfl
      have hs0 : s0 ≤ s := by
        rcases Nat.lt_or_ge s s0 with h5 | h5
        · have h6 := h3 s h5 _ hos
          rw [beq_eq_false_iff_ne] at h6
          exact absurd ht h6
        · exact h5
      have e0 : o0 = ⟨n1, (s0 : Int), 0, false, widthN m + widthN (modeF m n1), a + (charF (modeF m n1) s0).size, m⟩ := by
        unfold optS at h4
        split at h4
        · exact List.mem_singleton.1 h4
        · cases h4
      rcases Nat.eq_or_lt_of_le hs0 with h5 | h5
      · left; rw [e0, h5]
      · right
        rw [e0]
        exact lessV_v1 rfl (by show (if (0 : Nat) = 0 then (s0 : Int).toNat else _) < (if (0 : Nat) = 0 then (s : Int).toNat else _); rw [if_pos rfl, if_pos rfl, Int.toNat_natCast, Int.toNat_natCast]; exact h5)
    | short n1 j hn1' hk h1 h2 h3 =>
      replace hm0 : o0 ∈ optN C p a m n1 := hm0
      replace hf : (optN C p a m n1).find? (fun o => o.tot C == C a m) = some o0 := hf
      have e0 : o0 = binOpt C n1 a m (p.size - a) := by
        unfold optN at hm0
        rw [if_neg (by omega), if_neg (by omega), if_neg (by omega), if_pos hk] at hm0
        exact List.mem_singleton.1 hm0
      obtain ⟨b1, b2⟩ := binOpt_good (C := C) (num := n1) (m := m) ha
      rw [← e0] at b1 b2
      have ht0 : o0.tot C = (shortO n1 a m j).tot C := by
        have : o0.tot C = C a m := by simpa using hq0
        rw [this]; exact ht.symm
      have hfi := (bShort_first (C := C) (num := n1) (a := a) (m := m) (K := min (p.size - a) 2078 - 30) (min (p.size - a) 31)).2.1 j h1 (by omega) (by show _ = (binOpt C n1 a m (p.size - a)).tot C; rw [← e0]; exact ht0.symm)
      have hfi' : o0.long = true ∨ o0.run ≤ j := by rw [e0]; exact hfi
      rcases b1 with b1 | ⟨e, b3, b4, b5⟩
      · exact absurd b1 b2
      cases hlg : o0.long with
      | true =>
        right
        rw [hlg] at e
        rw [e]
        exact lessV_v1 rfl (by rw [v1_run (by show o0.run ≠ 0; omega), v1_run (by show j ≠ 0; omega)]; show 0 < j; omega)
      | false =>
        have hr : o0.run ≤ j := by
          rcases hfi' with h | h
          · rw [hlg] at h; cases h
          · exact h
        rw [hlg] at e
        rcases Nat.eq_or_lt_of_le hr with h5 | h5
        · left; rw [e, h5]; rfl
        · right
          rw [e]
          exact lessV_v1 rfl (by rw [v1_run (by show o0.run ≠ 0; omega), v1_run (by show j ≠ 0; omega)]; exact h5)
    | long n1 j hn1' hk h1 h2 h3 =>
      replace hm0 : o0 ∈ optN C p a m n1 := hm0
      replace hf : (optN C p a m n1).find? (fun o => o.tot C == C a m) = some o0 := hf
      have e0 : o0 = binOpt C n1 a m (p.size - a) := by
        unfold optN at hm0
        rw [if_neg (by omega), if_neg (by omega), if_neg (by omega), if_pos hk] at hm0
        exact List.mem_singleton.1 hm0
      obtain ⟨b1, b2⟩ := binOpt_good (C := C) (num := n1) (m := m) ha
      rw [← e0] at b1 b2
      have ht0 : o0.tot C = (longO n1 a m j).tot C := by
        have : o0.tot C = C a m := by simpa using hq0
        rw [this]; exact ht.symm
      have hfi := (bShort_first (C := C) (num := n1) (a := a) (m := m) (K := min (p.size - a) 2078 - 30) (min (p.size - a) 31)).1 (j - 31) (by omega) (by show _ = (binOpt C n1 a m (p.size - a)).tot C; rw [← e0, show 31 + (j - 31) = j from by omega]; exact ht0.symm)
      have hfi' : o0.long = true ∧ o0.run ≤ j := by
        rw [e0]; exact ⟨hfi.1, by have := hfi.2; unfold binOpt; omega⟩
      rcases b1 with b1 | ⟨e, b3, b4, b5⟩
      · exact absurd b1 b2
      have hlg := hfi'.1
      have b6 := b5 hlg
      rw [hlg] at e
      rcases Nat.eq_or_lt_of_le hfi'.2 with h5 | h5
      · left; rw [e, h5]; rfl
      · right
        rw [e]
        exact lessV_v2 rfl (by rw [v1_run (by show o0.run ≠ 0; omega), v1_run (by show j ≠ 0; omega)]; rfl) (by rw [v2_run (by show o0.run ≠ 0; omega), v2_run (by show j ≠ 0; omega)]; show o0.run - 31 < j - 31; omega)
  · right
    exact lessV_num (by omega)
/-- the best of the steps so far -/
def BestI (C : Nat → Nat → Nat) (L : List Opt) (x k : Nat) (fd : Bool) (ob : Opt) : Prop :=
  (fd = false → ∀ j, j < k → ∀ o, L[j]? = some o → o.tot C ≠ x) ∧ (fd = true → ob ∈ L ∧ ob.tot C = x ∧ ∀ j, j < k → ∀ o, L[j]? = some o → o.tot C = x → lessV o ob = false)
section
variable {C : Nat → Nat → Nat} {L : List Opt} {x k : Nat} {fd : Bool} {ob o : Opt}
theorem BestI.start (ob : Opt) : BestI C L x 0 false ob := ⟨fun _ j h => by omega, fun h => by cases h⟩
theorem BestI.skip (h : BestI C L x k fd ob) (ho : L[k]? = some o) (hx : o.tot C ≠ x) : BestI C L x (k + 1) fd ob := by
  refine ⟨fun e j hj o' ho' => ?_, fun e => ?_⟩
  · rcases Nat.lt_or_ge j k with h1 | h1
    · exact h.1 e j h1 o' ho'
    · obtain rfl : j = k := by omega
      rw [ho] at ho'
      rw [← Option.some.inj ho']; exact hx
  · obtain ⟨h1, h2, h3⟩ := h.2 e
    refine ⟨h1, h2, fun j hj o' ho' hx' => ?_⟩
    rcases Nat.lt_or_ge j k with h4 | h4
    · exact h3 j h4 o' ho' hx'
    · obtain rfl : j = k := by omega
      rw [ho] at ho'
      rw [← Option.some.inj ho'] at hx'
      exact absurd hx' hx
theorem BestI.first (h : BestI C L x k false ob) (ho : L[k]? = some o) (hx : o.tot C = x) : BestI C L x (k + 1) true o := by
  refine ⟨fun e => (by cases e), fun _ => ⟨List.mem_of_getElem? ho, hx, fun j hj o' ho' hx' => ?_⟩⟩
  rcases Nat.lt_or_ge j k with h4 | h4
  · exact absurd hx' (h.1 rfl j h4 o' ho')
  · obtain rfl : j = k := by omega
    rw [ho] at ho'
    rw [← Option.some.inj ho']; exact lessV_self _
theorem BestI.keep (h : BestI C L x k true ob) (ho : L[k]? = some o) (hl : lessV o ob = false) : BestI C L x (k + 1) true ob := by
  obtain ⟨h1, h2, h3⟩ := h.2 rfl
  refine ⟨fun e => (by cases e), fun _ => ⟨h1, h2, fun j hj o' ho' hx' => ?_⟩⟩
  rcases Nat.lt_or_ge j k with h4 | h4
  · exact h3 j h4 o' ho' hx'
  · obtain rfl : j = k := by omega
    rw [ho] at ho'
    rw [← Option.some.inj ho']; exact hl
theorem BestI.take (h : BestI C L x k true ob) (ho : L[k]? = some o) (hx : o.tot C = x) (hl : lessV o ob = true) : BestI C L x (k + 1) true o := by
  obtain ⟨h1, h2, h3⟩ := h.2 rfl
  refine ⟨fun e => (by cases e), fun _ => ⟨List.mem_of_getElem? ho, hx, fun j hj o' ho' hx' => ?_⟩⟩
  rcases Nat.lt_or_ge j k with h4 | h4
  · have h5 := h3 j h4 o' ho' hx'
    rw [← Bool.not_eq_true] at h5 ⊢
    exact fun e => h5 (lessV_trans e hl)
  · obtain rfl : j = k := by omega
    rw [ho] at ho'
    rw [← Option.some.inj ho']; exact lessV_self _
end
/-- the reference's best step is the search's -/
theorem BestI.is {p : ByteArray} {C : Nat → Nat → Nat} (hp : p.size ≤ 4096) (h : Cost p C) {a m : Nat} (ha : a < p.size) (hm : m < 5) {o0 : Opt} (h0 : stepF C p a m = some o0) {fd : Bool} {ob : Opt} (hB : BestI C (stepsL p a m) (C a m) (stepsL p a m).length fd ob) : fd = true ∧ ob = o0 := by
  obtain ⟨o, e, hA, ht, _⟩ := h.stepA hp a m ha hm
  obtain rfl : o = o0 := by rw [h0] at e; exact (Option.some.inj e).symm
  have hmem : o ∈ stepsL p a m := by
    rcases hA.mem hm ha with h1 | ⟨o', h1, h2, h3, h4⟩
    · exact h1
    · have h5 := (h.ac hp).le a m ha hm o' (stepsL_atom ha h1)
      unfold Opt.tot at h5 ht
      rw [h3, h4] at h5
      omega
  obtain ⟨j, hj, ej⟩ := List.getElem_of_mem hmem
  have hjo : (stepsL p a m)[j]? = some o := by rw [List.getElem?_eq_getElem hj, ej]
  cases fd with
  | false => exact absurd ht (hB.1 rfl j hj o hjo)
  | true =>
    obtain ⟨h1, h2, h3⟩ := hB.2 rfl
    refine ⟨rfl, ?_⟩
    rcases step_least hp h ha hm h0 (stepsL_atom ha h1) h2 with h4 | h4
    · exact h4.symm
    · rw [h3 j hj o hjo ht] at h4; cases h4
/-- a step's bits -/
theorem Atom.run31 {p : ByteArray} {a m : Nat} {o : Opt} (hm : m < 5) (h : Atom p a m o) : (o.num = 31 ∧ m ≤ 2) ↔ o.run ≠ 0 := by
  have e : ∀ n, kindF m n ≠ 4 → ¬ (n = 31 ∧ m ≤ 2) := fun n hk h => by
    obtain ⟨e, h2⟩ := h
    subst e
    exact hk (kind31 m (by omega)).1
  cases h with
  | chars n hn hk hp => exact ⟨fun h => absurd h (e n (by omega)), fun h => absurd rfl h⟩
  | latch n hn hk => exact ⟨fun h => absurd h (e n (by omega)), fun h => absurd rfl h⟩
  | shift n s hn hk hs hk2 hp => exact ⟨fun h => absurd h (e n (by omega)), fun h => absurd rfl h⟩
  | short n j hn hk h1 h2 h3 => exact ⟨fun _ => by show j ≠ 0; omega, fun _ => kind4_31 m hm n hn hk⟩
  | long n j hn hk h1 h2 h3 => exact ⟨fun _ => by show j ≠ 0; omega, fun _ => kind4_31 m hm n hn hk⟩
theorem Atom.at_run {p : ByteArray} {a m : Nat} {o : Opt} (h : Atom p a m o) (hr : o.run ≠ 0) : o.at_ = a + o.run := by
  cases h with
  | chars n hn hk hp => exact absurd rfl hr
  | latch n hn hk => exact absurd rfl hr
  | shift n s hn hk hs hk2 hp => exact absurd rfl hr
  | short n j hn hk h1 h2 h3 => rfl
  | long n j hn hk h1 h2 h3 => rfl
theorem lowB_zero (v : Nat) : lowB v 0 = [] := rfl
theorem Atom.bits {p : ByteArray} {a m : Nat} {o : Opt} (h : Atom p a m o) : optBits p a m o = ((lowB o.num (widthN m) ++ lowB o.v1 o.w1) ++ lowB o.v2 o.w2) ++ (if o.run ≠ 0 then byF p a o.run else []) := by
  cases h with
  | chars n hn hk hp => simp [optBits, runB, Opt.v1, Opt.v2, Opt.w1, Opt.w2, lowB_zero]
  | latch n hn hk => simp [optBits, runB, Opt.v1, Opt.v2, Opt.w1, Opt.w2, lowB_zero]
  | shift n s hn hk hs hk2 hp => simp [optBits, runB, Opt.v1, Opt.v2, Opt.w1, Opt.w2, lowB_zero]
  | short n j hn hk h1 h2 h3 => simp [optBits, runB, Opt.v1, Opt.v2, Opt.w1, Opt.w2, lowB_zero, show j ≠ 0 by omega, show 0 < j by omega]
  | long n j hn hk h1 h2 h3 => simp [optBits, runB, Opt.v1, Opt.v2, Opt.w1, Opt.w2, show j ≠ 0 by omega, show 0 < j by omega]
theorem Opt.w_le (o : Opt) : o.w1 ≤ 5 ∧ o.w2 ≤ 11 := by
  unfold Opt.w1 Opt.w2
  constructor
  · split
    · split <;> omega
    · omega
  · split
    · omega
    · split <;> omega
theorem Atom.vb {p : ByteArray} {a m : Nat} {o : Opt} (h : Atom p a m o) : o.num < 32 ∧ o.v1 ≤ 32 ∧ o.v2 ≤ 4096 := by
  cases h with
  | chars n hn hk hp => exact ⟨hn, Nat.zero_le _, Nat.zero_le _⟩
  | latch n hn hk => exact ⟨hn, Nat.zero_le _, Nat.zero_le _⟩
  | shift n s hn hk hs hk2 hp => exact ⟨hn, by show s ≤ 32; omega, Nat.zero_le _⟩
  | short n j hn hk h1 h2 h3 =>
    refine ⟨hn, ?_, ?_⟩
    · rw [v1_run (by show j ≠ 0; omega)]; show j ≤ 32; omega
    · rw [v2_run (by show j ≠ 0; omega)]; exact Nat.zero_le _
  | long n j hn hk h1 h2 h3 =>
    refine ⟨hn, ?_, ?_⟩
    · rw [v1_run (by show j ≠ 0; omega)]; exact Nat.zero_le _
    · rw [v2_run (by show j ≠ 0; omega)]; show j - 31 ≤ 4096; omega
end Go.Proofs.YtplppbfnlfehnaaDoor
