import Derived.Test.YtplppbfnlfehnaaDoorAztPE
namespace Go.Proofs.YtplppbfnlfehnaaDoor
open Go.RowKit Go.WideMaps Go.Maps
set_option linter.unusedVariables false
/-! no shorter bit string, and none of the same length that comes before: plain facts -/
/-! the best run is the first of the best -/
abbrev longO (num a m j : Nat) : Opt := ⟨num, -1, j, true, widthN m + 16 + 8 * j, a + j, m⟩
abbrev shortO (num a m j : Nat) : Opt := ⟨num, -1, j, false, widthN m + 5 + 8 * j, a + j, m⟩
section
variable {C : Nat → Nat → Nat} {num a m K : Nat}
theorem tryO_or {best : Opt} {n sz : Nat} {lg : Bool} : (tryO C num a m best n sz lg = ⟨num, -1, n, lg, sz + 8 * n, a + n, m⟩ ∧ (best.run = 0 ∨ Opt.tot C ⟨num, -1, n, lg, sz + 8 * n, a + n, m⟩ < best.tot C)) ∨ (tryO C num a m best n sz lg = best ∧ best.run ≠ 0 ∧ best.tot C ≤ Opt.tot C ⟨num, -1, n, lg, sz + 8 * n, a + n, m⟩) := by
  unfold tryO
  split
  · exact .inl ⟨rfl, by assumption⟩
  · rename_i h
    exact .inr ⟨rfl, fun e => h (.inl e), by
      rcases Nat.lt_or_ge (Opt.tot C ⟨num, -1, n, lg, sz + 8 * n, a + n, m⟩) (best.tot C) with h1 | h1
      · exact absurd (.inr h1) h
      · exact h1⟩
theorem bLong_first : ∀ k, 1 ≤ k → (bLong C num a m k).long = true ∧ (bLong C num a m k).run < 31 + k ∧ 0 < (bLong C num a m k).run ∧ ∀ j, j < k → (longO num a m (31 + j)).tot C = (bLong C num a m k).tot C → (bLong C num a m k).run ≤ 31 + j
  | 0, h => by omega
  | k + 1, _ => by
    rcases tryO_or (C := C) (num := num) (a := a) (m := m) (best := bLong C num a m k) (n := 31 + k) (sz := widthN m + 16) (lg := true) with ⟨e, h⟩ | ⟨e, h1, h2⟩
    · have e' : bLong C num a m (k + 1) = longO num a m (31 + k) := e
      rw [e']
      refine ⟨rfl, by show 31 + k < 31 + (k + 1); omega, by show 0 < 31 + k; omega, fun j hj ht => ?_⟩
      by_cases hjk : j = k
      · subst hjk; exact Nat.le_refl _
      · exfalso
        have h3 := bLong_le (C := C) (num := num) (at_ := a) (m := m) k (31 + j) (by omega) (by omega)
        have h4 : (bLong C num a m k).run ≠ 0 := by have := (bLong_first k (by omega)).2.2.1; omega
        rcases h with h | h
        · exact h4 h
        · have h5 : (longO num a m (31 + k)).tot C < (bLong C num a m k).tot C := h
          have h6 : (bLong C num a m k).tot C ≤ (longO num a m (31 + j)).tot C := h3
          omega
    · have e' : bLong C num a m (k + 1) = bLong C num a m k := e
      rw [e']
      have hk : 1 ≤ k := by
        cases k with
        | zero => exact absurd rfl h1
        | succ k => omega
      obtain ⟨i1, i2, i3, i4⟩ := bLong_first k hk
      refine ⟨i1, by omega, i3, fun j hj ht => ?_⟩
      by_cases hjk : j = k
      · omega
      · exact i4 j (by omega) ht
theorem bShort_run0 : ∀ k, 1 ≤ k ∨ 1 ≤ K → (bShort C num a m K k).run ≠ 0
  | 0, h => by
    have := (bLong_first (C := C) (num := num) (a := a) (m := m) K (by omega)).2.2.1
    show (bLong C num a m K).run ≠ 0
    omega
  | k + 1, _ => tryO_run0 (by omega)
theorem bShort_first : ∀ k, (∀ j, j < K → (longO num a m (31 + j)).tot C = (bShort C num a m K k).tot C → (bShort C num a m K k).long = true ∧ (bShort C num a m K k).run ≤ 31 + j) ∧
    (∀ j, 1 ≤ j → j ≤ k → (shortO num a m j).tot C = (bShort C num a m K k).tot C → (bShort C num a m K k).long = true ∨ (bShort C num a m K k).run ≤ j) ∧ ((bShort C num a m K k).long = true ∨ (bShort C num a m K k).run ≤ k)
  | 0 => by
    refine ⟨fun j hj ht => ?_, fun j h1 h2 => by omega, ?_⟩
    · have h := bLong_first (C := C) (num := num) (a := a) (m := m) K (by omega)
      exact ⟨h.1, h.2.2.2 j hj ht⟩
    · by_cases hK : 1 ≤ K
      · exact .inl (bLong_first K hK).1
      · have : K = 0 := by omega
        subst this
        exact .inr (Nat.le_refl _)
  | k + 1 => by
    obtain ⟨i1, i2, i3⟩ := bShort_first k
    rcases tryO_or (C := C) (num := num) (a := a) (m := m) (best := bShort C num a m K k) (n := 1 + k) (sz := widthN m + 5) (lg := false) with ⟨e, h⟩ | ⟨e, h1, h2⟩
    · have e' : bShort C num a m K (k + 1) = shortO num a m (1 + k) := e
      rw [e']
      refine ⟨fun j hj ht => ?_, fun j h1 h2 ht => ?_, .inr (by show 1 + k ≤ k + 1; omega)⟩
      · exfalso
        have h4 := bShort_run0 (C := C) (num := num) (a := a) (m := m) (K := K) k (by omega)
        rcases h with h | h
        · exact h4 h
        · have h5 : (shortO num a m (1 + k)).tot C < (bShort C num a m K k).tot C := h
          have h6 := (bShort_le2 (C := C) (num := num) (at_ := a) (m := m) (K := K) (by omega) k).1
          have h7 : (bLong C num a m K).tot C ≤ (longO num a m (31 + j)).tot C := bLong_le K (31 + j) (by omega) (by omega)
          omega
      · by_cases hjk : j = k + 1
        · exact .inr (by show 1 + k ≤ j; omega)
        · exfalso
          have h4 := bShort_run0 (C := C) (num := num) (a := a) (m := m) (K := K) k (by omega)
          rcases h with h | h
          · exact h4 h
          · have h5 : (shortO num a m (1 + k)).tot C < (bShort C num a m K k).tot C := h
            have h6 : (bShort C num a m K k).tot C ≤ (shortO num a m j).tot C := bShort_le k j h1 (by omega)
            omega
    · have e' : bShort C num a m K (k + 1) = bShort C num a m K k := e
      rw [e']
      refine ⟨i1, fun j h3 h4 ht => ?_, ?_⟩
      · by_cases hjk : j = k + 1
        · rcases i3 with i3 | i3
          · exact .inl i3
          · exact .inr (by omega)
        · exact i2 j h3 (by omega) ht
      · rcases i3 with i3 | i3
        · exact .inl i3
        · exact .inr (by omega)
end
/-! bits that come before others -/
def Bef (x y : List Bool) : Prop := ∃ i, i < x.length ∧ i < y.length ∧ (∀ j, j < i → x.getD j false = y.getD j false) ∧ x.getD i false = false ∧ y.getD i false = true
theorem getD_left {x r : List Bool} {i : Nat} (h : i < x.length) : (x ++ r).getD i false = x.getD i false := by simp only [List.getD, List.getElem?_append_left h]
theorem getD_right {x r : List Bool} {i : Nat} : (x ++ r).getD (x.length + i) false = r.getD i false := by
  simp only [List.getD]
  rw [List.getElem?_append_right (by omega), Nat.add_sub_cancel_left]
theorem Bef.app {x y : List Bool} (h : Bef x y) (r r' : List Bool) : Bef (x ++ r) (y ++ r') := by
  obtain ⟨i, h1, h2, h3, h4, h5⟩ := h
  refine ⟨i, by rw [List.length_append]; omega, by rw [List.length_append]; omega, fun j hj => ?_, ?_, ?_⟩
  · rw [getD_left (by omega), getD_left (by omega)]; exact h3 j hj
  · rw [getD_left h1]; exact h4
  · rw [getD_left h2]; exact h5
theorem Bef.pre {x y : List Bool} (h : Bef x y) (z : List Bool) : Bef (z ++ x) (z ++ y) := by
  obtain ⟨i, h1, h2, h3, h4, h5⟩ := h
  refine ⟨z.length + i, by rw [List.length_append]; omega, by rw [List.length_append]; omega, fun j hj => ?_, ?_, ?_⟩
  · by_cases hjz : j < z.length
    · rw [getD_left hjz, getD_left hjz]
    · obtain ⟨q, rfl⟩ : ∃ q, j = z.length + q := ⟨j - z.length, by omega⟩
      rw [getD_right, getD_right]; exact h3 q (by omega)
  · rw [getD_right]; exact h4
  · rw [getD_right]; exact h5
theorem lowB_bef : ∀ (j u v : Nat), u < v → v < 2 ^ j → Bef (lowB u j) (lowB v j)
  | 0, u, v, h, h2 => by have : v < 1 := by simpa using h2
                         omega
  | j + 1, u, v, h, h2 => by
    have eu : u = 2 * (u / 2) + u % 2 := by omega
    have ev : v = 2 * (v / 2) + v % 2 := by omega
    have lu := lowB_step (u / 2) (u % 2) j (by omega)
    have lv := lowB_step (v / 2) (v % 2) j (by omega)
    rw [← eu] at lu
    rw [← ev] at lv
    rw [lu, lv]
    rw [Nat.pow_succ] at h2
    by_cases hq : u / 2 < v / 2
    · exact (lowB_bef j _ _ hq (by omega)).app _ _
    · have e1 : u / 2 = v / 2 := by omega
      have e2 : u % 2 = 0 := by omega
      have e3 : v % 2 = 1 := by omega
      rw [e1, e2, e3]
      refine Bef.pre ?_ _
      exact ⟨0, by simp, by simp, fun j hj => by omega, rfl, rfl⟩
def LexOK (c b : List Bool) : Prop := ∀ i, i < c.length → (∀ j, j < i → c.getD j false = b.getD j false) → c.getD i false ≠ b.getD i false → b.getD i false = true
theorem LexOK.nil_ (b : List Bool) : LexOK [] b := fun i h => by simp at h
theorem Bef.lex {x y : List Bool} (h : Bef x y) : LexOK x y := by
  obtain ⟨i0, h1, h2, h3, h4, h5⟩ := h
  intro i hi ha hne
  rcases Nat.lt_trichotomy i i0 with h6 | h6 | h6
  · exact absurd (h3 i h6) hne
  · subst h6; exact h5
  · have := ha i0 h6
    rw [h4, h5] at this; cases this
theorem LexOK.pre {c b : List Bool} (h : LexOK c b) (x : List Bool) : LexOK (x ++ c) (x ++ b) := by
  intro i hi ha hne
  by_cases hx : i < x.length
  · rw [getD_left hx, getD_left hx] at hne; exact absurd rfl hne
  · obtain ⟨q, rfl⟩ : ∃ q, i = x.length + q := ⟨i - x.length, by omega⟩
    rw [List.length_append] at hi
    rw [getD_right, getD_right] at hne
    rw [getD_right]
    refine h q (by omega) (fun j hj => ?_) hne
    have := ha (x.length + j) (by omega)
    rw [getD_right, getD_right] at this
    exact this
/-! the option that the search takes comes first -/
theorem find_optK {C : Nat → Nat → Nat} {p : ByteArray} {a m : Nat} {q : Opt → Bool} {o0 : Opt} : ∀ k, (optK C p a m k).find? q = some o0 → ∃ n, n < k ∧ (optN C p a m n).find? q = some o0 ∧ ∀ n', n' < n → ∀ o' ∈ optN C p a m n', q o' = false
  | 0, h => by cases h
  | k + 1, h => by
    unfold optK at h
    rw [List.find?_append] at h
    cases hf : (optK C p a m k).find? q with
    | some x =>
      rw [hf] at h
      have e : x = o0 := by simpa using h
      subst e
      obtain ⟨n, h1, h2, h3⟩ := find_optK k hf
      exact ⟨n, by omega, h2, h3⟩
    | none =>
      rw [hf] at h
      refine ⟨k, by omega, by simpa using h, fun n' hn' o' ho' => ?_⟩
      rw [List.find?_eq_none] at hf
      simpa using hf o' (mem_optK ho' k hn')
theorem find_optSK {p : ByteArray} {a m n md : Nat} {q : Opt → Bool} {o0 : Opt} : ∀ k, (optSK p a m n md k).find? q = some o0 → ∃ s, s < k ∧ (optS p a m n md s).find? q = some o0 ∧ ∀ s', s' < s → ∀ o' ∈ optS p a m n md s', q o' = false
  | 0, h => by cases h
  | k + 1, h => by
    unfold optSK at h
    rw [List.find?_append] at h
    cases hf : (optSK p a m n md k).find? q with
    | some x =>
      rw [hf] at h
      have e : x = o0 := by simpa using h
      subst e
      obtain ⟨s, h1, h2, h3⟩ := find_optSK k hf
      exact ⟨s, by omega, h2, h3⟩
    | none =>
      rw [hf] at h
      refine ⟨k, by omega, by simpa using h, fun n' hn' o' ho' => ?_⟩
      rw [List.find?_eq_none] at hf
      simpa using hf o' (mem_optSK ho' k hn')
theorem optN_num {C : Nat → Nat → Nat} {p : ByteArray} {a m n : Nat} (ha : a < p.size) {o : Opt} (ho : o ∈ optN C p a m n) : o.num = n := by
  unfold optN at ho
  split at ho
  · split at ho
    · rw [List.mem_singleton] at ho; subst ho; rfl
    · cases ho
  split at ho
  · rw [List.mem_singleton] at ho; subst ho; rfl
  split at ho
  · obtain ⟨s, hs, h⟩ := optSK_mem 32 ho
    unfold optS at h
    split at h
    · rw [List.mem_singleton] at h; subst h; rfl
    · cases h
  split at ho
  · rw [List.mem_singleton] at ho; subst ho
    obtain ⟨h1, h2⟩ := binOpt_good (C := C) (num := n) (m := m) ha
    rcases h1 with h1 | ⟨e, _⟩
    · exact absurd h1 h2
    · rw [e]
  · cases ho
theorem Atom.kind {p : ByteArray} {a m : Nat} {o : Opt} (h : Atom p a m o) : kindF m o.num ≠ 0 := by
  cases h <;> simp only <;> omega
theorem optBits_num (p : ByteArray) (a m : Nat) (o : Opt) : optBits p a m o = lowB o.num (widthN m) ++ ((if 0 ≤ o.sec then lowB o.sec.toNat 5 else []) ++ runB p a o) := by
  unfold optBits; rw [List.append_assoc]
theorem runB_L (p : ByteArray) (a : Nat) (o : Opt) (h : 0 < o.run) (hl : o.long = true) : runB p a o = (lowB 0 5 ++ lowB (o.run - 31) 11) ++ byF p a o.run := by
  unfold runB
  rw [if_pos h, if_pos hl]
theorem runB_S (p : ByteArray) (a : Nat) (o : Opt) (h : 0 < o.run) (hl : o.long = false) : runB p a o = lowB o.run 5 ++ byF p a o.run := by
  unfold runB
  rw [if_pos h, if_neg (by rw [hl]; simp)]
theorem step_first {p : ByteArray} {C : Nat → Nat → Nat} (hp : p.size ≤ 4096) (h : Cost p C) {a m : Nat} (ha : a < p.size) (hm : m < 5) {o0 o : Opt} (h0 : stepF C p a m = some o0) (ho : Atom p a m o) (ht : o.tot C = C a m) :
    o0 = o ∨ Bef (optBits p a m o0) (optBits p a m o) := by
  unfold stepF at h0
  have hq0 := List.find?_some h0
  obtain ⟨n, hn, hf, hbe⟩ := find_optK 32 h0
  have hm0 := List.mem_of_find?_eq_some hf
  have hn0 := optN_num ha hm0
  obtain ⟨o2, g1, g2, g3⟩ := ho.opt (C := C) ha
  have hq2 : (o2.tot C == C a m) = true := by
    have h1 := (h.fix a ha).1 m hm o2 (mem_optK g1 32 ho.num_lt)
    rw [beq_iff_eq]; omega
  have hle : n ≤ o.num := by
    rcases Nat.lt_or_ge o.num n with h1 | h1
    · have h2 : (o2.tot C == C a m) = false := hbe o.num h1 o2 g1
      rw [hq2] at h2; cases h2
    · exact h1
  rcases Nat.eq_or_lt_of_le hle with he | hlt
  · have hn1 : o0.num = o.num := by omega
    rw [he] at hf hm0
    have hA0 := optN_atom ha ho.num_lt hm0
    cases ho with
    | chars n1 hn1' hk hpr =>
      replace hm0 : o0 ∈ optN C p a m n1 := hm0
      replace hf : (optN C p a m n1).find? (fun o => o.tot C == C a m) = some o0 := hf
      left
      unfold optN at hm0
      rw [if_pos hk, if_pos hpr] at hm0
      exact List.mem_singleton.1 hm0
    | latch n1 hn1' hk =>
      replace hm0 : o0 ∈ optN C p a m n1 := hm0
      replace hf : (optN C p a m n1).find? (fun o => o.tot C == C a m) = some o0 := hf
      left
      unfold optN at hm0
      rw [if_neg (by omega), if_pos hk] at hm0
      exact List.mem_singleton.1 hm0
    | shift n1 s hn1' hk hs hk2 hpr =>
      replace hm0 : o0 ∈ optN C p a m n1 := hm0
      replace hf : (optN C p a m n1).find? (fun o => o.tot C == C a m) = some o0 := hf
      unfold optN at hf
      rw [if_neg (by omega), if_neg (by omega), if_pos hk] at hf
      obtain ⟨s0, h1, h2, h3⟩ := find_optSK 32 hf
      have h4 := List.mem_of_find?_eq_some h2
      have hos : (⟨n1, (s : Int), 0, false, widthN m + widthN (modeF m n1), a + (charF (modeF m n1) s).size, m⟩ : Opt) ∈ optS p a m n1 (modeF m n1) s := by
        unfold optS
        rw [if_pos ⟨hk2, hpr⟩]; exact List.mem_singleton.2 rfl
      have hs0 : s0 ≤ s := by
        rcases Nat.lt_or_ge s s0 with h5 | h5
        · have h6 := h3 s h5 _ hos
          rw [beq_eq_false_iff_ne] at h6
          exact absurd ht h6
        · exact h5
      have e0 : o0 = ⟨n1, (s0 : Int), 0, false, widthN m + widthN (modeF m n1), a + (charF (modeF m n1) s0).size, m⟩ := by
        unfold optS at h4
        split at h4
        · exact List.mem_singleton.1 h4
        · cases h4
      rcases Nat.eq_or_lt_of_le hs0 with h5 | h5
      · left; rw [e0, h5]
      · right
        rw [e0, optBits_num, optBits_num]
        refine Bef.pre ?_ _
        show Bef ((if (0 : Int) ≤ (s0 : Int) then lowB (s0 : Int).toNat 5 else []) ++ _) ((if (0 : Int) ≤ (s : Int) then lowB (s : Int).toNat 5 else []) ++ _)
        rw [if_pos (by omega), if_pos (by omega), Int.toNat_natCast, Int.toNat_natCast]
        exact (lowB_bef 5 s0 s h5 (by omega)).app _ _
    | short n1 j hn1' hk h1 h2 h3 =>
      replace hm0 : o0 ∈ optN C p a m n1 := hm0
      replace hf : (optN C p a m n1).find? (fun o => o.tot C == C a m) = some o0 := hf
      have e0 : o0 = binOpt C n1 a m (p.size - a) := by
        unfold optN at hm0
        rw [if_neg (by omega), if_neg (by omega), if_neg (by omega), if_pos hk] at hm0
        exact List.mem_singleton.1 hm0
      obtain ⟨b1, b2⟩ := binOpt_good (C := C) (num := n1) (m := m) ha
      rw [← e0] at b1 b2
      have ht0 : o0.tot C = (shortO n1 a m j).tot C := by
        have : o0.tot C = C a m := by simpa using hq0
        rw [this]; exact ht.symm
      have hfi := (bShort_first (C := C) (num := n1) (a := a) (m := m) (K := min (p.size - a) 2078 - 30) (min (p.size - a) 31)).2.1 j h1 (by omega) (by show _ = (binOpt C n1 a m (p.size - a)).tot C; rw [← e0]; exact ht0.symm)
      have hfi' : o0.long = true ∨ o0.run ≤ j := by rw [e0]; exact hfi
      rcases b1 with b1 | ⟨e, b3, b4, b5⟩
      · exact absurd b1 b2
      cases hlg : o0.long with
      | true =>
        right
        rw [hlg] at e
        rw [e, optBits_num, optBits_num]
        refine Bef.pre ?_ _
        show Bef ((if (0 : Int) ≤ -1 then _ else []) ++ runB p a ⟨n1, -1, o0.run, true, _, _, m⟩) ((if (0 : Int) ≤ -1 then _ else []) ++ runB p a ⟨n1, -1, j, false, _, _, m⟩)
        rw [if_neg (by omega), List.nil_append, List.nil_append]
        rw [runB_L _ _ _ (by exact b3) rfl, runB_S _ _ _ (show 0 < j by omega) rfl]
        show Bef ((lowB 0 5 ++ lowB (o0.run - 31) 11) ++ _) (lowB j 5 ++ _)
        rw [List.append_assoc]
        exact (lowB_bef 5 0 j (by omega) (by omega)).app _ _
      | false =>
        have hr : o0.run ≤ j := by
          rcases hfi' with h | h
          · rw [hlg] at h; cases h
          · exact h
        rw [hlg] at e
        rcases Nat.eq_or_lt_of_le hr with h5 | h5
        · left; rw [e, h5]; rfl
        · right
          rw [e, optBits_num, optBits_num]
          refine Bef.pre ?_ _
          show Bef ((if (0 : Int) ≤ -1 then _ else []) ++ runB p a ⟨n1, -1, o0.run, false, _, _, m⟩) ((if (0 : Int) ≤ -1 then _ else []) ++ runB p a ⟨n1, -1, j, false, _, _, m⟩)
          rw [if_neg (by omega), List.nil_append, List.nil_append]
          rw [runB_S _ _ _ (by exact b3) rfl, runB_S _ _ _ (show 0 < j by omega) rfl]
          show Bef (lowB o0.run 5 ++ _) (lowB j 5 ++ _)
          exact (lowB_bef 5 _ j h5 (by omega)).app _ _
    | long n1 j hn1' hk h1 h2 h3 =>
      replace hm0 : o0 ∈ optN C p a m n1 := hm0
      replace hf : (optN C p a m n1).find? (fun o => o.tot C == C a m) = some o0 := hf
      have e0 : o0 = binOpt C n1 a m (p.size - a) := by
        unfold optN at hm0
        rw [if_neg (by omega), if_neg (by omega), if_neg (by omega), if_pos hk] at hm0
        exact List.mem_singleton.1 hm0
      obtain ⟨b1, b2⟩ := binOpt_good (C := C) (num := n1) (m := m) ha
      rw [← e0] at b1 b2
      have ht0 : o0.tot C = (longO n1 a m j).tot C := by
        have : o0.tot C = C a m := by simpa using hq0
        rw [this]; exact ht.symm
      have hfi := (bShort_first (C := C) (num := n1) (a := a) (m := m) (K := min (p.size - a) 2078 - 30) (min (p.size - a) 31)).1 (j - 31) (by omega) (by show _ = (binOpt C n1 a m (p.size - a)).tot C; rw [← e0, show 31 + (j - 31) = j from by omega]; exact ht0.symm)
      have hfi' : o0.long = true ∧ o0.run ≤ j := by
        rw [e0]; exact ⟨hfi.1, by have := hfi.2; unfold binOpt; omega⟩
      rcases b1 with b1 | ⟨e, b3, b4, b5⟩
      · exact absurd b1 b2
      have hlg := hfi'.1
      have b6 := b5 hlg
      rw [hlg] at e
      rcases Nat.eq_or_lt_of_le hfi'.2 with h5 | h5
      · left; rw [e, h5]; rfl
      · right
        rw [e, optBits_num, optBits_num]
        refine Bef.pre ?_ _
        show Bef ((if (0 : Int) ≤ -1 then _ else []) ++ runB p a ⟨n1, -1, o0.run, true, _, _, m⟩) ((if (0 : Int) ≤ -1 then _ else []) ++ runB p a ⟨n1, -1, j, true, _, _, m⟩)
        rw [if_neg (by omega), List.nil_append, List.nil_append]
        rw [runB_L _ _ _ (by exact b3) rfl, runB_L _ _ _ (show 0 < j by omega) rfl]
        show Bef ((lowB 0 5 ++ lowB (o0.run - 31) 11) ++ _) ((lowB 0 5 ++ lowB (j - 31) 11) ++ _)
        rw [List.append_assoc, List.append_assoc]
        refine Bef.pre ?_ _
        exact (lowB_bef 11 _ _ (by omega) (by omega)).app _ _
  · right
    rw [optBits_num, optBits_num]
    exact (lowB_bef (widthN m) o0.num o.num (by omega) (kind_lt m hm o.num ho.num_lt ho.kind)).app _ _
end Go.Proofs.YtplppbfnlfehnaaDoor
