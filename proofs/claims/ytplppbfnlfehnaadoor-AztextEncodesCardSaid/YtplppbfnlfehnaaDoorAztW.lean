import Derived.Test.YtplppbfnlfehnaaDoorAztV
namespace Go.Proofs.YtplppbfnlfehnaaDoor
open Go.RowKit Go.WideMaps Go.Maps
set_option linter.unusedVariables false
/-! the best options are sound; Encode and Length -/
structure StB (p : ByteArray) (a m : Nat) (o : Opt) : Prop where
  nm : o.num < 32
  s1 : -1 ≤ o.sec
  s2 : o.sec < 32
  rn : a + o.run ≤ p.size
  lg : 0 < o.run → o.long = true → 31 ≤ o.run
  sr : 0 ≤ o.sec → o.run = 0
  ln : (optBits p a m o).length = o.size
theorem shift_five : ∀ m, m < 5 → ∀ n, n < 32 → kindF m n = 3 → widthN (modeF m n) = 5 := of_decide_eq_true (by kernel_rfl)
/-- a run, as it is tried -/
def GoodB (p : ByteArray) (num a m : Nat) (o : Opt) : Prop := o.run = 0 ∨ (o = ⟨num, -1, o.run, o.long, (if o.long = true then widthN m + 16 else widthN m + 5) + 8 * o.run, a + o.run, m⟩ ∧ 0 < o.run ∧ a + o.run ≤ p.size ∧ (o.long = true → 31 ≤ o.run))
theorem tryO_good {C : Nat → Nat → Nat} {p : ByteArray} {num at_ m : Nat} {best : Opt} {n : Nat} {lg : Bool} (hb : GoodB p num at_ m best) (hn : 0 < n) (ha : at_ + n ≤ p.size) (hl : lg = true → 31 ≤ n) : GoodB p num at_ m (tryO C num at_ m best n (if lg = true then widthN m + 16 else widthN m + 5) lg) := by
  obtain ⟨sz, hsz⟩ : ∃ sz, sz = (if lg = true then widthN m + 16 else widthN m + 5) := ⟨_, rfl⟩
  rw [← hsz]
  unfold tryO
  split
  · exact .inr ⟨by show (⟨num, -1, n, lg, sz + 8 * n, at_ + n, m⟩ : Opt) = ⟨num, -1, n, lg, (if lg = true then widthN m + 16 else widthN m + 5) + 8 * n, at_ + n, m⟩; rw [← hsz], hn, ha, hl⟩
  · exact hb
theorem bLong_good {C : Nat → Nat → Nat} {p : ByteArray} {num at_ m : Nat} : ∀ k, (at_ + 30 + k ≤ p.size ∨ k = 0) → GoodB p num at_ m (bLong C num at_ m k)
  | 0, _ => .inl rfl
  | k + 1, h => tryO_good (lg := true) (bLong_good k (by omega)) (by omega) (by omega) (fun _ => by omega)
theorem bShort_good {C : Nat → Nat → Nat} {p : ByteArray} {num at_ m K : Nat} (hK : at_ + 30 + K ≤ p.size ∨ K = 0) : ∀ k, at_ + k ≤ p.size → GoodB p num at_ m (bShort C num at_ m K k)
  | 0, _ => bLong_good K hK
  | k + 1, h => tryO_good (lg := false) (bShort_good hK k (by omega)) (by omega) (by omega) (fun e => by cases e)
theorem binOpt_good {C : Nat → Nat → Nat} {p : ByteArray} {num a m : Nat} (ha : a < p.size) : GoodB p num a m (binOpt C num a m (p.size - a)) ∧ (binOpt C num a m (p.size - a)).run ≠ 0 := by
  refine ⟨bShort_good (by omega) _ (by omega), ?_⟩
  unfold binOpt
  obtain ⟨k, hk⟩ : ∃ k, min (p.size - a) 31 = k + 1 := ⟨min (p.size - a) 31 - 1, by omega⟩
  rw [hk]
  exact tryO_run0 (by omega)
theorem GoodB.st {p : ByteArray} {num a m : Nat} {o : Opt} (h : GoodB p num a m o) (h0 : o.run ≠ 0) (hn : num < 32) : StB p a m o := by
  rcases h with h | ⟨e, h1, h2, h3⟩
  · exact absurd h h0
  · have es : o.sec = -1 := by rw [e]
    have en : o.num = num := by rw [e]
    have ez : o.size = (if o.long = true then widthN m + 16 else widthN m + 5) + 8 * o.run := by rw [e]
    refine ⟨by rw [en]; exact hn, by omega, by omega, h2, fun _ => h3, fun h => by omega, ?_⟩
    rw [ez]
    unfold optBits runB
    rw [if_neg (by omega), if_pos h1, List.append_nil]
    simp only [List.length_append, lowB_length, byF_len]
    split
    · simp only [List.length_append, lowB_length]; omega
    · simp only [lowB_length]; omega
theorem optN_st {C : Nat → Nat → Nat} {p : ByteArray} {a m n : Nat} (ha : a < p.size) (hm : m < 5) (hn : n < 32) {o : Opt} (ho : o ∈ optN C p a m n) : StB p a m o := by
  have plain : ∀ (at_ md : Nat), StB p a m ⟨n, -1, 0, false, widthN m, at_, md⟩ := fun at_ md => by
    refine ⟨hn, by show (-1 : Int) ≤ -1; omega, by show (-1 : Int) < 32; omega, by show a + 0 ≤ _; omega, fun h => (by cases h), fun h => rfl, ?_⟩
    show (lowB n (widthN m) ++ (if (0 : Int) ≤ -1 then lowB (-1 : Int).toNat 5 else []) ++ []).length = widthN m
    rw [if_neg (by omega)]
    simp [lowB_length]
  unfold optN at ho
  split at ho
  · split at ho
    · rw [List.mem_singleton] at ho; subst ho; exact plain _ _
    · cases ho
  split at ho
  · rw [List.mem_singleton] at ho; subst ho; exact plain _ _
  split at ho
  · rename_i h3
    have hw := shift_five m hm n hn h3
    have key : ∀ k, k ≤ 32 → o ∈ optSK p a m n (modeF m n) k → StB p a m o := by
      intro k
      induction k with
      | zero => intro _ h; cases h
      | succ k ih =>
        intro hk h
        unfold optSK at h
        rw [List.mem_append] at h
        rcases h with h | h
        · exact ih (by omega) h
        · unfold optS at h
          split at h
          · rw [List.mem_singleton] at h
            subst h
            refine ⟨hn, by show (-1 : Int) ≤ (k : Int); omega, by show (k : Int) < 32; omega, by show a + 0 ≤ _; omega, fun h => (by cases h), fun h => rfl, ?_⟩
            show (lowB n (widthN m) ++ (if (0 : Int) ≤ (k : Int) then lowB (k : Int).toNat 5 else []) ++ []).length = widthN m + widthN (modeF m n)
            rw [if_pos (by omega), hw]
            simp [lowB_length]
          · cases h
    exact key 32 (Nat.le_refl _) ho
  split at ho
  · rw [List.mem_singleton] at ho
    subst ho
    exact (binOpt_good ha).1.st (binOpt_good ha).2 hn
  · cases ho
theorem optK_st {C : Nat → Nat → Nat} {p : ByteArray} {a m : Nat} (ha : a < p.size) (hm : m < 5) {o : Opt} : ∀ k, k ≤ 32 → o ∈ optK C p a m k → StB p a m o := by
  intro k
  induction k with
  | zero => intro _ h; cases h
  | succ k ih =>
    intro hk h
    unfold optK at h
    rw [List.mem_append] at h
    rcases h with h | h
    · exact ih (by omega) h
    · exact optN_st ha hm (by omega) h
theorem Cost.step {p : ByteArray} {C : Nat → Nat → Nat} (hp : p.size ≤ 4096) (h : Cost p C) (a m : Nat) (ha : a < p.size) (hm : m < 5) : ∃ o, stepF C p a m = some o ∧ o ∈ optK C p a m 32 ∧ StOK p C a m o := by
  obtain ⟨o0, h0, e0⟩ : ∃ o ∈ optK C p a m 32, o.tot C = C a m := by
    rcases (h.fix a ha).2 m hm with h1 | h1
    · have := h.fin hp a m hm; omega
    · exact h1
  cases hf : stepF C p a m with
  | none =>
    unfold stepF at hf
    rw [List.find?_eq_none] at hf
    exact absurd (by rw [e0]; simp) (hf o0 h0)
  | some o =>
    unfold stepF at hf
    have hmem := List.mem_of_find?_eq_some hf
    have hpr := List.find?_some hf
    have he : o.tot C = C a m := by simpa using hpr
    have hok := okO_all ha hp hm 32 hmem
    have hst := optK_st ha hm 32 (Nat.le_refl _) hmem
    exact ⟨o, rfl, hmem, ⟨hok.1, hok.2.1, he.symm, optK_size 32 hmem, hst.nm, hst.s1, hst.s2, hst.rn, hst.lg, hst.sr, Nat.le_of_eq hst.ln⟩⟩
/-- the bits of a payload, for given costs -/
def encP (p : ByteArray) (C : Nat → Nat → Nat) : List Bool := encF p (stepF C p) (C 0 0) 0 0
set_option maxRecDepth 100000 in
set_option maxHeartbeats 2000000 in
theorem Encode_any (A : Option Addr) (n c : Nat) (l : List UInt8) (w : World) (hb : SR vU 0 w A n c l) (hn : n ≤ 4096) :
    Calls Tryd.prog 12 #[.slice A n c] w fun e w' => ∃ C, Cost ⟨l.toArray⟩ C ∧ RT vB false w (encP ⟨l.toArray⟩ C, 0) e w' := by
  obtain ⟨p, hpd⟩ : ∃ p : ByteArray, p = ⟨l.toArray⟩ := ⟨_, rfl⟩
  have hn2 : n = p.size := by rw [hb.hn, hpd]; show l.length = l.toArray.size; simp
  have HN2 := Lib.hid hn2
  have HNS := newSearch_any A n c l w hb hn
  rw [← hpd] at HNS ⊢
  have HNH := Lib.hid HNS
  clear hb hn2 HNS hpd
  go_enter Tryd.func12, Tryd.ntmps12
  go_wp2_with (first
    | (go_at_call 24; refine HNH.out.mono ?_; rintro e w4 ⟨sb, cb, cap, hb, C, T, rfl, hq, hm, hf, hz, hbw⟩; have hCo : Cost p C := ⟨fun a ha => (hf a (by rw [HN2.out]; exact ha)).1, fun a m ha => hz a m (by rw [HN2.out]; exact ha), hq.S.b⟩; have HCO := Lib.hid hCo; have HB4 := Lib.hid hbw; have HBI := Lib.hid (bits_any w4 sb cb cap hb _ p C (stepF C p) hq (hm.weak (Nat.le_refl _) (fun a m o _ hm5 ho => (by
        by_cases ha : a < n
        · rw [(hf a ha).2 m]; exact ho
        · exfalso
          unfold stepF at ho
          have hmem := List.mem_of_find?_eq_some ho
          have h8 : 0 < C a m := (by have h9 := List.find?_some ho; have h10 : o.tot C = C a m := (by simpa using h9); have := optK_size 32 hmem; unfold Opt.tot at h10; omega)
          rw [hz a m (by omega)] at h8
          omega))) (fun a m ha hm5 => (by obtain ⟨o, h1, _, h2⟩ := hCo.step (by rw [← HN2.out]; exact hn) a m ha hm5; exact ⟨o, h1, h2⟩))); clear hq hm hf hz hbw hCo)
    | (go_at_call 25; refine HBI.out.mono ?_; rintro e w5 ⟨v5, rfl, hs5, hb5⟩; have HS5 := Lib.hid hs5; have HB5 := Lib.hid hb5; clear hs5 hb5))
  go_ret2
  exact ⟨C, HCO.out, RT.mk rfl HS5.out (HB4.out.trans (HB5.out.mono HB4.out.size))⟩
set_option maxRecDepth 100000 in
set_option maxHeartbeats 2000000 in
theorem Length_any (A : Option Addr) (n c : Nat) (l : List UInt8) (w : World) (hb : SR vU 0 w A n c l) (hn : n ≤ 4096) :
    Calls Tryd.prog 14 #[.slice A n c] w fun e w' => ∃ C, Cost ⟨l.toArray⟩ C ∧ RP w (((C 0 0 : Nat) : Int), 0) e w' := by
  obtain ⟨p, hpd⟩ : ∃ p : ByteArray, p = ⟨l.toArray⟩ := ⟨_, rfl⟩
  have hn2 : n = p.size := by rw [hb.hn, hpd]; show l.length = l.toArray.size; simp
  have HN2 := Lib.hid hn2
  have HNS := newSearch_any A n c l w hb hn
  rw [← hpd] at HNS ⊢
  have HNH := Lib.hid HNS
  clear hb hn2 HNS hpd
  go_enter Tryd.func14, Tryd.ntmps14
  go_wp2_with (go_at_call 24; refine HNH.out.mono ?_; rintro e w4 ⟨sb, cb, cap, hb, C, T, rfl, hq, hm, hf, hz, hbw⟩; have hCo : Cost p C := ⟨fun a ha => (hf a (by rw [HN2.out]; exact ha)).1, fun a m ha => hz a m (by rw [HN2.out]; exact ha), hq.S.b⟩; have HCO := Lib.hid hCo; have HB4 := Lib.hid hbw; have f1 := hq.S.cc; have f2 := hq.S.cz 0 0 (by omega) (by omega); have hcap := hq.S.hc; simp only [Nat.zero_mul, Nat.zero_add] at f2; obtain ⟨c0, hc0⟩ : ∃ c0, c0 = C 0 0 := ⟨_, rfl⟩; rw [← hc0] at f2; have HC0 := Lib.hid hc0; clear hq hm hf hz hbw hCo hc0)
  go_ret2
  exact ⟨C, HCO.out, RP.mk (by rw [HC0.out]) HB4.out⟩
end Go.Proofs.YtplppbfnlfehnaaDoor
