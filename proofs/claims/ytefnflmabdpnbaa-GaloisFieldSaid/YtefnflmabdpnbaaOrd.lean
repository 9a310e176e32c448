import Derived.Test.YtefnflmabdpnbaaPow
namespace Go.Proofs.Ytefnflmabdpnbaa
set_option linter.unusedVariables false
/-! orders and generators in the program's fields -/
/-- k is the order of a -/
def OrdN (s p a k : Nat) : Prop := 1 ≤ k ∧ fpowN s p a k = 1 ∧ ∀ m, 1 ≤ m → m < k → fpowN s p a m ≠ 1
theorem OrdN.unique {s p a k l : Nat} (h : OrdN s p a k) (g : OrdN s p a l) : k = l := by
  by_cases h1 : k < l
  · exact absurd h.2.1 (g.2.2 k h.1 h1)
  · by_cases h2 : l < k
    · exact absurd g.2.1 (h.2.2 l g.1 h2)
    · omega
section
variable {c s p : Nat} (h : VF c s p)
include h
theorem fpowN_one_iff (x : El s) (n : Nat) : fpowN s p x.val n = 1 ↔ (letI := fldOf h; x ^ n = (1 : El s)) := by
  rw [fpowN_val h]
  constructor
  · intro e; exact El.ext e
  · intro e; exact congrArg El.val e
theorem ordN_iff (x : El s) (k : Nat) : OrdN s p x.val k ↔ (letI := fldOf h; IsOrd x k) := by
  letI := fldOf h
  constructor
  · rintro ⟨h1, h2, h3⟩
    exact ⟨h1, (fpowN_one_iff h x k).1 h2, fun m hm hlt e => h3 m hm hlt ((fpowN_one_iff h x m).2 e)⟩
  · rintro ⟨h1, h2, h3⟩
    exact ⟨h1, (fpowN_one_iff h x k).2 h2, fun m hm hlt e => h3 m hm hlt ((fpowN_one_iff h x m).1 e)⟩
theorem el_ne_zero (x : El s) : (letI := fldOf h; x ≠ (0 : El s)) ↔ x.val ≠ 0 := by
  letI := fldOf h
  constructor
  · intro e e2; exact e (El.ext e2)
  · intro e e2; exact e (congrArg El.val e2)
theorem ordN_exists (a : Nat) (ha : a < s) (h0 : a ≠ 0) : ∃ k, OrdN s p a k ∧ k ≤ s - 1 := by
  letI := fldOf h
  let x : El s := ⟨a, ha⟩
  obtain ⟨k, hk⟩ := isOrd_exists ((el_ne_zero h x).2 h0)
  have := hk.le
  rw [card_fldOf h] at this
  exact ⟨k, (ordN_iff h x k).2 hk, this⟩
theorem ordN_le (a k : Nat) (ha : a < s) (hk : OrdN s p a k) : k ≤ s - 1 := by
  letI := fldOf h
  let x : El s := ⟨a, ha⟩
  have := ((ordN_iff h x k).1 hk).le
  rwa [card_fldOf h] at this
/-- the least generator -/
def GenN (s p g : Nat) : Prop := 1 ≤ g ∧ g < s ∧ OrdN s p g (s - 1) ∧ ∀ x, 1 ≤ x → x < g → ¬ OrdN s p x (s - 1)
theorem genN_exists : ∃ g, GenN s p g := by
  letI := fldOf h
  obtain ⟨x, hx⟩ := cyclic (K := El s)
  rw [card_fldOf h] at hx
  have hx0 := (el_ne_zero h x).1 hx.ne
  obtain ⟨g, ⟨h1, h2, h3⟩, h4⟩ := exists_least (P := fun g => 1 ≤ g ∧ g < s ∧ OrdN s p g (s - 1)) ⟨x.val, by omega, x.lt, (ordN_iff h x _).2 hx⟩
  exact ⟨g, h1, h2, h3, fun y hy hlt ho => h4 y hlt ⟨hy, by omega, ho⟩⟩
end
theorem genN_unique {s p g k : Nat} (hg : GenN s p g) (hk : GenN s p k) : g = k := by
  by_cases h1 : g < k
  · exact absurd hg.2.2.1 (hk.2.2.2 g hg.1 h1)
  · by_cases h2 : k < g
    · exact absurd hk.2.2.1 (hg.2.2.2 k hk.1 h2)
    · omega
/-- the order, the generator, as functions -/
noncomputable def ordF (s p a : Nat) : Nat := @dite Nat (∃ k, OrdN s p a k) (Classical.propDecidable _) (fun h => Classical.choose h) (fun _ => 0)
theorem ordF_of {s p a k : Nat} (h : OrdN s p a k) : ordF s p a = k := by
  have hx : ∃ k, OrdN s p a k := ⟨k, h⟩
  unfold ordF
  rw [dif_pos hx]
  exact (Classical.choose_spec hx).unique h
theorem ordF_spec {c s p a : Nat} (h : VF c s p) (ha : a < s) (h0 : a ≠ 0) : OrdN s p a (ordF s p a) ∧ ordF s p a ≤ s - 1 := by
  obtain ⟨k, hk, hle⟩ := ordN_exists h a ha h0
  rw [ordF_of hk]; exact ⟨hk, hle⟩
noncomputable def genF (s p : Nat) : Nat := @dite Nat (∃ k, GenN s p k) (Classical.propDecidable _) (fun h => Classical.choose h) (fun _ => 0)
theorem genF_spec {c s p : Nat} (h : VF c s p) : GenN s p (genF s p) := by
  have hx := genN_exists h
  unfold genF
  rw [dif_pos hx]
  exact Classical.choose_spec hx
/-! logarithms -/
theorem gen_inj {c s p : Nat} (h : VF c s p) {i j : Nat} (hi : i < s - 1) (hj : j < s - 1) (e : fpowN s p (genF s p) i = fpowN s p (genF s p) j) : i = j := by
  have hg := genF_spec h
  letI := fldOf h
  let x : El s := ⟨genF s p, hg.2.1⟩
  have hx : IsOrd x (s - 1) := (ordN_iff h x _).1 hg.2.2.1
  refine hx.inj hi hj ?_
  have e2 : (x ^ i).val = (x ^ j).val := by rw [← fpowN_val h, ← fpowN_val h]; exact e
  exact El.ext e2
theorem gen_surj {c s p : Nat} (h : VF c s p) {a : Nat} (ha : a < s) (h0 : a ≠ 0) : ∃ j, j < s - 1 ∧ fpowN s p (genF s p) j = a := by
  have hg := genF_spec h
  letI := fldOf h
  let x : El s := ⟨genF s p, hg.2.1⟩
  have hx : IsOrd x (s - 1) := (ordN_iff h x _).1 hg.2.2.1
  let l : List (El s) := (List.range (s - 1)).map fun j => x ^ j
  have hn : l.Nodup := nodup_map (fun i hi j hj e => hx.inj (List.mem_range.1 hi) (List.mem_range.1 hj) e) List.nodup_range
  have hsub : ∀ y ∈ l, y ∈ units (El s) := by
    intro y hy
    obtain ⟨j, _, rfl⟩ := List.mem_map.1 hy
    exact mem_units.2 (fpow_ne hx.ne j)
  have hlen : (units (El s)).length ≤ l.length := by
    have h1 := units_length (K := El s)
    rw [card_fldOf h] at h1
    simp [l]; omega
  have hp := perm_of_subset hn hsub hlen
  let y : El s := ⟨a, ha⟩
  have hy : y ∈ l := hp.mem_iff.2 (mem_units.2 ((el_ne_zero h y).2 h0))
  obtain ⟨j, hj, e⟩ := List.mem_map.1 hy
  exact ⟨j, List.mem_range.1 hj, by rw [show genF s p = x.val from rfl, fpowN_val h]; exact congrArg El.val e⟩
noncomputable def logF (s p a : Nat) : Nat := @dite Nat (∃ j, j < s - 1 ∧ fpowN s p (genF s p) j = a) (Classical.propDecidable _) (fun h => Classical.choose h) (fun _ => 0)
theorem logF_spec {c s p a : Nat} (h : VF c s p) (ha : a < s) (h0 : a ≠ 0) : logF s p a < s - 1 ∧ fpowN s p (genF s p) (logF s p a) = a := by
  have hx := gen_surj h ha h0
  unfold logF
  rw [dif_pos hx]
  exact Classical.choose_spec hx
theorem logF_of {c s p a j : Nat} (h : VF c s p) (ha : a < s) (h0 : a ≠ 0) (hj : j < s - 1) (e : fpowN s p (genF s p) j = a) : logF s p a = j := by
  have hx := logF_spec h ha h0
  exact gen_inj h hx.1 hj (hx.2.trans e.symm)
end Go.Proofs.Ytefnflmabdpnbaa
