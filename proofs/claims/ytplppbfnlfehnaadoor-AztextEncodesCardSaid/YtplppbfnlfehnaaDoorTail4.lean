import Derived.Test.YtplppbfnlfehnaaDoorTail3
namespace Go.Proofs.YtplppbfnlfehnaaDoor
open Go.RowKit
set_option linter.unusedVariables false
/-! a region that draws its order, walked along a tree: where several operations that turn the world are ready at once, each of them is walked -/
section
variable {P : Program} {ops : Array Oper} {md : Region.Mode} {S : World → Prop}
def afterB : List (Bool × Nat) → Array Bool → Array Bool
  | [], L => L
  | (_, k) :: r, L => afterB r (L.setIfInBounds k true)
def preOB (md : Region.Mode) (ops : Array Oper) : List (Bool × Nat) → Array Bool → Bool
  | [], _ => true
  | (true, k) :: r, L => decide (Region.ready md ops L = [k]) && preOB md ops r (L.setIfInBounds k true)
  | (false, k) :: r, L => (Region.ready md ops L).contains k && Region.free md ops L k && preOB md ops r (L.setIfInBounds k true)
theorem wpAnyW_pre {K K' : Act → World → Prop} (hsel : Region.noSelect ops = true) (n : Nat) : ∀ (l : List (Bool × Nat)) (L : Array Bool) (a : Act) (w : World), S w → preOB md ops l L = true →
    (∀ a w, S w → K' a w → wpAnyW P md ops S K n (afterB l L) a w) → wpHW P ops S K' l a w → wpAnyW P md ops S K (n + l.length) L a w
  | [], L, a, w, hS, _, hk, h => hk a w hS h
  | (true, k) :: r, L, a, w, hS, hB, hk, h => by
    simp only [preOB, Bool.and_eq_true, decide_eq_true_eq] at hB
    exact wpAnyW_alone hB.1 (stW_mono (fun a' w' hS' h' => wpAnyW_pre hsel n r _ a' w' hS' hB.2 hk h') h)
  | (false, k) :: r, L, a, w, hS, hB, hk, h => by
    simp only [preOB, Bool.and_eq_true] at hB
    obtain ⟨o, ho, v, hy, hK⟩ := h
    exact wpAnyW_first ho (Region.noSelect_spec hsel) (n + r.length) L a w hS (Region.free_spec ho hB.1.2) (by simpa using hB.1.1) hy (wpAnyW_pre hsel n r _ _ w hS hB.2 hk hK)
theorem wpHW_of_X' {l : List Oper} {K : Act → World → Prop} : ∀ (ord : List (Bool × Nat)) (L : Array Bool) (a : Act) (w : World), preOB md l.toArray ord L = true → wpHX P l.toArray S K (attachW l ord) a w → wpHW P l.toArray S K ord a w
  | [], _, _, _, _, h => h
  | (true, k) :: r, L, a, w, hB, h => by
    simp only [preOB, Bool.and_eq_true, decide_eq_true_eq] at hB
    have hk : k < l.toArray.size := ready_lt (md := md) (listed := L) (by rw [hB.1]; simp)
    have ho : l[k]? = some l[k] := List.getElem?_eq_getElem (by simpa using hk)
    simp only [attachW, ho] at h
    refine ⟨l[k], by simp, ?_⟩
    rcases h with h | h
    · exact .inl ⟨h.1, givW_mono (fun v w' h2 => ⟨h2.1, wpHW_of_X' r _ _ _ hB.2 h2.2⟩) h.2⟩
    · exact .inr ⟨h.1, h.2.1, wpHW_of_X' r _ _ _ hB.2 h.2.2⟩
  | (false, k) :: r, L, a, w, hB, h => by
    simp only [preOB, Bool.and_eq_true] at hB
    have hk : k < l.toArray.size := ready_lt (md := md) (listed := L) (by simpa using hB.1.1)
    have ho : l[k]? = some l[k] := List.getElem?_eq_getElem (by simpa using hk)
    simp only [attachW, ho] at h
    obtain ⟨v, h1, h2⟩ := h
    exact ⟨l[k], by simp, v, h1, wpHW_of_X' r _ _ _ hB.2 h2⟩
inductive OT where
  | last (l : List (Bool × Nat))
  | br (l : List (Bool × Nat)) (ks : List Nat) (f : Nat → OT)
def treeB (md : Region.Mode) (ops : Array Oper) : OT → Nat → Array Bool → Bool
  | .last l, n, L => decide (n = l.length) && preOB md ops l L && (Region.ready md ops (afterB l L)).isEmpty
  | .br l ks f, n, L => decide (l.length + 1 ≤ n) && preOB md ops l L && decide (Region.ready md ops (afterB l L) = ks) && !ks.isEmpty && ks.all fun k => treeB md ops (f k) (n - l.length - 1) ((afterB l L).setIfInBounds k true)
def wpTree (P : Program) (l : List Oper) (S : World → Prop) (K : Act → World → Prop) : OT → Act → World → Prop
  | .last o => wpHX P l.toArray S K (attachW l o)
  | .br o ks f => wpHX P l.toArray S (fun a w => ∀ k ∈ ks, wpHX P l.toArray S (wpTree P l S K (f k)) (attachW l [(true, k)]) a w) (attachW l o)
theorem wpAnyW_tree {l : List Oper} {K : Act → World → Prop} (hsel : Region.noSelect l.toArray = true) : ∀ (t : OT) (n : Nat) (L : Array Bool) (a : Act) (w : World), S w → treeB md l.toArray t n L = true → wpTree P l S K t a w → wpAnyW P md l.toArray S K n L a w
  | .last o, n, L, a, w, hS, hB, h => by
    simp only [treeB, Bool.and_eq_true, decide_eq_true_eq] at hB
    rw [hB.1.1, ← Nat.zero_add o.length]
    exact wpAnyW_pre (K' := K) hsel 0 o L a w hS hB.1.2 (fun a w _ h => ⟨by simpa using hB.2, h⟩) (wpHW_of_X' o L a w hB.1.2 h)
  | .br o ks f, n, L, a, w, hS, hB, h => by
    simp only [treeB, Bool.and_eq_true, decide_eq_true_eq] at hB
    obtain ⟨⟨⟨⟨h1, h2⟩, h3⟩, h4⟩, h5⟩ := hB
    have e : n = (n - o.length - 1 + 1) + o.length := by omega
    rw [e]
    refine wpAnyW_pre hsel (n - o.length - 1 + 1) o L a w hS h2 (fun a w hS h => ?_) (wpHW_of_X' o L a w h2 h)
    refine ⟨by rw [h3]; intro e0; rw [e0] at h4; simp at h4, fun i hi => ?_⟩
    rw [h3] at hi
    have hk : i < l.toArray.size := ready_lt (md := md) (listed := afterB o L) (by rw [h3]; exact hi)
    have ho : l[i]? = some l[i] := List.getElem?_eq_getElem (by simpa using hk)
    have h6 := h i hi
    simp only [attachW, ho] at h6
    have h7 := List.all_eq_true.1 h5 i hi
    refine ⟨l[i], by simp, ?_⟩
    rcases h6 with h6 | h6
    · exact .inl ⟨h6.1, givW_mono (fun v w' h8 => ⟨h8.1, wpAnyW_tree hsel (f i) _ _ _ _ h8.1 h7 h8.2⟩) h6.2⟩
    · exact .inr ⟨h6.1, h6.2.1, wpAnyW_tree hsel (f i) _ _ _ _ h6.2.1 h7 h6.2.2⟩
theorem wpHX_mono {l : Array Oper} {K K' : Act → World → Prop} (h : ∀ a w, K a w → K' a w) : ∀ (r : List (Bool × Nat × Oper)) (a : Act) (w : World), wpHX P l S K r a w → wpHX P l S K' r a w
  | [], a, w, hh => h _ _ hh
  | (true, _, o) :: r, a, w, hh => by
    rcases hh with h1 | h1
    · exact .inl ⟨h1.1, givW_mono (fun v w' h2 => ⟨h2.1, wpHX_mono h r _ _ h2.2⟩) h1.2⟩
    · exact .inr ⟨h1.1, h1.2.1, wpHX_mono h r _ _ h1.2.2⟩
  | (false, _, o) :: r, a, w, hh => by
    obtain ⟨v, h1, h2⟩ := hh
    exact ⟨v, h1, wpHX_mono h r _ _ h2⟩
theorem wpTree_mono {l : List Oper} {K K' : Act → World → Prop} (h : ∀ a w, K a w → K' a w) : ∀ (t : OT) (a : Act) (w : World), wpTree P l S K t a w → wpTree P l S K' t a w
  | .last o, a, w, hh => wpHX_mono h _ _ _ hh
  | .br o ks f, a, w, hh => wpHX_mono (fun a w h1 k hk => wpHX_mono (fun a w h2 => wpTree_mono h (f k) a w h2) _ _ _ (h1 k hk)) _ _ _ hh
theorem wp_region_T {id : Nat} {Q : Exit → Act → World → Prop} {a : Act} {w : World} {l : List Oper} (t : OT) (hm : P.follows .mixedOrders = true) (hB : (Region.noSelect l.toArray && treeB .any l.toArray t l.toArray.size (Array.replicate l.toArray.size false)) = true)
    (hS : S w.drew) (h : wpTree P l S (fun a' W => wpList P l.toArray Q [] a' W) t a w.drew) : (Code.region id l.toArray true).wp P Q a w := by
  simp only [Bool.and_eq_true] at hB
  refine wp_region_any hm ?_
  exact wpAny_of_W (S := S) _ _ _ _ (wpAnyW_tree (K := Q .normal) hB.1 t _ _ a w.drew hS hB.2 h)
theorem wp_region_TP {id : Nat} {Q : Exit → Act → World → Prop} {a : Act} {w : World} {l : List Oper} (t : OT) (Post : Act → Act → World → Prop) (hm : P.follows .mixedOrders = true) (hB : (Region.noSelect l.toArray && treeB .any l.toArray t l.toArray.size (Array.replicate l.toArray.size false)) = true)
    (hS : S w.drew) (h : wpTree P l S (Post a) t a w.drew) (hk : ∀ a' W, Post a a' W → wpList P l.toArray Q [] a' W) : (Code.region id l.toArray true).wp P Q a w := by
  simp only [Bool.and_eq_true] at hB
  refine wp_region_any hm ?_
  exact wpAny_of_W (S := S) _ _ _ _ (wpAnyW_tree (K := Q .normal) hB.1 t _ _ a w.drew hS hB.2 (wpTree_mono (fun a' W h => hk a' W h) t _ _ h))
end
end Go.Proofs.YtplppbfnlfehnaaDoor
