import Derived.Test.YtmnlkganmgcpbaaGreatDoorQa25
namespace Go.Proofs.YtmnlkganmgcpbaaGreatDoor
open Go.RowKit
set_option linter.unusedVariables false
set_option linter.unusedSectionVars false
set_option linter.unusedSimpArgs false
abbrev Pt := Nat × Nat
def ptV (p : Pt) : List Value := [.int .i64 (p.1 : Int), .int .i64 (p.2 : Int)]
theorem ptV_one (p : Pt) : ∀ v ∈ ptV p, v.oneCell' = true := by
  intro v hv
  simp only [ptV, List.mem_cons, List.not_mem_nil, or_false] at hv
  rcases hv with rfl | rfl <;> rfl
theorem ptsV_one (l : List Pt) : ∀ v ∈ l.flatMap ptV, v.oneCell' = true := by
  intro v hv
  obtain ⟨p, -, hp⟩ := List.mem_flatMap.1 hv
  exact ptV_one p v hp
theorem ptsV_length (l : List Pt) : (l.flatMap ptV).length = l.length * 2 := by
  induction l with
  | nil => rfl
  | cons p l ih => simp only [List.flatMap_cons, List.length_append, ih, List.length_cons]; show 2 + _ = _; omega
theorem ptsV_get (l : List Pt) (i : Nat) (hi : i < l.length) : (l.flatMap ptV)[2 * i]? = some (.int .i64 ((l.getD i (0, 0)).1 : Int)) ∧ (l.flatMap ptV)[2 * i + 1]? = some (.int .i64 ((l.getD i (0, 0)).2 : Int)) := by
  induction l generalizing i with
  | nil => simp at hi
  | cons p l ih =>
    cases i with
    | zero => exact ⟨rfl, rfl⟩
    | succ i =>
      have h := ih i (by simpa using hi)
      simp only [List.flatMap_cons, ptV]
      rw [show 2 * (i + 1) = 2 * i + 2 from by omega]
      simp only [List.cons_append, List.nil_append, List.getElem?_cons_succ, List.getD_cons_succ]
      exact h
theorem ptInfo : (Tryz.prog.info? 47).map (fun i => (i.zero, i.size, i.bytes)) = some (some (.agg #[.int .i64 0, .int .i64 0]), 2, 16) := by kernel_rfl
def RP2 (w : World) (A : Option Addr) (xs : List Pt) : Prop := 0 < xs.length → ∃ g o, A = some ⟨g, o, none⟩ ∧ g < w.heap.size ∧ ∀ j, j < xs.length → w.cell? ⟨g, o + j * 2, none⟩ = some (.int .i64 ((xs.getD j (0, 0)).1 : Int)) ∧ w.cell? ⟨g, o + j * 2 + 1, none⟩ = some (.int .i64 ((xs.getD j (0, 0)).2 : Int))
theorem RP2.below {W W' : World} {A : Option Addr} {xs : List Pt} (h : RP2 W A xs) (hb : Below W.heap.size W W') : RP2 W' A xs := fun hn => by
  obtain ⟨g, o, e, hl, hc⟩ := h hn
  exact ⟨g, o, e, Nat.lt_of_lt_of_le hl hb.size, fun j hj => ⟨(hb.cell hl).trans (hc j hj).1, (hb.cell hl).trans (hc j hj).2⟩⟩
def SP (w : World) (v : Value) (xs : List Pt) : Prop := ∃ A c, v = .slice A xs.length c ∧ xs.length ≤ c ∧ c ≤ maxLen ∧ RP2 w A xs
theorem SP.below {W W' : World} {v : Value} {xs : List Pt} (h : SP W v xs) (hb : Below W.heap.size W W') : SP W' v xs := by
  obtain ⟨A, c, rfl, h1, h2, h3⟩ := h
  exact ⟨A, c, rfl, h1, h2, h3.below hb⟩
theorem SP.nil_ (w : World) : SP w (.slice none 0 0) [] := ⟨none, 0, rfl, by simp, by simp, fun h => absurd h (by simp)⟩
theorem SP.of_own {W : World} {base : Nat} {e : TypeId} {n : Nat} {v : Value} {xs : List Pt} (h : W.ownsRow base e 2 v n (xs.flatMap ptV)) : SP W v xs := by
  have hl : xs.length = n := by have := h.1; rw [ptsV_length] at this; omega
  rcases h.2 with ⟨rfl, rfl⟩ | ⟨g, cap, cur, rfl, hb, hg, hnc, hcm, _⟩
  · have : xs = [] := List.eq_nil_of_length_eq_zero hl
    subst this; exact SP.nil_ _
  · refine ⟨_, cap, by rw [hl], by omega, hcm, fun hn => ⟨g, 0, rfl, lt_of_heap hg, fun j hj => ?_⟩⟩
    have h1 := ptsV_get xs j hj
    have e : 0 + j * 2 = 2 * j := by omega
    have c1 := h.cells (g := g) rfl (2 * j) _ h1.1
    have c2 := h.cells (g := g) rfl (2 * j + 1) _ h1.2
    rw [add_plain, Nat.zero_add] at c1 c2
    rw [e]
    exact ⟨c1, c2⟩
theorem RP2.of_own {W : World} {base : Nat} {e : TypeId} {n : Nat} {A : Option Addr} {c : Nat} {xs : List Pt} (h : W.ownsRow base e 2 (.slice A n c) n (xs.flatMap ptV)) : RP2 W A xs := by
  obtain ⟨A', c', e', -, -, h3⟩ := SP.of_own h
  injection e' with e1 e2 e3
  rw [e1]; exact h3
structure OGP (w wr : World) (v : Value) (l : List Pt) : Prop where
  B : Abv w wr
  O : wr.ownsRow w.heap.size 47 2 v l.length (l.flatMap ptV)
theorem OGP.start (w : World) : OGP w w (.slice none 0 0) [] := ⟨Below.refl _ _, World.ownsRow_nil _ _ _ _⟩
theorem OGP.below {w wr W : World} {v : Value} {l : List Pt} (h : OGP w wr v l) (hW : Below wr.heap.size wr W) : OGP w W v l := ⟨bwStep h.B hW, ownsRow_below h.O hW⟩
theorem OGP.sp {w wr : World} {v : Value} {l : List Pt} (h : OGP w wr v l) : SP wr v l := SP.of_own h.O
theorem append_pts {W : World} {base : Nat} {v : Value} {n : Nat} {l : List Pt} (ty : TypeId) (hO : W.ownsRow base 47 2 v n (l.flatMap ptV)) (hbase : base ≤ W.heap.size) (ad : Addr) (m c : Nat) (ys : List Pt) (hm : m = ys.length)
    (hc : ∀ j u, (ys.flatMap ptV)[j]? = some u → W.cell? (ad.add j) = some u) (hl : n + m ≤ 1000000) :
    ∃ v' w', (Builtin.append_ #[40, 40] ty #[v, .slice (some ad) m c]).run Tryz.prog W = .ok v' w' ∧ w'.ownsRow base 47 2 v' (n + m) ((l ++ ys).flatMap ptV) ∧ W.grownBy w' v.ownBlock ∧ (v'.ownBlock = v.ownBlock ∨ v'.ownBlock = some W.heap.size) := by
  obtain ⟨i0, hi, hz0, hz1, hz2⟩ := info_parts ptInfo
  obtain ⟨v', w', hrun, h2, h3, _, h5⟩ := run_append_own_at (P := Tryz.prog) W base 40 ty 47 i0 _ 2 16 Tryz.underlying40 hi hz0 hz1 hz2 rfl (by omega) v n _ hO ad m c (ys.flatMap ptV) (by rw [ptsV_length, hm]) hc (ptsV_one ys) (by unfold maxLen; omega) (by omega) hbase
  rw [← List.flatMap_append] at h2
  exact ⟨v', w', hrun, h2, h3, h5⟩
theorem wpList_append_pts {ops : Array Oper} {rest : List Oper} {o : Oper} {a : Act} {Q : Exit → Act → World → Prop} {W : World} {base : Nat} {v : Value} {n : Nat} {l : List Pt} (hO : W.ownsRow base 47 2 v n (l.flatMap ptV)) (hbase : base ≤ W.heap.size) (hgd : o.guard = none) (s y : Operand)
    (ho : o.op = .call { callee := .builtin .append, args := #[s, y], argTypes := #[40, 40] }) (hs : a.eval s = v) (ad : Addr) (m c : Nat) (ys : List Pt) (hy : a.eval y = .slice (some ad) m c) (hm : m = ys.length)
    (hc : ∀ j u, (ys.flatMap ptV)[j]? = some u → W.cell? (ad.add j) = some u) (hl : n + m ≤ 1000000)
    (hk : ∀ v' w', w'.ownsRow base 47 2 v' (n + m) ((l ++ ys).flatMap ptV) → W.grownBy w' v.ownBlock → (v'.ownBlock = v.ownBlock ∨ v'.ownBlock = some W.heap.size) → wpList Tryz.prog ops Q rest (a.put o.dst v') w') : wpList Tryz.prog ops Q (o :: rest) a W := by
  refine wpList_plain hgd fun K hK => ?_
  obtain ⟨v', w', hrun, h2, h3, h5⟩ := append_pts o.type hO hbase ad m c ys hm hc hl
  unfold Oper.wp execOp
  simp only [ho, resolve, invoke, builtin, Sem.run_bind, Sem.run_pure, Result.andThen_ok, List.map_toArray, List.map_cons, List.map_nil, hs, hy, hrun]
  exact hK _ _ (hk v' w' h2 h3 h5)
theorem OGP.grow {w wr W w1 : World} {v v1 : Value} {l ys : List Pt} (h : OGP w wr v l) (hW : Below wr.heap.size wr W) (hown : w1.ownsRow w.heap.size 47 2 v1 (l.length + ys.length) ((l ++ ys).flatMap ptV)) (hg : W.grownBy w1 v.ownBlock) : OGP w w1 v1 (l ++ ys) := by
  refine ⟨(bwStep h.B hW).grown hg (by have := (bwStep h.B hW).size; exact this) (fun k hk => (h.O.lt k hk).1), ?_⟩
  rw [List.length_append]; exact hown
theorem lit_pts (W : World) (ys : List Pt) (t : TypeId) : ∀ j u, (ys.flatMap ptV)[j]? = some u → (W.alloc (.cells (ys.flatMap ptV).toArray t)).cell? ((⟨W.heap.size, 0, none⟩ : Addr).add j) = some u := by
  intro j u hu
  have hj : j < (ys.flatMap ptV).length := by
    rcases Nat.lt_or_ge j (ys.flatMap ptV).length with h | h
    · exact h
    · rw [List.getElem?_eq_none h] at hu; cases hu
  rw [add_plain, Nat.zero_add]
  have := (CellsAt.new W (ys.flatMap ptV).toArray t W.heap.size rfl).2 j (by simpa using hj)
  rw [this]
  simp only [List.toList_toArray, List.getD, hu, Option.getD_some]
def posN (L : Nat) (c : Bool) (i : Nat) : Nat :=
  if c = true then i else if i < baseN L c / 2 then (sideN L c - 1) / 2 - 1 - (baseN L c / 2 - 1 - i) - (baseN L c / 2 - 1 - i) / 15 else (sideN L c - 1) / 2 + 1 + (i - baseN L c / 2) + (i - baseN L c / 2) / 15
theorem posN_lo {L i : Nat} (hL : L ≤ 32) (hi : i < baseN L false / 2) : ((posN L false i : Nat) : Int) = ((sideN L false : Int) - 1) / 2 - 1 - ((baseN L false : Int) / 2 - 1 - i) - ((baseN L false : Int) / 2 - 1 - i) / 15 := by
  have hb : baseN L false = 14 + 4 * L := rfl
  have hs : sideN L false = baseN L false + 1 + 2 * ((baseN L false / 2 - 1) / 15) := rfl
  unfold posN
  simp only [Bool.false_eq_true, if_false]
  rw [if_pos hi]
  generalize sideN L false = T at *
  generalize baseN L false = B at *
  omega
theorem posN_hi {L i : Nat} (hL : L ≤ 32) (hi : ¬ i < baseN L false / 2) : ((posN L false i : Nat) : Int) = ((sideN L false : Int) - 1) / 2 + 1 + ((i : Int) - (baseN L false : Int) / 2) + ((i : Int) - (baseN L false : Int) / 2) / 15 := by
  have hb : baseN L false = 14 + 4 * L := rfl
  have hs : sideN L false = baseN L false + 1 + 2 * ((baseN L false / 2 - 1) / 15) := rfl
  unfold posN
  simp only [Bool.false_eq_true, if_false]
  rw [if_neg hi]
  generalize sideN L false = T at *
  generalize baseN L false = B at *
  omega
def rN (L : Nat) (c : Bool) (i : Nat) : Nat := if c = true then 4 * (L - i) + 9 else 4 * (L - i) + 12
def bxN (L : Nat) (c : Bool) (i s j k : Nat) : Pt :=
  if s = 0 then (2 * i + k, 2 * i + j) else if s = 1 then (2 * i + j, baseN L c - 1 - (2 * i + k)) else if s = 2 then (baseN L c - 1 - (2 * i + k), baseN L c - 1 - (2 * i + j)) else (baseN L c - 1 - (2 * i + j), 2 * i + k)
def mdN (L : Nat) (c : Bool) (p : Pt) : Pt := (posN L c p.1, posN L c p.2)
def ptN (L : Nat) (c : Bool) (i s j k : Nat) : Pt := mdN L c (bxN L c i s j k)
def kL (L : Nat) (c : Bool) (i s j k : Nat) : List Pt := (List.range k).map (ptN L c i s j)
def jL (L : Nat) (c : Bool) (i s j : Nat) : List Pt := (List.range j).flatMap fun j => kL L c i s j 2
def sL (L : Nat) (c : Bool) (i s : Nat) : List Pt := (List.range s).flatMap fun s => jL L c i s (rN L c i)
def iL (L : Nat) (c : Bool) (i : Nat) : List Pt := (List.range i).flatMap fun i => sL L c i 4
def dataL (L : Nat) (c : Bool) : List Pt := iL L c L
theorem kL_succ (L : Nat) (c : Bool) (i s j k : Nat) : kL L c i s j (k + 1) = kL L c i s j k ++ [ptN L c i s j k] := by unfold kL; rw [List.range_succ, List.map_append]; rfl
theorem jL_succ (L : Nat) (c : Bool) (i s j : Nat) : jL L c i s (j + 1) = jL L c i s j ++ kL L c i s j 2 := by unfold jL; rw [List.range_succ, List.flatMap_append, List.flatMap_singleton]
theorem sL_succ (L : Nat) (c : Bool) (i s : Nat) : sL L c i (s + 1) = sL L c i s ++ jL L c i s (rN L c i) := by unfold sL; rw [List.range_succ, List.flatMap_append, List.flatMap_singleton]
theorem iL_succ (L : Nat) (c : Bool) (i : Nat) : iL L c (i + 1) = iL L c i ++ sL L c i 4 := by unfold iL; rw [List.range_succ, List.flatMap_append, List.flatMap_singleton]
theorem kL_length (L : Nat) (c : Bool) (i s j k : Nat) : (kL L c i s j k).length = k := by unfold kL; simp
theorem jL_length (L : Nat) (c : Bool) (i s : Nat) : ∀ j, (jL L c i s j).length = 2 * j
  | 0 => rfl
  | j + 1 => by rw [jL_succ, List.length_append, jL_length L c i s j, kL_length]; omega
theorem sL_length (L : Nat) (c : Bool) (i : Nat) : ∀ s, (sL L c i s).length = s * (2 * rN L c i)
  | 0 => by simp [sL]
  | s + 1 => by rw [sL_succ, List.length_append, sL_length L c i s, jL_length, Nat.add_mul, Nat.one_mul]
theorem rN_le {L i : Nat} {c : Bool} (h : L ≤ 32) : rN L c i ≤ 140 := by unfold rN; split <;> omega
theorem iL_le {L : Nat} {c : Bool} (h : L ≤ 32) : ∀ i, (iL L c i).length ≤ i * 1120
  | 0 => by simp [iL]
  | i + 1 => by
    have h1 := iL_le (c := c) h i
    have h2 := rN_le (i := i) (c := c) h
    rw [iL_succ, List.length_append, sL_length]
    omega
end Go.Proofs.YtmnlkganmgcpbaaGreatDoor
namespace Go.Proofs.YtmnlkganmgcpbaaGreatDoor
open Go.RowKit
set_option linter.unusedVariables false
set_option linter.unusedSimpArgs false
def mkN (c : Bool) : Nat := if c = true then 5 else 7
def cenN (L : Nat) (c : Bool) : Nat := (sideN L c - 1) / 2
def adN (a b : Nat) : Nat := (a - b) + (b - a)
def chN (C : Nat) (p : Pt) : Nat := max (adN p.1 C) (adN p.2 C)
def ixN (W : Nat) (p : Pt) : Nat := p.2 * W + p.1
theorem posN_lt {L i : Nat} {c : Bool} (hL : L ≤ 32) (hi : i < baseN L c) : posN L c i < sideN L c := by
  cases c with
  | true => unfold posN sideN; simpa using hi
  | false =>
    have hb : baseN L false = 14 + 4 * L := rfl
    have hs : sideN L false = baseN L false + 1 + 2 * ((baseN L false / 2 - 1) / 15) := rfl
    rw [hb] at hi hs
    unfold posN
    simp only [Bool.false_eq_true, if_false]
    rw [hb, hs]
    split <;> omega
theorem posN_mono {L i j : Nat} {c : Bool} (hL : L ≤ 32) (hij : i < j) (hj : j < baseN L c) : posN L c i < posN L c j := by
  cases c with
  | true => unfold posN; simpa using hij
  | false =>
    have hb : baseN L false = 14 + 4 * L := rfl
    have hs : sideN L false = baseN L false + 1 + 2 * ((baseN L false / 2 - 1) / 15) := rfl
    rw [hb] at hj hs
    unfold posN
    simp only [Bool.false_eq_true, if_false]
    rw [hb, hs]
    split <;> split <;> omega
theorem posN_inj {L i j : Nat} {c : Bool} (hL : L ≤ 32) (hi : i < baseN L c) (hj : j < baseN L c) (h : posN L c i = posN L c j) : i = j := by
  rcases Nat.lt_trichotomy i j with h1 | h1 | h1
  · have := posN_mono hL h1 hj; omega
  · exact h1
  · have := posN_mono hL h1 hi; omega
theorem posN_far {L i : Nat} {c : Bool} (hL : L ≤ 32) (hi : i < baseN L c) (h : i ≤ 2 * L - 1 ∨ baseN L c - 1 - i ≤ 2 * L - 1) (h1 : 1 ≤ L) : mkN c < adN (posN L c i) (cenN L c) := by
  cases c with
  | true =>
    have hb : baseN L true = 11 + 4 * L := rfl
    have hs : sideN L true = baseN L true := rfl
    rw [hb] at hi h hs
    unfold posN adN cenN mkN
    simp only [if_true]
    rw [hs]
    omega
  | false =>
    have hb : baseN L false = 14 + 4 * L := rfl
    have hs : sideN L false = baseN L false + 1 + 2 * ((baseN L false / 2 - 1) / 15) := rfl
    rw [hb] at hi hs h
    unfold posN adN cenN mkN
    simp only [Bool.false_eq_true, if_false]
    rw [hb, hs]
    split <;> omega
theorem bx_bound {L i s j k : Nat} {c : Bool} (hi : i < L) (hj : j < rN L c i) (hk : k < 2) : (bxN L c i s j k).1 < baseN L c ∧ (bxN L c i s j k).2 < baseN L c := by
  unfold rN at hj
  unfold bxN baseN
  cases c <;> simp only [Bool.false_eq_true, if_false, if_true] at hj ⊢ <;> (repeat' split) <;> simp only <;> omega
theorem bx_far {L i s j k : Nat} {c : Bool} (hi : i < L) (hj : j < rN L c i) (hk : k < 2) :
    ((bxN L c i s j k).1 ≤ 2 * L - 1 ∨ baseN L c - 1 - (bxN L c i s j k).1 ≤ 2 * L - 1) ∨ ((bxN L c i s j k).2 ≤ 2 * L - 1 ∨ baseN L c - 1 - (bxN L c i s j k).2 ≤ 2 * L - 1) := by
  unfold rN at hj
  unfold bxN baseN
  cases c <;> simp only [Bool.false_eq_true, if_false, if_true] at hj ⊢ <;> (repeat' split) <;> simp only <;> omega
theorem bx_inj {L i s j k i' s' j' k' : Nat} {c : Bool} (hi : i < L) (hj : j < rN L c i) (hk : k < 2) (hs : s < 4) (hi' : i' < L) (hj' : j' < rN L c i') (hk' : k' < 2) (hs' : s' < 4)
    (h : bxN L c i s j k = bxN L c i' s' j' k') : i = i' ∧ s = s' ∧ j = j' ∧ k = k' := by
  unfold rN at hj hj'
  have h1 := congrArg Prod.fst h
  have h2 := congrArg Prod.snd h
  clear h
  obtain rfl | rfl | rfl | rfl : s = 0 ∨ s = 1 ∨ s = 2 ∨ s = 3 := by omega
  all_goals obtain rfl | rfl | rfl | rfl : s' = 0 ∨ s' = 1 ∨ s' = 2 ∨ s' = 3 := by omega
  all_goals cases c
  all_goals simp only [bxN, baseN, Bool.false_eq_true, if_false, if_true, Nat.reduceEqDiff, Nat.succ_ne_zero, Nat.zero_ne_one, Nat.one_ne_zero, reduceIte] at hj hj' h1 h2
  all_goals first
    | omega
    | (obtain rfl | rfl : k = 0 ∨ k = 1 := by omega
       all_goals obtain rfl | rfl : k' = 0 ∨ k' = 1 := by omega
       all_goals omega)
theorem pt_inj {L i s j k i' s' j' k' : Nat} {c : Bool} (hL : L ≤ 32) (hi : i < L) (hj : j < rN L c i) (hk : k < 2) (hs : s < 4) (hi' : i' < L) (hj' : j' < rN L c i') (hk' : k' < 2) (hs' : s' < 4)
    (h : ptN L c i s j k = ptN L c i' s' j' k') : i = i' ∧ s = s' ∧ j = j' ∧ k = k' := by
  have hb := bx_bound (s := s) hi hj hk
  have hb' := bx_bound (s := s') hi' hj' hk'
  have h1 := posN_inj hL hb.1 hb'.1 (congrArg Prod.fst h)
  have h2 := posN_inj hL hb.2 hb'.2 (congrArg Prod.snd h)
  exact bx_inj hi hj hk hs hi' hj' hk' hs' (Prod.ext h1 h2)
theorem mem_data {L : Nat} {c : Bool} {p : Pt} (h : p ∈ dataL L c) : ∃ i s j k, i < L ∧ s < 4 ∧ j < rN L c i ∧ k < 2 ∧ p = ptN L c i s j k := by
  obtain ⟨i, hi, h⟩ := List.mem_flatMap.1 h
  obtain ⟨s, hs, h⟩ := List.mem_flatMap.1 h
  obtain ⟨j, hj, h⟩ := List.mem_flatMap.1 h
  obtain ⟨k, hk, h⟩ := List.mem_map.1 h
  exact ⟨i, s, j, k, List.mem_range.1 hi, List.mem_range.1 hs, List.mem_range.1 hj, List.mem_range.1 hk, h.symm⟩
theorem pw_range {R : Nat → Nat → Prop} {n : Nat} (h : ∀ a b, a < b → b < n → R a b) : (List.range n).Pairwise R := by
  have h1 : (List.range n).Pairwise (fun a b => a < b) := List.pairwise_lt_range
  refine h1.imp_of_mem ?_
  intro a b ha hb hab
  exact h a b hab (List.mem_range.1 hb)
theorem data_nodup {L : Nat} {c : Bool} (hL : L ≤ 32) : (dataL L c).Nodup := by
  show List.Pairwise _ _
  unfold dataL iL
  rw [List.pairwise_flatMap]
  refine ⟨fun i hi => ?_, pw_range fun a b hab hb x hx y hy => ?_⟩
  · have hi := List.mem_range.1 hi
    unfold sL
    rw [List.pairwise_flatMap]
    refine ⟨fun s hs => ?_, pw_range fun a b hab hb x hx y hy => ?_⟩
    · have hs := List.mem_range.1 hs
      unfold jL
      rw [List.pairwise_flatMap]
      refine ⟨fun j hj => ?_, pw_range fun a b hab hb x hx y hy => ?_⟩
      · have hj := List.mem_range.1 hj
        unfold kL
        rw [List.pairwise_map]
        refine pw_range fun a b hab hb e => ?_
        have := pt_inj hL hi hj (by omega) hs hi hj hb hs e
        omega
      · obtain ⟨k, hk, rfl⟩ := List.mem_map.1 hx
        obtain ⟨k', hk', rfl⟩ := List.mem_map.1 hy
        intro e
        have := pt_inj hL hi (by omega) (List.mem_range.1 hk) hs hi hb (List.mem_range.1 hk') hs e
        omega
    · obtain ⟨j, hj, hx⟩ := List.mem_flatMap.1 hx
      obtain ⟨k, hk, rfl⟩ := List.mem_map.1 hx
      obtain ⟨j', hj', hy⟩ := List.mem_flatMap.1 hy
      obtain ⟨k', hk', rfl⟩ := List.mem_map.1 hy
      intro e
      have := pt_inj hL hi (List.mem_range.1 hj) (List.mem_range.1 hk) (by omega) hi (List.mem_range.1 hj') (List.mem_range.1 hk') hb e
      omega
  · obtain ⟨s, hs, hx⟩ := List.mem_flatMap.1 hx
    obtain ⟨j, hj, hx⟩ := List.mem_flatMap.1 hx
    obtain ⟨k, hk, rfl⟩ := List.mem_map.1 hx
    obtain ⟨s', hs', hy⟩ := List.mem_flatMap.1 hy
    obtain ⟨j', hj', hy⟩ := List.mem_flatMap.1 hy
    obtain ⟨k', hk', rfl⟩ := List.mem_map.1 hy
    intro e
    have := pt_inj (i := a) (i' := b) hL (Nat.lt_trans hab hb) (List.mem_range.1 hj) (List.mem_range.1 hk) (List.mem_range.1 hs) hb (List.mem_range.1 hj') (List.mem_range.1 hk') (List.mem_range.1 hs') e
    omega
theorem data_in {L : Nat} {c : Bool} (hL : L ≤ 32) {p : Pt} (h : p ∈ dataL L c) : p.1 < sideN L c ∧ p.2 < sideN L c := by
  obtain ⟨i, s, j, k, hi, hs, hj, hk, rfl⟩ := mem_data h
  have hb := bx_bound (s := s) hi hj hk
  exact ⟨posN_lt hL hb.1, posN_lt hL hb.2⟩
theorem data_far {L : Nat} {c : Bool} (hL : L ≤ 32) {p : Pt} (h : p ∈ dataL L c) : mkN c < chN (cenN L c) p := by
  obtain ⟨i, s, j, k, hi, hs, hj, hk, rfl⟩ := mem_data h
  have hb := bx_bound (s := s) hi hj hk
  unfold chN
  rcases bx_far (s := s) hi hj hk with h1 | h1
  · exact Nat.lt_of_lt_of_le (posN_far hL hb.1 h1 (by omega)) (Nat.le_max_left _ _)
  · exact Nat.lt_of_lt_of_le (posN_far hL hb.2 h1 (by omega)) (Nat.le_max_right _ _)
theorem iL_length {L : Nat} {c : Bool} : ∀ i, i ≤ L → (iL L c i).length + 16 * (i * i) = 32 * (L * i) + (if c = true then 88 * i else 112 * i)
  | 0, _ => by simp [iL]
  | i + 1, h => by
    have ih := iL_length (L := L) (c := c) i (by omega)
    rw [iL_succ, List.length_append, sL_length]
    have e1 : (i + 1) * (i + 1) = i * i + 2 * i + 1 := by rw [Nat.add_mul, Nat.mul_add]; omega
    have e2 : L * (i + 1) = L * i + L := by rw [Nat.mul_add, Nat.mul_one]
    rw [e1, e2]
    unfold rN
    cases c <;> simp only [Bool.false_eq_true, if_false, if_true] at ih ⊢ <;> omega
theorem data_length (L : Nat) (c : Bool) : (dataL L c).length = roomN L c := by
  have h := iL_length (c := c) L (Nat.le_refl _)
  show (iL L c L).length = _
  unfold roomN
  cases c <;> simp only [Bool.false_eq_true, if_false, if_true] at h ⊢ <;> rw [Nat.add_mul, Nat.mul_assoc] <;> omega
def offN (c : Bool) : List Int := if c = true then [-3, -2, -1, 0, 1, 2, 3] else [-5, -4, -3, -2, -1, 1, 2, 3, 4, 5]
def atI (C : Nat) (o : Int) : Nat := ((C : Int) + o).toNat
def modeL (C : Nat) (c : Bool) : List Pt :=
  (offN c).map (fun o => (atI C o, C - mkN c)) ++ (offN c).map (fun o => (C + mkN c, atI C o)) ++ (offN c).reverse.map (fun o => (atI C o, C + mkN c)) ++ (offN c).reverse.map (fun o => (C - mkN c, atI C o))
def darkL (C s : Nat) : List Pt := [(C - s, C - s), (C - s + 1, C - s), (C - s, C - s + 1), (C + s, C - s), (C + s, C - s + 1), (C + s, C + s - 1)]
def lightL (C s : Nat) : List Pt := [(C + s - 1, C - s), (C + s, C + s), (C + s - 1, C + s), (C - s, C + s), (C - s + 1, C + s), (C - s, C + s - 1)]
theorem cen_le {L : Nat} {c : Bool} (h1 : 1 ≤ L) (hL : L ≤ 32) : mkN c + 2 ≤ cenN L c ∧ cenN L c + mkN c + 2 < sideN L c ∧ sideN L c = 2 * cenN L c + 1 := by
  cases c with
  | true =>
    have hb : baseN L true = 11 + 4 * L := rfl
    have hs : sideN L true = baseN L true := rfl
    rw [hb] at hs
    unfold cenN mkN
    simp only [if_true]
    rw [hs]
    omega
  | false =>
    have hb : baseN L false = 14 + 4 * L := rfl
    have hs : sideN L false = baseN L false + 1 + 2 * ((baseN L false / 2 - 1) / 15) := rfl
    rw [hb] at hs
    unfold cenN mkN
    simp only [Bool.false_eq_true, if_false]
    rw [hs]
    omega
theorem off_mem {c : Bool} {o : Int} (h : o ∈ offN c) : -((mkN c : Nat) : Int) + 2 ≤ o ∧ o + 2 ≤ ((mkN c : Nat) : Int) := by
  cases c with
  | true => simp only [offN, if_true, List.mem_cons, List.not_mem_nil, or_false] at h; simp only [mkN, if_true]; omega
  | false => simp only [offN, Bool.false_eq_true, if_false, List.mem_cons, List.not_mem_nil, or_false] at h; simp only [mkN, Bool.false_eq_true, if_false]; omega
theorem mode_mem {C : Nat} {c : Bool} (hC : mkN c ≤ C) {p : Pt} (h : p ∈ modeL C c) : (∃ t : Nat, C - mkN c + 2 ≤ t ∧ t + 2 ≤ C + mkN c ∧ (p = (t, C - mkN c) ∨ p = (C + mkN c, t) ∨ p = (t, C + mkN c) ∨ p = (C - mkN c, t))) := by
  have hat : ∀ o ∈ offN c, C - mkN c + 2 ≤ atI C o ∧ atI C o + 2 ≤ C + mkN c := fun o ho => by
    have := off_mem ho
    unfold atI
    omega
  unfold modeL at h
  simp only [List.mem_append, List.mem_map, List.mem_reverse] at h
  rcases h with ((⟨o, ho, rfl⟩ | ⟨o, ho, rfl⟩) | ⟨o, ho, rfl⟩) | ⟨o, ho, rfl⟩
  · exact ⟨_, (hat o ho).1, (hat o ho).2, .inl rfl⟩
  · exact ⟨_, (hat o ho).1, (hat o ho).2, .inr (.inl rfl)⟩
  · exact ⟨_, (hat o ho).1, (hat o ho).2, .inr (.inr (.inl rfl))⟩
  · exact ⟨_, (hat o ho).1, (hat o ho).2, .inr (.inr (.inr rfl))⟩
theorem mk57 (c : Bool) : mkN c = 5 ∨ mkN c = 7 := by unfold mkN; cases c <;> simp
theorem mode_ch {C : Nat} {c : Bool} (hC : mkN c ≤ C) {p : Pt} (h : p ∈ modeL C c) : chN C p = mkN c := by
  obtain ⟨t, h1, h2, h3⟩ := mode_mem hC h
  unfold chN adN
  rcases h3 with rfl | rfl | rfl | rfl <;> simp only <;> omega
theorem mode_in {C : Nat} {c : Bool} (hC : mkN c ≤ C) {p : Pt} (h : p ∈ modeL C c) : p.1 < 2 * C + 1 ∧ p.2 < 2 * C + 1 := by
  obtain ⟨t, h1, h2, h3⟩ := mode_mem hC h
  rcases h3 with rfl | rfl | rfl | rfl <;> simp only <;> omega
theorem mode_length (C : Nat) (c : Bool) : (modeL C c).length = if c = true then 28 else 40 := by cases c <;> rfl
theorem mode_nodup {C : Nat} {c : Bool} (hC : mkN c ≤ C) : (modeL C c).Nodup := by
  obtain ⟨t, rfl⟩ : ∃ t, C = mkN c + t := ⟨C - mkN c, by omega⟩
  have hs : modeL (mkN c + t) c = (modeL (mkN c) c).map fun p => (p.1 + t, p.2 + t) := by
    have hat : ∀ o ∈ offN c, atI (mkN c + t) o = atI (mkN c) o + t := fun o ho => by
      have := off_mem ho
      unfold atI
      omega
    unfold modeL
    simp only [List.map_append, List.map_map]
    refine congr (congrArg _ (congr (congrArg _ (congr (congrArg _ ?_) ?_)) ?_)) ?_
    all_goals refine List.map_congr_left fun o ho => ?_
    all_goals try simp only [List.mem_reverse] at ho
    all_goals simp only [Function.comp, hat o ho]
    all_goals refine Prod.ext ?_ ?_ <;> simp only <;> omega
  rw [hs]
  show List.Pairwise _ _
  rw [List.pairwise_map]
  have h0 : (modeL (mkN c) c).Pairwise (· ≠ ·) := by cases c <;> decide
  refine h0.imp ?_
  intro a b hab e
  apply hab
  have h1 := congrArg Prod.fst e
  have h2 := congrArg Prod.snd e
  simp only at h1 h2
  exact Prod.ext (by omega) (by omega)
def wrL (W : Nat) : List Bool → List Pt → List Bool → List Bool
  | d, p :: ps, b :: bs => wrL W (d.set (ixN W p) b) ps bs
  | d, [], _ => d
  | d, _ :: _, [] => d
theorem wrL_nil (W : Nat) (d : List Bool) (bs : List Bool) : wrL W d [] bs = d := by unfold wrL; rfl
theorem wrL_length (W : Nat) : ∀ (d : List Bool) (ps : List Pt) (bs : List Bool), (wrL W d ps bs).length = d.length
  | d, [], bs => by rw [wrL_nil]
  | d, p :: ps, [] => rfl
  | d, p :: ps, b :: bs => by
    show (wrL W (d.set (ixN W p) b) ps bs).length = _
    rw [wrL_length, List.length_set]
theorem wrL_append (W : Nat) : ∀ (d : List Bool) (ps qs : List Pt) (bs cs : List Bool), ps.length = bs.length → wrL W d (ps ++ qs) (bs ++ cs) = wrL W (wrL W d ps bs) qs cs
  | d, [], qs, [], cs, _ => by rw [wrL_nil]; rfl
  | d, p :: ps, qs, b :: bs, cs, h => by
    show wrL W (d.set (ixN W p) b) (ps ++ qs) (bs ++ cs) = wrL W (wrL W (d.set (ixN W p) b) ps bs) qs cs
    exact wrL_append W _ ps qs bs cs (by simpa using h)
  | d, [], qs, b :: bs, cs, h => by simp at h
  | d, p :: ps, qs, [], cs, h => by simp at h
theorem wrL_take (W : Nat) (d : List Bool) (ps : List Pt) (bs : List Bool) {i : Nat} (h1 : i < ps.length) (h2 : i < bs.length) : wrL W d (ps.take (i + 1)) (bs.take (i + 1)) = (wrL W d (ps.take i) (bs.take i)).set (ixN W (ps.getD i (0, 0))) (bs.getD i false) := by
  rw [List.take_succ_eq_append_getElem h1, List.take_succ_eq_append_getElem h2, wrL_append _ _ _ _ _ _ (by simp; omega)]
  simp [wrL, List.getD, h1, h2]
theorem wrL_other (W : Nat) : ∀ (d : List Bool) (ps : List Pt) (bs : List Bool) (i : Nat), (∀ p ∈ ps, ixN W p ≠ i) → (wrL W d ps bs).getD i false = d.getD i false
  | d, [], bs, i, _ => by rw [wrL_nil]
  | d, p :: ps, [], i, _ => rfl
  | d, p :: ps, b :: bs, i, h => by
    show (wrL W (d.set (ixN W p) b) ps bs).getD i false = _
    rw [wrL_other W _ ps bs i fun q hq => h q (List.mem_cons_of_mem _ hq)]
    have := h p (List.mem_cons_self ..)
    simp [List.getD, List.getElem?_set_ne this]
theorem ix_inj {W : Nat} {p q : Pt} (hp : p.1 < W) (hq : q.1 < W) (h : ixN W p = ixN W q) : p = q := by
  unfold ixN at h
  have e1 : (p.2 * W + p.1) / W = p.2 := by rw [Nat.add_comm, Nat.add_mul_div_right _ _ (by omega), Nat.div_eq_of_lt hp, Nat.zero_add]
  have e2 : (q.2 * W + q.1) / W = q.2 := by rw [Nat.add_comm, Nat.add_mul_div_right _ _ (by omega), Nat.div_eq_of_lt hq, Nat.zero_add]
  have e : p.2 = q.2 := by rw [← e1, ← e2, h]
  rw [e] at h
  exact Prod.ext (by omega) e
theorem ix_lt {W H : Nat} {p : Pt} (h1 : p.1 < W) (h2 : p.2 < H) : ixN W p < W * H := by
  unfold ixN
  have : (p.2 + 1) * W ≤ H * W := Nat.mul_le_mul_right W h2
  rw [Nat.add_mul, Nat.one_mul] at this
  rw [Nat.mul_comm W H]
  omega
theorem nodup_ix {W : Nat} {ps : List Pt} (h : ps.Nodup) (hb : ∀ p ∈ ps, p.1 < W) : ps.Pairwise fun p q => ixN W p ≠ ixN W q := by
  refine List.Pairwise.imp_of_mem ?_ h
  intro p q hp hq hne e
  exact hne (ix_inj (hb p hp) (hb q hq) e)
end Go.Proofs.YtmnlkganmgcpbaaGreatDoor
