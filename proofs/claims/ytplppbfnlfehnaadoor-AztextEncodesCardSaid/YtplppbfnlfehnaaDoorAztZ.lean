import Derived.Test.YtplppbfnlfehnaaDoorAztY
namespace Go.Proofs.YtplppbfnlfehnaaDoor
open Go.RowKit Go.WideMaps Go.Maps
set_option linter.unusedVariables false
/-! the decoder's steps -/
section
variable {n : Nat} {w wr : World} {db rb : Nat} {b0 b : List Bool} {mode : Nat} {out : List UInt8}
theorem DE.reads (h : DE n w wr db rb b0 b mode out) (m : Nat) (hm : m ≤ 40) :
    Calls Tryd.prog 49 #[.pointer (some ⟨rb, 0, none⟩), .int .i64 (m : Int)] wr fun e w' => e = .returned (.tuple #[.int .i64 (takeRes b 0 m).1, .int .i64 (takeRes b 0 m).2]) ∧
      ((b.length < m ∧ w' = wr) ∨ (m ≤ b.length ∧ DE n w w' db rb b0 (b.drop m) mode out)) := by
  obtain ⟨A, c, k1, k2, k3⟩ := h.R
  refine (RTakeB_any rb A b.length c m b wr k1.cells (frozen_of_row _ _ _ _ _ k1) hm (by have := h.lb; omega) k2).mono ?_
  rintro e w' ⟨h1, h2⟩
  refine ⟨h1, ?_⟩
  rcases h2 with h2 | ⟨h2, A', c', rfl, h3, h4⟩
  · exact .inl h2
  · exact .inr ⟨h2, h.take h2 h3 k1 h4⟩
theorem DE.facts (h : DE n w wr db rb b0 b mode out) : wr.cell? ⟨db, 1, none⟩ = some (.pointer (some ⟨rb, 0, none⟩)) ∧ wr.cell? ⟨db, 482, none⟩ = some (.int .i64 (mode : Int)) ∧ wr.frozen? ⟨db, 482, none⟩ = false ∧ wr.frozen? ⟨db, 483, none⟩ = false := by
  obtain ⟨cur, A0, c0, Ao, co, h1, h2, h3, h4, h5, h6, h7, h8, h9⟩ := h.D
  exact ⟨h1.cell 1 _ h4, h1.cell 482 _ h6, frozen_of_row _ _ _ _ _ h1, frozen_of_row _ _ _ _ _ h1⟩
/-- a meaning of the table, at its place -/
theorem DE.ent (h : DE n w wr db rb b0 b mode out) (m k : Nat) (hm : m < 5) (hk : k < 32) : ∀ j v, (ent m k)[j]? = some v → wr.cell? ((⟨db, 2 + m * 96 + k * 3, none⟩ : Addr).add j) = some v := by
  intro j v hj
  obtain ⟨cur, A0, c0, Ao, co, h1, h2, h3, h4, h5, h6, h7, h8, h9⟩ := h.D
  have hj3 : j < 3 := by
    rcases Nat.lt_or_ge j 3 with h | h
    · exact h
    · rw [List.getElem?_eq_none (by show 3 ≤ j; exact h)] at hj; cases hj
  rw [add_plain]
  refine h1.cell _ _ ?_
  have e : 2 + m * 96 + k * 3 + j = 2 + (m * 96 + (k * 3 + j)) := by omega
  rw [e]
  refine h5 _ _ ?_
  rw [theTab_get m (k * 3 + j) hm (by omega), rowF_get m k j hk hj3]
  exact hj
theorem byteInfo2 : (Tryd.prog.info? 5).map (fun i => (i.zero, i.size, i.bytes)) = some (some (.int .u8 0), 1, 1) := by kernel_rfl
/-- a text is appended to the payload -/
theorem wpHX_appendS {ops : Array Oper} {S : World → Prop} {K : Act → World → Prop} {r : List (Bool × Nat × Oper)} {k : Nat} {o : Oper} {a : Act} {W : World} {base : Nat} {A : Option Addr} {c : Nat} (hO : W.ownsRow base 5 1 (.slice A out.length c) out.length (out.map vU)) (hb : base ≤ W.heap.size)
    (hgd : Region.wanted o (yielded ops a.tmps) = true) (s y : Operand) (ho : o.op = .call { callee := .builtin .append, args := #[s, y], argTypes := #[22, 9] }) (hs : a.eval s = .slice A out.length c) (t : ByteArray) (hy : a.eval y = .string t) (hl : out.length ≤ 100000000) (ht : t.size ≤ 1000)
    (hk : ∀ A' c' W', W'.ownsRow base 5 1 (.slice A' (out ++ t.data.toList).length c') (out ++ t.data.toList).length ((out ++ t.data.toList).map vU) → W.grownBy W' (Value.slice A out.length c).ownBlock → S W' ∧ wpHX Tryd.prog ops S K r (a.put o.dst (.slice A' (out ++ t.data.toList).length c')) W') :
    wpHX Tryd.prog ops S K ((true, k, o) :: r) a W := by
  obtain ⟨i0, hi, hz0, hz1, hz2⟩ := info_parts byteInfo2
  obtain ⟨v', W', hrun, h2, h3, _⟩ := Lib.run_append_own_string (P := Tryd.prog) W base 22 9 o.type 5 i0 Tryd.underlying22 Tryd.underlying9 hi hz0 hz1 hz2 _ _ _ hO t (by unfold maxLen; omega) (by omega) hb
  have e1 : out.length + t.size = (out ++ t.data.toList).length := by simp
  have e2 : out.map vU ++ Lib.strCells t = (out ++ t.data.toList).map vU := by rw [List.map_append]; rfl
  rw [e1, e2] at h2
  obtain ⟨A', c', rfl⟩ := ownsRow_shape h2
  have h5 := hk A' c' W' h2 h3
  refine wpHX_aval hgd ?_ h5.1 h5.2
  unfold execOp
  simp only [ho, resolve, invoke, builtin, Sem.run_bind, Sem.run_pure, Result.andThen_ok, List.map_toArray, List.map_cons, List.map_nil, hs, hy, hrun]
end
end Go.Proofs.YtplppbfnlfehnaaDoor
