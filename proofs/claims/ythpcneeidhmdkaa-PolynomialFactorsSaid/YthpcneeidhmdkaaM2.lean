import Derived.Test.YthpcneeidhmdkaaM1
import Derived.Shelf.Small.Bits
import Derived.Shelf.Strconv.Itoa0
import Derived.Test.YthpcneeidhmdkaaProg
import Derived.WalkKit
import Derived.WalkSpells
import Derived.Lib.Hide
import Derived.Deep.QuietTactic
import Derived.BigQuiet
/-
  DERIVED: THE SHELF's CONTRACTS AT THIS DUMP, IN PLAIN WORDS (tools/lay-plain.mjs out of 'TryShelf.lean', which tools/lay-shelf.mjs wrote): THE SAME DECLARATIONS UNDER THE SAME YthpcneeidhmdkaaS: 'import', 'namespace', 'open', 'def', 'theorem' AND NOTHING ELSE: no command of the shelf's: FOR A HAND-IN. Each laying: the table of numbers ('.._ren') and one theorem, a field a fact of the dump's own or the kernel's comparison; each contract: ONE APPLICATION.
-/
namespace Go.Proofs
open Go.Shelf
def Try.lays128_ren : Go.Shelf.Ren := ⟨fun | 128 => 99 | n => n, fun | 51 => 78 | 3 => 3 | 4 => 4 | 46 => 72 | 5 => 5 | 9 => 9 | n => n, fun | n => n⟩
theorem Try.lays128 : Go.Proofs.Lays.n128 Try.prog Try.lays128_ren := {
  mixed := by kernel_rfl
  f128 := Try.func99.trans (congrArg some (by kernel_rfl))
  t3 := Try.underlying3
  a3 := Try.isAgg3
  z3 := Try.sizeOf3
  v3 := Try.zeroValue3
  t4 := Try.underlying4
  a4 := Try.isAgg4
  z4 := Try.sizeOf4
  v4 := Try.zeroValue4
  t5 := Try.underlying5
  a5 := Try.isAgg5
  z5 := Try.sizeOf5
  v5 := Try.zeroValue5
  t9 := Try.underlying9
  a9 := Try.isAgg9
  z9 := Try.sizeOf9
  v9 := Try.zeroValue9
  t46 := Try.underlying72
  a46 := Try.isAgg72
  z46 := Try.sizeOf72
  v46 := Try.zeroValue72
  t51 := Try.underlying78
  a51 := Try.isAgg78
  z51 := Try.sizeOf78
  v51 := Try.zeroValue78 }
/-- bits.Len32: "Len32 returns the minimum number of bits required to represent x; the result is 0 for x == 0.": IT RETURNS 'Lib.bitLen x'; the world is as it was. ('h0', 'h1': x is a uint32.) (LAID: no walk: one application.) -/
theorem Try.bits_Len32 (x : Int) (w : World) (h0 : 0 ≤ x) (h1 : x ≤ 4294967295) :
    Calls Try.prog 99 #[.int .u32 x] w fun e w' => e = .returned (.int .i64 (Lib.bitLen x.toNat)) ∧ w' = w := Any.bits_Len32 Try.lays128 x w h0 h1
def Try.lays125_ren : Go.Shelf.Ren := ⟨fun | 125 => 96 | 128 => 99 | 129 => 100 | n => n, fun | 46 => 72 | 3 => 3 | 51 => 78 | 53 => 80 | 4 => 4 | 5 => 5 | 9 => 9 | n => n, fun | n => n⟩
theorem Try.lays125 : Go.Proofs.Lays.n125 Try.prog Try.lays125_ren := {
  mixed := by kernel_rfl
  f125 := Try.func96.trans (congrArg some (by kernel_rfl))
  f128 := Try.func99.trans (congrArg some (by kernel_rfl))
  f129 := Try.func100.trans (congrArg some (by kernel_rfl))
  t3 := Try.underlying3
  a3 := Try.isAgg3
  z3 := Try.sizeOf3
  v3 := Try.zeroValue3
  t4 := Try.underlying4
  a4 := Try.isAgg4
  z4 := Try.sizeOf4
  v4 := Try.zeroValue4
  t5 := Try.underlying5
  a5 := Try.isAgg5
  z5 := Try.sizeOf5
  v5 := Try.zeroValue5
  t9 := Try.underlying9
  a9 := Try.isAgg9
  z9 := Try.sizeOf9
  v9 := Try.zeroValue9
  t46 := Try.underlying72
  a46 := Try.isAgg72
  z46 := Try.sizeOf72
  v46 := Try.zeroValue72
  t51 := Try.underlying78
  a51 := Try.isAgg78
  z51 := Try.sizeOf78
  v51 := Try.zeroValue78
  t53 := Try.underlying80
  a53 := Try.isAgg80
  z53 := Try.sizeOf80
  v53 := Try.zeroValue80 }
/-- bits.Len: "Len returns the minimum number of bits required to represent x; the result is 0 for x == 0.": IT RETURNS 'Lib.bitLen x'; the world is as it was. (A uint has 64 bits in the model.) ITS CALLEE bits.Len64 IS MET BY ITS OWN CONTRACT OFF THE SHELF (lay that first). (LAID: no walk: one application.) -/
theorem Try.bits_Len (x : Int) (w : World) (h0 : 0 ≤ x) (h1 : x ≤ 18446744073709551615) :
    Calls Try.prog 96 #[.int .u64 x] w fun e w' => e = .returned (.int .i64 (Lib.bitLen x.toNat)) ∧ w' = w := Any.bits_Len Try.lays125 x w h0 h1
def Try.lays129_ren : Go.Shelf.Ren := ⟨fun | 129 => 100 | n => n, fun | 53 => 80 | 3 => 3 | 4 => 4 | 46 => 72 | 5 => 5 | 9 => 9 | n => n, fun | n => n⟩
theorem Try.lays129 : Go.Proofs.Lays.n129 Try.prog Try.lays129_ren := {
  mixed := by kernel_rfl
  f129 := Try.func100.trans (congrArg some (by kernel_rfl))
  t3 := Try.underlying3
  a3 := Try.isAgg3
  z3 := Try.sizeOf3
  v3 := Try.zeroValue3
  t4 := Try.underlying4
  a4 := Try.isAgg4
  z4 := Try.sizeOf4
  v4 := Try.zeroValue4
  t5 := Try.underlying5
  a5 := Try.isAgg5
  z5 := Try.sizeOf5
  v5 := Try.zeroValue5
  t9 := Try.underlying9
  a9 := Try.isAgg9
  z9 := Try.sizeOf9
  v9 := Try.zeroValue9
  t46 := Try.underlying72
  a46 := Try.isAgg72
  z46 := Try.sizeOf72
  v46 := Try.zeroValue72
  t53 := Try.underlying80
  a53 := Try.isAgg80
  z53 := Try.sizeOf80
  v53 := Try.zeroValue80 }
/-- bits.Len64: "Len64 returns the minimum number of bits required to represent x; the result is 0 for x == 0.": IT RETURNS 'Lib.bitLen x'; the world is as it was. ('h0', 'h1': x is a uint64.) (LAID: no walk: one application.) -/
theorem Try.bits_Len64 (x : Int) (w : World) (h0 : 0 ≤ x) (h1 : x ≤ 18446744073709551615) :
    Calls Try.prog 100 #[.int .u64 x] w fun e w' => e = .returned (.int .i64 (Lib.bitLen x.toNat)) ∧ w' = w := Any.bits_Len64 Try.lays129 x w h0 h1
end Go.Proofs
namespace Go.Proofs.Ythpcneeidhmdkaa
open Go.RowKit

theorem bitLen_bl (x : Nat) (h : x < 2 ^ 64) : Lib.bitLen x = bl x := by
  induction x using Nat.strongRecOn with
  | _ x ih =>
    by_cases h0 : x = 0
    · subst h0; rfl
    · rw [Lib.bitLen_half x h0 h, ih (x / 2) (by omega) (by omega)]
      by_cases h1 : x = 1
      · subst h1; rfl
      · have h2 : x / 2 ≠ 0 := by omega
        obtain ⟨n, hn⟩ : ∃ n, bl (x/2) = n + 1 := ⟨bl (x/2) - 1, by have := bl_pos _ h2; omega⟩
        have g1 := (lt_bl_iff (x/2) n).1 (by omega)
        have g2 := (bl_le_iff (x/2) (n+1)).1 (by omega)
        rw [hn]
        rw [bl_eq x (n + 1) (by rw [Nat.pow_succ]; omega) (by rw [Nat.pow_succ]; omega)]; omega

theorem len_any (x : Int) (w : World) (h0 : 0 ≤ x) (h1 : x ≤ 9223372036854775807) :
    Calls Try.prog 96 #[.int .u64 x] w fun e w' => e = .returned (.int .i64 (bl x.toNat)) ∧ w = w' := by
  refine (Try.bits_Len x w h0 (by omega)).mono ?_
  rintro e w' ⟨rfl, rfl⟩
  exact ⟨by rw [bitLen_bl _ (by omega)], rfl⟩

theorem bl_le63 (x : Int) (h0 : 0 ≤ x) (h1 : x ≤ 9223372036854775807) : bl x.toNat ≤ 63 :=
  (bl_le_iff _ _).2 (by omega)

set_option maxHeartbeats 400000 in
theorem degree_any (p : Int) (w : World) (h0 : 0 ≤ p) (h1 : p ≤ 9223372036854775807) :
    Calls Try.prog 91 #[.int .i64 p] w fun e w' => e = .returned (.int .i64 ((bl p.toNat : Int) - 1)) ∧ w = w' := by
  have hb := bl_le63 p h0 h1
  go_enter Try.func91, Try.ntmps91
  go_wp2_with (go_at_call 96; refine (len_any _ _ (by omega) (by omega)).mono ?_; rintro e w' ⟨rfl, rfl⟩)
  go_ret
  exact ⟨rfl, rfl⟩
end Go.Proofs.Ythpcneeidhmdkaa
namespace Go.Proofs.Ythpcneeidhmdkaa
open Go.RowKit

theorem ret_int {k : IntKind} {a b : Int} (h : a = b) : Ending.returned (.int k a) = .returned (.int k b) := by rw [h]
theorem ret_bool {a b : Bool} (h : a = b) : Ending.returned (.bool a) = .returned (.bool b) := by rw [h]
theorem bl40 (P : Nat) (h : bl P ≤ 40) : P < 2 ^ 40 := (bl_le_iff _ _).1 h
theorem step_val (P q : Nat) (hP : bl P ≤ 40) (hq0 : 0 < q) (hlt : bl q ≤ bl P) :
    bits BinOp.xor IntKind.i64 (↑P) (wrap64 (↑q * 2 ^ (bl P - 1 - (bl q - 1)))) = ((cstep P q : Nat) : Int) := by
  have h0 := bl_pos q (by omega)
  rw [show bl P - 1 - (bl q - 1) = bl P - bl q from by omega]
  have h1 := bl_shift q (bl P - bl q) (by omega)
  have h2 := bl40 (q * 2 ^ (bl P - bl q)) (by omega)
  have h3 := bl40 P hP
  rw [show ((q : Int) * 2 ^ (bl P - bl q)) = ((q * 2 ^ (bl P - bl q) : Nat) : Int) from by simp]
  rw [IntWalk.wrap64_in _ (by omega), i64_xor_nat _ _ (by omega) (by omega)]
  rfl
theorem cmod_cstep (P q : Nat) (hq0 : 0 < q) : cmod (cstep P q) q = cmod P q := by
  refine (cmod_unique _ _ _ ?_ (cmod_lt _ _ (by omega))).symm
  have h1 := cmod_dvd P q
  have h2 := cdvd_xor h1 (⟨2 ^ (bl P - bl q), (cmul_pow q _).symm⟩ : cdvd q (q * 2 ^ (bl P - bl q)))
  rw [show P ^^^ cmod P q ^^^ q * 2 ^ (bl P - bl q) = (P ^^^ q * 2 ^ (bl P - bl q)) ^^^ cmod P q from by ac_rfl] at h2
  exact h2

set_option maxHeartbeats 400000 in
theorem rem_nat (p q : Nat) (w : World) (hp : p < 2 ^ 40) (hq0 : 0 < q) (hq : q < 2 ^ 40) :
    Calls Try.prog 97 #[.int .i64 p, .int .i64 q] w fun e w' => e = .returned (.int .i64 (cmod p q)) ∧ w = w' := by
  have hpb : bl p ≤ 40 := (bl_le_iff _ _).2 hp
  have hqb : bl q ≤ 40 := (bl_le_iff _ _).2 hq
  have hqp : 0 < bl q := bl_pos q (by omega)
  have hpI : (p : Int) ≤ 9223372036854775807 := by omega
  have hqI : (q : Int) ≤ 9223372036854775807 := by omega
  go_enter Try.func97, Try.ntmps97
  go_wp2_with fail
  go_loop [0] (fun t => ∃ P : Nat, bl P ≤ 40 ∧ t = .int .i64 P ∧ Hid (cmod P q = cmod p q)) (fun t => bl (intOf t).toNat)
  case atStart => exact ⟨p, hpb, rfl, rfl⟩
  case round =>
    obtain ⟨P, hP, rfl, hid⟩ := hrel
    have hPI : (P : Int) ≤ 9223372036854775807 := by
      have := bl40 P hP; omega
    by_cases hlt : bl q ≤ bl P
    · have hlt2 := cstep_lt P q (by omega) hlt
      go_wp2_with (go_at_call 91; refine (degree_any _ _ (by omega) (by omega)).mono ?_; rintro e w' ⟨rfl, rfl⟩)
      rw [step_val P q hP hq0 hlt]
      refine ⟨⟨cstep P q, by omega, rfl, ?_⟩, hlt2⟩
      show cmod _ _ = _
      rw [cmod_cstep P q hq0]; exact hid.out
    · go_wp2_with (go_at_call 91; refine (degree_any _ _ (by omega) (by omega)).mono ?_; rintro e w' ⟨rfl, rfl⟩)
      go_ret
      exact ⟨ret_int (by rw [← hid.out, cmod_small P q (by omega)]), rfl⟩

theorem rem_any (p q : Int) (w : World) (hp0 : 0 ≤ p) (hp : p < 1099511627776) (hq0 : 0 < q) (hq : q < 1099511627776) :
    Calls Try.prog 97 #[.int .i64 p, .int .i64 q] w fun e w' => e = .returned (.int .i64 (cmod p.toNat q.toNat)) ∧ w = w' := by
  obtain ⟨P, rfl⟩ := Int.eq_ofNat_of_zero_le hp0
  obtain ⟨Q, rfl⟩ := Int.eq_ofNat_of_zero_le (Int.le_of_lt hq0)
  exact rem_nat P Q w (by omega) (by omega) (by omega)

theorem bl_succ_le (q : Nat) : bl (q + 1) ≤ bl q + 1 := by
  have := lt_pow_bl q
  exact (bl_le_iff _ _).2 (by rw [Nat.pow_succ]; have := Nat.two_pow_pos (bl q); omega)

set_option maxRecDepth 100000 in
set_option maxHeartbeats 400000 in
theorem irr_nat (p : Nat) (w : World) (hp0 : 0 < p) (hp : bl p ≤ 13) :
    Calls Try.prog 92 #[.int .i64 p] w fun e w' => e = .returned (.bool (irrB p)) ∧ w = w' := by
  have hp40 : p < 2 ^ 13 := (bl_le_iff _ _).1 hp
  have hpp := bl_pos p (by omega)
  have hpI : (p : Int) ≤ 9223372036854775807 := by omega
  have hpI2 : (p : Int) < 1099511627776 := by omega
  go_enter Try.func92, Try.ntmps92
  go_wp2_with fail
  go_loop [3] (fun t => ∃ q : Nat, 2 ≤ q ∧ bl q ≤ 8 ∧ t = .int .i64 q ∧ Hid (∀ r, 2 ≤ r → r < q → cmod p r ≠ 0)) (fun t => 300 - (intOf t).toNat)
  case atStart => exact ⟨2, by omega, by decide, rfl, fun r h1 h2 => by omega⟩
  case round =>
    obtain ⟨q, hq2, hq, rfl, hid⟩ := hrel
    have hqI : q < 2 ^ 8 := (bl_le_iff _ _).1 hq
    have hqI2 : (q : Int) < 256 := by omega
    have hqb : 2 ≤ bl q := by
      have := bl_mono 2 q hq2; have e : bl 2 = 2 := by decide
      omega
    by_cases hlt : 2 * ((bl q : Int) - 1) ≤ (bl p : Int) - 1
    · by_cases hz : cmod p q = 0
      · have hz2 : (((cmod p q : Nat) : Int) == 0) = true := by rw [hz]; rfl
        have hz3 := Lib.hid hz; clear hz
        have hI : irrB p = false := by
          rw [Bool.eq_false_iff]; intro h; exact (irrB_iff p).1 h q hq2 (by omega) hz3.out
        have HI := Lib.hid hI; clear hI
        go_wp2_with (first | (go_at_call 91; refine (degree_any _ _ (by omega) (by omega)).mono ?_; rintro e w' ⟨rfl, rfl⟩) | (go_at_call 97; refine (rem_any _ _ _ (by omega) (by omega) (by omega) (by omega)).mono ?_; rintro e w' ⟨rfl, rfl⟩))
        go_ret
        exact ⟨ret_bool HI.out.symm, rfl⟩
      · have hz2 : (((cmod p q : Nat) : Int) == 0) = false := by simpa using hz
        have hb2 := bl_succ_le q
        go_wp2_with (first | (go_at_call 91; refine (degree_any _ _ (by omega) (by omega)).mono ?_; rintro e w' ⟨rfl, rfl⟩) | (go_at_call 97; refine (rem_any _ _ _ (by omega) (by omega) (by omega) (by omega)).mono ?_; rintro e w' ⟨rfl, rfl⟩))
        refine ⟨⟨q + 1, by omega, by omega, by go_num, ?_⟩, by simp [intOf]; omega⟩
        intro r h1 h2
        by_cases h3 : r = q
        · subst h3; exact hz
        · exact hid.out r h1 (by omega)
    · have hI : irrB p = true := by
        rw [irrB_iff]; intro r h1 h2
        refine hid.out r h1 ?_
        have : bl r < bl q := by omega
        exact lt_of_bl_lt _ _ this
      have HI := Lib.hid hI; clear hI
      have hlt2 : bl p + 2 ≤ 2 * bl q := by omega
      clear hlt hid hqI hp40 hpI2
      go_wp2_with (first | (go_at_call 91; refine (degree_any _ _ (by omega) (by omega)).mono ?_; rintro e w' ⟨rfl, rfl⟩))
      go_ret
      exact ⟨ret_bool HI.out.symm, rfl⟩
theorem irr_any (p : Int) (w : World) (hp0 : 0 < p) (hp : bl p.toNat ≤ 13) :
    Calls Try.prog 92 #[.int .i64 p] w fun e w' => e = .returned (.bool (irrB p.toNat)) ∧ w = w' := by
  obtain ⟨P, rfl⟩ := Int.eq_ofNat_of_zero_le (Int.le_of_lt hp0)
  exact irr_nat P w (by omega) hp

set_option maxHeartbeats 400000 in
theorem prime_nat (n : Nat) (w : World) (hn : 2 ≤ n) (hn2 : n ≤ 4096) :
    Calls Try.prog 79 #[.int .i64 n] w fun e w' => e = .returned (.bool (primeB n)) ∧ w = w' := by
  go_enter Try.func79, Try.ntmps79
  go_wp2_with fail
  go_loop [3] (fun t => ∃ d : Nat, 2 ≤ d ∧ d ≤ 65 ∧ t = .int .i64 d ∧ Hid (∀ r, 2 ≤ r → r < d → n % r ≠ 0)) (fun t => 100 - (intOf t).toNat)
  case atStart => exact ⟨2, by omega, by decide, rfl, fun r h1 h2 => by omega⟩
  case round =>
    obtain ⟨d, hd2, hd, rfl, hid⟩ := hrel
    have hdd : d * d ≤ 65 * 65 := Nat.mul_le_mul hd hd
    have hdd0 : (0 : Int) ≤ (d : Int) * d := by have : (0 : Int) ≤ ((d * d : Nat) : Int) := by omega
                                                simpa using this
    have hdd1 : (d : Int) * d ≤ 4225 := by have : ((d * d : Nat) : Int) ≤ 4225 := by omega
                                           simpa using this
    by_cases hlt : d * d ≤ n
    · have hlt2 : (d : Int) * d ≤ n := by have : ((d * d : Nat) : Int) ≤ n := by omega
                                          simpa using this
      have hd3 : d ≤ 64 := by
        rcases Nat.lt_or_ge d 65 with h | h
        · omega
        · have := Nat.mul_le_mul h h; omega
      clear hlt
      by_cases hz : n % d = 0
      · have hz2 : (((n : Int) % (d : Int)) == 0) = true := by
          have : ((n % d : Nat) : Int) = 0 := by omega
          simpa using this
        have hI : primeB n = false := by
          rw [Bool.eq_false_iff]; intro h
          have h4 : d * d ≤ n := by have : ((d * d : Nat) : Int) ≤ n := by simpa using hlt2
                                    omega
          exact ((primeB_iff n).1 h).2 d hd2 h4 hz
        have HI := Lib.hid hI; clear hI
        clear hz
        go_wp2
        go_ret
        exact ⟨ret_bool HI.out.symm, rfl⟩
      · have hz2 : (((n : Int) % (d : Int)) == 0) = false := by
          have : ((n % d : Nat) : Int) ≠ 0 := by omega
          simpa using this
        have HZ := Lib.hid hz; clear hz
        go_wp2
        refine ⟨⟨d + 1, by omega, by omega, by go_num, ?_⟩, by simp [intOf]; omega⟩
        intro r h1 h2
        by_cases h3 : r = d
        · subst h3; exact HZ.out
        · exact hid.out r h1 (by omega)
    · have hlt2 : ¬ (d : Int) * d ≤ n := by
        have : ¬ ((d * d : Nat) : Int) ≤ n := by omega
        simpa using this
      have hI : primeB n = true := by
        rw [primeB_iff]; refine ⟨hn, fun r h1 h2 => hid.out r h1 ?_⟩
        rcases Nat.lt_or_ge r d with h | h
        · exact h
        · have := Nat.mul_le_mul h h; omega
      have HI := Lib.hid hI; clear hI
      clear hlt
      go_wp2
      go_ret
      exact ⟨ret_bool HI.out.symm, rfl⟩
theorem prime_any (n : Int) (w : World) (hn : 2 ≤ n) (hn2 : n ≤ 4096) :
    Calls Try.prog 79 #[.int .i64 n] w fun e w' => e = .returned (.bool (primeB n.toNat)) ∧ w = w' := by
  obtain ⟨P, rfl⟩ := Int.eq_ofNat_of_zero_le (by omega : 0 ≤ n)
  exact prime_nat P w (by omega) (by omega)
end Go.Proofs.Ythpcneeidhmdkaa
namespace Go.Proofs.Ythpcneeidhmdkaa
open Go.RowKit
/-! the reference's functions on polynomials over GF(2) and primes -/

set_option maxHeartbeats 400000 in
theorem rdegree_any (p : Int) (w : World) (h1 : p ≤ 9223372036854775807) :
    Calls Try.prog 85 #[.int .i64 p] w fun e w' => e = .returned (.int .i64 ((bl p.toNat : Int) - 1)) ∧ w = w' := by
  by_cases h0 : 0 < p
  · have hb := bl_le63 p (by omega) h1
    go_enter Try.func85, Try.ntmps85
    go_wp2_with fail
    go_loop [0, 3] (fun t d => ∃ P D : Nat, t = .int .i64 P ∧ D ≤ 63 ∧ d = .int .i64 ((D : Int) - 1) ∧ P ≤ 9223372036854775807 ∧ Hid (bl P + D = bl p.toNat)) (fun t _ => (intOf t).toNat)
    case atStart => exact ⟨p.toNat, 0, by rw [Int.toNat_of_nonneg (by omega)], by omega, rfl, by omega, rfl⟩
    case round =>
      obtain ⟨P, D, rfl, hD, rfl, hP, hid⟩ := hrel
      by_cases hz : 0 < P
      · have hpd : bl (P / 2) + 1 = bl P := by
          by_cases h1 : P = 1
          · subst h1; rfl
          · have h2 : P / 2 ≠ 0 := by omega
            obtain ⟨n, hn⟩ : ∃ n, bl (P/2) = n + 1 := ⟨bl (P/2) - 1, by have := bl_pos _ h2; omega⟩
            have g1 := (lt_bl_iff (P/2) n).1 (by omega)
            have g2 := (bl_le_iff (P/2) (n+1)).1 (by omega)
            rw [hn]
            rw [bl_eq P (n + 1) (by rw [Nat.pow_succ]; omega) (by rw [Nat.pow_succ]; omega)]
        have HP := Lib.hid hpd; clear hpd
        have hb63 : D + 1 ≤ 63 := by have := hid.out; have := HP.out; omega
        go_wp2
        refine ⟨⟨P / 2, D + 1, by go_num, by omega, by go_num, by omega, ?_⟩, by simp [intOf]; omega⟩
        show bl (P / 2) + (D + 1) = _
        have := hid.out; have := HP.out; omega
      · obtain rfl : P = 0 := by omega
        go_wp2
        go_ret
        exact ⟨ret_int (by have := hid.out; rw [bl_zero] at this; omega), rfl⟩
  · go_enter Try.func85, Try.ntmps85
    go_wp2_with fail
    go_loop [0, 3] (fun t d => t = .int .i64 p ∧ d = .int .i64 (-1)) (fun t _ => (intOf t).toNat)
    case atStart => exact ⟨rfl, rfl⟩
    case round =>
      obtain ⟨rfl, rfl⟩ := hrel
      go_wp2
      go_ret
      exact ⟨ret_int (by rw [Int.toNat_of_nonpos (by omega)]; rfl), rfl⟩

/-- below bit k + 1 the bit k decides -/
theorem bl_le_of_bit (P k : Nat) (h : bl P ≤ k + 1) (hb : P.testBit k = false) : bl P ≤ k := by
  rcases Nat.lt_or_ge (bl P) (k + 1) with h1 | h1
  · omega
  · have := testBit_bl P k (by omega); rw [this] at hb; cases hb
theorem bl_of_bit (P k : Nat) (h : bl P ≤ k + 1) (hb : P.testBit k = true) : bl P = k + 1 := by
  rcases Nat.lt_or_ge (bl P) (k + 1) with h1 | h1
  · have := (bl_le_iff P k).1 (by omega)
    rw [Nat.testBit_lt_two_pow this] at hb; cases hb
  · omega
theorem testBit_div (P k : Nat) : P.testBit k = decide (P / 2 ^ k % 2 = 1) := Nat.testBit_eq_decide_div_mod_eq

theorem bit_one (P j : Nat) (h : P < 2 ^ 40) : bits BinOp.and IntKind.i64 ((P : Int) / 2 ^ j) 1 = ((P / 2 ^ j % 2 : Nat) : Int) := by
  rw [show ((P : Int) / 2 ^ j) = ((P / 2 ^ j : Nat) : Int) from by simp]
  exact i64_and_one _ (by have := Nat.div_le_self P (2 ^ j); omega)
theorem bit_yes {P j : Nat} (h : (((P / 2 ^ j % 2 : Nat) : Int) == 1) = true) : P.testBit j = true := by
  rw [testBit_div, decide_eq_true_iff]; exact Int.ofNat.inj (eq_of_beq h)
theorem bit_no {P j : Nat} (h : (((P / 2 ^ j % 2 : Nat) : Int) == 1) = false) : P.testBit j = false := by
  rw [testBit_div, decide_eq_false_iff_not]; intro e; rw [e] at h; cases h
set_option maxHeartbeats 400000 in
theorem rrest_nat (p q : Nat) (w : World) (hp : bl p ≤ 40) (hq0 : 0 < q) (hq : bl q ≤ 40) :
    Calls Try.prog 94 #[.int .i64 p, .int .i64 q] w fun e w' => e = .returned (.int .i64 (cmod p q)) ∧ w = w' := by
  have hqp : 0 < bl q := bl_pos q (by omega)
  have hpI : (p : Int) ≤ 9223372036854775807 := by have := bl40 p hp; omega
  have hqI : (q : Int) ≤ 9223372036854775807 := by have := bl40 q hq; omega
  go_enter Try.func94, Try.ntmps94
  go_wp2_with (go_at_call 85; refine (rdegree_any _ _ (by omega)).mono ?_; rintro e w' ⟨rfl, rfl⟩)
  go_loop [0, 6] (fun t k => ∃ P K : Nat, t = .int .i64 P ∧ bl P ≤ K ∧ K ≤ 40 ∧ k = .int .i64 ((K : Int) - 1) ∧ Hid (cmod P q = cmod p q)) (fun _ k => (intOf k + 1).toNat)
  case atStart =>
    exact ⟨p, bl p, rfl, Nat.le_refl _, hp, rfl, rfl⟩
  case round =>
    obtain ⟨P, K, rfl, hP, hK, rfl, hid⟩ := hrel
    go_wp2
    · rename_i h1 h2
      rw [bit_one P _ (bl40 P (by omega))] at h2
      have h3 : P.testBit (K - 1) = true := bit_yes h2
      have h4 := bl_of_bit P (K - 1) (by omega) h3
      obtain rfl : K = bl P := by omega
      rw [step_val P q (by omega) hq0 h1]
      have h5 := cstep_lt P q (by omega) h1
      refine ⟨⟨cstep P q, bl P - 1, rfl, by omega, by omega, by go_num, ?_⟩, by simp [intOf]; omega⟩
      show cmod _ _ = _
      rw [cmod_cstep P q hq0]; exact hid.out
    · rename_i h1 h2
      rw [bit_one P _ (bl40 P (by omega))] at h2
      have h3 : P.testBit (K - 1) = false := bit_no h2
      have h4 := bl_le_of_bit P (K - 1) (by omega) h3
      exact ⟨⟨P, K - 1, rfl, by omega, by omega, by go_num, hid⟩, by simp [intOf]; omega⟩
    · rename_i h1 _
      go_ret
      exact ⟨ret_int (by rw [← hid.out, cmod_small P q (by omega)]), rfl⟩
theorem rrest_any (p q : Int) (w : World) (hp0 : 0 ≤ p) (hp : bl p.toNat ≤ 40) (hq0 : 0 < q) (hq : bl q.toNat ≤ 40) :
    Calls Try.prog 94 #[.int .i64 p, .int .i64 q] w fun e w' => e = .returned (.int .i64 (cmod p.toNat q.toNat)) ∧ w = w' := by
  obtain ⟨P, rfl⟩ := Int.eq_ofNat_of_zero_le hp0
  obtain ⟨Q, rfl⟩ := Int.eq_ofNat_of_zero_le (Int.le_of_lt hq0)
  exact rrest_nat P Q w hp (by omega) hq

set_option maxHeartbeats 400000 in
theorem rprime_nat (n : Nat) (w : World) (hn : 2 ≤ n) (hn2 : n ≤ 4096) :
    Calls Try.prog 87 #[.int .i64 n] w fun e w' => e = .returned (.bool (primeB n)) ∧ w = w' := by
  go_enter Try.func87, Try.ntmps87
  go_wp2_with fail
  go_loop [3] (fun t => ∃ d : Nat, 2 ≤ d ∧ d ≤ 65 ∧ t = .int .i64 d ∧ Hid (∀ r, 2 ≤ r → r < d → n % r ≠ 0)) (fun t => 100 - (intOf t).toNat)
  case atStart => exact ⟨2, by omega, by decide, rfl, fun r h1 h2 => by omega⟩
  case round =>
    obtain ⟨d, hd2, hd, rfl, hid⟩ := hrel
    have hdd : d * d ≤ 65 * 65 := Nat.mul_le_mul hd hd
    have hdd0 : (0 : Int) ≤ (d : Int) * d := by have : (0 : Int) ≤ ((d * d : Nat) : Int) := by omega
                                                simpa using this
    have hdd1 : (d : Int) * d ≤ 4225 := by have : ((d * d : Nat) : Int) ≤ 4225 := by omega
                                           simpa using this
    by_cases hlt : d * d ≤ n
    · have hlt2 : (d : Int) * d ≤ n := by have : ((d * d : Nat) : Int) ≤ n := by omega
                                          simpa using this
      have hd3 : d ≤ 64 := by
        rcases Nat.lt_or_ge d 65 with h | h
        · omega
        · have := Nat.mul_le_mul h h; omega
      clear hlt
      by_cases hz : n % d = 0
      · have hz2 : (((n : Int) % (d : Int)) == 0) = true := by
          have : ((n % d : Nat) : Int) = 0 := by omega
          simpa using this
        have hI : primeB n = false := by
          rw [Bool.eq_false_iff]; intro h
          have h4 : d * d ≤ n := by have : ((d * d : Nat) : Int) ≤ n := by simpa using hlt2
                                    omega
          exact ((primeB_iff n).1 h).2 d hd2 h4 hz
        have HI := Lib.hid hI; clear hI
        clear hz
        go_wp2
        go_ret
        exact ⟨ret_bool HI.out.symm, rfl⟩
      · have hz2 : (((n : Int) % (d : Int)) == 0) = false := by
          have : ((n % d : Nat) : Int) ≠ 0 := by omega
          simpa using this
        have HZ := Lib.hid hz; clear hz
        go_wp2
        refine ⟨⟨d + 1, by omega, by omega, by go_num, ?_⟩, by simp [intOf]; omega⟩
        intro r h1 h2
        by_cases h3 : r = d
        · subst h3; exact HZ.out
        · exact hid.out r h1 (by omega)
    · have hlt2 : ¬ (d : Int) * d ≤ n := by
        have : ¬ ((d * d : Nat) : Int) ≤ n := by omega
        simpa using this
      have hI : primeB n = true := by
        rw [primeB_iff]; refine ⟨hn, fun r h1 h2 => hid.out r h1 ?_⟩
        rcases Nat.lt_or_ge r d with h | h
        · exact h
        · have := Nat.mul_le_mul h h; omega
      have HI := Lib.hid hI; clear hI
      clear hlt
      go_wp2
      go_ret
      exact ⟨ret_bool (by rw [HI.out]; simp; omega), rfl⟩
theorem rprime_any (n : Int) (w : World) (hn : 2 ≤ n) (hn2 : n ≤ 4096) :
    Calls Try.prog 87 #[.int .i64 n] w fun e w' => e = .returned (.bool (primeB n.toNat)) ∧ w = w' := by
  obtain ⟨P, rfl⟩ := Int.eq_ofNat_of_zero_le (by omega : 0 ≤ n)
  exact rprime_nat P w (by omega) (by omega)

/-- the reference's irreducible: the degree is d, and no factor -/
def rirrB (p d : Int) : Bool := decide (0 ≤ p) && decide ((bl p.toNat : Int) = d + 1) && irrB p.toNat
set_option maxHeartbeats 400000 in
theorem rirr_no1 (p d : Int) (w : World) (h : p < 0) :
    Calls Try.prog 86 #[.int .i64 p, .int .i64 d] w fun e w' => e = .returned (.bool (rirrB p d)) ∧ w = w' := by
  have hI : rirrB p d = false := by unfold rirrB; simp; omega
  have HI := Lib.hid hI; clear hI
  go_enter Try.func86, Try.ntmps86
  go_wp2
  go_ret
  exact ⟨ret_bool HI.out.symm, rfl⟩
set_option maxHeartbeats 400000 in
theorem rirr_no2 (p d : Int) (w : World) (h : 0 ≤ p) (h1 : p ≤ 9223372036854775807) (hd : (bl p.toNat : Int) - 1 ≠ d) :
    Calls Try.prog 86 #[.int .i64 p, .int .i64 d] w fun e w' => e = .returned (.bool (rirrB p d)) ∧ w = w' := by
  have hI : rirrB p d = false := by unfold rirrB; simp; omega
  have HI := Lib.hid hI; clear hI
  have hdb : (((bl p.toNat : Int) - 1) != d) = true := by rw [bne_iff_ne]; exact hd
  clear hd
  go_enter Try.func86, Try.ntmps86
  go_wp2_with (go_at_call 85; refine (rdegree_any _ _ (by omega)).mono ?_; rintro e w' ⟨rfl, rfl⟩)
  go_ret
  exact ⟨ret_bool HI.out.symm, rfl⟩
set_option maxHeartbeats 400000 in
theorem rirr_yes (p : Nat) (w : World) (hp0 : 0 < p) (hp : bl p ≤ 13) :
    Calls Try.prog 86 #[.int .i64 p, .int .i64 ((bl p : Int) - 1)] w fun e w' => e = .returned (.bool (irrB p)) ∧ w = w' := by
  have hpp := bl_pos p (by omega)
  have hpI : (p : Int) ≤ 9223372036854775807 := by have := bl40 p (by omega); omega
  go_enter Try.func86, Try.ntmps86
  go_wp2_with (go_at_call 85; refine (rdegree_any _ _ (by omega)).mono ?_; rintro e w' ⟨rfl, rfl⟩)
  go_loop [5] (fun t => ∃ q : Nat, 2 ≤ q ∧ bl q ≤ 8 ∧ t = .int .i64 q ∧ Hid (∀ r, 2 ≤ r → r < q → cmod p r ≠ 0)) (fun t => 300 - (intOf t).toNat)
  case atStart => exact ⟨2, by omega, by decide, rfl, fun r h1 h2 => by omega⟩
  case round =>
    obtain ⟨q, hq2, hq, rfl, hid⟩ := hrel
    have hqI2 : (q : Int) < 256 := by have : q < 2 ^ 8 := (bl_le_iff _ _).1 hq
                                      omega
    have hqb : 2 ≤ bl q := by
      have := bl_mono 2 q hq2; have e : bl 2 = 2 := by decide
      omega
    by_cases hlt : 2 * ((bl q : Int) - 1) ≤ (bl p : Int) - 1
    · by_cases hz : cmod p q = 0
      · have hz2 : (((cmod p q : Nat) : Int) == 0) = true := by rw [hz]; rfl
        have hz3 := Lib.hid hz; clear hz
        have hI : irrB p = false := by
          rw [Bool.eq_false_iff]; intro h; exact (irrB_iff p).1 h q hq2 (by omega) hz3.out
        have HI := Lib.hid hI; clear hI
        go_wp2_with (first | (go_at_call 85; refine (rdegree_any _ _ (by omega)).mono ?_; rintro e w' ⟨rfl, rfl⟩) | (go_at_call 94; refine (rrest_any _ _ _ (by omega) (by first | exact Nat.le_trans hp (by omega) | omega) (by omega) (by first | exact Nat.le_trans hq (by omega) | omega)).mono ?_; rintro e w' ⟨rfl, rfl⟩))
        go_ret
        exact ⟨ret_bool HI.out.symm, rfl⟩
      · have hz2 : (((cmod p q : Nat) : Int) == 0) = false := by simpa using hz
        have hb2 := bl_succ_le q
        go_wp2_with (first | (go_at_call 85; refine (rdegree_any _ _ (by omega)).mono ?_; rintro e w' ⟨rfl, rfl⟩) | (go_at_call 94; refine (rrest_any _ _ _ (by omega) (by first | exact Nat.le_trans hp (by omega) | omega) (by omega) (by first | exact Nat.le_trans hq (by omega) | omega)).mono ?_; rintro e w' ⟨rfl, rfl⟩))
        refine ⟨⟨q + 1, by omega, by omega, by go_num, ?_⟩, by simp [intOf]; omega⟩
        intro r h1 h2
        by_cases h3 : r = q
        · subst h3; exact hz
        · exact hid.out r h1 (by omega)
    · have hI : irrB p = true := by
        rw [irrB_iff]; intro r h1 h2
        refine hid.out r h1 ?_
        have : bl r < bl q := by omega
        exact lt_of_bl_lt _ _ this
      have HI := Lib.hid hI; clear hI
      have hlt2 : decide (2 * ((bl q : Int) - 1) ≤ (bl p : Int) - 1) = false := by simp; omega
      clear hlt hid
      go_wp2_with (first | (go_at_call 85; refine (rdegree_any _ _ (by omega)).mono ?_; rintro e w' ⟨rfl, rfl⟩))
      go_ret
      exact ⟨ret_bool HI.out.symm, rfl⟩
theorem rirr_any (p d : Int) (w : World) (h1 : p ≤ 9223372036854775807) (hd0 : 0 ≤ d) (hd : d ≤ 12) :
    Calls Try.prog 86 #[.int .i64 p, .int .i64 d] w fun e w' => e = .returned (.bool (rirrB p d)) ∧ w = w' := by
  by_cases h0 : 0 ≤ p
  · by_cases hb : (bl p.toNat : Int) - 1 = d
    · obtain ⟨P, rfl⟩ := Int.eq_ofNat_of_zero_le h0
      rw [Int.toNat_natCast] at hb
      subst hb
      have hP : 0 < P := by
        rcases Nat.eq_zero_or_pos P with h | h
        · subst h; rw [bl_zero] at hd0; omega
        · exact h
      refine (rirr_yes P w hP (by omega)).mono ?_
      rintro e w' ⟨rfl, rfl⟩
      refine ⟨ret_bool ?_, rfl⟩
      unfold rirrB; simp; 
    · exact rirr_no2 p d w h0 h1 hb
  · exact rirr_no1 p d w (by omega)
end Go.Proofs.Ythpcneeidhmdkaa
namespace Go.Proofs.Ythpcneeidhmdkaa
open Go.RowKit
/-- a callee that leaves the world alone, inside a quiet region -/
theorem quietL {P : Program} {f : FuncId} {args : Array Value} {w : World} {n : Nat} {v : Value}
    (h : Calls P f args (w.drewN n) fun e w' => e = .returned v ∧ w.drewN n = w') :
    Calls P f args (w.drewN n) fun e w'' => e = .returned v ∧ ∃ m, w'' = w.drewN m :=
  h.mono fun _ _ hx => ⟨hx.1, n, hx.2.symm⟩
theorem below_drewN {B : Nat} {a w : World} (h : Below B a w) (n : Nat) : Below B a (w.drewN n) := ⟨h.os, h.tape, h.output, h.size, h.block⟩
/-! Valid -/
def vldB (c s p : Int) : Bool :=
  if p = 0 then decide (2 < s) && decide (s ≤ 4096) && decide (c = s) && primeB s.toNat
  else decide (2 ≤ p) && decide (bl p.toNat ≤ 13) && decide (c = 2) && decide (s = ((2 ^ (bl p.toNat - 1) : Nat) : Int)) && irrB p.toNat

abbrev fldv (c s p : Int) : Value := .agg #[.int .i64 c, .int .i64 s, .int .i64 p]

set_option maxHeartbeats 400000 in
theorem valid_a1 (c s : Int) (w : World) (h : ¬ 2 < s) :
    Calls Try.prog 81 #[fldv c s 0] w fun e w' => e = .returned (.bool (vldB c s 0)) ∧ Below w.heap.size w w' := by
  have hI : vldB c s 0 = false := by unfold vldB; simp; omega
  have HI := Lib.hid hI; clear hI
  go_enter Try.func81, Try.ntmps81
  go_wp2
  go_ret
  exact ⟨ret_bool HI.out.symm, (Below.refl _ _).alloc (Nat.le_refl _) _⟩
set_option maxHeartbeats 400000 in
theorem valid_a4 (c s : Int) (w : World) (h : 2 < s) (h2 : s ≤ 4096) (h3 : c = s) :
    Calls Try.prog 81 #[fldv c s 0] w fun e w' => e = .returned (.bool (vldB c s 0)) ∧ Below w.heap.size w w' := by
  have hI : vldB c s 0 = primeB s.toNat := by unfold vldB; simp; omega
  have HI := Lib.hid hI; clear hI
  subst h3
  go_enter Try.func81, Try.ntmps81
  go_wp2_with (go_at_call 79; refine (prime_any _ _ (by omega) (by omega)).mono ?_; rintro e w' ⟨rfl, rfl⟩)
  go_ret
  exact ⟨ret_bool HI.out.symm, (Below.refl _ _).alloc (Nat.le_refl _) _⟩
set_option maxHeartbeats 400000 in
theorem valid_a2 (c s : Int) (w : World) (h : 2 < s) (h2 : 4096 < s) :
    Calls Try.prog 81 #[fldv c s 0] w fun e w' => e = .returned (.bool (vldB c s 0)) ∧ Below w.heap.size w w' := by
  have hI : vldB c s 0 = false := by unfold vldB; simp; omega
  have HI := Lib.hid hI; clear hI
  go_enter Try.func81, Try.ntmps81
  go_wp2
  go_ret
  exact ⟨ret_bool HI.out.symm, (Below.refl _ _).alloc (Nat.le_refl _) _⟩
set_option maxHeartbeats 400000 in
theorem valid_a3 (c s : Int) (w : World) (h : 2 < s) (h2 : s ≤ 4096) (h3 : (c == s) = false) :
    Calls Try.prog 81 #[fldv c s 0] w fun e w' => e = .returned (.bool (vldB c s 0)) ∧ Below w.heap.size w w' := by
  have hI : vldB c s 0 = false := by unfold vldB; have := ne_of_beq_false h3; simp [this]
  have HI := Lib.hid hI; clear hI
  go_enter Try.func81, Try.ntmps81
  go_wp2
  go_ret
  exact ⟨ret_bool HI.out.symm, (Below.refl _ _).alloc (Nat.le_refl _) _⟩
theorem valid_a (c s : Int) (w : World) :
    Calls Try.prog 81 #[fldv c s 0] w fun e w' => e = .returned (.bool (vldB c s 0)) ∧ Below w.heap.size w w' := by
  by_cases h : 2 < s
  · by_cases h2 : s ≤ 4096
    · by_cases h3 : c = s
      · exact valid_a4 c s w h h2 h3
      · exact valid_a3 c s w h h2 (beq_false_of_ne h3)
    · exact valid_a2 c s w h (by omega)
  · exact valid_a1 c s w h
set_option maxHeartbeats 400000 in
theorem valid_b1 (c s p : Int) (w : World) (hp0 : (p == 0) = false) (h : p < 2) :
    Calls Try.prog 81 #[fldv c s p] w fun e w' => e = .returned (.bool (vldB c s p)) ∧ Below w.heap.size w w' := by
  have hI : vldB c s p = false := by unfold vldB; have := ne_of_beq_false hp0; rw [if_neg this]; simp; omega
  have HI := Lib.hid hI; clear hI
  go_enter Try.func81, Try.ntmps81
  go_wp2
  go_ret
  exact ⟨ret_bool HI.out.symm, (Below.refl _ _).alloc (Nat.le_refl _) _⟩
set_option maxHeartbeats 400000 in
theorem valid_b2 (c s p : Int) (w : World) (hp0 : (p == 0) = false) (h : 2 ≤ p) (h1 : p ≤ 9223372036854775807) (h2 : 13 < bl p.toNat) :
    Calls Try.prog 81 #[fldv c s p] w fun e w' => e = .returned (.bool (vldB c s p)) ∧ Below w.heap.size w w' := by
  have hI : vldB c s p = false := by unfold vldB; have := ne_of_beq_false hp0; rw [if_neg this]; simp; omega
  have HI := Lib.hid hI; clear hI
  go_enter Try.func81, Try.ntmps81
  go_wp2_with (go_at_call 91; refine (degree_any _ _ (by omega) (by omega)).mono ?_; rintro e w' ⟨rfl, rfl⟩)
  go_ret
  exact ⟨ret_bool HI.out.symm, (Below.refl _ _).alloc (Nat.le_refl _) _⟩
abbrev szw (p : Int) : Int := IntKind.i64.wrap (2 ^ (bl p.toNat - 1))
theorem szw_eq (p : Int) (h2 : bl p.toNat ≤ 13) : szw p = ((2 ^ (bl p.toNat - 1) : Nat) : Int) := by
  show IntKind.i64.wrap (2 ^ (bl p.toNat - 1)) = _
  have h := Nat.pow_le_pow_right (n := 2) (by omega) (show bl p.toNat - 1 ≤ 12 by omega)
  rw [show ((2 : Int) ^ (bl p.toNat - 1)) = ((2 ^ (bl p.toNat - 1) : Nat) : Int) from by simp]
  generalize 2 ^ (bl p.toNat - 1) = N at *
  rw [IntKind.wrap_i64]; omega
set_option maxHeartbeats 400000 in
theorem valid_b3 (c s p : Int) (w : World) (hp0 : (p == 0) = false) (h : 2 ≤ p) (h1 : p ≤ 9223372036854775807) (h2 : bl p.toNat ≤ 13) (hb : 2 ≤ bl p.toNat)
    (h3 : (c == 2) = false) :
    Calls Try.prog 81 #[fldv c s p] w fun e w' => e = .returned (.bool (vldB c s p)) ∧ Below w.heap.size w w' := by
  have hI : vldB c s p = false := by unfold vldB; have := ne_of_beq_false hp0; rw [if_neg this]; have := ne_of_beq_false h3; simp [this]
  have HI := Lib.hid hI; clear hI
  go_enter Try.func81, Try.ntmps81
  go_wp2_with (go_at_call 91; refine (degree_any _ _ (by omega) (by omega)).mono ?_; rintro e w' ⟨rfl, rfl⟩)
  go_quiet ((first | (go_at_call 91; exact quietL (degree_any _ _ (by omega) (by omega))) | (go_at_call 92; exact quietL (irr_any _ _ (by omega) h2))))
  go_wp2
  go_ret
  exact ⟨ret_bool HI.out.symm, below_drewN ((Below.refl _ _).alloc (Nat.le_refl _) _) _⟩
set_option maxHeartbeats 400000 in
theorem valid_b4 (s z p : Int) (w : World) (hp0 : (p == 0) = false) (h : 2 ≤ p) (h1 : p ≤ 9223372036854775807) (h2 : bl p.toNat ≤ 13) (hb : 2 ≤ bl p.toNat)
    (hz : IntKind.i64.wrap (2 ^ (bl p.toNat - 1)) = z) (h3 : (s == z) = false) :
    Calls Try.prog 81 #[fldv 2 s p] w fun e w' => e = .returned (.bool (vldB 2 s p)) ∧ Below w.heap.size w w' := by
  have hI : vldB 2 s p = false := by
    unfold vldB; have := ne_of_beq_false hp0; rw [if_neg this]; rw [← szw_eq p h2]
    have h4 : ¬ s = szw p := by rw [show szw p = z from hz]; exact ne_of_beq_false h3
    simp [h4]
  have HI := Lib.hid hI; clear hI
  go_enter Try.func81, Try.ntmps81
  go_wp2_with (go_at_call 91; refine (degree_any _ _ (by omega) (by omega)).mono ?_; rintro e w' ⟨rfl, rfl⟩)
  go_quiet ((first | (go_at_call 91; exact quietL (degree_any _ _ (by omega) (by omega))) | (go_at_call 92; exact quietL (irr_any _ _ (by omega) h2))))
  go_wp2
  go_ret
  exact ⟨ret_bool HI.out.symm, below_drewN ((Below.refl _ _).alloc (Nat.le_refl _) _) _⟩
set_option maxHeartbeats 400000 in
theorem valid_b5 (s p : Int) (w : World) (hp0 : (p == 0) = false) (h : 2 ≤ p) (h1 : p ≤ 9223372036854775807) (h2 : bl p.toNat ≤ 13) (hb : 2 ≤ bl p.toNat)
    (hz : IntKind.i64.wrap (2 ^ (bl p.toNat - 1)) = s) :
    Calls Try.prog 81 #[fldv 2 s p] w fun e w' => e = .returned (.bool (vldB 2 s p)) ∧ Below w.heap.size w w' := by
  have hI : vldB 2 s p = irrB p.toNat := by
    rw [← show szw p = s from hz]
    unfold vldB; have := ne_of_beq_false hp0; rw [if_neg this]; rw [← szw_eq p h2]
    simp [h, h2]
  have HI := Lib.hid hI; clear hI
  go_enter Try.func81, Try.ntmps81
  go_wp2_with (go_at_call 91; refine (degree_any _ _ (by omega) (by omega)).mono ?_; rintro e w' ⟨rfl, rfl⟩)
  go_quiet ((first | (go_at_call 91; exact quietL (degree_any _ _ (by omega) (by omega))) | (go_at_call 92; exact quietL (irr_any _ _ (by omega) h2))))
  go_wp2
  go_ret
  exact ⟨ret_bool HI.out.symm, below_drewN ((Below.refl _ _).alloc (Nat.le_refl _) _) _⟩
theorem two_le_bl (p : Int) (h : 2 ≤ p) : 2 ≤ bl p.toNat := by
  have h1 := bl_mono 2 p.toNat (by omega)
  have e : bl 2 = 2 := by decide
  omega
theorem valid_any (c s p : Int) (w : World) (h1 : p ≤ 9223372036854775807) :
    Calls Try.prog 81 #[fldv c s p] w fun e w' => e = .returned (.bool (vldB c s p)) ∧ Below w.heap.size w w' := by
  by_cases hp0 : p = 0
  · subst hp0; exact valid_a c s w
  have hpb := beq_false_of_ne hp0
  by_cases h : 2 ≤ p
  · have hb := two_le_bl p h
    by_cases h2 : bl p.toNat ≤ 13
    · by_cases h3 : c = 2
      · subst h3
        by_cases h4 : s = IntKind.i64.wrap (2 ^ (bl p.toNat - 1))
        · exact valid_b5 s p w hpb h h1 h2 hb h4.symm
        · exact valid_b4 s _ p w hpb h h1 h2 hb rfl (beq_false_of_ne h4)
      · exact valid_b3 c s p w hpb h h1 h2 hb (beq_false_of_ne h3)
    · exact valid_b2 c s p w hpb h h1 (by omega)
  · exact valid_b1 c s p w hpb (by omega)
end Go.Proofs.Ythpcneeidhmdkaa
