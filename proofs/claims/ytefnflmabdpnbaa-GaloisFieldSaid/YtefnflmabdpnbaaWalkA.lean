import Derived.WalkKit
import Derived.WalkSpells
import Derived.Lib.Hide
import Derived.Test.YtefnflmabdpnbaaProg
import Derived.Test.YtefnflmabdpnbaaShelf
import Derived.Test.YtefnflmabdpnbaaBin
namespace Go.Proofs.Ytefnflmabdpnbaa
open Go.RowKit

theorem bitLen_bl (x : Nat) (h : x < 2 ^ 64) : Lib.bitLen x = bl x := by
  induction x using Nat.strongRecOn with
  | _ x ih =>
    by_cases h0 : x = 0
    · subst h0; rfl
    · rw [Lib.bitLen_half x h0 h, ih (x / 2) (by omega) (by omega)]
      by_cases h1 : x = 1
      · subst h1; rfl
      · have h2 : x / 2 ≠ 0 := by omega
        obtain ⟨n, hn⟩ : ∃ n, bl (x/2) = n + 1 := ⟨bl (x/2) - 1, by have := bl_pos _ h2; omega⟩
        have g1 := (lt_bl_iff (x/2) n).1 (by omega)
        have g2 := (bl_le_iff (x/2) (n+1)).1 (by omega)
        rw [hn]
        rw [bl_eq x (n + 1) (by rw [Nat.pow_succ]; omega) (by rw [Nat.pow_succ]; omega)]; omega

theorem len_any (x : Int) (w : World) (h0 : 0 ≤ x) (h1 : x ≤ 9223372036854775807) :
    Calls Try.prog 63 #[.int .u64 x] w fun e w' => e = .returned (.int .i64 (bl x.toNat)) ∧ w = w' := by
  refine (Try.bits_Len x w h0 (by omega)).mono ?_
  rintro e w' ⟨rfl, rfl⟩
  exact ⟨by rw [bitLen_bl _ (by omega)], rfl⟩

theorem bl_le63 (x : Int) (h0 : 0 ≤ x) (h1 : x ≤ 9223372036854775807) : bl x.toNat ≤ 63 :=
  (bl_le_iff _ _).2 (by omega)

set_option maxHeartbeats 400000 in
theorem degree_any (p : Int) (w : World) (h0 : 0 ≤ p) (h1 : p ≤ 9223372036854775807) :
    Calls Try.prog 44 #[.int .i64 p] w fun e w' => e = .returned (.int .i64 ((bl p.toNat : Int) - 1)) ∧ w = w' := by
  have hb := bl_le63 p h0 h1
  go_enter Try.func44, Try.ntmps44
  go_wp2_with (go_at_call 63; refine (len_any _ _ (by omega) (by omega)).mono ?_; rintro e w' ⟨rfl, rfl⟩)
  go_ret
  exact ⟨rfl, rfl⟩
end Go.Proofs.Ytefnflmabdpnbaa
