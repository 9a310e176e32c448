import Derived.Test.YtplppbfnlfehnaaDoorAztPB
import Derived.Test.YtplppbfnlfehnaaDoorAztPC
import Derived.Test.YtplppbfnlfehnaaDoorAztZD
namespace Go.Proofs.YtplppbfnlfehnaaDoor
open Go.RowKit Go.WideMaps Go.Maps
set_option linter.unusedVariables false
/-! what the decoder makes of single options: plain facts -/
theorem numF_append (x r : List Bool) : ∀ j, j ≤ x.length → numF (x ++ r) 0 j = numF x 0 j
  | 0, _ => rfl
  | j + 1, h => by
    show 2 * numF (x ++ r) 0 j + (if (x ++ r).getD (0 + j) false then 1 else 0) = 2 * numF x 0 j + (if x.getD (0 + j) false then 1 else 0)
    rw [numF_append x r j (by omega)]
    congr 2
    rw [Nat.zero_add]
    simp only [List.getD, List.getElem?_append_left (show j < x.length by omega)]
theorem numF_snoc (x : List Bool) (y : Bool) : numF (x ++ [y]) 0 (x.length + 1) = 2 * numF x 0 x.length + (if y then 1 else 0) := by
  show 2 * numF (x ++ [y]) 0 x.length + (if (x ++ [y]).getD (0 + x.length) false then 1 else 0) = _
  rw [numF_append x [y] x.length (Nat.le_refl _)]
  congr 2
  rw [Nat.zero_add]
  simp [List.getD]
theorem numF_lowB : ∀ (j v : Nat), v < 2 ^ j → numF (lowB v j) 0 j = v
  | 0, v, h => by have : v = 0 := by simpa using h
                  subst this; rfl
  | j + 1, v, h => by
    have e : v = 2 * (v / 2) + v % 2 := by omega
    have h2 : v / 2 < 2 ^ j := by rw [Nat.pow_succ] at h; omega
    have hm : v % 2 ≤ 1 := by omega
    have hl := lowB_step (v / 2) (v % 2) j hm
    rw [← e] at hl
    rw [hl]
    have h3 := numF_snoc (lowB (v / 2) j) (v % 2 == 1)
    rw [lowB_length] at h3
    rw [h3, numF_lowB j _ h2]
    have : (if (v % 2 == 1) = true then 1 else 0) = v % 2 := by
      rcases Nat.mod_two_eq_zero_or_one v with h | h <;> rw [h] <;> rfl
    rw [this]; omega
theorem numF_lowB_app (j v : Nat) (r : List Bool) (h : v < 2 ^ j) : numF (lowB v j ++ r) 0 j = v := by
  rw [numF_append _ _ _ (by rw [lowB_length]; exact Nat.le_refl _), numF_lowB j v h]
theorem drop_lowB (j v : Nat) (r : List Bool) : (lowB v j ++ r).drop j = r := by
  have h := lowB_length v j
  rw [List.drop_append_of_le_length (by omega), List.drop_of_length_le (by omega), List.nil_append]
theorem lowB_numF (b : List Bool) : ∀ j, j ≤ b.length → lowB (numF b 0 j) j = b.take j
  | 0, _ => rfl
  | j + 1, h => by
    have hb : (if b.getD (0 + j) false then 1 else 0) ≤ 1 := by split <;> omega
    show lowB (2 * numF b 0 j + (if b.getD (0 + j) false then 1 else 0)) (j + 1) = _
    rw [lowB_step _ _ _ hb, lowB_numF b j (by omega), List.take_add_one, List.getElem?_eq_getElem (by omega), Nat.zero_add]
    congr 1
    rw [List.getD_eq_getElem?_getD, List.getElem?_eq_getElem (by omega)]
    cases b[j] <;> rfl
/-! bytes -/
def bytesB : List UInt8 → List Bool
  | [] => []
  | x :: l => lowB x.toNat 8 ++ bytesB l
theorem bytesB_len : ∀ l : List UInt8, (bytesB l).length = 8 * l.length
  | [] => rfl
  | x :: l => by unfold bytesB; rw [List.length_append, lowB_length, bytesB_len l, List.length_cons]; omega
theorem bytesB_append : ∀ (l r : List UInt8), bytesB (l ++ r) = bytesB l ++ bytesB r
  | [], r => rfl
  | x :: l, r => by
    show lowB x.toNat 8 ++ bytesB (l ++ r) = (lowB x.toNat 8 ++ bytesB l) ++ bytesB r
    rw [bytesB_append l r, List.append_assoc]
theorem byF_bytes (l : List UInt8) (a : Nat) : ∀ k, a + k ≤ l.length → byF (bA l) a k = bytesB ((l.drop a).take k)
  | 0, _ => rfl
  | k + 1, h => by
    show byF (bA l) a k ++ lowB ((bA l).data.toList.getD (a + k) 0).toNat 8 = _
    rw [byF_bytes l a k (by omega), List.take_add_one, List.getElem?_drop, List.getElem?_eq_getElem (by omega)]
    show _ = bytesB (_ ++ [_])
    rw [bytesB_append]
    congr 1
    show lowB (l.getD (a + k) 0).toNat 8 = lowB _ 8 ++ []
    rw [List.append_nil, List.getD_eq_getElem?_getD, List.getElem?_eq_getElem (by omega)]; rfl
theorem byRes_bytes : ∀ (u : List UInt8) (r : List Bool) (out : List UInt8), byRes u.length (bytesB u ++ r) out = (0, r, out ++ u)
  | [], r, out => by show (0, r, out) = _; rw [List.append_nil]
  | x :: u, r, out => by
    show (if (bytesB (x :: u) ++ r).length < 8 then _ else byRes u.length ((bytesB (x :: u) ++ r).drop 8) (out ++ [UInt8.ofNat (numF (bytesB (x :: u) ++ r) 0 8)])) = _
    rw [if_neg (by rw [List.length_append, bytesB_len, List.length_cons]; omega)]
    have e : bytesB (x :: u) ++ r = lowB x.toNat 8 ++ (bytesB u ++ r) := by
      show (lowB x.toNat 8 ++ bytesB u) ++ r = _
      rw [List.append_assoc]
    rw [e, drop_lowB, numF_lowB_app 8 _ _ (UInt8.toNat_lt x), UInt8.ofNat_toNat, byRes_bytes u r]
    rw [List.append_assoc]; rfl
theorem byRes_ok : ∀ (k : Nat) (b : List Bool) (out : List UInt8), (byRes k b out).1 = 0 → ∃ u, u.length = k ∧ (byRes k b out).2.2 = out ++ u ∧ b = bytesB u ++ (byRes k b out).2.1
  | 0, b, out, _ => ⟨[], rfl, by show out = _; rw [List.append_nil], rfl⟩
  | k + 1, b, out, h => by
    unfold byRes at h ⊢
    by_cases h8 : b.length < 8
    · rw [if_pos h8] at h; simp at h
    · rw [if_neg h8] at h ⊢
      obtain ⟨u, h1, h2, h3⟩ := byRes_ok k (b.drop 8) _ h
      refine ⟨UInt8.ofNat (numF b 0 8) :: u, by rw [List.length_cons, h1], by rw [h2, List.append_assoc]; rfl, ?_⟩
      have hn := numF_lt b 0 8
      have e : (UInt8.ofNat (numF b 0 8)).toNat = numF b 0 8 := by rw [UInt8.toNat_ofNat']; omega
      show b = (lowB (UInt8.ofNat (numF b 0 8)).toNat 8 ++ bytesB u) ++ _
      rw [e, lowB_numF b 8 (by omega), List.append_assoc, ← h3, List.take_append_drop]
/-! the numbers that stand for something are short enough -/
theorem kind_lt : ∀ m, m < 5 → ∀ n, n < 32 → kindF m n ≠ 0 → n < 2 ^ widthN m := of_decide_eq_true (by kernel_rfl)
theorem chars_take {l : List UInt8} {a : Nat} {t : ByteArray} (h : preB (bA l) a t = true) : (l.drop a).take t.size = t.data.toList := by
  rw [preB_bA] at h
  unfold Lib.hasPrefix at h
  rw [List.isPrefixOf_iff_prefix] at h
  have e : t.size = t.data.toList.length := by simp
  rw [e]
  exact (List.prefix_iff_eq_take.1 h).symm
/-- what a single option says -/
theorem Atom.dec {l : List UInt8} {a m : Nat} {o : Opt} (hm : m < 5) (h : Atom (bA l) a m o) (r : List Bool) (out : List UInt8) :
    stRes m (optBits (bA l) a m o ++ r) out = (0, r, out ++ (l.drop a).take (o.at_ - a), o.mode) := by
  have hw := widthN_pos m
  have key : ∀ (n : Nat) (x : List Bool), n < 32 → kindF m n ≠ 0 → stRes m (lowB n (widthN m) ++ x) out = stK m n x out := by
    intro n x hn hk
    unfold stRes
    rw [if_neg (by rw [List.length_append, lowB_length]; omega), numF_lowB_app _ _ _ (kind_lt m hm n hn hk), drop_lowB]
  cases h with
  | chars n hn hk hp =>
    show stRes m (((lowB n (widthN m) ++ (if (0 : Int) ≤ -1 then lowB (-1 : Int).toNat 5 else [])) ++ []) ++ r) out = (0, r, out ++ (l.drop a).take (a + (charF m n).size - a), m)
    rw [if_neg (by omega), List.append_nil, List.append_nil, key n r hn (by omega), Nat.add_sub_cancel_left, chars_take hp]
    unfold stK
    rw [if_pos hk]
  | latch n hn hk =>
    show stRes m (((lowB n (widthN m) ++ (if (0 : Int) ≤ -1 then lowB (-1 : Int).toNat 5 else [])) ++ []) ++ r) out = (0, r, out ++ (l.drop a).take (a - a), modeF m n)
    rw [if_neg (by omega), List.append_nil, List.append_nil, key n r hn (by omega), Nat.sub_self]
    unfold stK
    rw [if_neg (by omega), if_pos hk, List.take_zero, List.append_nil]
  | shift n s hn hk hs hk2 hp =>
    have h5 := shift_five m hm n hn hk
    show stRes m (((lowB n (widthN m) ++ (if (0 : Int) ≤ (s : Int) then lowB (s : Int).toNat 5 else [])) ++ []) ++ r) out = (0, r, out ++ (l.drop a).take (a + (charF (modeF m n) s).size - a), m)
    rw [if_pos (by omega), List.append_nil, List.append_assoc, key n _ hn (by omega), Nat.add_sub_cancel_left, chars_take hp]
    unfold stK
    rw [if_neg (by omega), if_neg (by omega), if_pos hk]
    unfold shRes
    rw [h5, Int.toNat_natCast, if_neg (by rw [List.length_append, lowB_length]; omega), numF_lowB_app 5 s r (by omega), if_pos hk2, drop_lowB]
  | short n j hn hk h1 h2 h3 =>
    rw [bA_size] at h3
    show stRes m (((lowB n (widthN m) ++ (if (0 : Int) ≤ -1 then lowB (-1 : Int).toNat 5 else [])) ++ runB (bA l) a ⟨n, -1, j, false, widthN m + 5 + 8 * j, a + j, m⟩) ++ r) out = (0, r, out ++ (l.drop a).take (a + j - a), m)
    rw [if_neg (by omega), List.append_nil, List.append_assoc, key n _ hn (by omega), Nat.add_sub_cancel_left]
    unfold runB
    rw [if_pos (by show 0 < j; omega), if_neg (by simp)]
    show stK m n ((lowB j 5 ++ byF (bA l) a j) ++ r) out = _
    rw [List.append_assoc]
    unfold stK
    rw [if_neg (by omega), if_neg (by omega), if_neg (by omega), if_pos hk]
    have e : biRes (lowB j 5 ++ (byF (bA l) a j ++ r)) out = (0, r, out ++ (l.drop a).take j) := by
      unfold biRes
      rw [if_neg (by rw [List.length_append, lowB_length]; omega), numF_lowB_app 5 j _ (by omega), drop_lowB, if_neg (by omega), byF_bytes l a j h3]
      have hl : ((l.drop a).take j).length = j := by rw [List.length_take, List.length_drop]; omega
      have h9 := byRes_bytes ((l.drop a).take j) r out
      rw [hl] at h9
      exact h9
    rw [e]
  | long n j hn hk h1 h2 h3 =>
    rw [bA_size] at h3
    show stRes m (((lowB n (widthN m) ++ (if (0 : Int) ≤ -1 then lowB (-1 : Int).toNat 5 else [])) ++ runB (bA l) a ⟨n, -1, j, true, widthN m + 16 + 8 * j, a + j, m⟩) ++ r) out = (0, r, out ++ (l.drop a).take (a + j - a), m)
    rw [if_neg (by omega), List.append_nil, List.append_assoc, key n _ hn (by omega), Nat.add_sub_cancel_left]
    unfold runB
    rw [if_pos (by show 0 < j; omega), if_pos rfl]
    show stK m n (((lowB 0 5 ++ lowB (j - 31) 11) ++ byF (bA l) a j) ++ r) out = _
    rw [List.append_assoc, List.append_assoc]
    unfold stK
    rw [if_neg (by omega), if_neg (by omega), if_neg (by omega), if_pos hk]
    have e : biRes (lowB 0 5 ++ (lowB (j - 31) 11 ++ (byF (bA l) a j ++ r))) out = (0, r, out ++ (l.drop a).take j) := by
      unfold biRes
      rw [if_neg (by rw [List.length_append, lowB_length]; omega), numF_lowB_app 5 0 _ (by omega), drop_lowB, if_pos rfl, if_neg (by rw [List.length_append, lowB_length]; omega), numF_lowB_app 11 _ _ (by omega), drop_lowB, byF_bytes l a j h3, Nat.sub_add_cancel h1]
      have hl : ((l.drop a).take j).length = j := by rw [List.length_take, List.length_drop]; omega
      have h9 := byRes_bytes ((l.drop a).take j) r out
      rw [hl] at h9
      exact h9
    rw [e]
end Go.Proofs.YtplppbfnlfehnaaDoor
