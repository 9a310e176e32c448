import Derived.Test.YtefnflmabdpnbaaWalkR
namespace Go.Proofs.Ytefnflmabdpnbaa
open Go.RowKit
set_option linter.unusedVariables false
set_option maxHeartbeats 400000 in
theorem rAdd_no0 (c s p a b : Int) (w : World) (hs : s ≤ 9223372036854775807) (hp : p ≤ 9223372036854775807) (hx0 : vldB c s p = false) :
    Calls Try.prog 27 #[fldv c s p, .int .i64 a, .int .i64 b] w fun e w' => e = .returned (tup (0, 1)) ∧ Below w.heap.size w w' := by
  have HX0 := Lib.hid hx0; clear hx0
  go_enter Try.func27, Try.ntmps27
  go_wp2_with fail
  refine (rvalid_any c s p _ hs hp).mono ?_
  rintro e w1 ⟨rfl, hb1⟩
  rw [HX0.out]
  have hin1 := InW.step (InW.start w c s p 23) hb1
  obtain ⟨-, hsz1, hc10, hc11, hc12⟩ := id hin1
  have HIN1 := Lib.hid hin1; clear hin1 hb1
  go_wp2_with fail
  go_ret2
  exact ⟨rfl, HIN1.out.below⟩
set_option maxHeartbeats 400000 in
theorem rAdd_no1 (c s p a b : Int) (w : World) (hs : s ≤ 9223372036854775807) (hp : p ≤ 9223372036854775807) (hx0 : vldB c s p = true) (hx1 : isB s a = false) :
    Calls Try.prog 27 #[fldv c s p, .int .i64 a, .int .i64 b] w fun e w' => e = .returned (tup (0, 1)) ∧ Below w.heap.size w w' := by
  have HX0 := Lib.hid hx0; clear hx0
  have HX1 := Lib.hid hx1; clear hx1
  go_enter Try.func27, Try.ntmps27
  go_wp2_with fail
  refine (rvalid_any c s p _ hs hp).mono ?_
  rintro e w1 ⟨rfl, hb1⟩
  rw [HX0.out]
  have hin1 := InW.step (InW.start w c s p 23) hb1
  obtain ⟨-, hsz1, hc10, hc11, hc12⟩ := id hin1
  have HIN1 := Lib.hid hin1; clear hin1 hb1
  go_wp2_with fail
  refine (is_any c s p a _).mono ?_
  rintro e w2 ⟨rfl, hb2⟩
  rw [HX1.out]
  have hin2 := InW.step HIN1.out hb2
  obtain ⟨-, hsz2, hc20, hc21, hc22⟩ := id hin2
  have HIN2 := Lib.hid hin2; clear hin2 hb2
  go_wp2_with fail
  go_ret2
  exact ⟨rfl, HIN2.out.below⟩
set_option maxHeartbeats 400000 in
theorem rAdd_no2 (c s p a b : Int) (w : World) (hs : s ≤ 9223372036854775807) (hp : p ≤ 9223372036854775807) (hx0 : vldB c s p = true) (hx1 : isB s a = true) (hx2 : isB s b = false) :
    Calls Try.prog 27 #[fldv c s p, .int .i64 a, .int .i64 b] w fun e w' => e = .returned (tup (0, 1)) ∧ Below w.heap.size w w' := by
  have HX0 := Lib.hid hx0; clear hx0
  have HX1 := Lib.hid hx1; clear hx1
  have HX2 := Lib.hid hx2; clear hx2
  go_enter Try.func27, Try.ntmps27
  go_wp2_with fail
  refine (rvalid_any c s p _ hs hp).mono ?_
  rintro e w1 ⟨rfl, hb1⟩
  rw [HX0.out]
  have hin1 := InW.step (InW.start w c s p 23) hb1
  obtain ⟨-, hsz1, hc10, hc11, hc12⟩ := id hin1
  have HIN1 := Lib.hid hin1; clear hin1 hb1
  go_wp2_with fail
  refine (is_any c s p a _).mono ?_
  rintro e w2 ⟨rfl, hb2⟩
  rw [HX1.out]
  have hin2 := InW.step HIN1.out hb2
  obtain ⟨-, hsz2, hc20, hc21, hc22⟩ := id hin2
  have HIN2 := Lib.hid hin2; clear hin2 hb2
  go_wp2_with fail
  refine (is_any c s p b _).mono ?_
  rintro e w3 ⟨rfl, hb3⟩
  rw [HX2.out]
  have hin3 := InW.step HIN2.out hb3
  obtain ⟨-, hsz3, hc30, hc31, hc32⟩ := id hin3
  have HIN3 := Lib.hid hin3; clear hin3 hb3
  go_wp2_with fail
  go_ret2
  exact ⟨rfl, HIN3.out.below⟩
theorem rAdd_no (c s p a b : Int) (w : World) (hs : s ≤ 9223372036854775807) (hp : p ≤ 9223372036854775807) (h : ok2 c s p a b = false) :
    Calls Try.prog 27 #[fldv c s p, .int .i64 a, .int .i64 b] w fun e w' => e = .returned (tup (0, 1)) ∧ Below w.heap.size w w' := by
  cases hx0 : vldB c s p
  · exact rAdd_no0 c s p a b w hs hp hx0
  cases hx1 : isB s a
  · exact rAdd_no1 c s p a b w hs hp hx0 hx1
  cases hx2 : isB s b
  · exact rAdd_no2 c s p a b w hs hp hx0 hx1 hx2
  unfold ok2 at h; rw [hx0, hx1, hx2] at h; cases h
set_option maxHeartbeats 400000 in
theorem rSub_no0 (c s p a b : Int) (w : World) (hs : s ≤ 9223372036854775807) (hp : p ≤ 9223372036854775807) (hx0 : vldB c s p = false) :
    Calls Try.prog 29 #[fldv c s p, .int .i64 a, .int .i64 b] w fun e w' => e = .returned (tup (0, 1)) ∧ Below w.heap.size w w' := by
  have HX0 := Lib.hid hx0; clear hx0
  go_enter Try.func29, Try.ntmps29
  go_wp2_with fail
  refine (rvalid_any c s p _ hs hp).mono ?_
  rintro e w1 ⟨rfl, hb1⟩
  rw [HX0.out]
  have hin1 := InW.step (InW.start w c s p 23) hb1
  obtain ⟨-, hsz1, hc10, hc11, hc12⟩ := id hin1
  have HIN1 := Lib.hid hin1; clear hin1 hb1
  go_wp2_with fail
  go_ret2
  exact ⟨rfl, HIN1.out.below⟩
set_option maxHeartbeats 400000 in
theorem rSub_no1 (c s p a b : Int) (w : World) (hs : s ≤ 9223372036854775807) (hp : p ≤ 9223372036854775807) (hx0 : vldB c s p = true) (hx1 : isB s a = false) :
    Calls Try.prog 29 #[fldv c s p, .int .i64 a, .int .i64 b] w fun e w' => e = .returned (tup (0, 1)) ∧ Below w.heap.size w w' := by
  have HX0 := Lib.hid hx0; clear hx0
  have HX1 := Lib.hid hx1; clear hx1
  go_enter Try.func29, Try.ntmps29
  go_wp2_with fail
  refine (rvalid_any c s p _ hs hp).mono ?_
  rintro e w1 ⟨rfl, hb1⟩
  rw [HX0.out]
  have hin1 := InW.step (InW.start w c s p 23) hb1
  obtain ⟨-, hsz1, hc10, hc11, hc12⟩ := id hin1
  have HIN1 := Lib.hid hin1; clear hin1 hb1
  go_wp2_with fail
  refine (is_any c s p a _).mono ?_
  rintro e w2 ⟨rfl, hb2⟩
  rw [HX1.out]
  have hin2 := InW.step HIN1.out hb2
  obtain ⟨-, hsz2, hc20, hc21, hc22⟩ := id hin2
  have HIN2 := Lib.hid hin2; clear hin2 hb2
  go_wp2_with fail
  go_ret2
  exact ⟨rfl, HIN2.out.below⟩
set_option maxHeartbeats 400000 in
theorem rSub_no2 (c s p a b : Int) (w : World) (hs : s ≤ 9223372036854775807) (hp : p ≤ 9223372036854775807) (hx0 : vldB c s p = true) (hx1 : isB s a = true) (hx2 : isB s b = false) :
    Calls Try.prog 29 #[fldv c s p, .int .i64 a, .int .i64 b] w fun e w' => e = .returned (tup (0, 1)) ∧ Below w.heap.size w w' := by
  have HX0 := Lib.hid hx0; clear hx0
  have HX1 := Lib.hid hx1; clear hx1
  have HX2 := Lib.hid hx2; clear hx2
  go_enter Try.func29, Try.ntmps29
  go_wp2_with fail
  refine (rvalid_any c s p _ hs hp).mono ?_
  rintro e w1 ⟨rfl, hb1⟩
  rw [HX0.out]
  have hin1 := InW.step (InW.start w c s p 23) hb1
  obtain ⟨-, hsz1, hc10, hc11, hc12⟩ := id hin1
  have HIN1 := Lib.hid hin1; clear hin1 hb1
  go_wp2_with fail
  refine (is_any c s p a _).mono ?_
  rintro e w2 ⟨rfl, hb2⟩
  rw [HX1.out]
  have hin2 := InW.step HIN1.out hb2
  obtain ⟨-, hsz2, hc20, hc21, hc22⟩ := id hin2
  have HIN2 := Lib.hid hin2; clear hin2 hb2
  go_wp2_with fail
  refine (is_any c s p b _).mono ?_
  rintro e w3 ⟨rfl, hb3⟩
  rw [HX2.out]
  have hin3 := InW.step HIN2.out hb3
  obtain ⟨-, hsz3, hc30, hc31, hc32⟩ := id hin3
  have HIN3 := Lib.hid hin3; clear hin3 hb3
  go_wp2_with fail
  go_ret2
  exact ⟨rfl, HIN3.out.below⟩
theorem rSub_no (c s p a b : Int) (w : World) (hs : s ≤ 9223372036854775807) (hp : p ≤ 9223372036854775807) (h : ok2 c s p a b = false) :
    Calls Try.prog 29 #[fldv c s p, .int .i64 a, .int .i64 b] w fun e w' => e = .returned (tup (0, 1)) ∧ Below w.heap.size w w' := by
  cases hx0 : vldB c s p
  · exact rSub_no0 c s p a b w hs hp hx0
  cases hx1 : isB s a
  · exact rSub_no1 c s p a b w hs hp hx0 hx1
  cases hx2 : isB s b
  · exact rSub_no2 c s p a b w hs hp hx0 hx1 hx2
  unfold ok2 at h; rw [hx0, hx1, hx2] at h; cases h
set_option maxHeartbeats 400000 in
theorem rMul_no0 (c s p a b : Int) (w : World) (hs : s ≤ 9223372036854775807) (hp : p ≤ 9223372036854775807) (hx0 : vldB c s p = false) :
    Calls Try.prog 30 #[fldv c s p, .int .i64 a, .int .i64 b] w fun e w' => e = .returned (tup (0, 1)) ∧ Below w.heap.size w w' := by
  have HX0 := Lib.hid hx0; clear hx0
  go_enter Try.func30, Try.ntmps30
  go_wp2_with fail
  refine (rvalid_any c s p _ hs hp).mono ?_
  rintro e w1 ⟨rfl, hb1⟩
  rw [HX0.out]
  have hin1 := InW.step (InW.start w c s p 23) hb1
  obtain ⟨-, hsz1, hc10, hc11, hc12⟩ := id hin1
  have HIN1 := Lib.hid hin1; clear hin1 hb1
  go_wp2_with fail
  go_ret2
  exact ⟨rfl, HIN1.out.below⟩
set_option maxHeartbeats 400000 in
theorem rMul_no1 (c s p a b : Int) (w : World) (hs : s ≤ 9223372036854775807) (hp : p ≤ 9223372036854775807) (hx0 : vldB c s p = true) (hx1 : isB s a = false) :
    Calls Try.prog 30 #[fldv c s p, .int .i64 a, .int .i64 b] w fun e w' => e = .returned (tup (0, 1)) ∧ Below w.heap.size w w' := by
  have HX0 := Lib.hid hx0; clear hx0
  have HX1 := Lib.hid hx1; clear hx1
  go_enter Try.func30, Try.ntmps30
  go_wp2_with fail
  refine (rvalid_any c s p _ hs hp).mono ?_
  rintro e w1 ⟨rfl, hb1⟩
  rw [HX0.out]
  have hin1 := InW.step (InW.start w c s p 23) hb1
  obtain ⟨-, hsz1, hc10, hc11, hc12⟩ := id hin1
  have HIN1 := Lib.hid hin1; clear hin1 hb1
  go_wp2_with fail
  refine (is_any c s p a _).mono ?_
  rintro e w2 ⟨rfl, hb2⟩
  rw [HX1.out]
  have hin2 := InW.step HIN1.out hb2
  obtain ⟨-, hsz2, hc20, hc21, hc22⟩ := id hin2
  have HIN2 := Lib.hid hin2; clear hin2 hb2
  go_wp2_with fail
  go_ret2
  exact ⟨rfl, HIN2.out.below⟩
set_option maxHeartbeats 400000 in
theorem rMul_no2 (c s p a b : Int) (w : World) (hs : s ≤ 9223372036854775807) (hp : p ≤ 9223372036854775807) (hx0 : vldB c s p = true) (hx1 : isB s a = true) (hx2 : isB s b = false) :
    Calls Try.prog 30 #[fldv c s p, .int .i64 a, .int .i64 b] w fun e w' => e = .returned (tup (0, 1)) ∧ Below w.heap.size w w' := by
  have HX0 := Lib.hid hx0; clear hx0
  have HX1 := Lib.hid hx1; clear hx1
  have HX2 := Lib.hid hx2; clear hx2
  go_enter Try.func30, Try.ntmps30
  go_wp2_with fail
  refine (rvalid_any c s p _ hs hp).mono ?_
  rintro e w1 ⟨rfl, hb1⟩
  rw [HX0.out]
  have hin1 := InW.step (InW.start w c s p 23) hb1
  obtain ⟨-, hsz1, hc10, hc11, hc12⟩ := id hin1
  have HIN1 := Lib.hid hin1; clear hin1 hb1
  go_wp2_with fail
  refine (is_any c s p a _).mono ?_
  rintro e w2 ⟨rfl, hb2⟩
  rw [HX1.out]
  have hin2 := InW.step HIN1.out hb2
  obtain ⟨-, hsz2, hc20, hc21, hc22⟩ := id hin2
  have HIN2 := Lib.hid hin2; clear hin2 hb2
  go_wp2_with fail
  refine (is_any c s p b _).mono ?_
  rintro e w3 ⟨rfl, hb3⟩
  rw [HX2.out]
  have hin3 := InW.step HIN2.out hb3
  obtain ⟨-, hsz3, hc30, hc31, hc32⟩ := id hin3
  have HIN3 := Lib.hid hin3; clear hin3 hb3
  go_wp2_with fail
  go_ret2
  exact ⟨rfl, HIN3.out.below⟩
theorem rMul_no (c s p a b : Int) (w : World) (hs : s ≤ 9223372036854775807) (hp : p ≤ 9223372036854775807) (h : ok2 c s p a b = false) :
    Calls Try.prog 30 #[fldv c s p, .int .i64 a, .int .i64 b] w fun e w' => e = .returned (tup (0, 1)) ∧ Below w.heap.size w w' := by
  cases hx0 : vldB c s p
  · exact rMul_no0 c s p a b w hs hp hx0
  cases hx1 : isB s a
  · exact rMul_no1 c s p a b w hs hp hx0 hx1
  cases hx2 : isB s b
  · exact rMul_no2 c s p a b w hs hp hx0 hx1 hx2
  unfold ok2 at h; rw [hx0, hx1, hx2] at h; cases h
set_option maxHeartbeats 400000 in
theorem rDiv_no0 (c s p a b : Int) (w : World) (hs : s ≤ 9223372036854775807) (hp : p ≤ 9223372036854775807) (hx0 : vldB c s p = false) :
    Calls Try.prog 32 #[fldv c s p, .int .i64 a, .int .i64 b] w fun e w' => e = .returned (tup (0, 1)) ∧ Below w.heap.size w w' := by
  have HX0 := Lib.hid hx0; clear hx0
  go_enter Try.func32, Try.ntmps32
  go_wp2_with fail
  refine (rvalid_any c s p _ hs hp).mono ?_
  rintro e w1 ⟨rfl, hb1⟩
  rw [HX0.out]
  have hin1 := InW.step (InW.start w c s p 23) hb1
  obtain ⟨-, hsz1, hc10, hc11, hc12⟩ := id hin1
  have HIN1 := Lib.hid hin1; clear hin1 hb1
  go_wp2_with fail
  go_ret2
  exact ⟨rfl, HIN1.out.below⟩
set_option maxHeartbeats 400000 in
theorem rDiv_no1 (c s p a b : Int) (w : World) (hs : s ≤ 9223372036854775807) (hp : p ≤ 9223372036854775807) (hx0 : vldB c s p = true) (hx1 : isB s a = false) :
    Calls Try.prog 32 #[fldv c s p, .int .i64 a, .int .i64 b] w fun e w' => e = .returned (tup (0, 1)) ∧ Below w.heap.size w w' := by
  have HX0 := Lib.hid hx0; clear hx0
  have HX1 := Lib.hid hx1; clear hx1
  go_enter Try.func32, Try.ntmps32
  go_wp2_with fail
  refine (rvalid_any c s p _ hs hp).mono ?_
  rintro e w1 ⟨rfl, hb1⟩
  rw [HX0.out]
  have hin1 := InW.step (InW.start w c s p 23) hb1
  obtain ⟨-, hsz1, hc10, hc11, hc12⟩ := id hin1
  have HIN1 := Lib.hid hin1; clear hin1 hb1
  go_wp2_with fail
  refine (is_any c s p a _).mono ?_
  rintro e w2 ⟨rfl, hb2⟩
  rw [HX1.out]
  have hin2 := InW.step HIN1.out hb2
  obtain ⟨-, hsz2, hc20, hc21, hc22⟩ := id hin2
  have HIN2 := Lib.hid hin2; clear hin2 hb2
  go_wp2_with fail
  go_ret2
  exact ⟨rfl, HIN2.out.below⟩
set_option maxHeartbeats 400000 in
theorem rDiv_no2 (c s p a b : Int) (w : World) (hs : s ≤ 9223372036854775807) (hp : p ≤ 9223372036854775807) (hx0 : vldB c s p = true) (hx1 : isB s a = true) (hx2 : isB s b = false) :
    Calls Try.prog 32 #[fldv c s p, .int .i64 a, .int .i64 b] w fun e w' => e = .returned (tup (0, 1)) ∧ Below w.heap.size w w' := by
  have HX0 := Lib.hid hx0; clear hx0
  have HX1 := Lib.hid hx1; clear hx1
  have HX2 := Lib.hid hx2; clear hx2
  go_enter Try.func32, Try.ntmps32
  go_wp2_with fail
  refine (rvalid_any c s p _ hs hp).mono ?_
  rintro e w1 ⟨rfl, hb1⟩
  rw [HX0.out]
  have hin1 := InW.step (InW.start w c s p 23) hb1
  obtain ⟨-, hsz1, hc10, hc11, hc12⟩ := id hin1
  have HIN1 := Lib.hid hin1; clear hin1 hb1
  go_wp2_with fail
  refine (is_any c s p a _).mono ?_
  rintro e w2 ⟨rfl, hb2⟩
  rw [HX1.out]
  have hin2 := InW.step HIN1.out hb2
  obtain ⟨-, hsz2, hc20, hc21, hc22⟩ := id hin2
  have HIN2 := Lib.hid hin2; clear hin2 hb2
  go_wp2_with fail
  refine (is_any c s p b _).mono ?_
  rintro e w3 ⟨rfl, hb3⟩
  rw [HX2.out]
  have hin3 := InW.step HIN2.out hb3
  obtain ⟨-, hsz3, hc30, hc31, hc32⟩ := id hin3
  have HIN3 := Lib.hid hin3; clear hin3 hb3
  go_wp2_with fail
  go_ret2
  exact ⟨rfl, HIN3.out.below⟩
theorem rDiv_no (c s p a b : Int) (w : World) (hs : s ≤ 9223372036854775807) (hp : p ≤ 9223372036854775807) (h : ok2 c s p a b = false) :
    Calls Try.prog 32 #[fldv c s p, .int .i64 a, .int .i64 b] w fun e w' => e = .returned (tup (0, 1)) ∧ Below w.heap.size w w' := by
  cases hx0 : vldB c s p
  · exact rDiv_no0 c s p a b w hs hp hx0
  cases hx1 : isB s a
  · exact rDiv_no1 c s p a b w hs hp hx0 hx1
  cases hx2 : isB s b
  · exact rDiv_no2 c s p a b w hs hp hx0 hx1 hx2
  unfold ok2 at h; rw [hx0, hx1, hx2] at h; cases h
set_option maxHeartbeats 400000 in
theorem rOrder_no0 (c s p a : Int) (w : World) (hs : s ≤ 9223372036854775807) (hp : p ≤ 9223372036854775807) (hx0 : vldB c s p = false) :
    Calls Try.prog 22 #[fldv c s p, .int .i64 a] w fun e w' => e = .returned (tup (0, 1)) ∧ Below w.heap.size w w' := by
  have HX0 := Lib.hid hx0; clear hx0
  go_enter Try.func22, Try.ntmps22
  go_wp2_with fail
  refine (rvalid_any c s p _ hs hp).mono ?_
  rintro e w1 ⟨rfl, hb1⟩
  rw [HX0.out]
  have hin1 := InW.step (InW.start w c s p 23) hb1
  obtain ⟨-, hsz1, hc10, hc11, hc12⟩ := id hin1
  have HIN1 := Lib.hid hin1; clear hin1 hb1
  go_wp2_with fail
  go_ret2
  exact ⟨rfl, HIN1.out.below⟩
set_option maxHeartbeats 400000 in
theorem rOrder_no1 (c s p a : Int) (w : World) (hs : s ≤ 9223372036854775807) (hp : p ≤ 9223372036854775807) (hx0 : vldB c s p = true) (hx1 : isB s a = false) :
    Calls Try.prog 22 #[fldv c s p, .int .i64 a] w fun e w' => e = .returned (tup (0, 1)) ∧ Below w.heap.size w w' := by
  have HX0 := Lib.hid hx0; clear hx0
  have HX1 := Lib.hid hx1; clear hx1
  go_enter Try.func22, Try.ntmps22
  go_wp2_with fail
  refine (rvalid_any c s p _ hs hp).mono ?_
  rintro e w1 ⟨rfl, hb1⟩
  rw [HX0.out]
  have hin1 := InW.step (InW.start w c s p 23) hb1
  obtain ⟨-, hsz1, hc10, hc11, hc12⟩ := id hin1
  have HIN1 := Lib.hid hin1; clear hin1 hb1
  go_wp2_with fail
  refine (is_any c s p a _).mono ?_
  rintro e w2 ⟨rfl, hb2⟩
  rw [HX1.out]
  have hin2 := InW.step HIN1.out hb2
  obtain ⟨-, hsz2, hc20, hc21, hc22⟩ := id hin2
  have HIN2 := Lib.hid hin2; clear hin2 hb2
  go_wp2_with fail
  go_ret2
  exact ⟨rfl, HIN2.out.below⟩
theorem rOrder_no (c s p a : Int) (w : World) (hs : s ≤ 9223372036854775807) (hp : p ≤ 9223372036854775807) (h : ok1 c s p a = false) :
    Calls Try.prog 22 #[fldv c s p, .int .i64 a] w fun e w' => e = .returned (tup (0, 1)) ∧ Below w.heap.size w w' := by
  cases hx0 : vldB c s p
  · exact rOrder_no0 c s p a w hs hp hx0
  cases hx1 : isB s a
  · exact rOrder_no1 c s p a w hs hp hx0 hx1
  unfold ok1 at h; rw [hx0, hx1] at h; cases h
set_option maxHeartbeats 400000 in
theorem rLog_no0 (c s p a : Int) (w : World) (hs : s ≤ 9223372036854775807) (hp : p ≤ 9223372036854775807) (hx0 : vldB c s p = false) :
    Calls Try.prog 25 #[fldv c s p, .int .i64 a] w fun e w' => e = .returned (tup (0, 1)) ∧ Below w.heap.size w w' := by
  have HX0 := Lib.hid hx0; clear hx0
  go_enter Try.func25, Try.ntmps25
  go_wp2_with fail
  refine (rvalid_any c s p _ hs hp).mono ?_
  rintro e w1 ⟨rfl, hb1⟩
  rw [HX0.out]
  have hin1 := InW.step (InW.start w c s p 23) hb1
  obtain ⟨-, hsz1, hc10, hc11, hc12⟩ := id hin1
  have HIN1 := Lib.hid hin1; clear hin1 hb1
  go_wp2_with fail
  go_ret2
  exact ⟨rfl, HIN1.out.below⟩
set_option maxHeartbeats 400000 in
theorem rLog_no1 (c s p a : Int) (w : World) (hs : s ≤ 9223372036854775807) (hp : p ≤ 9223372036854775807) (hx0 : vldB c s p = true) (hx1 : isB s a = false) :
    Calls Try.prog 25 #[fldv c s p, .int .i64 a] w fun e w' => e = .returned (tup (0, 1)) ∧ Below w.heap.size w w' := by
  have HX0 := Lib.hid hx0; clear hx0
  have HX1 := Lib.hid hx1; clear hx1
  go_enter Try.func25, Try.ntmps25
  go_wp2_with fail
  refine (rvalid_any c s p _ hs hp).mono ?_
  rintro e w1 ⟨rfl, hb1⟩
  rw [HX0.out]
  have hin1 := InW.step (InW.start w c s p 23) hb1
  obtain ⟨-, hsz1, hc10, hc11, hc12⟩ := id hin1
  have HIN1 := Lib.hid hin1; clear hin1 hb1
  go_wp2_with fail
  refine (is_any c s p a _).mono ?_
  rintro e w2 ⟨rfl, hb2⟩
  rw [HX1.out]
  have hin2 := InW.step HIN1.out hb2
  obtain ⟨-, hsz2, hc20, hc21, hc22⟩ := id hin2
  have HIN2 := Lib.hid hin2; clear hin2 hb2
  go_wp2_with fail
  go_ret2
  exact ⟨rfl, HIN2.out.below⟩
theorem rLog_no (c s p a : Int) (w : World) (hs : s ≤ 9223372036854775807) (hp : p ≤ 9223372036854775807) (h : ok1 c s p a = false) :
    Calls Try.prog 25 #[fldv c s p, .int .i64 a] w fun e w' => e = .returned (tup (0, 1)) ∧ Below w.heap.size w w' := by
  cases hx0 : vldB c s p
  · exact rLog_no0 c s p a w hs hp hx0
  cases hx1 : isB s a
  · exact rLog_no1 c s p a w hs hp hx0 hx1
  unfold ok1 at h; rw [hx0, hx1] at h; cases h
set_option maxHeartbeats 400000 in
theorem rPow_no0 (c s p a n : Int) (w : World) (hs : s ≤ 9223372036854775807) (hp : p ≤ 9223372036854775807) (hx0 : vldB c s p = false) :
    Calls Try.prog 38 #[fldv c s p, .int .i64 a, .int .i64 n] w fun e w' => e = .returned (tup (0, 1)) ∧ Below w.heap.size w w' := by
  have HX0 := Lib.hid hx0; clear hx0
  go_enter Try.func38, Try.ntmps38
  go_wp2_with fail
  refine (rvalid_any c s p _ hs hp).mono ?_
  rintro e w1 ⟨rfl, hb1⟩
  rw [HX0.out]
  have hin1 := InW.step (InW.start w c s p 23) hb1
  obtain ⟨-, hsz1, hc10, hc11, hc12⟩ := id hin1
  have HIN1 := Lib.hid hin1; clear hin1 hb1
  go_wp2_with fail
  go_ret2
  exact ⟨rfl, HIN1.out.below⟩
set_option maxHeartbeats 400000 in
theorem rPow_no1 (c s p a n : Int) (w : World) (hs : s ≤ 9223372036854775807) (hp : p ≤ 9223372036854775807) (hx0 : vldB c s p = true) (hx1 : isB s a = false) :
    Calls Try.prog 38 #[fldv c s p, .int .i64 a, .int .i64 n] w fun e w' => e = .returned (tup (0, 1)) ∧ Below w.heap.size w w' := by
  have HX0 := Lib.hid hx0; clear hx0
  have HX1 := Lib.hid hx1; clear hx1
  go_enter Try.func38, Try.ntmps38
  go_wp2_with fail
  refine (rvalid_any c s p _ hs hp).mono ?_
  rintro e w1 ⟨rfl, hb1⟩
  rw [HX0.out]
  have hin1 := InW.step (InW.start w c s p 23) hb1
  obtain ⟨-, hsz1, hc10, hc11, hc12⟩ := id hin1
  have HIN1 := Lib.hid hin1; clear hin1 hb1
  go_wp2_with fail
  refine (is_any c s p a _).mono ?_
  rintro e w2 ⟨rfl, hb2⟩
  rw [HX1.out]
  have hin2 := InW.step HIN1.out hb2
  obtain ⟨-, hsz2, hc20, hc21, hc22⟩ := id hin2
  have HIN2 := Lib.hid hin2; clear hin2 hb2
  go_wp2_with fail
  go_ret2
  exact ⟨rfl, HIN2.out.below⟩
theorem rPow_no (c s p a n : Int) (w : World) (hs : s ≤ 9223372036854775807) (hp : p ≤ 9223372036854775807) (h : ok1 c s p a = false) :
    Calls Try.prog 38 #[fldv c s p, .int .i64 a, .int .i64 n] w fun e w' => e = .returned (tup (0, 1)) ∧ Below w.heap.size w w' := by
  cases hx0 : vldB c s p
  · exact rPow_no0 c s p a n w hs hp hx0
  cases hx1 : isB s a
  · exact rPow_no1 c s p a n w hs hp hx0 hx1
  unfold ok1 at h; rw [hx0, hx1] at h; cases h
set_option maxHeartbeats 400000 in
theorem rGenerator_no0 (c s p : Int) (w : World) (hs : s ≤ 9223372036854775807) (hp : p ≤ 9223372036854775807) (hx0 : vldB c s p = false) :
    Calls Try.prog 24 #[fldv c s p] w fun e w' => e = .returned (tup (0, 1)) ∧ Below w.heap.size w w' := by
  have HX0 := Lib.hid hx0; clear hx0
  go_enter Try.func24, Try.ntmps24
  go_wp2_with fail
  refine (rvalid_any c s p _ hs hp).mono ?_
  rintro e w1 ⟨rfl, hb1⟩
  rw [HX0.out]
  have hin1 := InW.step (InW.start w c s p 23) hb1
  obtain ⟨-, hsz1, hc10, hc11, hc12⟩ := id hin1
  have HIN1 := Lib.hid hin1; clear hin1 hb1
  go_wp2_with fail
  go_ret2
  exact ⟨rfl, HIN1.out.below⟩
theorem rGenerator_no (c s p : Int) (w : World) (hs : s ≤ 9223372036854775807) (hp : p ≤ 9223372036854775807) (h : vldB c s p = false) :
    Calls Try.prog 24 #[fldv c s p] w fun e w' => e = .returned (tup (0, 1)) ∧ Below w.heap.size w w' := by
  cases hx0 : vldB c s p
  · exact rGenerator_no0 c s p w hs hp hx0
  rw [hx0] at h; cases h
set_option maxHeartbeats 400000 in
theorem rExp_no0 (c s p n : Int) (w : World) (hs : s ≤ 9223372036854775807) (hp : p ≤ 9223372036854775807) (hx0 : vldB c s p = false) :
    Calls Try.prog 39 #[fldv c s p, .int .i64 n] w fun e w' => e = .returned (tup (0, 1)) ∧ Below w.heap.size w w' := by
  have HX0 := Lib.hid hx0; clear hx0
  go_enter Try.func39, Try.ntmps39
  go_wp2_with fail
  refine (rvalid_any c s p _ hs hp).mono ?_
  rintro e w1 ⟨rfl, hb1⟩
  rw [HX0.out]
  have hin1 := InW.step (InW.start w c s p 23) hb1
  obtain ⟨-, hsz1, hc10, hc11, hc12⟩ := id hin1
  have HIN1 := Lib.hid hin1; clear hin1 hb1
  go_wp2_with fail
  go_ret2
  exact ⟨rfl, HIN1.out.below⟩
theorem rExp_no (c s p n : Int) (w : World) (hs : s ≤ 9223372036854775807) (hp : p ≤ 9223372036854775807) (h : vldB c s p = false) :
    Calls Try.prog 39 #[fldv c s p, .int .i64 n] w fun e w' => e = .returned (tup (0, 1)) ∧ Below w.heap.size w w' := by
  cases hx0 : vldB c s p
  · exact rExp_no0 c s p n w hs hp hx0
  rw [hx0] at h; cases h
set_option maxHeartbeats 1000000 in
theorem rAdd_yes (C S P A B : Nat) (w : World) (hv : VF C S P) (ha : A < S) (hb : B < S) :
    Calls Try.prog 27 #[fldv C S P, .int .i64 A, .int .i64 B] w fun e w' => e = .returned (tup ((faddN S P A B : Nat), 0)) ∧ Below w.heap.size w w' := by
  have hS := hv.le
  have hS2 := hv.two_le
  have hP : (P : Int) ≤ 9223372036854775807 := hv.pbd
  have hSb : (S : Int) ≤ 9223372036854775807 := by omega
  have HX0 : Hid (vldB C S P = true) := vld_of hv
  have HX1 : Hid (isB S (A : Int) = true) := isB_of ha
  have HX2 : Hid (isB S (B : Int) = true) := isB_of hb
  have HV := Lib.hid hv; clear hv
  go_enter Try.func27, Try.ntmps27
  go_wp2_with fail
  refine (rvalid_any C S P _ hSb hP).mono ?_
  rintro e w1 ⟨rfl, hb1⟩
  rw [HX0.out]
  have hin1 := InW.step (InW.start w C S P 23) hb1
  obtain ⟨-, hsz1, hc10, hc11, hc12⟩ := id hin1
  have HIN1 := Lib.hid hin1; clear hin1 hb1
  go_wp2_with fail
  refine (is_any C S P A _).mono ?_
  rintro e w2 ⟨rfl, hb2⟩
  rw [HX1.out]
  have hin2 := InW.step HIN1.out hb2
  obtain ⟨-, hsz2, hc20, hc21, hc22⟩ := id hin2
  have HIN2 := Lib.hid hin2; clear hin2 hb2
  go_wp2_with fail
  refine (is_any C S P B _).mono ?_
  rintro e w3 ⟨rfl, hb3⟩
  rw [HX2.out]
  have hin3 := InW.step HIN2.out hb3
  obtain ⟨-, hsz3, hc30, hc31, hc32⟩ := id hin3
  have HIN3 := Lib.hid hin3; clear hin3 hb3
  go_wp2_with fail
  refine (rplus_any C S P _ _ _ HV.out (by omega) (by omega) (by omega) (by omega)).mono ?_
  rintro e w4 ⟨rfl, hb4⟩
  have hin4 := InW.step HIN3.out hb4
  obtain ⟨-, hsz4, hc40, hc41, hc42⟩ := id hin4
  have HIN4 := Lib.hid hin4; clear hin4 hb4
  go_wp2_with fail
  go_ret2
  exact ⟨rfl, HIN4.out.below⟩
set_option maxHeartbeats 1000000 in
theorem rSub_yes (C S P A B : Nat) (w : World) (hv : VF C S P) (ha : A < S) (hb : B < S) :
    Calls Try.prog 29 #[fldv C S P, .int .i64 A, .int .i64 B] w fun e w' => e = .returned (tup ((fsubN S P A B : Nat), 0)) ∧ Below w.heap.size w w' := by
  have hS := hv.le
  have hS2 := hv.two_le
  have hP : (P : Int) ≤ 9223372036854775807 := hv.pbd
  have hSb : (S : Int) ≤ 9223372036854775807 := by omega
  have HX0 : Hid (vldB C S P = true) := vld_of hv
  have HX1 : Hid (isB S (A : Int) = true) := isB_of ha
  have HX2 : Hid (isB S (B : Int) = true) := isB_of hb
  have HV := Lib.hid hv; clear hv
  go_enter Try.func29, Try.ntmps29
  go_wp2_with fail
  refine (rvalid_any C S P _ hSb hP).mono ?_
  rintro e w1 ⟨rfl, hb1⟩
  rw [HX0.out]
  have hin1 := InW.step (InW.start w C S P 23) hb1
  obtain ⟨-, hsz1, hc10, hc11, hc12⟩ := id hin1
  have HIN1 := Lib.hid hin1; clear hin1 hb1
  go_wp2_with fail
  refine (is_any C S P A _).mono ?_
  rintro e w2 ⟨rfl, hb2⟩
  rw [HX1.out]
  have hin2 := InW.step HIN1.out hb2
  obtain ⟨-, hsz2, hc20, hc21, hc22⟩ := id hin2
  have HIN2 := Lib.hid hin2; clear hin2 hb2
  go_wp2_with fail
  refine (is_any C S P B _).mono ?_
  rintro e w3 ⟨rfl, hb3⟩
  rw [HX2.out]
  have hin3 := InW.step HIN2.out hb3
  obtain ⟨-, hsz3, hc30, hc31, hc32⟩ := id hin3
  have HIN3 := Lib.hid hin3; clear hin3 hb3
  go_wp2_with fail
  refine (rminus_any C S P _ _ _ HV.out (by omega) (by omega) (by omega) (by omega)).mono ?_
  rintro e w4 ⟨rfl, hb4⟩
  have hin4 := InW.step HIN3.out hb4
  obtain ⟨-, hsz4, hc40, hc41, hc42⟩ := id hin4
  have HIN4 := Lib.hid hin4; clear hin4 hb4
  go_wp2_with fail
  go_ret2
  exact ⟨rfl, HIN4.out.below⟩
set_option maxHeartbeats 1000000 in
theorem rMul_yes (C S P A B : Nat) (w : World) (hv : VF C S P) (ha : A < S) (hb : B < S) :
    Calls Try.prog 30 #[fldv C S P, .int .i64 A, .int .i64 B] w fun e w' => e = .returned (tup ((fmulN S P A B : Nat), 0)) ∧ Below w.heap.size w w' := by
  have hS := hv.le
  have hS2 := hv.two_le
  have hP : (P : Int) ≤ 9223372036854775807 := hv.pbd
  have hSb : (S : Int) ≤ 9223372036854775807 := by omega
  have HX0 : Hid (vldB C S P = true) := vld_of hv
  have HX1 : Hid (isB S (A : Int) = true) := isB_of ha
  have HX2 : Hid (isB S (B : Int) = true) := isB_of hb
  have HV := Lib.hid hv; clear hv
  go_enter Try.func30, Try.ntmps30
  go_wp2_with fail
  refine (rvalid_any C S P _ hSb hP).mono ?_
  rintro e w1 ⟨rfl, hb1⟩
  rw [HX0.out]
  have hin1 := InW.step (InW.start w C S P 23) hb1
  obtain ⟨-, hsz1, hc10, hc11, hc12⟩ := id hin1
  have HIN1 := Lib.hid hin1; clear hin1 hb1
  go_wp2_with fail
  refine (is_any C S P A _).mono ?_
  rintro e w2 ⟨rfl, hb2⟩
  rw [HX1.out]
  have hin2 := InW.step HIN1.out hb2
  obtain ⟨-, hsz2, hc20, hc21, hc22⟩ := id hin2
  have HIN2 := Lib.hid hin2; clear hin2 hb2
  go_wp2_with fail
  refine (is_any C S P B _).mono ?_
  rintro e w3 ⟨rfl, hb3⟩
  rw [HX2.out]
  have hin3 := InW.step HIN2.out hb3
  obtain ⟨-, hsz3, hc30, hc31, hc32⟩ := id hin3
  have HIN3 := Lib.hid hin3; clear hin3 hb3
  go_wp2_with fail
  refine (times_any C S P _ _ _ HV.out (by omega) (by omega) (by omega) (by omega)).mono ?_
  rintro e w4 ⟨rfl, hb4⟩
  have hin4 := InW.step HIN3.out hb4
  obtain ⟨-, hsz4, hc40, hc41, hc42⟩ := id hin4
  have HIN4 := Lib.hid hin4; clear hin4 hb4
  go_wp2_with fail
  go_ret2
  exact ⟨rfl, HIN4.out.below⟩
set_option maxHeartbeats 1000000 in
theorem rDiv_zero (C S P A : Nat) (w : World) (hv : VF C S P) (ha : A < S) :
    Calls Try.prog 32 #[fldv C S P, .int .i64 A, .int .i64 0] w fun e w' => e = .returned (tup (0, 12)) ∧ Below w.heap.size w w' := by
  have hS := hv.le
  have hS2 := hv.two_le
  have hP : (P : Int) ≤ 9223372036854775807 := hv.pbd
  have hSb : (S : Int) ≤ 9223372036854775807 := by omega
  have HX0 : Hid (vldB C S P = true) := vld_of hv
  have HX1 : Hid (isB S (A : Int) = true) := isB_of ha
  have HX2 : Hid (isB S (0 : Int) = true) := isB_of (A := 0) (by omega)
  have HV := Lib.hid hv; clear hv
  go_enter Try.func32, Try.ntmps32
  go_wp2_with fail
  refine (rvalid_any C S P _ hSb hP).mono ?_
  rintro e w1 ⟨rfl, hb1⟩
  rw [HX0.out]
  have hin1 := InW.step (InW.start w C S P 23) hb1
  obtain ⟨-, hsz1, hc10, hc11, hc12⟩ := id hin1
  have HIN1 := Lib.hid hin1; clear hin1 hb1
  go_wp2_with fail
  refine (is_any C S P A _).mono ?_
  rintro e w2 ⟨rfl, hb2⟩
  rw [HX1.out]
  have hin2 := InW.step HIN1.out hb2
  obtain ⟨-, hsz2, hc20, hc21, hc22⟩ := id hin2
  have HIN2 := Lib.hid hin2; clear hin2 hb2
  go_wp2_with fail
  refine (is_any C S P 0 _).mono ?_
  rintro e w3 ⟨rfl, hb3⟩
  rw [HX2.out]
  have hin3 := InW.step HIN2.out hb3
  obtain ⟨-, hsz3, hc30, hc31, hc32⟩ := id hin3
  have HIN3 := Lib.hid hin3; clear hin3 hb3
  go_wp2_with fail
  go_ret2
  exact ⟨rfl, HIN3.out.below⟩
set_option maxHeartbeats 1000000 in
theorem rDiv_yes (C S P A B : Nat) (w : World) (hv : VF C S P) (ha : A < S) (hb : B < S) (hb0 : 0 < B) :
    Calls Try.prog 32 #[fldv C S P, .int .i64 A, .int .i64 B] w fun e w' => e = .returned (tup ((fmulN S P A (finvN S P B) : Nat), 0)) ∧ Below w.heap.size w w' := by
  have hS := hv.le
  have hS2 := hv.two_le
  have hP : (P : Int) ≤ 9223372036854775807 := hv.pbd
  have hSb : (S : Int) ≤ 9223372036854775807 := by omega
  have HX0 : Hid (vldB C S P = true) := vld_of hv
  have HX1 : Hid (isB S (A : Int) = true) := isB_of ha
  have HX2 : Hid (isB S (B : Int) = true) := isB_of hb
  have HV := Lib.hid hv; clear hv
  have hbz : (((B : Nat) : Int) == 0) = false := by rw [beq_eq_false_iff_ne]; omega
  go_enter Try.func32, Try.ntmps32
  go_wp2_with fail
  refine (rvalid_any C S P _ hSb hP).mono ?_
  rintro e w1 ⟨rfl, hb1⟩
  rw [HX0.out]
  have hin1 := InW.step (InW.start w C S P 23) hb1
  obtain ⟨-, hsz1, hc10, hc11, hc12⟩ := id hin1
  have HIN1 := Lib.hid hin1; clear hin1 hb1
  go_wp2_with fail
  refine (is_any C S P A _).mono ?_
  rintro e w2 ⟨rfl, hb2⟩
  rw [HX1.out]
  have hin2 := InW.step HIN1.out hb2
  obtain ⟨-, hsz2, hc20, hc21, hc22⟩ := id hin2
  have HIN2 := Lib.hid hin2; clear hin2 hb2
  go_wp2_with fail
  refine (is_any C S P B _).mono ?_
  rintro e w3 ⟨rfl, hb3⟩
  rw [HX2.out]
  have hin3 := InW.step HIN2.out hb3
  obtain ⟨-, hsz3, hc30, hc31, hc32⟩ := id hin3
  have HIN3 := Lib.hid hin3; clear hin3 hb3
  go_wp2_with fail
  go_region_held3 (fun w' => (w'.cell? ⟨w.heap.size, 0, none⟩ = some (.int .i64 C) ∧ w'.cell? ⟨w.heap.size, 1, none⟩ = some (.int .i64 S) ∧ w'.cell? ⟨w.heap.size, 2, none⟩ = some (.int .i64 P)) ∧ InW w C S P w') (first | exact hold_of (InW.drew HIN3.out) | exact hold_of (by assumption)) (first | (go_at_call 60; refine (rinverse_any C S P _ _ HV.out (by omega) (by omega)).mono ?_; rintro e v1 ⟨rfl, hv1⟩; have hi1 := InW.step (And.right (by assumption)) hv1) | (go_at_call 56; refine (times_any C S P _ _ _ HV.out (by omega) (by omega) (by omega) (by have := fpowN_lt HV.out B (S - 2); simp only [finvN]; omega)).mono ?_; rintro e v2 ⟨rfl, hv2⟩; have hi2 := InW.step (And.right (by assumption)) hv2))
  all_goals go_wp2
  all_goals go_ret2
  all_goals exact ⟨by simp [finvN], InW.below (And.right (by assumption))⟩
set_option maxHeartbeats 1000000 in
theorem rOrder_zero (C S P : Nat) (w : World) (hv : VF C S P) :
    Calls Try.prog 22 #[fldv C S P, .int .i64 0] w fun e w' => e = .returned (tup (0, 12)) ∧ Below w.heap.size w w' := by
  have hS := hv.le
  have hS2 := hv.two_le
  have hP : (P : Int) ≤ 9223372036854775807 := hv.pbd
  have hSb : (S : Int) ≤ 9223372036854775807 := by omega
  have HX0 : Hid (vldB C S P = true) := vld_of hv
  have HX1 : Hid (isB S (0 : Int) = true) := isB_of (A := 0) (by omega)
  have HV := Lib.hid hv; clear hv
  go_enter Try.func22, Try.ntmps22
  go_wp2_with fail
  refine (rvalid_any C S P _ hSb hP).mono ?_
  rintro e w1 ⟨rfl, hb1⟩
  rw [HX0.out]
  have hin1 := InW.step (InW.start w C S P 23) hb1
  obtain ⟨-, hsz1, hc10, hc11, hc12⟩ := id hin1
  have HIN1 := Lib.hid hin1; clear hin1 hb1
  go_wp2_with fail
  refine (is_any C S P 0 _).mono ?_
  rintro e w2 ⟨rfl, hb2⟩
  rw [HX1.out]
  have hin2 := InW.step HIN1.out hb2
  obtain ⟨-, hsz2, hc20, hc21, hc22⟩ := id hin2
  have HIN2 := Lib.hid hin2; clear hin2 hb2
  go_wp2_with fail
  go_ret2
  exact ⟨rfl, HIN2.out.below⟩
set_option maxHeartbeats 1000000 in
theorem rOrder_yes (C S P A : Nat) (w : World) (hv : VF C S P) (ha : A < S) (ha0 : 0 < A) :
    Calls Try.prog 22 #[fldv C S P, .int .i64 A] w fun e w' => e = .returned (tup ((ordF S P A : Nat), 0)) ∧ Below w.heap.size w w' := by
  have hS := hv.le
  have hS2 := hv.two_le
  have hP : (P : Int) ≤ 9223372036854775807 := hv.pbd
  have hSb : (S : Int) ≤ 9223372036854775807 := by omega
  have HX0 : Hid (vldB C S P = true) := vld_of hv
  have HX1 : Hid (isB S (A : Int) = true) := isB_of ha
  have HV := Lib.hid hv; clear hv
  have hbz : (((A : Nat) : Int) == 0) = false := by rw [beq_eq_false_iff_ne]; omega
  go_enter Try.func22, Try.ntmps22
  go_wp2_with fail
  refine (rvalid_any C S P _ hSb hP).mono ?_
  rintro e w1 ⟨rfl, hb1⟩
  rw [HX0.out]
  have hin1 := InW.step (InW.start w C S P 23) hb1
  obtain ⟨-, hsz1, hc10, hc11, hc12⟩ := id hin1
  have HIN1 := Lib.hid hin1; clear hin1 hb1
  go_wp2_with fail
  refine (is_any C S P A _).mono ?_
  rintro e w2 ⟨rfl, hb2⟩
  rw [HX1.out]
  have hin2 := InW.step HIN1.out hb2
  obtain ⟨-, hsz2, hc20, hc21, hc22⟩ := id hin2
  have HIN2 := Lib.hid hin2; clear hin2 hb2
  go_wp2_with fail
  refine (rorder_any C S P _ _ HV.out (by omega) (by omega)).mono ?_
  rintro e w3 ⟨rfl, hb3⟩
  have hin3 := InW.step HIN2.out hb3
  obtain ⟨-, hsz3, hc30, hc31, hc32⟩ := id hin3
  have HIN3 := Lib.hid hin3; clear hin3 hb3
  go_wp2_with fail
  go_ret2
  exact ⟨rfl, HIN3.out.below⟩
set_option maxHeartbeats 1000000 in
theorem rGenerator_yes (C S P : Nat) (w : World) (hv : VF C S P) :
    Calls Try.prog 24 #[fldv C S P] w fun e w' => e = .returned (tup ((genF S P : Nat), 0)) ∧ Below w.heap.size w w' := by
  have hS := hv.le
  have hS2 := hv.two_le
  have hP : (P : Int) ≤ 9223372036854775807 := hv.pbd
  have hSb : (S : Int) ≤ 9223372036854775807 := by omega
  have HX0 : Hid (vldB C S P = true) := vld_of hv
  have HV := Lib.hid hv; clear hv
  go_enter Try.func24, Try.ntmps24
  go_wp2_with fail
  refine (rvalid_any C S P _ hSb hP).mono ?_
  rintro e w1 ⟨rfl, hb1⟩
  rw [HX0.out]
  have hin1 := InW.step (InW.start w C S P 23) hb1
  obtain ⟨-, hsz1, hc10, hc11, hc12⟩ := id hin1
  have HIN1 := Lib.hid hin1; clear hin1 hb1
  go_wp2_with fail
  refine (primitive_any C S P _ HV.out).mono ?_
  rintro e w2 ⟨rfl, hb2⟩
  have hin2 := InW.step HIN1.out hb2
  obtain ⟨-, hsz2, hc20, hc21, hc22⟩ := id hin2
  have HIN2 := Lib.hid hin2; clear hin2 hb2
  go_wp2_with fail
  go_ret2
  exact ⟨rfl, HIN2.out.below⟩
set_option maxHeartbeats 1000000 in
theorem rPow_neg (C S P : Nat) (n : Int) (w : World) (hv : VF C S P) (hn : n < 0) :
    Calls Try.prog 38 #[fldv C S P, .int .i64 0, .int .i64 n] w fun e w' => e = .returned (tup (0, 12)) ∧ Below w.heap.size w w' := by
  have hS := hv.le
  have hS2 := hv.two_le
  have hP : (P : Int) ≤ 9223372036854775807 := hv.pbd
  have hSb : (S : Int) ≤ 9223372036854775807 := by omega
  have HX0 : Hid (vldB C S P = true) := vld_of hv
  have HX1 : Hid (isB S (0 : Int) = true) := isB_of (A := 0) (by omega)
  have HV := Lib.hid hv; clear hv
  go_enter Try.func38, Try.ntmps38
  go_wp2_with fail
  refine (rvalid_any C S P _ hSb hP).mono ?_
  rintro e w1 ⟨rfl, hb1⟩
  rw [HX0.out]
  have hin1 := InW.step (InW.start w C S P 23) hb1
  obtain ⟨-, hsz1, hc10, hc11, hc12⟩ := id hin1
  have HIN1 := Lib.hid hin1; clear hin1 hb1
  go_wp2_with fail
  refine (is_any C S P 0 _).mono ?_
  rintro e w2 ⟨rfl, hb2⟩
  rw [HX1.out]
  have hin2 := InW.step HIN1.out hb2
  obtain ⟨-, hsz2, hc20, hc21, hc22⟩ := id hin2
  have HIN2 := Lib.hid hin2; clear hin2 hb2
  go_wp2_with fail
  go_ret2
  exact ⟨rfl, HIN2.out.below⟩
set_option maxHeartbeats 1000000 in
theorem rPow_zero (C S P : Nat) (n : Int) (w : World) (hv : VF C S P) (hn : n = 0) :
    Calls Try.prog 38 #[fldv C S P, .int .i64 0, .int .i64 n] w fun e w' => e = .returned (tup (1, 0)) ∧ Below w.heap.size w w' := by
  have hS := hv.le
  have hS2 := hv.two_le
  have hP : (P : Int) ≤ 9223372036854775807 := hv.pbd
  have hSb : (S : Int) ≤ 9223372036854775807 := by omega
  have HX0 : Hid (vldB C S P = true) := vld_of hv
  have HX1 : Hid (isB S (0 : Int) = true) := isB_of (A := 0) (by omega)
  subst hn
  have HV := Lib.hid hv; clear hv
  go_enter Try.func38, Try.ntmps38
  go_wp2_with fail
  refine (rvalid_any C S P _ hSb hP).mono ?_
  rintro e w1 ⟨rfl, hb1⟩
  rw [HX0.out]
  have hin1 := InW.step (InW.start w C S P 23) hb1
  obtain ⟨-, hsz1, hc10, hc11, hc12⟩ := id hin1
  have HIN1 := Lib.hid hin1; clear hin1 hb1
  go_wp2_with fail
  refine (is_any C S P 0 _).mono ?_
  rintro e w2 ⟨rfl, hb2⟩
  rw [HX1.out]
  have hin2 := InW.step HIN1.out hb2
  obtain ⟨-, hsz2, hc20, hc21, hc22⟩ := id hin2
  have HIN2 := Lib.hid hin2; clear hin2 hb2
  go_wp2_with fail
  refine (raise_zero C S P _ _).mono ?_
  rintro e w3 ⟨rfl, hb3⟩
  rw [show zeroV 0 = 1 from rfl]
  have hin3 := InW.step HIN2.out hb3
  obtain ⟨-, hsz3, hc30, hc31, hc32⟩ := id hin3
  have HIN3 := Lib.hid hin3; clear hin3 hb3
  go_wp2_with fail
  go_ret2
  exact ⟨rfl, HIN3.out.below⟩
set_option maxHeartbeats 1000000 in
theorem rPow_pos (C S P : Nat) (n : Int) (w : World) (hv : VF C S P) (hn : 0 < n) :
    Calls Try.prog 38 #[fldv C S P, .int .i64 0, .int .i64 n] w fun e w' => e = .returned (tup (0, 0)) ∧ Below w.heap.size w w' := by
  have hS := hv.le
  have hS2 := hv.two_le
  have hP : (P : Int) ≤ 9223372036854775807 := hv.pbd
  have hSb : (S : Int) ≤ 9223372036854775807 := by omega
  have HX0 : Hid (vldB C S P = true) := vld_of hv
  have HX1 : Hid (isB S (0 : Int) = true) := isB_of (A := 0) (by omega)
  have hnz : Hid (zeroV n = 0) := by show _ = _; unfold zeroV; rw [if_neg (by omega)]
  have HV := Lib.hid hv; clear hv
  go_enter Try.func38, Try.ntmps38
  go_wp2_with fail
  refine (rvalid_any C S P _ hSb hP).mono ?_
  rintro e w1 ⟨rfl, hb1⟩
  rw [HX0.out]
  have hin1 := InW.step (InW.start w C S P 23) hb1
  obtain ⟨-, hsz1, hc10, hc11, hc12⟩ := id hin1
  have HIN1 := Lib.hid hin1; clear hin1 hb1
  go_wp2_with fail
  refine (is_any C S P 0 _).mono ?_
  rintro e w2 ⟨rfl, hb2⟩
  rw [HX1.out]
  have hin2 := InW.step HIN1.out hb2
  obtain ⟨-, hsz2, hc20, hc21, hc22⟩ := id hin2
  have HIN2 := Lib.hid hin2; clear hin2 hb2
  go_wp2_with fail
  refine (raise_zero C S P _ _).mono ?_
  rintro e w3 ⟨rfl, hb3⟩
  rw [hnz.out]
  have hin3 := InW.step HIN2.out hb3
  obtain ⟨-, hsz3, hc30, hc31, hc32⟩ := id hin3
  have HIN3 := Lib.hid hin3; clear hin3 hb3
  go_wp2_with fail
  go_ret2
  exact ⟨rfl, HIN3.out.below⟩
set_option maxHeartbeats 1000000 in
theorem rPow_yes (C S P A : Nat) (n : Int) (w : World) (hv : VF C S P) (ha : A < S) (ha0 : 0 < A) (hn0 : -9223372036854775808 ≤ n) (hn1 : n ≤ 9223372036854775807) :
    Calls Try.prog 38 #[fldv C S P, .int .i64 A, .int .i64 n] w fun e w' => e = .returned (tup ((fpowN S P A (n % ((S : Int) - 1)).toNat : Nat), 0)) ∧ Below w.heap.size w w' := by
  have hS := hv.le
  have hS2 := hv.two_le
  have hP : (P : Int) ≤ 9223372036854775807 := hv.pbd
  have hSb : (S : Int) ≤ 9223372036854775807 := by omega
  have HX0 : Hid (vldB C S P = true) := vld_of hv
  have HX1 : Hid (isB S (A : Int) = true) := isB_of ha
  have HV := Lib.hid hv; clear hv
  have hbz : (((A : Nat) : Int) == 0) = false := by rw [beq_eq_false_iff_ne]; omega
  go_enter Try.func38, Try.ntmps38
  go_wp2_with fail
  refine (rvalid_any C S P _ hSb hP).mono ?_
  rintro e w1 ⟨rfl, hb1⟩
  rw [HX0.out]
  have hin1 := InW.step (InW.start w C S P 23) hb1
  obtain ⟨-, hsz1, hc10, hc11, hc12⟩ := id hin1
  have HIN1 := Lib.hid hin1; clear hin1 hb1
  go_wp2_with fail
  refine (is_any C S P A _).mono ?_
  rintro e w2 ⟨rfl, hb2⟩
  rw [HX1.out]
  have hin2 := InW.step HIN1.out hb2
  obtain ⟨-, hsz2, hc20, hc21, hc22⟩ := id hin2
  have HIN2 := Lib.hid hin2; clear hin2 hb2
  go_wp2_with fail
  refine (raise_yes C S P A n _ HV.out ha ha0 hn0 hn1).mono ?_
  rintro e w3 ⟨rfl, hb3⟩
  have hin3 := InW.step HIN2.out hb3
  obtain ⟨-, hsz3, hc30, hc31, hc32⟩ := id hin3
  have HIN3 := Lib.hid hin3; clear hin3 hb3
  go_wp2_with fail
  go_ret2
  exact ⟨rfl, HIN3.out.below⟩
set_option maxHeartbeats 1000000 in
theorem rExp_yes (C S P : Nat) (n : Int) (w : World) (hv : VF C S P) (hn0 : -9223372036854775808 ≤ n) (hn1 : n ≤ 9223372036854775807) :
    Calls Try.prog 39 #[fldv C S P, .int .i64 n] w fun e w' => e = .returned (tup ((fpowN S P (genF S P) (n % ((S : Int) - 1)).toNat : Nat), 0)) ∧ Below w.heap.size w w' := by
  have hS := hv.le
  have hS2 := hv.two_le
  have hP : (P : Int) ≤ 9223372036854775807 := hv.pbd
  have hSb : (S : Int) ≤ 9223372036854775807 := by omega
  have HX0 : Hid (vldB C S P = true) := vld_of hv
  have hgl := (genF_spec hv).2.1
  have hg0 : 0 < genF S P := (genF_spec hv).1
  have HV := Lib.hid hv; clear hv
  go_enter Try.func39, Try.ntmps39
  go_wp2_with fail
  refine (rvalid_any C S P _ hSb hP).mono ?_
  rintro e w1 ⟨rfl, hb1⟩
  rw [HX0.out]
  have hin1 := InW.step (InW.start w C S P 23) hb1
  obtain ⟨-, hsz1, hc10, hc11, hc12⟩ := id hin1
  have HIN1 := Lib.hid hin1; clear hin1 hb1
  go_wp2_with fail
  go_region_held3 (fun w' => (w'.cell? ⟨w.heap.size, 0, none⟩ = some (.int .i64 C) ∧ w'.cell? ⟨w.heap.size, 1, none⟩ = some (.int .i64 S) ∧ w'.cell? ⟨w.heap.size, 2, none⟩ = some (.int .i64 P)) ∧ InW w C S P w') (first | exact hold_of (InW.drew HIN1.out) | exact hold_of (by assumption)) (first | (go_at_call 55; refine (primitive_any C S P _ HV.out).mono ?_; rintro e v0 ⟨rfl, hv0⟩; have hi0 := InW.step (And.right (by assumption)) hv0) | (go_at_call 61; refine (raise_yes C S P (genF S P) n _ HV.out hgl hg0 hn0 hn1).mono ?_; rintro e v2 ⟨rfl, hv2⟩; have hi2 := InW.step (And.right (by assumption)) hv2))
  all_goals go_wp2
  all_goals go_ret2
  all_goals exact ⟨by simp, InW.below (And.right (by assumption))⟩
theorem rAdd_any (c s p a b : Int) (w : World) (hs : s ≤ 9223372036854775807) (hp : p ≤ 9223372036854775807) :
    Calls Try.prog 27 #[fldv c s p, .int .i64 a, .int .i64 b] w fun e w' => e = .returned (tup (addR c s p a b)) ∧ Below w.heap.size w w' := by
  cases h : ok2 c s p a b
  · unfold addR; rw [h]; exact rAdd_no c s p a b w hs hp h
  · unfold addR; rw [h]
    obtain ⟨C, S, P, A, B, rfl, rfl, rfl, rfl, rfl, ha, hb, hv⟩ := ok2_nat h
    simp only [Int.toNat_natCast, if_true]
    exact rAdd_yes C S P A B w hv ha hb
theorem rSub_any (c s p a b : Int) (w : World) (hs : s ≤ 9223372036854775807) (hp : p ≤ 9223372036854775807) :
    Calls Try.prog 29 #[fldv c s p, .int .i64 a, .int .i64 b] w fun e w' => e = .returned (tup (subR c s p a b)) ∧ Below w.heap.size w w' := by
  cases h : ok2 c s p a b
  · unfold subR; rw [h]; exact rSub_no c s p a b w hs hp h
  · unfold subR; rw [h]
    obtain ⟨C, S, P, A, B, rfl, rfl, rfl, rfl, rfl, ha, hb, hv⟩ := ok2_nat h
    simp only [Int.toNat_natCast, if_true]
    exact rSub_yes C S P A B w hv ha hb
theorem rMul_any (c s p a b : Int) (w : World) (hs : s ≤ 9223372036854775807) (hp : p ≤ 9223372036854775807) :
    Calls Try.prog 30 #[fldv c s p, .int .i64 a, .int .i64 b] w fun e w' => e = .returned (tup (mulR c s p a b)) ∧ Below w.heap.size w w' := by
  cases h : ok2 c s p a b
  · unfold mulR; rw [h]; exact rMul_no c s p a b w hs hp h
  · unfold mulR; rw [h]
    obtain ⟨C, S, P, A, B, rfl, rfl, rfl, rfl, rfl, ha, hb, hv⟩ := ok2_nat h
    simp only [Int.toNat_natCast, if_true]
    exact rMul_yes C S P A B w hv ha hb
theorem rDiv_any (c s p a b : Int) (w : World) (hs : s ≤ 9223372036854775807) (hp : p ≤ 9223372036854775807) :
    Calls Try.prog 32 #[fldv c s p, .int .i64 a, .int .i64 b] w fun e w' => e = .returned (tup (divR c s p a b)) ∧ Below w.heap.size w w' := by
  cases h : ok2 c s p a b
  · unfold divR; rw [h]; exact rDiv_no c s p a b w hs hp h
  · unfold divR; rw [h]
    obtain ⟨C, S, P, A, B, rfl, rfl, rfl, rfl, rfl, ha, hb, hv⟩ := ok2_nat h
    simp only [Int.toNat_natCast, if_true]
    by_cases h0 : B = 0
    · subst h0; rw [if_pos (by rfl)]; exact rDiv_zero C S P A w hv ha
    · rw [if_neg (by omega)]; exact rDiv_yes C S P A B w hv ha hb (by omega)
set_option maxHeartbeats 400000 in
theorem rInv_any (c s p a : Int) (w : World) (hs : s ≤ 9223372036854775807) (hp : p ≤ 9223372036854775807) :
    Calls Try.prog 34 #[fldv c s p, .int .i64 a] w fun e w' => e = .returned (tup (invR c s p a)) ∧ Below w.heap.size w w' := by
  have he : Hid (divR c s p 1 a = invR c s p a) := by
    show _ = _
    unfold divR invR
    cases h : ok1 c s p a
    · have h2 : ok2 c s p 1 a = false := by
        unfold ok1 at h; unfold ok2
        rw [Bool.and_right_comm, h]; rfl
      rw [h2]; rfl
    · obtain ⟨C, S, P, A, rfl, rfl, rfl, rfl, ha, hv⟩ := ok1_nat h
      have h2 : ok2 C S P 1 A = true := ok2_of (A := 1) hv (by have := hv.two_le; omega) ha
      rw [h2]
      simp only [if_true, Int.toNat_natCast]
      rw [show (1 : Int).toNat = 1 from rfl, one_mulN hv (finvN S P A) (fpowN_lt hv A (S - 2))]
  go_enter Try.func34, Try.ntmps34
  go_wp2_with fail
  refine (rDiv_any _ _ _ _ _ _ hs hp).mono ?_
  rintro e w1 ⟨rfl, hb1⟩
  rw [he.out]
  have hin1 := Lib.hid (InW.step (InW.start w c s p 23) hb1)
  clear hb1
  go_wp2_with fail
  go_ret2
  exact ⟨rfl, hin1.out.below⟩
theorem rOrder_any (c s p a : Int) (w : World) (hs : s ≤ 9223372036854775807) (hp : p ≤ 9223372036854775807) :
    Calls Try.prog 22 #[fldv c s p, .int .i64 a] w fun e w' => e = .returned (tup (ordR c s p a)) ∧ Below w.heap.size w w' := by
  cases h : ok1 c s p a
  · unfold ordR; rw [h]; exact rOrder_no c s p a w hs hp h
  · unfold ordR; rw [h]
    obtain ⟨C, S, P, A, rfl, rfl, rfl, rfl, ha, hv⟩ := ok1_nat h
    simp only [Int.toNat_natCast, if_true]
    by_cases h0 : A = 0
    · subst h0; rw [if_pos (by rfl)]; exact rOrder_zero C S P w hv
    · rw [if_neg (by omega)]; exact rOrder_yes C S P A w hv ha (by omega)
theorem rPow_any (c s p a n : Int) (w : World) (hs : s ≤ 9223372036854775807) (hp : p ≤ 9223372036854775807) (hn0 : -9223372036854775808 ≤ n) (hn1 : n ≤ 9223372036854775807) :
    Calls Try.prog 38 #[fldv c s p, .int .i64 a, .int .i64 n] w fun e w' => e = .returned (tup (powR c s p a n)) ∧ Below w.heap.size w w' := by
  cases h : ok1 c s p a
  · unfold powR; rw [h]; exact rPow_no c s p a n w hs hp h
  · unfold powR; rw [h]
    obtain ⟨C, S, P, A, rfl, rfl, rfl, rfl, ha, hv⟩ := ok1_nat h
    simp only [Int.toNat_natCast, if_true]
    by_cases h0 : A = 0
    · subst h0; rw [if_pos (by rfl)]
      by_cases h1 : n < 0
      · rw [if_pos h1]; exact rPow_neg C S P n w hv h1
      · rw [if_neg h1]
        by_cases h2 : n = 0
        · rw [if_pos h2]; exact rPow_zero C S P n w hv h2
        · rw [if_neg h2]; exact rPow_pos C S P n w hv (by omega)
    · rw [if_neg (by omega)]; exact rPow_yes C S P A n w hv ha (by omega) hn0 hn1
theorem rGenerator_any (c s p : Int) (w : World) (hs : s ≤ 9223372036854775807) (hp : p ≤ 9223372036854775807) :
    Calls Try.prog 24 #[fldv c s p] w fun e w' => e = .returned (tup (genR c s p)) ∧ Below w.heap.size w w' := by
  cases h : vldB c s p
  · unfold genR; rw [h]; exact rGenerator_no c s p w hs hp h
  · unfold genR; rw [h]
    obtain ⟨C, S, P, rfl, rfl, rfl, hv⟩ := vld_nat h
    simp only [Int.toNat_natCast, if_true]
    exact rGenerator_yes C S P w hv
theorem rExp_any (c s p n : Int) (w : World) (hs : s ≤ 9223372036854775807) (hp : p ≤ 9223372036854775807) (hn0 : -9223372036854775808 ≤ n) (hn1 : n ≤ 9223372036854775807) :
    Calls Try.prog 39 #[fldv c s p, .int .i64 n] w fun e w' => e = .returned (tup (expR c s p n)) ∧ Below w.heap.size w w' := by
  cases h : vldB c s p
  · unfold expR; rw [h]; exact rExp_no c s p n w hs hp h
  · unfold expR; rw [h]
    obtain ⟨C, S, P, rfl, rfl, rfl, hv⟩ := vld_nat h
    simp only [Int.toNat_natCast, if_true]
    exact rExp_yes C S P n w hv hn0 hn1
end Go.Proofs.Ytefnflmabdpnbaa
