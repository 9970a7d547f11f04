/- The walk of the law FnExactOpenDoors. -/
import Derived.Test.YtlldlfiepfjahaaFDoors
import Derived.Test.YtlldlfiepfjahaaHelpS
import Derived.Test.YtlldlfiepfjahaaHelpL
namespace Go.Proofs.Ytlldlfiepfjahaa.fnExactOpenDoors
set_option linter.unusedVariables false
open Go.RowKit
theorem lens (m : Mk) (t cuts : List (List Int)) (key : List Int) : (openDoorsR m t cuts key).1.length ≤ 4194304 := by
  unfold openDoorsR
  split
  · rename_i h
    split
    · have h1 := locksF_few (partC_0 h)
      have h2 := doorsN_len (locksF m t cuts) key (locksF m t cuts).length
      show (doorsF m t cuts key).length ≤ _
      unfold doorsF; omega
    · simp
  · simp
set_option maxRecDepth 100000 in
set_option maxHeartbeats 8000000 in
theorem walk (m0 : Mk) (A0 : Option Addr) (c0 : Nat) (xs0 : List (List Int)) (A1 : Option Addr) (c1 : Nat) (xs1 : List (List Int)) (A2 : Option Addr) (c2 : Nat) (xs2 : List Int) (w : World) (hc0 : xs0.length ≤ c0) (h0 : RII w A0 xs0) (hc1 : xs1.length ≤ c1) (h1 : RII w A1 xs1) (hc2 : xs2.length ≤ c2) (h2 : RI w A2 xs2) :
    Calls Try.prog 4 #[.agg #[.int .i64 m0.c, .int .i64 m0.d, .int .i64 m0.s, .int .i64 m0.a, .int .i64 m0.l, .slice A0 xs0.length c0], .slice A1 xs1.length c1, .slice A2 xs2.length c2] w fun e w' => e = .returned (.bool true) ∧ Below w.heap.size w w' := by
  have lens0 := lens m0 xs0 xs1 xs2
  have HB0 : Below w.heap.size w (w.alloc (.cells #[.int .i64 m0.c, .int .i64 m0.d, .int .i64 m0.s, .int .i64 m0.a, .int .i64 m0.l, .slice A0 xs0.length c0] 26)) := (Below.refl w.heap.size w).alloc (by exact Nat.le_refl _) _
  have bx0 : BoxC (w.alloc (.cells #[.int .i64 m0.c, .int .i64 m0.d, .int .i64 m0.s, .int .i64 m0.a, .int .i64 m0.l, .slice A0 xs0.length c0] 26)) (w.heap.size) 0 [.int .i64 m0.c, .int .i64 m0.d, .int .i64 m0.s, .int .i64 m0.a, .int .i64 m0.l, .slice A0 xs0.length c0] := by simp [BoxC, Go.World.cell?_alloc_at]
  have Rxs0 := (h0).alloc (.cells #[.int .i64 m0.c, .int .i64 m0.d, .int .i64 m0.s, .int .i64 m0.a, .int .i64 m0.l, .slice A0 xs0.length c0] 26)
  have Rxs1 := (h1).alloc (.cells #[.int .i64 m0.c, .int .i64 m0.d, .int .i64 m0.s, .int .i64 m0.a, .int .i64 m0.l, .slice A0 xs0.length c0] 26)
  have Rxs2 := (h2).alloc (.cells #[.int .i64 m0.c, .int .i64 m0.d, .int .i64 m0.s, .int .i64 m0.a, .int .i64 m0.l, .slice A0 xs0.length c0] 26)
  by_cases z2 : xs2.length ≤ 1048576
  case neg =>
    have i2 : (1048576 : Int) < (xs2.length : Int) := by omega
    go_enter Try.func4, Try.ntmps4
    go_wp2_with fail
    go_ret
    exact ⟨rfl, HB0⟩
  have i2 : ¬ ((1048576 : Int) < (xs2.length : Int)) := by omega
  go_enter Try.func4, Try.ntmps4
  have q0 : (w.alloc (.cells #[.int .i64 m0.c, .int .i64 m0.d, .int .i64 m0.s, .int .i64 m0.a, .int .i64 m0.l, .slice A0 xs0.length c0] 26)).cell? ⟨w.heap.size, 0, none⟩ = some (.int .i64 m0.c) ∧ (w.alloc (.cells #[.int .i64 m0.c, .int .i64 m0.d, .int .i64 m0.s, .int .i64 m0.a, .int .i64 m0.l, .slice A0 xs0.length c0] 26)).cell? ⟨w.heap.size, 1, none⟩ = some (.int .i64 m0.d) ∧ (w.alloc (.cells #[.int .i64 m0.c, .int .i64 m0.d, .int .i64 m0.s, .int .i64 m0.a, .int .i64 m0.l, .slice A0 xs0.length c0] 26)).cell? ⟨w.heap.size, 2, none⟩ = some (.int .i64 m0.s) ∧ (w.alloc (.cells #[.int .i64 m0.c, .int .i64 m0.d, .int .i64 m0.s, .int .i64 m0.a, .int .i64 m0.l, .slice A0 xs0.length c0] 26)).cell? ⟨w.heap.size, 3, none⟩ = some (.int .i64 m0.a) ∧ (w.alloc (.cells #[.int .i64 m0.c, .int .i64 m0.d, .int .i64 m0.s, .int .i64 m0.a, .int .i64 m0.l, .slice A0 xs0.length c0] 26)).cell? ⟨w.heap.size, 4, none⟩ = some (.int .i64 m0.l) ∧ (w.alloc (.cells #[.int .i64 m0.c, .int .i64 m0.d, .int .i64 m0.s, .int .i64 m0.a, .int .i64 m0.l, .slice A0 xs0.length c0] 26)).cell? ⟨w.heap.size, 5, none⟩ = some (.slice A0 xs0.length c0) ∧ True := bx0
  go_wp2_with fail
  clear q0
  refine (szS m0 A0 c0 xs0 _ _ Rxs0 (by omega) (by omega)).mono ?_
  rintro e w1 ⟨r0, rfl, hL0, b1, hm0⟩
  by_cases hz0 : r0 < 0
  case pos =>
    go_wp2_with fail
    go_ret
    exact ⟨rfl, HB0.trans (b1.mono HB0.size)⟩
  have hL02 := hL0.2 (by omega)
  have hL01 := hL0.1
  have zxs0 : xs0.length ≤ 1048576 ∧ sumLen xs0 ≤ 1048576 := by omega
  have zzxs0 : ∀ k (hk : k < xs0.length), xs0[k].length ≤ 1048576 := fun k hk => by have := mem_sumLen hk; omega
  have zt0 : (xs0.length + sumLen xs0 : Nat) + r0 ≤ 1048576 := by omega
  have Hz0 := Lib.hid hL02; clear hL02 hL0
  have bq1 := BoxC.below bx0 b1
  have q0 : w1.cell? ⟨w.heap.size, 0, none⟩ = some (.int .i64 m0.c) ∧ w1.cell? ⟨w.heap.size, 1, none⟩ = some (.int .i64 m0.d) ∧ w1.cell? ⟨w.heap.size, 2, none⟩ = some (.int .i64 m0.s) ∧ w1.cell? ⟨w.heap.size, 3, none⟩ = some (.int .i64 m0.a) ∧ w1.cell? ⟨w.heap.size, 4, none⟩ = some (.int .i64 m0.l) ∧ w1.cell? ⟨w.heap.size, 5, none⟩ = some (.slice A0 xs0.length c0) ∧ True := bq1
  go_wp2_with fail
  clear q0
  refine (szII_b A1 c1 xs1 _ _ (Rxs1.below b1) (by omega) (by omega)).mono ?_
  rintro e w2 ⟨r1, rfl, hL1, b2, hm1⟩
  have D0_2 := b1.trans (b2.mono b1.size)
  by_cases hz1 : r1 < 0
  case pos =>
    go_wp2_with fail
    go_ret
    exact ⟨rfl, HB0.trans (D0_2.mono HB0.size)⟩
  have hL12 := hL1.2 (by omega)
  have hL11 := hL1.1
  have zxs1 : xs1.length ≤ 1048576 ∧ sumLen xs1 ≤ 1048576 := by omega
  have zzxs1 : ∀ k (hk : k < xs1.length), xs1[k].length ≤ 1048576 := fun k hk => by have := mem_sumLen hk; omega
  have zt1 : (xs0.length + sumLen xs0 : Nat) + (xs1.length + sumLen xs1 : Nat) + r1 ≤ 1048576 := by omega
  have Hz1 := Lib.hid hL12; clear hL12 hL1
  have bq2 := BoxC.below bq1 b2
  have q0 : w2.cell? ⟨w.heap.size, 0, none⟩ = some (.int .i64 m0.c) ∧ w2.cell? ⟨w.heap.size, 1, none⟩ = some (.int .i64 m0.d) ∧ w2.cell? ⟨w.heap.size, 2, none⟩ = some (.int .i64 m0.s) ∧ w2.cell? ⟨w.heap.size, 3, none⟩ = some (.int .i64 m0.a) ∧ w2.cell? ⟨w.heap.size, 4, none⟩ = some (.int .i64 m0.l) ∧ w2.cell? ⟨w.heap.size, 5, none⟩ = some (.slice A0 xs0.length c0) ∧ True := bq2
  go_wp2_with fail
  clear q0
  refine (toS m0 A0 c0 xs0 _ (Rxs0.below D0_2) zxs0.1 zzxs0).mono ?_
  rintro e w3 ⟨A0_3, c0_3, rfl, hc0_3, rA0_3, oA0_3, b3⟩
  have bq3 := BoxC.below bq2 b3
  have q0 : w3.cell? ⟨w.heap.size, 0, none⟩ = some (.int .i64 m0.c) ∧ w3.cell? ⟨w.heap.size, 1, none⟩ = some (.int .i64 m0.d) ∧ w3.cell? ⟨w.heap.size, 2, none⟩ = some (.int .i64 m0.s) ∧ w3.cell? ⟨w.heap.size, 3, none⟩ = some (.int .i64 m0.a) ∧ w3.cell? ⟨w.heap.size, 4, none⟩ = some (.int .i64 m0.l) ∧ w3.cell? ⟨w.heap.size, 5, none⟩ = some (.slice A0 xs0.length c0) ∧ True := bq3
  go_wp2_with fail
  clear q0
  have D0_3 := D0_2.trans (b3.mono D0_2.size)
  refine (toII A1 c1 xs1 _ (Rxs1.below D0_3) zxs1.1 zzxs1).mono ?_
  rintro e w4 ⟨A1_4, c1_4, rfl, hc1_4, rA1_4, oA1_4, b4⟩
  have bq4 := BoxC.below bq3 b4
  have q0 : w4.cell? ⟨w.heap.size, 0, none⟩ = some (.int .i64 m0.c) ∧ w4.cell? ⟨w.heap.size, 1, none⟩ = some (.int .i64 m0.d) ∧ w4.cell? ⟨w.heap.size, 2, none⟩ = some (.int .i64 m0.s) ∧ w4.cell? ⟨w.heap.size, 3, none⟩ = some (.int .i64 m0.a) ∧ w4.cell? ⟨w.heap.size, 4, none⟩ = some (.int .i64 m0.l) ∧ w4.cell? ⟨w.heap.size, 5, none⟩ = some (.slice A0 xs0.length c0) ∧ True := bq4
  go_wp2_with fail
  clear q0
  have D0_4 := D0_3.trans (b4.mono D0_3.size)
  refine (toI A2 c2 xs2 _ (Rxs2.below D0_4) z2).mono ?_
  rintro e w5 ⟨A2_5, c2_5, rfl, hc2_5, rA2_5, oA2_5, b5, _⟩
  have bq5 := BoxC.below bq4 b5
  have q0 : w5.cell? ⟨w.heap.size, 0, none⟩ = some (.int .i64 m0.c) ∧ w5.cell? ⟨w.heap.size, 1, none⟩ = some (.int .i64 m0.d) ∧ w5.cell? ⟨w.heap.size, 2, none⟩ = some (.int .i64 m0.s) ∧ w5.cell? ⟨w.heap.size, 3, none⟩ = some (.int .i64 m0.a) ∧ w5.cell? ⟨w.heap.size, 4, none⟩ = some (.int .i64 m0.l) ∧ w5.cell? ⟨w.heap.size, 5, none⟩ = some (.slice A0 xs0.length c0) ∧ True := bq5
  go_wp2_with fail
  clear q0
  have D3_5 := b4.trans (b5.mono b4.size)
  refine (specOpenDoors_any m0 A0_3 c0_3 xs0 A1_4 c1_4 xs1 A2_5 c2_5 xs2 _ (rA0_3.below D3_5) (rA1_4.below b5) rA2_5 hc2_5).mono ?_
  rintro e w6 ⟨As0, cs0, rfl, hcs0, rs0, os0, b6⟩
  have bq6 := BoxC.below bq5 b6
  have q0 : w6.cell? ⟨w.heap.size, 0, none⟩ = some (.int .i64 m0.c) ∧ w6.cell? ⟨w.heap.size, 1, none⟩ = some (.int .i64 m0.d) ∧ w6.cell? ⟨w.heap.size, 2, none⟩ = some (.int .i64 m0.s) ∧ w6.cell? ⟨w.heap.size, 3, none⟩ = some (.int .i64 m0.a) ∧ w6.cell? ⟨w.heap.size, 4, none⟩ = some (.int .i64 m0.l) ∧ w6.cell? ⟨w.heap.size, 5, none⟩ = some (.slice A0 xs0.length c0) ∧ True := bq6
  go_wp2_with fail
  clear q0
  have D0_5 := D0_4.trans (b5.mono D0_4.size)
  have D0_6 := D0_5.trans (b6.mono D0_5.size)
  refine (toS m0 A0 c0 xs0 _ (Rxs0.below D0_6) zxs0.1 zzxs0).mono ?_
  rintro e w7 ⟨A0_7, c0_7, rfl, hc0_7, rA0_7, oA0_7, b7⟩
  have b8 : Below w7.heap.size w7 (w7.alloc (.cells #[.int .i64 m0.c, .int .i64 m0.d, .int .i64 m0.s, .int .i64 m0.a, .int .i64 m0.l, .slice A0_7 xs0.length c0_7] 33)) := (Below.refl _ _).alloc (Nat.le_refl _) _
  have bq7 : BoxC (w7.alloc (.cells #[.int .i64 m0.c, .int .i64 m0.d, .int .i64 m0.s, .int .i64 m0.a, .int .i64 m0.l, .slice A0_7 xs0.length c0_7] 33)) (w7.heap.size) 0 [.int .i64 m0.c, .int .i64 m0.d, .int .i64 m0.s, .int .i64 m0.a, .int .i64 m0.l, .slice A0_7 xs0.length c0_7] := by simp [BoxC, Go.World.cell?_alloc_at]
  have D6_8 := b7.trans (b8.mono b7.size)
  have bq8 := BoxC.below bq6 D6_8
  have q0 : (w7.alloc (.cells #[.int .i64 m0.c, .int .i64 m0.d, .int .i64 m0.s, .int .i64 m0.a, .int .i64 m0.l, .slice A0_7 xs0.length c0_7] 33)).cell? ⟨w.heap.size, 0, none⟩ = some (.int .i64 m0.c) ∧ (w7.alloc (.cells #[.int .i64 m0.c, .int .i64 m0.d, .int .i64 m0.s, .int .i64 m0.a, .int .i64 m0.l, .slice A0_7 xs0.length c0_7] 33)).cell? ⟨w.heap.size, 1, none⟩ = some (.int .i64 m0.d) ∧ (w7.alloc (.cells #[.int .i64 m0.c, .int .i64 m0.d, .int .i64 m0.s, .int .i64 m0.a, .int .i64 m0.l, .slice A0_7 xs0.length c0_7] 33)).cell? ⟨w.heap.size, 2, none⟩ = some (.int .i64 m0.s) ∧ (w7.alloc (.cells #[.int .i64 m0.c, .int .i64 m0.d, .int .i64 m0.s, .int .i64 m0.a, .int .i64 m0.l, .slice A0_7 xs0.length c0_7] 33)).cell? ⟨w.heap.size, 3, none⟩ = some (.int .i64 m0.a) ∧ (w7.alloc (.cells #[.int .i64 m0.c, .int .i64 m0.d, .int .i64 m0.s, .int .i64 m0.a, .int .i64 m0.l, .slice A0_7 xs0.length c0_7] 33)).cell? ⟨w.heap.size, 4, none⟩ = some (.int .i64 m0.l) ∧ (w7.alloc (.cells #[.int .i64 m0.c, .int .i64 m0.d, .int .i64 m0.s, .int .i64 m0.a, .int .i64 m0.l, .slice A0_7 xs0.length c0_7] 33)).cell? ⟨w.heap.size, 5, none⟩ = some (.slice A0 xs0.length c0) ∧ True := bq8
  have q1 : (w7.alloc (.cells #[.int .i64 m0.c, .int .i64 m0.d, .int .i64 m0.s, .int .i64 m0.a, .int .i64 m0.l, .slice A0_7 xs0.length c0_7] 33)).cell? ⟨w7.heap.size, 0, none⟩ = some (.int .i64 m0.c) ∧ (w7.alloc (.cells #[.int .i64 m0.c, .int .i64 m0.d, .int .i64 m0.s, .int .i64 m0.a, .int .i64 m0.l, .slice A0_7 xs0.length c0_7] 33)).cell? ⟨w7.heap.size, 1, none⟩ = some (.int .i64 m0.d) ∧ (w7.alloc (.cells #[.int .i64 m0.c, .int .i64 m0.d, .int .i64 m0.s, .int .i64 m0.a, .int .i64 m0.l, .slice A0_7 xs0.length c0_7] 33)).cell? ⟨w7.heap.size, 2, none⟩ = some (.int .i64 m0.s) ∧ (w7.alloc (.cells #[.int .i64 m0.c, .int .i64 m0.d, .int .i64 m0.s, .int .i64 m0.a, .int .i64 m0.l, .slice A0_7 xs0.length c0_7] 33)).cell? ⟨w7.heap.size, 3, none⟩ = some (.int .i64 m0.a) ∧ (w7.alloc (.cells #[.int .i64 m0.c, .int .i64 m0.d, .int .i64 m0.s, .int .i64 m0.a, .int .i64 m0.l, .slice A0_7 xs0.length c0_7] 33)).cell? ⟨w7.heap.size, 4, none⟩ = some (.int .i64 m0.l) ∧ (w7.alloc (.cells #[.int .i64 m0.c, .int .i64 m0.d, .int .i64 m0.s, .int .i64 m0.a, .int .i64 m0.l, .slice A0_7 xs0.length c0_7] 33)).cell? ⟨w7.heap.size, 5, none⟩ = some (.slice A0_7 xs0.length c0_7) ∧ True := bq7
  go_wp2_with fail
  clear q0 q1
  have D0_7 := D0_6.trans (b7.mono D0_6.size)
  have D0_8 := D0_7.trans (b8.mono D0_7.size)
  refine (toII A1 c1 xs1 _ (Rxs1.below D0_8) zxs1.1 zzxs1).mono ?_
  rintro e w9 ⟨A1_9, c1_9, rfl, hc1_9, rA1_9, oA1_9, b9⟩
  have bq9 := BoxC.below bq8 b9
  have q0 : w9.cell? ⟨w.heap.size, 0, none⟩ = some (.int .i64 m0.c) ∧ w9.cell? ⟨w.heap.size, 1, none⟩ = some (.int .i64 m0.d) ∧ w9.cell? ⟨w.heap.size, 2, none⟩ = some (.int .i64 m0.s) ∧ w9.cell? ⟨w.heap.size, 3, none⟩ = some (.int .i64 m0.a) ∧ w9.cell? ⟨w.heap.size, 4, none⟩ = some (.int .i64 m0.l) ∧ w9.cell? ⟨w.heap.size, 5, none⟩ = some (.slice A0 xs0.length c0) ∧ True := bq9
  have bq10 := BoxC.below bq7 b9
  have q1 : w9.cell? ⟨w7.heap.size, 0, none⟩ = some (.int .i64 m0.c) ∧ w9.cell? ⟨w7.heap.size, 1, none⟩ = some (.int .i64 m0.d) ∧ w9.cell? ⟨w7.heap.size, 2, none⟩ = some (.int .i64 m0.s) ∧ w9.cell? ⟨w7.heap.size, 3, none⟩ = some (.int .i64 m0.a) ∧ w9.cell? ⟨w7.heap.size, 4, none⟩ = some (.int .i64 m0.l) ∧ w9.cell? ⟨w7.heap.size, 5, none⟩ = some (.slice A0_7 xs0.length c0_7) ∧ True := bq10
  go_wp2_with fail
  clear q0 q1
  have D0_9 := D0_8.trans (b9.mono D0_8.size)
  refine (toI A2 c2 xs2 _ (Rxs2.below D0_9) z2).mono ?_
  rintro e w10 ⟨A2_10, c2_10, rfl, hc2_10, rA2_10, oA2_10, b10, _⟩
  have bq11 := BoxC.below bq9 b10
  have q0 : w10.cell? ⟨w.heap.size, 0, none⟩ = some (.int .i64 m0.c) ∧ w10.cell? ⟨w.heap.size, 1, none⟩ = some (.int .i64 m0.d) ∧ w10.cell? ⟨w.heap.size, 2, none⟩ = some (.int .i64 m0.s) ∧ w10.cell? ⟨w.heap.size, 3, none⟩ = some (.int .i64 m0.a) ∧ w10.cell? ⟨w.heap.size, 4, none⟩ = some (.int .i64 m0.l) ∧ w10.cell? ⟨w.heap.size, 5, none⟩ = some (.slice A0 xs0.length c0) ∧ True := bq11
  have bq12 := BoxC.below bq10 b10
  have q1 : w10.cell? ⟨w7.heap.size, 0, none⟩ = some (.int .i64 m0.c) ∧ w10.cell? ⟨w7.heap.size, 1, none⟩ = some (.int .i64 m0.d) ∧ w10.cell? ⟨w7.heap.size, 2, none⟩ = some (.int .i64 m0.s) ∧ w10.cell? ⟨w7.heap.size, 3, none⟩ = some (.int .i64 m0.a) ∧ w10.cell? ⟨w7.heap.size, 4, none⟩ = some (.int .i64 m0.l) ∧ w10.cell? ⟨w7.heap.size, 5, none⟩ = some (.slice A0_7 xs0.length c0_7) ∧ True := bq12
  go_wp2_with fail
  clear q0 q1
  have D7_9 := b8.trans (b9.mono b8.size)
  have D7_10 := D7_9.trans (b10.mono D7_9.size)
  refine (implOpenDoors_any m0 A0_7 c0_7 xs0 A1_9 c1_9 xs1 A2_10 c2_10 xs2 _ (rA0_7.below D7_10) (rA1_9.below b10) rA2_10 hc2_10).mono ?_
  rintro e w11 ⟨Ag0, cg0, rfl, hcg0, rg0, og0, b11⟩
  have bq13 := BoxC.below bq11 b11
  have q0 : w11.cell? ⟨w.heap.size, 0, none⟩ = some (.int .i64 m0.c) ∧ w11.cell? ⟨w.heap.size, 1, none⟩ = some (.int .i64 m0.d) ∧ w11.cell? ⟨w.heap.size, 2, none⟩ = some (.int .i64 m0.s) ∧ w11.cell? ⟨w.heap.size, 3, none⟩ = some (.int .i64 m0.a) ∧ w11.cell? ⟨w.heap.size, 4, none⟩ = some (.int .i64 m0.l) ∧ w11.cell? ⟨w.heap.size, 5, none⟩ = some (.slice A0 xs0.length c0) ∧ True := bq13
  have bq14 := BoxC.below bq12 b11
  have q1 : w11.cell? ⟨w7.heap.size, 0, none⟩ = some (.int .i64 m0.c) ∧ w11.cell? ⟨w7.heap.size, 1, none⟩ = some (.int .i64 m0.d) ∧ w11.cell? ⟨w7.heap.size, 2, none⟩ = some (.int .i64 m0.s) ∧ w11.cell? ⟨w7.heap.size, 3, none⟩ = some (.int .i64 m0.a) ∧ w11.cell? ⟨w7.heap.size, 4, none⟩ = some (.int .i64 m0.l) ∧ w11.cell? ⟨w7.heap.size, 5, none⟩ = some (.slice A0_7 xs0.length c0_7) ∧ True := bq14
  go_wp2_with fail
  clear q0 q1
  have D6_9 := D6_8.trans (b9.mono D6_8.size)
  have D6_10 := D6_9.trans (b10.mono D6_9.size)
  have D6_11 := D6_10.trans (b11.mono D6_10.size)
  refine (eqI_t Ag0 As0 cg0 cs0 (openDoorsR m0 xs0 xs1 xs2).1 _ rg0 (rs0.below D6_11)).mono ?_
  rintro e w12 ⟨rfl, b12⟩
  have bq15 := BoxC.below bq13 b12
  have q0 : w12.cell? ⟨w.heap.size, 0, none⟩ = some (.int .i64 m0.c) ∧ w12.cell? ⟨w.heap.size, 1, none⟩ = some (.int .i64 m0.d) ∧ w12.cell? ⟨w.heap.size, 2, none⟩ = some (.int .i64 m0.s) ∧ w12.cell? ⟨w.heap.size, 3, none⟩ = some (.int .i64 m0.a) ∧ w12.cell? ⟨w.heap.size, 4, none⟩ = some (.int .i64 m0.l) ∧ w12.cell? ⟨w.heap.size, 5, none⟩ = some (.slice A0 xs0.length c0) ∧ True := bq15
  have bq16 := BoxC.below bq14 b12
  have q1 : w12.cell? ⟨w7.heap.size, 0, none⟩ = some (.int .i64 m0.c) ∧ w12.cell? ⟨w7.heap.size, 1, none⟩ = some (.int .i64 m0.d) ∧ w12.cell? ⟨w7.heap.size, 2, none⟩ = some (.int .i64 m0.s) ∧ w12.cell? ⟨w7.heap.size, 3, none⟩ = some (.int .i64 m0.a) ∧ w12.cell? ⟨w7.heap.size, 4, none⟩ = some (.int .i64 m0.l) ∧ w12.cell? ⟨w7.heap.size, 5, none⟩ = some (.slice A0_7 xs0.length c0_7) ∧ True := bq16
  go_wp2_with fail
  clear q0 q1
  have KS17 := Lib.hid (show ∀ w' : World, Below w12.heap.size w12 w' → ((w'.cell? ⟨w.heap.size, 0, none⟩ = some (.int .i64 m0.c) ∧ w'.cell? ⟨w.heap.size, 1, none⟩ = some (.int .i64 m0.d) ∧ w'.cell? ⟨w.heap.size, 2, none⟩ = some (.int .i64 m0.s) ∧ w'.cell? ⟨w.heap.size, 3, none⟩ = some (.int .i64 m0.a) ∧ w'.cell? ⟨w.heap.size, 4, none⟩ = some (.int .i64 m0.l) ∧ w'.cell? ⟨w.heap.size, 5, none⟩ = some (.slice A0 xs0.length c0) ∧ True) ∧ (w'.cell? ⟨w7.heap.size, 0, none⟩ = some (.int .i64 m0.c) ∧ w'.cell? ⟨w7.heap.size, 1, none⟩ = some (.int .i64 m0.d) ∧ w'.cell? ⟨w7.heap.size, 2, none⟩ = some (.int .i64 m0.s) ∧ w'.cell? ⟨w7.heap.size, 3, none⟩ = some (.int .i64 m0.a) ∧ w'.cell? ⟨w7.heap.size, 4, none⟩ = some (.int .i64 m0.l) ∧ w'.cell? ⟨w7.heap.size, 5, none⟩ = some (.slice A0_7 xs0.length c0_7) ∧ True)) from fun w' hb => ⟨BoxC.below bq15 hb, BoxC.below bq16 hb⟩)
  go_region_held3 (fun w' => (w'.cell? ⟨w.heap.size, 0, none⟩ = some (.int .i64 m0.c) ∧ w'.cell? ⟨w.heap.size, 1, none⟩ = some (.int .i64 m0.d) ∧ w'.cell? ⟨w.heap.size, 2, none⟩ = some (.int .i64 m0.s) ∧ w'.cell? ⟨w.heap.size, 3, none⟩ = some (.int .i64 m0.a) ∧ w'.cell? ⟨w.heap.size, 4, none⟩ = some (.int .i64 m0.l) ∧ w'.cell? ⟨w.heap.size, 5, none⟩ = some (.slice A0 xs0.length c0) ∧ True) ∧ (w'.cell? ⟨w7.heap.size, 0, none⟩ = some (.int .i64 m0.c) ∧ w'.cell? ⟨w7.heap.size, 1, none⟩ = some (.int .i64 m0.d) ∧ w'.cell? ⟨w7.heap.size, 2, none⟩ = some (.int .i64 m0.s) ∧ w'.cell? ⟨w7.heap.size, 3, none⟩ = some (.int .i64 m0.a) ∧ w'.cell? ⟨w7.heap.size, 4, none⟩ = some (.int .i64 m0.l) ∧ w'.cell? ⟨w7.heap.size, 5, none⟩ = some (.slice A0_7 xs0.length c0_7) ∧ True)) (first | (refine KS17.out _ ?_; first | assumption | exact belowDrew0 _ | exact Below.alloc (by assumption) (Below.size (by assumption)) _)) (first | (go_at_call 20; have D7_11 := D7_10.trans (b11.mono D7_10.size); have D7_12 := D7_11.trans (b12.mono D7_11.size); have D7_13 := D7_12.trans (b13.mono D7_12.size); refine (eqS_t m0 A0_7 A0_13 c0_7 c0_13 xs0 _ (rA0_7.below D7_13) rA0_13).mono ?_; rintro e w14 ⟨rfl, b14⟩; have BS14 := Below.trans b13 (b14.mono (Below.size b13))) | (go_at_call 17; have D0_10 := D0_9.trans (b10.mono D0_9.size); have D0_11 := D0_10.trans (b11.mono D0_10.size); have D0_12 := D0_11.trans (b12.mono D0_11.size); refine (toS m0 A0 c0 xs0 _ ((Rxs0.below D0_12).below (belowDrew0 _)) zxs0.1 zzxs0).mono ?_; rintro e w13 ⟨A0_13, c0_13, rfl, hc0_13, rA0_13, oA0_13, b13⟩; have b13 := belowDrew b13))
  have D12_14 := b13.trans (b14.mono b13.size)
  have bq18 := BoxC.below bq15 D12_14
  have q0 : w14.cell? ⟨w.heap.size, 0, none⟩ = some (.int .i64 m0.c) ∧ w14.cell? ⟨w.heap.size, 1, none⟩ = some (.int .i64 m0.d) ∧ w14.cell? ⟨w.heap.size, 2, none⟩ = some (.int .i64 m0.s) ∧ w14.cell? ⟨w.heap.size, 3, none⟩ = some (.int .i64 m0.a) ∧ w14.cell? ⟨w.heap.size, 4, none⟩ = some (.int .i64 m0.l) ∧ w14.cell? ⟨w.heap.size, 5, none⟩ = some (.slice A0 xs0.length c0) ∧ True := bq18
  have bq19 := BoxC.below bq16 D12_14
  have q1 : w14.cell? ⟨w7.heap.size, 0, none⟩ = some (.int .i64 m0.c) ∧ w14.cell? ⟨w7.heap.size, 1, none⟩ = some (.int .i64 m0.d) ∧ w14.cell? ⟨w7.heap.size, 2, none⟩ = some (.int .i64 m0.s) ∧ w14.cell? ⟨w7.heap.size, 3, none⟩ = some (.int .i64 m0.a) ∧ w14.cell? ⟨w7.heap.size, 4, none⟩ = some (.int .i64 m0.l) ∧ w14.cell? ⟨w7.heap.size, 5, none⟩ = some (.slice A0_7 xs0.length c0_7) ∧ True := bq19
  go_wp2_with fail
  clear q0 q1
  have D0_13 := D0_12.trans (b13.mono D0_12.size)
  have D0_14 := D0_13.trans (b14.mono D0_13.size)
  refine (toII A1 c1 xs1 _ (Rxs1.below D0_14) zxs1.1 zzxs1).mono ?_
  rintro e w15 ⟨A1_15, c1_15, rfl, hc1_15, rA1_15, oA1_15, b15⟩
  have bq20 := BoxC.below bq18 b15
  have q0 : w15.cell? ⟨w.heap.size, 0, none⟩ = some (.int .i64 m0.c) ∧ w15.cell? ⟨w.heap.size, 1, none⟩ = some (.int .i64 m0.d) ∧ w15.cell? ⟨w.heap.size, 2, none⟩ = some (.int .i64 m0.s) ∧ w15.cell? ⟨w.heap.size, 3, none⟩ = some (.int .i64 m0.a) ∧ w15.cell? ⟨w.heap.size, 4, none⟩ = some (.int .i64 m0.l) ∧ w15.cell? ⟨w.heap.size, 5, none⟩ = some (.slice A0 xs0.length c0) ∧ True := bq20
  have bq21 := BoxC.below bq19 b15
  have q1 : w15.cell? ⟨w7.heap.size, 0, none⟩ = some (.int .i64 m0.c) ∧ w15.cell? ⟨w7.heap.size, 1, none⟩ = some (.int .i64 m0.d) ∧ w15.cell? ⟨w7.heap.size, 2, none⟩ = some (.int .i64 m0.s) ∧ w15.cell? ⟨w7.heap.size, 3, none⟩ = some (.int .i64 m0.a) ∧ w15.cell? ⟨w7.heap.size, 4, none⟩ = some (.int .i64 m0.l) ∧ w15.cell? ⟨w7.heap.size, 5, none⟩ = some (.slice A0_7 xs0.length c0_7) ∧ True := bq21
  go_wp2_with fail
  clear q0 q1
  have D9_11 := b10.trans (b11.mono b10.size)
  have D9_12 := D9_11.trans (b12.mono D9_11.size)
  have D9_13 := D9_12.trans (b13.mono D9_12.size)
  have D9_14 := D9_13.trans (b14.mono D9_13.size)
  have D9_15 := D9_14.trans (b15.mono D9_14.size)
  refine (eqII_t A1_9 A1_15 c1_9 c1_15 xs1 _ (rA1_9.below D9_15) rA1_15).mono ?_
  rintro e w16 ⟨rfl, b16⟩
  have bq22 := BoxC.below bq20 b16
  have q0 : w16.cell? ⟨w.heap.size, 0, none⟩ = some (.int .i64 m0.c) ∧ w16.cell? ⟨w.heap.size, 1, none⟩ = some (.int .i64 m0.d) ∧ w16.cell? ⟨w.heap.size, 2, none⟩ = some (.int .i64 m0.s) ∧ w16.cell? ⟨w.heap.size, 3, none⟩ = some (.int .i64 m0.a) ∧ w16.cell? ⟨w.heap.size, 4, none⟩ = some (.int .i64 m0.l) ∧ w16.cell? ⟨w.heap.size, 5, none⟩ = some (.slice A0 xs0.length c0) ∧ True := bq22
  have bq23 := BoxC.below bq21 b16
  have q1 : w16.cell? ⟨w7.heap.size, 0, none⟩ = some (.int .i64 m0.c) ∧ w16.cell? ⟨w7.heap.size, 1, none⟩ = some (.int .i64 m0.d) ∧ w16.cell? ⟨w7.heap.size, 2, none⟩ = some (.int .i64 m0.s) ∧ w16.cell? ⟨w7.heap.size, 3, none⟩ = some (.int .i64 m0.a) ∧ w16.cell? ⟨w7.heap.size, 4, none⟩ = some (.int .i64 m0.l) ∧ w16.cell? ⟨w7.heap.size, 5, none⟩ = some (.slice A0_7 xs0.length c0_7) ∧ True := bq23
  go_wp2_with fail
  clear q0 q1
  have D0_15 := D0_14.trans (b15.mono D0_14.size)
  have D0_16 := D0_15.trans (b16.mono D0_15.size)
  refine (toI A2 c2 xs2 _ (Rxs2.below D0_16) z2).mono ?_
  rintro e w17 ⟨A2_17, c2_17, rfl, hc2_17, rA2_17, oA2_17, b17, _⟩
  have bq24 := BoxC.below bq22 b17
  have q0 : w17.cell? ⟨w.heap.size, 0, none⟩ = some (.int .i64 m0.c) ∧ w17.cell? ⟨w.heap.size, 1, none⟩ = some (.int .i64 m0.d) ∧ w17.cell? ⟨w.heap.size, 2, none⟩ = some (.int .i64 m0.s) ∧ w17.cell? ⟨w.heap.size, 3, none⟩ = some (.int .i64 m0.a) ∧ w17.cell? ⟨w.heap.size, 4, none⟩ = some (.int .i64 m0.l) ∧ w17.cell? ⟨w.heap.size, 5, none⟩ = some (.slice A0 xs0.length c0) ∧ True := bq24
  have bq25 := BoxC.below bq23 b17
  have q1 : w17.cell? ⟨w7.heap.size, 0, none⟩ = some (.int .i64 m0.c) ∧ w17.cell? ⟨w7.heap.size, 1, none⟩ = some (.int .i64 m0.d) ∧ w17.cell? ⟨w7.heap.size, 2, none⟩ = some (.int .i64 m0.s) ∧ w17.cell? ⟨w7.heap.size, 3, none⟩ = some (.int .i64 m0.a) ∧ w17.cell? ⟨w7.heap.size, 4, none⟩ = some (.int .i64 m0.l) ∧ w17.cell? ⟨w7.heap.size, 5, none⟩ = some (.slice A0_7 xs0.length c0_7) ∧ True := bq25
  go_wp2_with fail
  clear q0 q1
  have D10_12 := b11.trans (b12.mono b11.size)
  have D10_13 := D10_12.trans (b13.mono D10_12.size)
  have D10_14 := D10_13.trans (b14.mono D10_13.size)
  have D10_15 := D10_14.trans (b15.mono D10_14.size)
  have D10_16 := D10_15.trans (b16.mono D10_15.size)
  have D10_17 := D10_16.trans (b17.mono D10_16.size)
  refine (eqI_t A2_10 A2_17 c2_10 c2_17 xs2 _ (rA2_10.below D10_17) rA2_17).mono ?_
  rintro e w18 ⟨rfl, b18⟩
  have bq26 := BoxC.below bq24 b18
  have q0 : w18.cell? ⟨w.heap.size, 0, none⟩ = some (.int .i64 m0.c) ∧ w18.cell? ⟨w.heap.size, 1, none⟩ = some (.int .i64 m0.d) ∧ w18.cell? ⟨w.heap.size, 2, none⟩ = some (.int .i64 m0.s) ∧ w18.cell? ⟨w.heap.size, 3, none⟩ = some (.int .i64 m0.a) ∧ w18.cell? ⟨w.heap.size, 4, none⟩ = some (.int .i64 m0.l) ∧ w18.cell? ⟨w.heap.size, 5, none⟩ = some (.slice A0 xs0.length c0) ∧ True := bq26
  have bq27 := BoxC.below bq25 b18
  have q1 : w18.cell? ⟨w7.heap.size, 0, none⟩ = some (.int .i64 m0.c) ∧ w18.cell? ⟨w7.heap.size, 1, none⟩ = some (.int .i64 m0.d) ∧ w18.cell? ⟨w7.heap.size, 2, none⟩ = some (.int .i64 m0.s) ∧ w18.cell? ⟨w7.heap.size, 3, none⟩ = some (.int .i64 m0.a) ∧ w18.cell? ⟨w7.heap.size, 4, none⟩ = some (.int .i64 m0.l) ∧ w18.cell? ⟨w7.heap.size, 5, none⟩ = some (.slice A0_7 xs0.length c0_7) ∧ True := bq27
  go_wp2_with fail
  clear q0 q1
  have D7_14 := D7_13.trans (b14.mono D7_13.size)
  have D7_15 := D7_14.trans (b15.mono D7_14.size)
  have D7_16 := D7_15.trans (b16.mono D7_15.size)
  have D7_17 := D7_16.trans (b17.mono D7_16.size)
  have D7_18 := D7_17.trans (b18.mono D7_17.size)
  have Y28 := oA0_7.below (D7_18.mono (Nat.le_refl _))
  have D9_16 := D9_15.trans (b16.mono D9_15.size)
  have D9_17 := D9_16.trans (b17.mono D9_16.size)
  have D9_18 := D9_17.trans (b18.mono D9_17.size)
  have Y29 := oA1_9.below (D9_18.mono (Nat.le_refl _))
  have D10_18 := D10_17.trans (b18.mono D10_17.size)
  have Y30 := oA2_10.below (D10_18.mono (Nat.le_refl _))
  have D11_13 := b12.trans (b13.mono b12.size)
  have D11_14 := D11_13.trans (b14.mono D11_13.size)
  have D11_15 := D11_14.trans (b15.mono D11_14.size)
  have D11_16 := D11_15.trans (b16.mono D11_15.size)
  have D11_17 := D11_16.trans (b17.mono D11_16.size)
  have D11_18 := D11_17.trans (b18.mono D11_17.size)
  have Y31 := og0.below (D11_18.mono (Nat.le_refl _))
  have S7_9 := Nat.le_trans (b8.size) b9.size
  have S7_10 := Nat.le_trans (S7_9) b10.size
  have S7_11 := Nat.le_trans (S7_10) b11.size
  have S7_12 := Nat.le_trans (S7_11) b12.size
  have S7_13 := Nat.le_trans (S7_12) b13.size
  have S7_14 := Nat.le_trans (S7_13) b14.size
  have S7_15 := Nat.le_trans (S7_14) b15.size
  have S7_16 := Nat.le_trans (S7_15) b16.size
  have S7_17 := Nat.le_trans (S7_16) b17.size
  have S7_18 := Nat.le_trans (S7_17) b18.size
  refine (markS_t m0 (.slice A0_7 xs0.length c0_7) xs0 _ _ _ _ Y28 (by omega) (by omega) (by omega) (by omega) (S7_18)).mono ?_
  rintro e w19 ⟨rfl, Y32, on19⟩
  have S0_2 := Nat.le_trans (b1.size) b2.size
  have S0_3 := Nat.le_trans (S0_2) b3.size
  have S0_4 := Nat.le_trans (S0_3) b4.size
  have S0_5 := Nat.le_trans (S0_4) b5.size
  have S0_6 := Nat.le_trans (S0_5) b6.size
  have bq33 := BoxC.only bq26 on19 (Or.inl (Nat.lt_of_lt_of_le (by simp only [World.size_alloc]; omega) (S0_6)))
  have q0 : w19.cell? ⟨w.heap.size, 0, none⟩ = some (.int .i64 m0.c) ∧ w19.cell? ⟨w.heap.size, 1, none⟩ = some (.int .i64 m0.d) ∧ w19.cell? ⟨w.heap.size, 2, none⟩ = some (.int .i64 m0.s) ∧ w19.cell? ⟨w.heap.size, 3, none⟩ = some (.int .i64 m0.a) ∧ w19.cell? ⟨w.heap.size, 4, none⟩ = some (.int .i64 m0.l) ∧ w19.cell? ⟨w.heap.size, 5, none⟩ = some (.slice A0 xs0.length c0) ∧ True := bq33
  have bq34 := BoxC.only bq27 on19 (Or.inr (Nat.le_refl _))
  have q1 : w19.cell? ⟨w7.heap.size, 0, none⟩ = some (.int .i64 m0.c) ∧ w19.cell? ⟨w7.heap.size, 1, none⟩ = some (.int .i64 m0.d) ∧ w19.cell? ⟨w7.heap.size, 2, none⟩ = some (.int .i64 m0.s) ∧ w19.cell? ⟨w7.heap.size, 3, none⟩ = some (.int .i64 m0.a) ∧ w19.cell? ⟨w7.heap.size, 4, none⟩ = some (.int .i64 m0.l) ∧ w19.cell? ⟨w7.heap.size, 5, none⟩ = some (.slice A0_7 xs0.length c0_7) ∧ True := bq34
  go_wp2_with fail
  clear q0 q1
  have Y35 := Y29.only on19 (Or.inr (b8.size))
  have Y36 := Y30.only on19 (Or.inr (S7_9))
  have Y37 := Y31.only on19 (Or.inr (S7_10))
  refine (markII_t (.slice A1_9 xs1.length c1_9) xs1 _ _ _ _ Y35 (by omega) (by omega) (by omega) (by omega)).mono ?_
  rintro e w20 ⟨rfl, Y38, on20⟩
  have S0_7 := Nat.le_trans (S0_6) b7.size
  have S0_8 := Nat.le_trans (S0_7) b8.size
  have bq39 := BoxC.only bq33 on20 (Or.inl (Nat.lt_of_lt_of_le (by simp only [World.size_alloc]; omega) (S0_8)))
  have q0 : w20.cell? ⟨w.heap.size, 0, none⟩ = some (.int .i64 m0.c) ∧ w20.cell? ⟨w.heap.size, 1, none⟩ = some (.int .i64 m0.d) ∧ w20.cell? ⟨w.heap.size, 2, none⟩ = some (.int .i64 m0.s) ∧ w20.cell? ⟨w.heap.size, 3, none⟩ = some (.int .i64 m0.a) ∧ w20.cell? ⟨w.heap.size, 4, none⟩ = some (.int .i64 m0.l) ∧ w20.cell? ⟨w.heap.size, 5, none⟩ = some (.slice A0 xs0.length c0) ∧ True := bq39
  have bq40 := BoxC.only bq34 on20 (Or.inl (Nat.lt_of_lt_of_le (by first | exact Nat.lt_succ_self _ | simp) (Nat.le_refl _)))
  have q1 : w20.cell? ⟨w7.heap.size, 0, none⟩ = some (.int .i64 m0.c) ∧ w20.cell? ⟨w7.heap.size, 1, none⟩ = some (.int .i64 m0.d) ∧ w20.cell? ⟨w7.heap.size, 2, none⟩ = some (.int .i64 m0.s) ∧ w20.cell? ⟨w7.heap.size, 3, none⟩ = some (.int .i64 m0.a) ∧ w20.cell? ⟨w7.heap.size, 4, none⟩ = some (.int .i64 m0.l) ∧ w20.cell? ⟨w7.heap.size, 5, none⟩ = some (.slice A0_7 xs0.length c0_7) ∧ True := bq40
  go_wp2_with fail
  clear q0 q1
  have Y41 := Y36.only on20 (Or.inr (Nat.le_refl _))
  have Y42 := Y32.only on20 (Or.inl (b8.size))
  have Y43 := Y37.only on20 (Or.inr (b10.size))
  refine (markI_t (.slice A2_10 xs2.length c2_10) xs2 _ _ _ _ Y41 (by omega) (by omega) (by omega)).mono ?_
  rintro e w21 ⟨rfl, Y44, on21⟩
  have S0_9 := Nat.le_trans (S0_8) b9.size
  have bq45 := BoxC.only bq39 on21 (Or.inl (Nat.lt_of_lt_of_le (by simp only [World.size_alloc]; omega) (S0_9)))
  have q0 : w21.cell? ⟨w.heap.size, 0, none⟩ = some (.int .i64 m0.c) ∧ w21.cell? ⟨w.heap.size, 1, none⟩ = some (.int .i64 m0.d) ∧ w21.cell? ⟨w.heap.size, 2, none⟩ = some (.int .i64 m0.s) ∧ w21.cell? ⟨w.heap.size, 3, none⟩ = some (.int .i64 m0.a) ∧ w21.cell? ⟨w.heap.size, 4, none⟩ = some (.int .i64 m0.l) ∧ w21.cell? ⟨w.heap.size, 5, none⟩ = some (.slice A0 xs0.length c0) ∧ True := bq45
  have bq46 := BoxC.only bq40 on21 (Or.inl (Nat.lt_of_lt_of_le (by first | exact Nat.lt_succ_self _ | simp) (b9.size)))
  have q1 : w21.cell? ⟨w7.heap.size, 0, none⟩ = some (.int .i64 m0.c) ∧ w21.cell? ⟨w7.heap.size, 1, none⟩ = some (.int .i64 m0.d) ∧ w21.cell? ⟨w7.heap.size, 2, none⟩ = some (.int .i64 m0.s) ∧ w21.cell? ⟨w7.heap.size, 3, none⟩ = some (.int .i64 m0.a) ∧ w21.cell? ⟨w7.heap.size, 4, none⟩ = some (.int .i64 m0.l) ∧ w21.cell? ⟨w7.heap.size, 5, none⟩ = some (.slice A0_7 xs0.length c0_7) ∧ True := bq46
  go_wp2_with fail
  clear q0 q1
  have Y47 := Y43.only on21 (Or.inr (Nat.le_refl _))
  have S9_11 := Nat.le_trans (b10.size) b11.size
  have S9_12 := Nat.le_trans (S9_11) b12.size
  have S9_13 := Nat.le_trans (S9_12) b13.size
  have S9_14 := Nat.le_trans (S9_13) b14.size
  have S9_15 := Nat.le_trans (S9_14) b15.size
  have S9_16 := Nat.le_trans (S9_15) b16.size
  have S9_17 := Nat.le_trans (S9_16) b17.size
  have S9_18 := Nat.le_trans (S9_17) b18.size
  have S9_19 := Nat.le_trans (S9_18) on19.size
  have S9_20 := Nat.le_trans (S9_19) on20.size
  have S6_8 := Nat.le_trans (b7.size) b8.size
  have S6_9 := Nat.le_trans (S6_8) b9.size
  have S8_10 := Nat.le_trans (b9.size) b10.size
  have S8_11 := Nat.le_trans (S8_10) b11.size
  have S8_12 := Nat.le_trans (S8_11) b12.size
  have S8_13 := Nat.le_trans (S8_12) b13.size
  have S8_14 := Nat.le_trans (S8_13) b14.size
  have S8_15 := Nat.le_trans (S8_14) b15.size
  have S8_16 := Nat.le_trans (S8_15) b16.size
  have S8_17 := Nat.le_trans (S8_16) b17.size
  have S8_18 := Nat.le_trans (S8_17) b18.size
  have S8_19 := Nat.le_trans (S8_18) on19.size
  have S6_10 := Nat.le_trans (S6_9) b10.size
  have S6_11 := Nat.le_trans (S6_10) b11.size
  have S6_12 := Nat.le_trans (S6_11) b12.size
  have S6_13 := Nat.le_trans (S6_12) b13.size
  have S6_14 := Nat.le_trans (S6_13) b14.size
  have S6_15 := Nat.le_trans (S6_14) b15.size
  have S6_16 := Nat.le_trans (S6_15) b16.size
  have S6_17 := Nat.le_trans (S6_16) b17.size
  have S6_18 := Nat.le_trans (S6_17) b18.size
  have D6_12 := D6_11.trans (b12.mono D6_11.size)
  have D6_13 := D6_12.trans (b13.mono D6_12.size)
  have D6_14 := D6_13.trans (b14.mono D6_13.size)
  have D6_15 := D6_14.trans (b15.mono D6_14.size)
  have D6_16 := D6_15.trans (b16.mono D6_15.size)
  have D6_17 := D6_16.trans (b17.mono D6_16.size)
  have D6_18 := D6_17.trans (b18.mono D6_17.size)
  have D6_19 := D6_18.trans (on19.below (S6_18))
  have D6_20 := D6_19.trans ((on20.below (S8_19)).mono (S6_8))
  have D6_21 := D6_20.trans ((on21.below (S9_20)).mono (S6_9))
  refine (eqI_t Ag0 As0 cg0 cs0 (openDoorsR m0 xs0 xs1 xs2).1 _ (OI.ri Y47) (rs0.below D6_21)).mono ?_
  rintro e w22 ⟨rfl, b22⟩
  have bq48 := BoxC.below bq45 b22
  have q0 : w22.cell? ⟨w.heap.size, 0, none⟩ = some (.int .i64 m0.c) ∧ w22.cell? ⟨w.heap.size, 1, none⟩ = some (.int .i64 m0.d) ∧ w22.cell? ⟨w.heap.size, 2, none⟩ = some (.int .i64 m0.s) ∧ w22.cell? ⟨w.heap.size, 3, none⟩ = some (.int .i64 m0.a) ∧ w22.cell? ⟨w.heap.size, 4, none⟩ = some (.int .i64 m0.l) ∧ w22.cell? ⟨w.heap.size, 5, none⟩ = some (.slice A0 xs0.length c0) ∧ True := bq48
  have bq49 := BoxC.below bq46 b22
  have q1 : w22.cell? ⟨w7.heap.size, 0, none⟩ = some (.int .i64 m0.c) ∧ w22.cell? ⟨w7.heap.size, 1, none⟩ = some (.int .i64 m0.d) ∧ w22.cell? ⟨w7.heap.size, 2, none⟩ = some (.int .i64 m0.s) ∧ w22.cell? ⟨w7.heap.size, 3, none⟩ = some (.int .i64 m0.a) ∧ w22.cell? ⟨w7.heap.size, 4, none⟩ = some (.int .i64 m0.l) ∧ w22.cell? ⟨w7.heap.size, 5, none⟩ = some (.slice A0_7 xs0.length c0_7) ∧ True := bq49
  go_wp2_with fail
  clear q0 q1
  have S11_13 := Nat.le_trans (b12.size) b13.size
  have S11_14 := Nat.le_trans (S11_13) b14.size
  have S11_15 := Nat.le_trans (S11_14) b15.size
  have S11_16 := Nat.le_trans (S11_15) b16.size
  have S11_17 := Nat.le_trans (S11_16) b17.size
  have S11_18 := Nat.le_trans (S11_17) b18.size
  have S11_19 := Nat.le_trans (S11_18) on19.size
  have S11_20 := Nat.le_trans (S11_19) on20.size
  have S11_21 := Nat.le_trans (S11_20) on21.size
  have Y50 := Y47.below (b22.mono (S11_21))
  refine (markI_t (.slice Ag0 (openDoorsR m0 xs0 xs1 xs2).1.length cg0) (openDoorsR m0 xs0 xs1 xs2).1 _ _ _ _ Y50 (by omega) (by omega) (by omega)).mono ?_
  rintro e w23 ⟨rfl, Y51, on23⟩
  have S0_10 := Nat.le_trans (S0_9) b10.size
  have bq52 := BoxC.only bq48 on23 (Or.inl (Nat.lt_of_lt_of_le (by simp only [World.size_alloc]; omega) (S0_10)))
  have q0 : w23.cell? ⟨w.heap.size, 0, none⟩ = some (.int .i64 m0.c) ∧ w23.cell? ⟨w.heap.size, 1, none⟩ = some (.int .i64 m0.d) ∧ w23.cell? ⟨w.heap.size, 2, none⟩ = some (.int .i64 m0.s) ∧ w23.cell? ⟨w.heap.size, 3, none⟩ = some (.int .i64 m0.a) ∧ w23.cell? ⟨w.heap.size, 4, none⟩ = some (.int .i64 m0.l) ∧ w23.cell? ⟨w.heap.size, 5, none⟩ = some (.slice A0 xs0.length c0) ∧ True := bq52
  have bq53 := BoxC.only bq49 on23 (Or.inl (Nat.lt_of_lt_of_le (by first | exact Nat.lt_succ_self _ | simp) (S8_10)))
  have q1 : w23.cell? ⟨w7.heap.size, 0, none⟩ = some (.int .i64 m0.c) ∧ w23.cell? ⟨w7.heap.size, 1, none⟩ = some (.int .i64 m0.d) ∧ w23.cell? ⟨w7.heap.size, 2, none⟩ = some (.int .i64 m0.s) ∧ w23.cell? ⟨w7.heap.size, 3, none⟩ = some (.int .i64 m0.a) ∧ w23.cell? ⟨w7.heap.size, 4, none⟩ = some (.int .i64 m0.l) ∧ w23.cell? ⟨w7.heap.size, 5, none⟩ = some (.slice A0_7 xs0.length c0_7) ∧ True := bq53
  go_wp2_with fail
  clear q0 q1
  refine (heldI_t Ag0 cg0 (openDoorsR m0 xs0 xs1 xs2).1.length _ _ (OI.ri Y51) (by omega) (by omega) (by omega)).mono ?_
  rintro e w24 ⟨rfl, b24⟩
  have bq54 := BoxC.below bq52 b24
  have q0 : w24.cell? ⟨w.heap.size, 0, none⟩ = some (.int .i64 m0.c) ∧ w24.cell? ⟨w.heap.size, 1, none⟩ = some (.int .i64 m0.d) ∧ w24.cell? ⟨w.heap.size, 2, none⟩ = some (.int .i64 m0.s) ∧ w24.cell? ⟨w.heap.size, 3, none⟩ = some (.int .i64 m0.a) ∧ w24.cell? ⟨w.heap.size, 4, none⟩ = some (.int .i64 m0.l) ∧ w24.cell? ⟨w.heap.size, 5, none⟩ = some (.slice A0 xs0.length c0) ∧ True := bq54
  have bq55 := BoxC.below bq53 b24
  have q1 : w24.cell? ⟨w7.heap.size, 0, none⟩ = some (.int .i64 m0.c) ∧ w24.cell? ⟨w7.heap.size, 1, none⟩ = some (.int .i64 m0.d) ∧ w24.cell? ⟨w7.heap.size, 2, none⟩ = some (.int .i64 m0.s) ∧ w24.cell? ⟨w7.heap.size, 3, none⟩ = some (.int .i64 m0.a) ∧ w24.cell? ⟨w7.heap.size, 4, none⟩ = some (.int .i64 m0.l) ∧ w24.cell? ⟨w7.heap.size, 5, none⟩ = some (.slice A0_7 xs0.length c0_7) ∧ True := bq55
  go_wp2_with fail
  clear q0 q1
  have S10_12 := Nat.le_trans (b11.size) b12.size
  have S10_13 := Nat.le_trans (S10_12) b13.size
  have S10_14 := Nat.le_trans (S10_13) b14.size
  have S10_15 := Nat.le_trans (S10_14) b15.size
  have S10_16 := Nat.le_trans (S10_15) b16.size
  have S10_17 := Nat.le_trans (S10_16) b17.size
  have S10_18 := Nat.le_trans (S10_17) b18.size
  have S10_19 := Nat.le_trans (S10_18) on19.size
  have S10_20 := Nat.le_trans (S10_19) on20.size
  have S10_21 := Nat.le_trans (S10_20) on21.size
  have S10_22 := Nat.le_trans (S10_21) b22.size
  have D0_17 := D0_16.trans (b17.mono D0_16.size)
  have D0_18 := D0_17.trans (b18.mono D0_17.size)
  have D0_19 := D0_18.trans ((on19.below (S6_18)).mono (S0_6))
  have D0_20 := D0_19.trans ((on20.below (S8_19)).mono (S0_8))
  have D0_21 := D0_20.trans ((on21.below (S9_20)).mono (S0_9))
  have D0_22 := D0_21.trans (b22.mono D0_21.size)
  have D0_23 := D0_22.trans ((on23.below (S10_22)).mono (S0_10))
  have D0_24 := D0_23.trans (b24.mono D0_23.size)
  refine (toS m0 A0 c0 xs0 _ (Rxs0.below D0_24) zxs0.1 zzxs0).mono ?_
  rintro e w25 ⟨A0_25, c0_25, rfl, hc0_25, rA0_25, oA0_25, b25⟩
  have bq56 := BoxC.below bq54 b25
  have q0 : w25.cell? ⟨w.heap.size, 0, none⟩ = some (.int .i64 m0.c) ∧ w25.cell? ⟨w.heap.size, 1, none⟩ = some (.int .i64 m0.d) ∧ w25.cell? ⟨w.heap.size, 2, none⟩ = some (.int .i64 m0.s) ∧ w25.cell? ⟨w.heap.size, 3, none⟩ = some (.int .i64 m0.a) ∧ w25.cell? ⟨w.heap.size, 4, none⟩ = some (.int .i64 m0.l) ∧ w25.cell? ⟨w.heap.size, 5, none⟩ = some (.slice A0 xs0.length c0) ∧ True := bq56
  have bq57 := BoxC.below bq55 b25
  have q1 : w25.cell? ⟨w7.heap.size, 0, none⟩ = some (.int .i64 m0.c) ∧ w25.cell? ⟨w7.heap.size, 1, none⟩ = some (.int .i64 m0.d) ∧ w25.cell? ⟨w7.heap.size, 2, none⟩ = some (.int .i64 m0.s) ∧ w25.cell? ⟨w7.heap.size, 3, none⟩ = some (.int .i64 m0.a) ∧ w25.cell? ⟨w7.heap.size, 4, none⟩ = some (.int .i64 m0.l) ∧ w25.cell? ⟨w7.heap.size, 5, none⟩ = some (.slice A0_7 xs0.length c0_7) ∧ True := bq57
  go_wp2_with fail
  clear q0 q1
  have D0_25 := D0_24.trans (b25.mono D0_24.size)
  refine (toII A1 c1 xs1 _ (Rxs1.below D0_25) zxs1.1 zzxs1).mono ?_
  rintro e w26 ⟨A1_26, c1_26, rfl, hc1_26, rA1_26, oA1_26, b26⟩
  have bq58 := BoxC.below bq56 b26
  have q0 : w26.cell? ⟨w.heap.size, 0, none⟩ = some (.int .i64 m0.c) ∧ w26.cell? ⟨w.heap.size, 1, none⟩ = some (.int .i64 m0.d) ∧ w26.cell? ⟨w.heap.size, 2, none⟩ = some (.int .i64 m0.s) ∧ w26.cell? ⟨w.heap.size, 3, none⟩ = some (.int .i64 m0.a) ∧ w26.cell? ⟨w.heap.size, 4, none⟩ = some (.int .i64 m0.l) ∧ w26.cell? ⟨w.heap.size, 5, none⟩ = some (.slice A0 xs0.length c0) ∧ True := bq58
  have bq59 := BoxC.below bq57 b26
  have q1 : w26.cell? ⟨w7.heap.size, 0, none⟩ = some (.int .i64 m0.c) ∧ w26.cell? ⟨w7.heap.size, 1, none⟩ = some (.int .i64 m0.d) ∧ w26.cell? ⟨w7.heap.size, 2, none⟩ = some (.int .i64 m0.s) ∧ w26.cell? ⟨w7.heap.size, 3, none⟩ = some (.int .i64 m0.a) ∧ w26.cell? ⟨w7.heap.size, 4, none⟩ = some (.int .i64 m0.l) ∧ w26.cell? ⟨w7.heap.size, 5, none⟩ = some (.slice A0_7 xs0.length c0_7) ∧ True := bq59
  go_wp2_with fail
  clear q0 q1
  have D0_26 := D0_25.trans (b26.mono D0_25.size)
  refine (toI A2 c2 xs2 _ (Rxs2.below D0_26) z2).mono ?_
  rintro e w27 ⟨A2_27, c2_27, rfl, hc2_27, rA2_27, oA2_27, b27, _⟩
  have bq60 := BoxC.below bq58 b27
  have q0 : w27.cell? ⟨w.heap.size, 0, none⟩ = some (.int .i64 m0.c) ∧ w27.cell? ⟨w.heap.size, 1, none⟩ = some (.int .i64 m0.d) ∧ w27.cell? ⟨w.heap.size, 2, none⟩ = some (.int .i64 m0.s) ∧ w27.cell? ⟨w.heap.size, 3, none⟩ = some (.int .i64 m0.a) ∧ w27.cell? ⟨w.heap.size, 4, none⟩ = some (.int .i64 m0.l) ∧ w27.cell? ⟨w.heap.size, 5, none⟩ = some (.slice A0 xs0.length c0) ∧ True := bq60
  have bq61 := BoxC.below bq59 b27
  have q1 : w27.cell? ⟨w7.heap.size, 0, none⟩ = some (.int .i64 m0.c) ∧ w27.cell? ⟨w7.heap.size, 1, none⟩ = some (.int .i64 m0.d) ∧ w27.cell? ⟨w7.heap.size, 2, none⟩ = some (.int .i64 m0.s) ∧ w27.cell? ⟨w7.heap.size, 3, none⟩ = some (.int .i64 m0.a) ∧ w27.cell? ⟨w7.heap.size, 4, none⟩ = some (.int .i64 m0.l) ∧ w27.cell? ⟨w7.heap.size, 5, none⟩ = some (.slice A0_7 xs0.length c0_7) ∧ True := bq61
  go_wp2_with fail
  clear q0 q1
  have D25_27 := b26.trans (b27.mono b26.size)
  refine (implOpenDoors_any m0 A0_25 c0_25 xs0 A1_26 c1_26 xs1 A2_27 c2_27 xs2 _ (rA0_25.below D25_27) (rA1_26.below b27) rA2_27 hc2_27).mono ?_
  rintro e w28 ⟨Ah0, ch0, rfl, hch0, rh0, oh0, b28⟩
  have bq62 := BoxC.below bq60 b28
  have q0 : w28.cell? ⟨w.heap.size, 0, none⟩ = some (.int .i64 m0.c) ∧ w28.cell? ⟨w.heap.size, 1, none⟩ = some (.int .i64 m0.d) ∧ w28.cell? ⟨w.heap.size, 2, none⟩ = some (.int .i64 m0.s) ∧ w28.cell? ⟨w.heap.size, 3, none⟩ = some (.int .i64 m0.a) ∧ w28.cell? ⟨w.heap.size, 4, none⟩ = some (.int .i64 m0.l) ∧ w28.cell? ⟨w.heap.size, 5, none⟩ = some (.slice A0 xs0.length c0) ∧ True := bq62
  have bq63 := BoxC.below bq61 b28
  have q1 : w28.cell? ⟨w7.heap.size, 0, none⟩ = some (.int .i64 m0.c) ∧ w28.cell? ⟨w7.heap.size, 1, none⟩ = some (.int .i64 m0.d) ∧ w28.cell? ⟨w7.heap.size, 2, none⟩ = some (.int .i64 m0.s) ∧ w28.cell? ⟨w7.heap.size, 3, none⟩ = some (.int .i64 m0.a) ∧ w28.cell? ⟨w7.heap.size, 4, none⟩ = some (.int .i64 m0.l) ∧ w28.cell? ⟨w7.heap.size, 5, none⟩ = some (.slice A0_7 xs0.length c0_7) ∧ True := bq63
  go_wp2_with fail
  clear q0 q1
  have D6_22 := D6_21.trans (b22.mono D6_21.size)
  have D6_23 := D6_22.trans ((on23.below (S10_22)).mono (S6_10))
  have D6_24 := D6_23.trans (b24.mono D6_23.size)
  have D6_25 := D6_24.trans (b25.mono D6_24.size)
  have D6_26 := D6_25.trans (b26.mono D6_25.size)
  have D6_27 := D6_26.trans (b27.mono D6_26.size)
  have D6_28 := D6_27.trans (b28.mono D6_27.size)
  refine (eqI_t Ah0 As0 ch0 cs0 (openDoorsR m0 xs0 xs1 xs2).1 _ rh0 (rs0.below D6_28)).mono ?_
  rintro e w29 ⟨rfl, b29⟩
  have bq64 := BoxC.below bq62 b29
  have q0 : w29.cell? ⟨w.heap.size, 0, none⟩ = some (.int .i64 m0.c) ∧ w29.cell? ⟨w.heap.size, 1, none⟩ = some (.int .i64 m0.d) ∧ w29.cell? ⟨w.heap.size, 2, none⟩ = some (.int .i64 m0.s) ∧ w29.cell? ⟨w.heap.size, 3, none⟩ = some (.int .i64 m0.a) ∧ w29.cell? ⟨w.heap.size, 4, none⟩ = some (.int .i64 m0.l) ∧ w29.cell? ⟨w.heap.size, 5, none⟩ = some (.slice A0 xs0.length c0) ∧ True := bq64
  have bq65 := BoxC.below bq63 b29
  have q1 : w29.cell? ⟨w7.heap.size, 0, none⟩ = some (.int .i64 m0.c) ∧ w29.cell? ⟨w7.heap.size, 1, none⟩ = some (.int .i64 m0.d) ∧ w29.cell? ⟨w7.heap.size, 2, none⟩ = some (.int .i64 m0.s) ∧ w29.cell? ⟨w7.heap.size, 3, none⟩ = some (.int .i64 m0.a) ∧ w29.cell? ⟨w7.heap.size, 4, none⟩ = some (.int .i64 m0.l) ∧ w29.cell? ⟨w7.heap.size, 5, none⟩ = some (.slice A0_7 xs0.length c0_7) ∧ True := bq65
  go_wp2_with fail
  clear q0 q1
  have D23_25 := b24.trans (b25.mono b24.size)
  have D23_26 := D23_25.trans (b26.mono D23_25.size)
  have D23_27 := D23_26.trans (b27.mono D23_26.size)
  have D23_28 := D23_27.trans (b28.mono D23_27.size)
  have D23_29 := D23_28.trans (b29.mono D23_28.size)
  have S11_22 := Nat.le_trans (S11_21) b22.size
  have S11_23 := Nat.le_trans (S11_22) on23.size
  have Y66 := Y51.below (D23_29.mono (S11_23))
  refine (heldI_t Ag0 cg0 (openDoorsR m0 xs0 xs1 xs2).1.length _ _ (OI.ri Y66) (by omega) (by omega) (by omega)).mono ?_
  rintro e w30 ⟨rfl, b30⟩
  have D0_27 := D0_26.trans (b27.mono D0_26.size)
  have D0_28 := D0_27.trans (b28.mono D0_27.size)
  have D0_29 := D0_28.trans (b29.mono D0_28.size)
  have D0_30 := D0_29.trans (b30.mono D0_29.size)
  have DD := D0_30
  have bq67 := BoxC.below bq64 b30
  have q0 : w30.cell? ⟨w.heap.size, 0, none⟩ = some (.int .i64 m0.c) ∧ w30.cell? ⟨w.heap.size, 1, none⟩ = some (.int .i64 m0.d) ∧ w30.cell? ⟨w.heap.size, 2, none⟩ = some (.int .i64 m0.s) ∧ w30.cell? ⟨w.heap.size, 3, none⟩ = some (.int .i64 m0.a) ∧ w30.cell? ⟨w.heap.size, 4, none⟩ = some (.int .i64 m0.l) ∧ w30.cell? ⟨w.heap.size, 5, none⟩ = some (.slice A0 xs0.length c0) ∧ True := bq67
  have bq68 := BoxC.below bq65 b30
  have q1 : w30.cell? ⟨w7.heap.size, 0, none⟩ = some (.int .i64 m0.c) ∧ w30.cell? ⟨w7.heap.size, 1, none⟩ = some (.int .i64 m0.d) ∧ w30.cell? ⟨w7.heap.size, 2, none⟩ = some (.int .i64 m0.s) ∧ w30.cell? ⟨w7.heap.size, 3, none⟩ = some (.int .i64 m0.a) ∧ w30.cell? ⟨w7.heap.size, 4, none⟩ = some (.int .i64 m0.l) ∧ w30.cell? ⟨w7.heap.size, 5, none⟩ = some (.slice A0_7 xs0.length c0_7) ∧ True := bq68
  go_wp2_with fail
  go_ret
  exact ⟨rfl, HB0.trans (DD.mono HB0.size)⟩
end Go.Proofs.Ytlldlfiepfjahaa.fnExactOpenDoors
