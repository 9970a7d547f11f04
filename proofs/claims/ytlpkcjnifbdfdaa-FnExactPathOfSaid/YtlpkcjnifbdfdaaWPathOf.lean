/- The walk of the law FnExactPathOf. -/
import Derived.Test.YtlpkcjnifbdfdaaFPathOf
namespace Go.Proofs.Ytlpkcjnifbdfdaa.fnExactPathOf
set_option linter.unusedVariables false
open Go.RowKit
theorem lens (m : Mk) (ms ls cs : List Int) : (pathOfR m ms ls cs).1.length ≤ 4194304 := by
  unfold pathOfR
  split
  · rename_i h
    have h1 := lc_0_iff.1 h
    have h2 := areLevels_get h1.2.2.1
    split
    · cases lastGood m ms ls cs ls.length with
      | none => simp [pathEnd]
      | some k =>
        have h4 : (numsF m ms ls cs).length = ls.length := numsI_len _ _ _ _ _
        simp only [pathEnd, List.length_take, h4]; omega
    · simp
  · simp
set_option maxRecDepth 100000 in
set_option maxHeartbeats 8000000 in
theorem walk (m0 : Mk) (A1 : Option Addr) (c1 : Nat) (xs1 : List Int) (A2 : Option Addr) (c2 : Nat) (xs2 : List Int) (A3 : Option Addr) (c3 : Nat) (xs3 : List Int) (w : World) (hc1 : xs1.length ≤ c1) (h1 : RI w A1 xs1) (hc2 : xs2.length ≤ c2) (h2 : RI w A2 xs2) (hc3 : xs3.length ≤ c3) (h3 : RI w A3 xs3) :
    Calls Try.prog 14 #[.agg #[.int .i64 m0.c, .int .i64 m0.d, .int .i64 m0.s, .int .i64 m0.a, .int .i64 m0.l], .slice A1 xs1.length c1, .slice A2 xs2.length c2, .slice A3 xs3.length c3] w fun e w' => e = .returned (.bool true) ∧ Below w.heap.size w w' := by
  have lens0 := lens m0 xs1 xs2 xs3
  have HB0 : Below w.heap.size w (w.alloc (.cells #[.int .i64 m0.c, .int .i64 m0.d, .int .i64 m0.s, .int .i64 m0.a, .int .i64 m0.l] 26)) := (Below.refl w.heap.size w).alloc (by exact Nat.le_refl _) _
  have bx0 : BoxC (w.alloc (.cells #[.int .i64 m0.c, .int .i64 m0.d, .int .i64 m0.s, .int .i64 m0.a, .int .i64 m0.l] 26)) (w.heap.size) 0 [.int .i64 m0.c, .int .i64 m0.d, .int .i64 m0.s, .int .i64 m0.a, .int .i64 m0.l] := by simp [BoxC, Go.World.cell?_alloc_at]
  have Rxs1 := (h1).alloc (.cells #[.int .i64 m0.c, .int .i64 m0.d, .int .i64 m0.s, .int .i64 m0.a, .int .i64 m0.l] 26)
  have Rxs2 := (h2).alloc (.cells #[.int .i64 m0.c, .int .i64 m0.d, .int .i64 m0.s, .int .i64 m0.a, .int .i64 m0.l] 26)
  have Rxs3 := (h3).alloc (.cells #[.int .i64 m0.c, .int .i64 m0.d, .int .i64 m0.s, .int .i64 m0.a, .int .i64 m0.l] 26)
  by_cases z1 : xs1.length ≤ 1048576
  case neg =>
    have i1 : (1048576 : Int) < (xs1.length : Int) := by omega
    go_enter Try.func14, Try.ntmps14
    go_wp2_with fail
    go_ret
    exact ⟨rfl, HB0⟩
  have i1 : ¬ ((1048576 : Int) < (xs1.length : Int)) := by omega
  by_cases z2 : xs2.length ≤ 1048576
  case neg =>
    have i2 : (1048576 : Int) < (xs2.length : Int) := by omega
    go_enter Try.func14, Try.ntmps14
    go_wp2_with fail
    go_ret
    exact ⟨rfl, HB0⟩
  have i2 : ¬ ((1048576 : Int) < (xs2.length : Int)) := by omega
  by_cases z3 : xs3.length ≤ 1048576
  case neg =>
    have i3 : (1048576 : Int) < (xs3.length : Int) := by omega
    go_enter Try.func14, Try.ntmps14
    go_wp2_with fail
    go_ret
    exact ⟨rfl, HB0⟩
  have i3 : ¬ ((1048576 : Int) < (xs3.length : Int)) := by omega
  go_enter Try.func14, Try.ntmps14
  have q0 : (w.alloc (.cells #[.int .i64 m0.c, .int .i64 m0.d, .int .i64 m0.s, .int .i64 m0.a, .int .i64 m0.l] 26)).cell? ⟨w.heap.size, 0, none⟩ = some (.int .i64 m0.c) ∧ (w.alloc (.cells #[.int .i64 m0.c, .int .i64 m0.d, .int .i64 m0.s, .int .i64 m0.a, .int .i64 m0.l] 26)).cell? ⟨w.heap.size, 1, none⟩ = some (.int .i64 m0.d) ∧ (w.alloc (.cells #[.int .i64 m0.c, .int .i64 m0.d, .int .i64 m0.s, .int .i64 m0.a, .int .i64 m0.l] 26)).cell? ⟨w.heap.size, 2, none⟩ = some (.int .i64 m0.s) ∧ (w.alloc (.cells #[.int .i64 m0.c, .int .i64 m0.d, .int .i64 m0.s, .int .i64 m0.a, .int .i64 m0.l] 26)).cell? ⟨w.heap.size, 3, none⟩ = some (.int .i64 m0.a) ∧ (w.alloc (.cells #[.int .i64 m0.c, .int .i64 m0.d, .int .i64 m0.s, .int .i64 m0.a, .int .i64 m0.l] 26)).cell? ⟨w.heap.size, 4, none⟩ = some (.int .i64 m0.l) ∧ True := bx0
  go_wp2_with fail
  clear q0
  refine (toM m0.c m0.d m0.s m0.a m0.l _).mono ?_
  rintro e w1 ⟨rfl, b1⟩
  have bq1 := BoxC.below bx0 b1
  have q0 : w1.cell? ⟨w.heap.size, 0, none⟩ = some (.int .i64 m0.c) ∧ w1.cell? ⟨w.heap.size, 1, none⟩ = some (.int .i64 m0.d) ∧ w1.cell? ⟨w.heap.size, 2, none⟩ = some (.int .i64 m0.s) ∧ w1.cell? ⟨w.heap.size, 3, none⟩ = some (.int .i64 m0.a) ∧ w1.cell? ⟨w.heap.size, 4, none⟩ = some (.int .i64 m0.l) ∧ True := bq1
  go_wp2_with fail
  clear q0
  refine (toI A1 c1 xs1 _ (Rxs1.below b1) z1).mono ?_
  rintro e w2 ⟨A1_2, c1_2, rfl, hc1_2, rA1_2, oA1_2, b2, _⟩
  have bq2 := BoxC.below bq1 b2
  have q0 : w2.cell? ⟨w.heap.size, 0, none⟩ = some (.int .i64 m0.c) ∧ w2.cell? ⟨w.heap.size, 1, none⟩ = some (.int .i64 m0.d) ∧ w2.cell? ⟨w.heap.size, 2, none⟩ = some (.int .i64 m0.s) ∧ w2.cell? ⟨w.heap.size, 3, none⟩ = some (.int .i64 m0.a) ∧ w2.cell? ⟨w.heap.size, 4, none⟩ = some (.int .i64 m0.l) ∧ True := bq2
  go_wp2_with fail
  clear q0
  have D0_2 := b1.trans (b2.mono b1.size)
  refine (toI A2 c2 xs2 _ (Rxs2.below D0_2) z2).mono ?_
  rintro e w3 ⟨A2_3, c2_3, rfl, hc2_3, rA2_3, oA2_3, b3, _⟩
  have bq3 := BoxC.below bq2 b3
  have q0 : w3.cell? ⟨w.heap.size, 0, none⟩ = some (.int .i64 m0.c) ∧ w3.cell? ⟨w.heap.size, 1, none⟩ = some (.int .i64 m0.d) ∧ w3.cell? ⟨w.heap.size, 2, none⟩ = some (.int .i64 m0.s) ∧ w3.cell? ⟨w.heap.size, 3, none⟩ = some (.int .i64 m0.a) ∧ w3.cell? ⟨w.heap.size, 4, none⟩ = some (.int .i64 m0.l) ∧ True := bq3
  go_wp2_with fail
  clear q0
  have D0_3 := D0_2.trans (b3.mono D0_2.size)
  refine (toI A3 c3 xs3 _ (Rxs3.below D0_3) z3).mono ?_
  rintro e w4 ⟨A3_4, c3_4, rfl, hc3_4, rA3_4, oA3_4, b4, _⟩
  have bq4 := BoxC.below bq3 b4
  have q0 : w4.cell? ⟨w.heap.size, 0, none⟩ = some (.int .i64 m0.c) ∧ w4.cell? ⟨w.heap.size, 1, none⟩ = some (.int .i64 m0.d) ∧ w4.cell? ⟨w.heap.size, 2, none⟩ = some (.int .i64 m0.s) ∧ w4.cell? ⟨w.heap.size, 3, none⟩ = some (.int .i64 m0.a) ∧ w4.cell? ⟨w.heap.size, 4, none⟩ = some (.int .i64 m0.l) ∧ True := bq4
  go_wp2_with fail
  clear q0
  have D2_4 := b3.trans (b4.mono b3.size)
  refine (specPathOf_any m0 A1_2 c1_2 xs1 A2_3 c2_3 xs2 A3_4 c3_4 xs3 _ (rA1_2.below D2_4) (rA2_3.below b4) rA3_4).mono ?_
  rintro e w5 ⟨As0, cs0, rfl, hcs0, rs0, os0, b5⟩
  have bq5 := BoxC.below bq4 b5
  have q0 : w5.cell? ⟨w.heap.size, 0, none⟩ = some (.int .i64 m0.c) ∧ w5.cell? ⟨w.heap.size, 1, none⟩ = some (.int .i64 m0.d) ∧ w5.cell? ⟨w.heap.size, 2, none⟩ = some (.int .i64 m0.s) ∧ w5.cell? ⟨w.heap.size, 3, none⟩ = some (.int .i64 m0.a) ∧ w5.cell? ⟨w.heap.size, 4, none⟩ = some (.int .i64 m0.l) ∧ True := bq5
  go_wp2_with fail
  clear q0
  have D0_4 := D0_3.trans (b4.mono D0_3.size)
  have D0_5 := D0_4.trans (b5.mono D0_4.size)
  refine (toI A1 c1 xs1 _ (Rxs1.below D0_5) z1).mono ?_
  rintro e w6 ⟨A1_6, c1_6, rfl, hc1_6, rA1_6, oA1_6, b6, _⟩
  have bq6 := BoxC.below bq5 b6
  have q0 : w6.cell? ⟨w.heap.size, 0, none⟩ = some (.int .i64 m0.c) ∧ w6.cell? ⟨w.heap.size, 1, none⟩ = some (.int .i64 m0.d) ∧ w6.cell? ⟨w.heap.size, 2, none⟩ = some (.int .i64 m0.s) ∧ w6.cell? ⟨w.heap.size, 3, none⟩ = some (.int .i64 m0.a) ∧ w6.cell? ⟨w.heap.size, 4, none⟩ = some (.int .i64 m0.l) ∧ True := bq6
  go_wp2_with fail
  clear q0
  have D0_6 := D0_5.trans (b6.mono D0_5.size)
  refine (toI A2 c2 xs2 _ (Rxs2.below D0_6) z2).mono ?_
  rintro e w7 ⟨A2_7, c2_7, rfl, hc2_7, rA2_7, oA2_7, b7, _⟩
  have bq7 := BoxC.below bq6 b7
  have q0 : w7.cell? ⟨w.heap.size, 0, none⟩ = some (.int .i64 m0.c) ∧ w7.cell? ⟨w.heap.size, 1, none⟩ = some (.int .i64 m0.d) ∧ w7.cell? ⟨w.heap.size, 2, none⟩ = some (.int .i64 m0.s) ∧ w7.cell? ⟨w.heap.size, 3, none⟩ = some (.int .i64 m0.a) ∧ w7.cell? ⟨w.heap.size, 4, none⟩ = some (.int .i64 m0.l) ∧ True := bq7
  go_wp2_with fail
  clear q0
  have D0_7 := D0_6.trans (b7.mono D0_6.size)
  refine (toI A3 c3 xs3 _ (Rxs3.below D0_7) z3).mono ?_
  rintro e w8 ⟨A3_8, c3_8, rfl, hc3_8, rA3_8, oA3_8, b8, _⟩
  have bq8 := BoxC.below bq7 b8
  have q0 : w8.cell? ⟨w.heap.size, 0, none⟩ = some (.int .i64 m0.c) ∧ w8.cell? ⟨w.heap.size, 1, none⟩ = some (.int .i64 m0.d) ∧ w8.cell? ⟨w.heap.size, 2, none⟩ = some (.int .i64 m0.s) ∧ w8.cell? ⟨w.heap.size, 3, none⟩ = some (.int .i64 m0.a) ∧ w8.cell? ⟨w.heap.size, 4, none⟩ = some (.int .i64 m0.l) ∧ True := bq8
  go_wp2_with fail
  clear q0
  refine (toM m0.c m0.d m0.s m0.a m0.l _).mono ?_
  rintro e w9 ⟨rfl, b9⟩
  have bq9 := BoxC.below bq8 b9
  have q0 : w9.cell? ⟨w.heap.size, 0, none⟩ = some (.int .i64 m0.c) ∧ w9.cell? ⟨w.heap.size, 1, none⟩ = some (.int .i64 m0.d) ∧ w9.cell? ⟨w.heap.size, 2, none⟩ = some (.int .i64 m0.s) ∧ w9.cell? ⟨w.heap.size, 3, none⟩ = some (.int .i64 m0.a) ∧ w9.cell? ⟨w.heap.size, 4, none⟩ = some (.int .i64 m0.l) ∧ True := bq9
  go_wp2_with fail
  clear q0
  have D6_8 := b7.trans (b8.mono b7.size)
  have D6_9 := D6_8.trans (b9.mono D6_8.size)
  have D7_9 := b8.trans (b9.mono b8.size)
  refine (implPathOf_any m0 A1_6 c1_6 xs1 A2_7 c2_7 xs2 A3_8 c3_8 xs3 _ (rA1_6.below D6_9) (rA2_7.below D7_9) (rA3_8.below b9)).mono ?_
  rintro e w10 ⟨Ag0, cg0, rfl, hcg0, rg0, og0, b10⟩
  have bq10 := BoxC.below bq9 b10
  have q0 : w10.cell? ⟨w.heap.size, 0, none⟩ = some (.int .i64 m0.c) ∧ w10.cell? ⟨w.heap.size, 1, none⟩ = some (.int .i64 m0.d) ∧ w10.cell? ⟨w.heap.size, 2, none⟩ = some (.int .i64 m0.s) ∧ w10.cell? ⟨w.heap.size, 3, none⟩ = some (.int .i64 m0.a) ∧ w10.cell? ⟨w.heap.size, 4, none⟩ = some (.int .i64 m0.l) ∧ True := bq10
  go_wp2_with fail
  clear q0
  have D5_7 := b6.trans (b7.mono b6.size)
  have D5_8 := D5_7.trans (b8.mono D5_7.size)
  have D5_9 := D5_8.trans (b9.mono D5_8.size)
  have D5_10 := D5_9.trans (b10.mono D5_9.size)
  refine (eqI_t Ag0 As0 cg0 cs0 (pathOfR m0 xs1 xs2 xs3).1 _ rg0 (rs0.below D5_10)).mono ?_
  rintro e w11 ⟨rfl, b11⟩
  have bq11 := BoxC.below bq10 b11
  have q0 : w11.cell? ⟨w.heap.size, 0, none⟩ = some (.int .i64 m0.c) ∧ w11.cell? ⟨w.heap.size, 1, none⟩ = some (.int .i64 m0.d) ∧ w11.cell? ⟨w.heap.size, 2, none⟩ = some (.int .i64 m0.s) ∧ w11.cell? ⟨w.heap.size, 3, none⟩ = some (.int .i64 m0.a) ∧ w11.cell? ⟨w.heap.size, 4, none⟩ = some (.int .i64 m0.l) ∧ True := bq11
  go_wp2_with fail
  clear q0
  have D0_8 := D0_7.trans (b8.mono D0_7.size)
  have D0_9 := D0_8.trans (b9.mono D0_8.size)
  have D0_10 := D0_9.trans (b10.mono D0_9.size)
  have D0_11 := D0_10.trans (b11.mono D0_10.size)
  refine (toI A1 c1 xs1 _ (Rxs1.below D0_11) z1).mono ?_
  rintro e w12 ⟨A1_12, c1_12, rfl, hc1_12, rA1_12, oA1_12, b12, _⟩
  have bq12 := BoxC.below bq11 b12
  have q0 : w12.cell? ⟨w.heap.size, 0, none⟩ = some (.int .i64 m0.c) ∧ w12.cell? ⟨w.heap.size, 1, none⟩ = some (.int .i64 m0.d) ∧ w12.cell? ⟨w.heap.size, 2, none⟩ = some (.int .i64 m0.s) ∧ w12.cell? ⟨w.heap.size, 3, none⟩ = some (.int .i64 m0.a) ∧ w12.cell? ⟨w.heap.size, 4, none⟩ = some (.int .i64 m0.l) ∧ True := bq12
  go_wp2_with fail
  clear q0
  have D6_10 := D6_9.trans (b10.mono D6_9.size)
  have D6_11 := D6_10.trans (b11.mono D6_10.size)
  have D6_12 := D6_11.trans (b12.mono D6_11.size)
  refine (eqI_t A1_6 A1_12 c1_6 c1_12 xs1 _ (rA1_6.below D6_12) rA1_12).mono ?_
  rintro e w13 ⟨rfl, b13⟩
  have bq13 := BoxC.below bq12 b13
  have q0 : w13.cell? ⟨w.heap.size, 0, none⟩ = some (.int .i64 m0.c) ∧ w13.cell? ⟨w.heap.size, 1, none⟩ = some (.int .i64 m0.d) ∧ w13.cell? ⟨w.heap.size, 2, none⟩ = some (.int .i64 m0.s) ∧ w13.cell? ⟨w.heap.size, 3, none⟩ = some (.int .i64 m0.a) ∧ w13.cell? ⟨w.heap.size, 4, none⟩ = some (.int .i64 m0.l) ∧ True := bq13
  go_wp2_with fail
  clear q0
  have D0_12 := D0_11.trans (b12.mono D0_11.size)
  have D0_13 := D0_12.trans (b13.mono D0_12.size)
  refine (toI A2 c2 xs2 _ (Rxs2.below D0_13) z2).mono ?_
  rintro e w14 ⟨A2_14, c2_14, rfl, hc2_14, rA2_14, oA2_14, b14, _⟩
  have bq14 := BoxC.below bq13 b14
  have q0 : w14.cell? ⟨w.heap.size, 0, none⟩ = some (.int .i64 m0.c) ∧ w14.cell? ⟨w.heap.size, 1, none⟩ = some (.int .i64 m0.d) ∧ w14.cell? ⟨w.heap.size, 2, none⟩ = some (.int .i64 m0.s) ∧ w14.cell? ⟨w.heap.size, 3, none⟩ = some (.int .i64 m0.a) ∧ w14.cell? ⟨w.heap.size, 4, none⟩ = some (.int .i64 m0.l) ∧ True := bq14
  go_wp2_with fail
  clear q0
  have D7_10 := D7_9.trans (b10.mono D7_9.size)
  have D7_11 := D7_10.trans (b11.mono D7_10.size)
  have D7_12 := D7_11.trans (b12.mono D7_11.size)
  have D7_13 := D7_12.trans (b13.mono D7_12.size)
  have D7_14 := D7_13.trans (b14.mono D7_13.size)
  refine (eqI_t A2_7 A2_14 c2_7 c2_14 xs2 _ (rA2_7.below D7_14) rA2_14).mono ?_
  rintro e w15 ⟨rfl, b15⟩
  have bq15 := BoxC.below bq14 b15
  have q0 : w15.cell? ⟨w.heap.size, 0, none⟩ = some (.int .i64 m0.c) ∧ w15.cell? ⟨w.heap.size, 1, none⟩ = some (.int .i64 m0.d) ∧ w15.cell? ⟨w.heap.size, 2, none⟩ = some (.int .i64 m0.s) ∧ w15.cell? ⟨w.heap.size, 3, none⟩ = some (.int .i64 m0.a) ∧ w15.cell? ⟨w.heap.size, 4, none⟩ = some (.int .i64 m0.l) ∧ True := bq15
  go_wp2_with fail
  clear q0
  have D0_14 := D0_13.trans (b14.mono D0_13.size)
  have D0_15 := D0_14.trans (b15.mono D0_14.size)
  refine (toI A3 c3 xs3 _ (Rxs3.below D0_15) z3).mono ?_
  rintro e w16 ⟨A3_16, c3_16, rfl, hc3_16, rA3_16, oA3_16, b16, _⟩
  have bq16 := BoxC.below bq15 b16
  have q0 : w16.cell? ⟨w.heap.size, 0, none⟩ = some (.int .i64 m0.c) ∧ w16.cell? ⟨w.heap.size, 1, none⟩ = some (.int .i64 m0.d) ∧ w16.cell? ⟨w.heap.size, 2, none⟩ = some (.int .i64 m0.s) ∧ w16.cell? ⟨w.heap.size, 3, none⟩ = some (.int .i64 m0.a) ∧ w16.cell? ⟨w.heap.size, 4, none⟩ = some (.int .i64 m0.l) ∧ True := bq16
  go_wp2_with fail
  clear q0
  have D8_10 := b9.trans (b10.mono b9.size)
  have D8_11 := D8_10.trans (b11.mono D8_10.size)
  have D8_12 := D8_11.trans (b12.mono D8_11.size)
  have D8_13 := D8_12.trans (b13.mono D8_12.size)
  have D8_14 := D8_13.trans (b14.mono D8_13.size)
  have D8_15 := D8_14.trans (b15.mono D8_14.size)
  have D8_16 := D8_15.trans (b16.mono D8_15.size)
  refine (eqI_t A3_8 A3_16 c3_8 c3_16 xs3 _ (rA3_8.below D8_16) rA3_16).mono ?_
  rintro e w17 ⟨rfl, b17⟩
  have bq17 := BoxC.below bq16 b17
  have q0 : w17.cell? ⟨w.heap.size, 0, none⟩ = some (.int .i64 m0.c) ∧ w17.cell? ⟨w.heap.size, 1, none⟩ = some (.int .i64 m0.d) ∧ w17.cell? ⟨w.heap.size, 2, none⟩ = some (.int .i64 m0.s) ∧ w17.cell? ⟨w.heap.size, 3, none⟩ = some (.int .i64 m0.a) ∧ w17.cell? ⟨w.heap.size, 4, none⟩ = some (.int .i64 m0.l) ∧ True := bq17
  go_wp2_with fail
  clear q0
  have D6_13 := D6_12.trans (b13.mono D6_12.size)
  have D6_14 := D6_13.trans (b14.mono D6_13.size)
  have D6_15 := D6_14.trans (b15.mono D6_14.size)
  have D6_16 := D6_15.trans (b16.mono D6_15.size)
  have D6_17 := D6_16.trans (b17.mono D6_16.size)
  have Y18 := oA1_6.below (D6_17.mono (Nat.le_refl _))
  have D7_15 := D7_14.trans (b15.mono D7_14.size)
  have D7_16 := D7_15.trans (b16.mono D7_15.size)
  have D7_17 := D7_16.trans (b17.mono D7_16.size)
  have Y19 := oA2_7.below (D7_17.mono (Nat.le_refl _))
  have D8_17 := D8_16.trans (b17.mono D8_16.size)
  have Y20 := oA3_8.below (D8_17.mono (Nat.le_refl _))
  have D10_12 := b11.trans (b12.mono b11.size)
  have D10_13 := D10_12.trans (b13.mono D10_12.size)
  have D10_14 := D10_13.trans (b14.mono D10_13.size)
  have D10_15 := D10_14.trans (b15.mono D10_14.size)
  have D10_16 := D10_15.trans (b16.mono D10_15.size)
  have D10_17 := D10_16.trans (b17.mono D10_16.size)
  have Y21 := og0.below (D10_17.mono (Nat.le_refl _))
  refine (markI_t (.slice A1_6 xs1.length c1_6) xs1 _ _ _ _ Y18 (by omega) (by omega) (by omega)).mono ?_
  rintro e w18 ⟨rfl, Y22, on18⟩
  have S0_2 := Nat.le_trans (b1.size) b2.size
  have S0_3 := Nat.le_trans (S0_2) b3.size
  have S0_4 := Nat.le_trans (S0_3) b4.size
  have S0_5 := Nat.le_trans (S0_4) b5.size
  have bq23 := BoxC.only bq17 on18 (Or.inl (Nat.lt_of_lt_of_le (by simp only [World.size_alloc]; omega) (S0_5)))
  have q0 : w18.cell? ⟨w.heap.size, 0, none⟩ = some (.int .i64 m0.c) ∧ w18.cell? ⟨w.heap.size, 1, none⟩ = some (.int .i64 m0.d) ∧ w18.cell? ⟨w.heap.size, 2, none⟩ = some (.int .i64 m0.s) ∧ w18.cell? ⟨w.heap.size, 3, none⟩ = some (.int .i64 m0.a) ∧ w18.cell? ⟨w.heap.size, 4, none⟩ = some (.int .i64 m0.l) ∧ True := bq23
  go_wp2_with fail
  clear q0
  have Y24 := Y19.only on18 (Or.inr (Nat.le_refl _))
  have Y25 := Y20.only on18 (Or.inr (b7.size))
  have S6_8 := Nat.le_trans (b7.size) b8.size
  have S6_9 := Nat.le_trans (S6_8) b9.size
  have Y26 := Y21.only on18 (Or.inr (S6_9))
  refine (markI_t (.slice A2_7 xs2.length c2_7) xs2 _ _ _ _ Y24 (by omega) (by omega) (by omega)).mono ?_
  rintro e w19 ⟨rfl, Y27, on19⟩
  have S0_6 := Nat.le_trans (S0_5) b6.size
  have bq28 := BoxC.only bq23 on19 (Or.inl (Nat.lt_of_lt_of_le (by simp only [World.size_alloc]; omega) (S0_6)))
  have q0 : w19.cell? ⟨w.heap.size, 0, none⟩ = some (.int .i64 m0.c) ∧ w19.cell? ⟨w.heap.size, 1, none⟩ = some (.int .i64 m0.d) ∧ w19.cell? ⟨w.heap.size, 2, none⟩ = some (.int .i64 m0.s) ∧ w19.cell? ⟨w.heap.size, 3, none⟩ = some (.int .i64 m0.a) ∧ w19.cell? ⟨w.heap.size, 4, none⟩ = some (.int .i64 m0.l) ∧ True := bq28
  go_wp2_with fail
  clear q0
  have Y29 := Y25.only on19 (Or.inr (Nat.le_refl _))
  have Y30 := Y22.only on19 (Or.inl (Nat.le_refl _))
  have S7_9 := Nat.le_trans (b8.size) b9.size
  have Y31 := Y26.only on19 (Or.inr (S7_9))
  refine (markI_t (.slice A3_8 xs3.length c3_8) xs3 _ _ _ _ Y29 (by omega) (by omega) (by omega)).mono ?_
  rintro e w20 ⟨rfl, Y32, on20⟩
  have S0_7 := Nat.le_trans (S0_6) b7.size
  have bq33 := BoxC.only bq28 on20 (Or.inl (Nat.lt_of_lt_of_le (by simp only [World.size_alloc]; omega) (S0_7)))
  have q0 : w20.cell? ⟨w.heap.size, 0, none⟩ = some (.int .i64 m0.c) ∧ w20.cell? ⟨w.heap.size, 1, none⟩ = some (.int .i64 m0.d) ∧ w20.cell? ⟨w.heap.size, 2, none⟩ = some (.int .i64 m0.s) ∧ w20.cell? ⟨w.heap.size, 3, none⟩ = some (.int .i64 m0.a) ∧ w20.cell? ⟨w.heap.size, 4, none⟩ = some (.int .i64 m0.l) ∧ True := bq33
  go_wp2_with fail
  clear q0
  have Y34 := Y31.only on20 (Or.inr (b9.size))
  have S7_10 := Nat.le_trans (S7_9) b10.size
  have S7_11 := Nat.le_trans (S7_10) b11.size
  have S7_12 := Nat.le_trans (S7_11) b12.size
  have S7_13 := Nat.le_trans (S7_12) b13.size
  have S7_14 := Nat.le_trans (S7_13) b14.size
  have S7_15 := Nat.le_trans (S7_14) b15.size
  have S7_16 := Nat.le_trans (S7_15) b16.size
  have S7_17 := Nat.le_trans (S7_16) b17.size
  have S7_18 := Nat.le_trans (S7_17) on18.size
  have S7_19 := Nat.le_trans (S7_18) on19.size
  have S5_7 := Nat.le_trans (b6.size) b7.size
  have S6_10 := Nat.le_trans (S6_9) b10.size
  have S6_11 := Nat.le_trans (S6_10) b11.size
  have S6_12 := Nat.le_trans (S6_11) b12.size
  have S6_13 := Nat.le_trans (S6_12) b13.size
  have S6_14 := Nat.le_trans (S6_13) b14.size
  have S6_15 := Nat.le_trans (S6_14) b15.size
  have S6_16 := Nat.le_trans (S6_15) b16.size
  have S6_17 := Nat.le_trans (S6_16) b17.size
  have S6_18 := Nat.le_trans (S6_17) on18.size
  have S5_8 := Nat.le_trans (S5_7) b8.size
  have S5_9 := Nat.le_trans (S5_8) b9.size
  have S5_10 := Nat.le_trans (S5_9) b10.size
  have S5_11 := Nat.le_trans (S5_10) b11.size
  have S5_12 := Nat.le_trans (S5_11) b12.size
  have S5_13 := Nat.le_trans (S5_12) b13.size
  have S5_14 := Nat.le_trans (S5_13) b14.size
  have S5_15 := Nat.le_trans (S5_14) b15.size
  have S5_16 := Nat.le_trans (S5_15) b16.size
  have S5_17 := Nat.le_trans (S5_16) b17.size
  have D5_11 := D5_10.trans (b11.mono D5_10.size)
  have D5_12 := D5_11.trans (b12.mono D5_11.size)
  have D5_13 := D5_12.trans (b13.mono D5_12.size)
  have D5_14 := D5_13.trans (b14.mono D5_13.size)
  have D5_15 := D5_14.trans (b15.mono D5_14.size)
  have D5_16 := D5_15.trans (b16.mono D5_15.size)
  have D5_17 := D5_16.trans (b17.mono D5_16.size)
  have D5_18 := D5_17.trans (on18.below (S5_17))
  have D5_19 := D5_18.trans ((on19.below (S6_18)).mono (b6.size))
  have D5_20 := D5_19.trans ((on20.below (S7_19)).mono (S5_7))
  refine (eqI_t Ag0 As0 cg0 cs0 (pathOfR m0 xs1 xs2 xs3).1 _ (OI.ri Y34) (rs0.below D5_20)).mono ?_
  rintro e w21 ⟨rfl, b21⟩
  have bq35 := BoxC.below bq33 b21
  have q0 : w21.cell? ⟨w.heap.size, 0, none⟩ = some (.int .i64 m0.c) ∧ w21.cell? ⟨w.heap.size, 1, none⟩ = some (.int .i64 m0.d) ∧ w21.cell? ⟨w.heap.size, 2, none⟩ = some (.int .i64 m0.s) ∧ w21.cell? ⟨w.heap.size, 3, none⟩ = some (.int .i64 m0.a) ∧ w21.cell? ⟨w.heap.size, 4, none⟩ = some (.int .i64 m0.l) ∧ True := bq35
  go_wp2_with fail
  clear q0
  have S10_12 := Nat.le_trans (b11.size) b12.size
  have S10_13 := Nat.le_trans (S10_12) b13.size
  have S10_14 := Nat.le_trans (S10_13) b14.size
  have S10_15 := Nat.le_trans (S10_14) b15.size
  have S10_16 := Nat.le_trans (S10_15) b16.size
  have S10_17 := Nat.le_trans (S10_16) b17.size
  have S10_18 := Nat.le_trans (S10_17) on18.size
  have S10_19 := Nat.le_trans (S10_18) on19.size
  have S10_20 := Nat.le_trans (S10_19) on20.size
  have Y36 := Y34.below (b21.mono (S10_20))
  refine (markI_t (.slice Ag0 (pathOfR m0 xs1 xs2 xs3).1.length cg0) (pathOfR m0 xs1 xs2 xs3).1 _ _ _ _ Y36 (by omega) (by omega) (by omega)).mono ?_
  rintro e w22 ⟨rfl, Y37, on22⟩
  have S0_8 := Nat.le_trans (S0_7) b8.size
  have S0_9 := Nat.le_trans (S0_8) b9.size
  have bq38 := BoxC.only bq35 on22 (Or.inl (Nat.lt_of_lt_of_le (by simp only [World.size_alloc]; omega) (S0_9)))
  have q0 : w22.cell? ⟨w.heap.size, 0, none⟩ = some (.int .i64 m0.c) ∧ w22.cell? ⟨w.heap.size, 1, none⟩ = some (.int .i64 m0.d) ∧ w22.cell? ⟨w.heap.size, 2, none⟩ = some (.int .i64 m0.s) ∧ w22.cell? ⟨w.heap.size, 3, none⟩ = some (.int .i64 m0.a) ∧ w22.cell? ⟨w.heap.size, 4, none⟩ = some (.int .i64 m0.l) ∧ True := bq38
  go_wp2_with fail
  clear q0
  refine (heldI_t Ag0 cg0 (pathOfR m0 xs1 xs2 xs3).1.length _ _ (OI.ri Y37) (by omega) (by omega) (by omega)).mono ?_
  rintro e w23 ⟨rfl, b23⟩
  have bq39 := BoxC.below bq38 b23
  have q0 : w23.cell? ⟨w.heap.size, 0, none⟩ = some (.int .i64 m0.c) ∧ w23.cell? ⟨w.heap.size, 1, none⟩ = some (.int .i64 m0.d) ∧ w23.cell? ⟨w.heap.size, 2, none⟩ = some (.int .i64 m0.s) ∧ w23.cell? ⟨w.heap.size, 3, none⟩ = some (.int .i64 m0.a) ∧ w23.cell? ⟨w.heap.size, 4, none⟩ = some (.int .i64 m0.l) ∧ True := bq39
  go_wp2_with fail
  clear q0
  refine (toM m0.c m0.d m0.s m0.a m0.l _).mono ?_
  rintro e w24 ⟨rfl, b24⟩
  have bq40 := BoxC.below bq39 b24
  have q0 : w24.cell? ⟨w.heap.size, 0, none⟩ = some (.int .i64 m0.c) ∧ w24.cell? ⟨w.heap.size, 1, none⟩ = some (.int .i64 m0.d) ∧ w24.cell? ⟨w.heap.size, 2, none⟩ = some (.int .i64 m0.s) ∧ w24.cell? ⟨w.heap.size, 3, none⟩ = some (.int .i64 m0.a) ∧ w24.cell? ⟨w.heap.size, 4, none⟩ = some (.int .i64 m0.l) ∧ True := bq40
  go_wp2_with fail
  clear q0
  have S9_11 := Nat.le_trans (b10.size) b11.size
  have S9_12 := Nat.le_trans (S9_11) b12.size
  have S9_13 := Nat.le_trans (S9_12) b13.size
  have S9_14 := Nat.le_trans (S9_13) b14.size
  have S9_15 := Nat.le_trans (S9_14) b15.size
  have S9_16 := Nat.le_trans (S9_15) b16.size
  have S9_17 := Nat.le_trans (S9_16) b17.size
  have S9_18 := Nat.le_trans (S9_17) on18.size
  have S9_19 := Nat.le_trans (S9_18) on19.size
  have S9_20 := Nat.le_trans (S9_19) on20.size
  have S9_21 := Nat.le_trans (S9_20) b21.size
  have D0_16 := D0_15.trans (b16.mono D0_15.size)
  have D0_17 := D0_16.trans (b17.mono D0_16.size)
  have D0_18 := D0_17.trans ((on18.below (S5_17)).mono (S0_5))
  have D0_19 := D0_18.trans ((on19.below (S6_18)).mono (S0_6))
  have D0_20 := D0_19.trans ((on20.below (S7_19)).mono (S0_7))
  have D0_21 := D0_20.trans (b21.mono D0_20.size)
  have D0_22 := D0_21.trans ((on22.below (S9_21)).mono (S0_9))
  have D0_23 := D0_22.trans (b23.mono D0_22.size)
  have D0_24 := D0_23.trans (b24.mono D0_23.size)
  refine (toI A1 c1 xs1 _ (Rxs1.below D0_24) z1).mono ?_
  rintro e w25 ⟨A1_25, c1_25, rfl, hc1_25, rA1_25, oA1_25, b25, _⟩
  have bq41 := BoxC.below bq40 b25
  have q0 : w25.cell? ⟨w.heap.size, 0, none⟩ = some (.int .i64 m0.c) ∧ w25.cell? ⟨w.heap.size, 1, none⟩ = some (.int .i64 m0.d) ∧ w25.cell? ⟨w.heap.size, 2, none⟩ = some (.int .i64 m0.s) ∧ w25.cell? ⟨w.heap.size, 3, none⟩ = some (.int .i64 m0.a) ∧ w25.cell? ⟨w.heap.size, 4, none⟩ = some (.int .i64 m0.l) ∧ True := bq41
  go_wp2_with fail
  clear q0
  have D0_25 := D0_24.trans (b25.mono D0_24.size)
  refine (toI A2 c2 xs2 _ (Rxs2.below D0_25) z2).mono ?_
  rintro e w26 ⟨A2_26, c2_26, rfl, hc2_26, rA2_26, oA2_26, b26, _⟩
  have bq42 := BoxC.below bq41 b26
  have q0 : w26.cell? ⟨w.heap.size, 0, none⟩ = some (.int .i64 m0.c) ∧ w26.cell? ⟨w.heap.size, 1, none⟩ = some (.int .i64 m0.d) ∧ w26.cell? ⟨w.heap.size, 2, none⟩ = some (.int .i64 m0.s) ∧ w26.cell? ⟨w.heap.size, 3, none⟩ = some (.int .i64 m0.a) ∧ w26.cell? ⟨w.heap.size, 4, none⟩ = some (.int .i64 m0.l) ∧ True := bq42
  go_wp2_with fail
  clear q0
  have D0_26 := D0_25.trans (b26.mono D0_25.size)
  refine (toI A3 c3 xs3 _ (Rxs3.below D0_26) z3).mono ?_
  rintro e w27 ⟨A3_27, c3_27, rfl, hc3_27, rA3_27, oA3_27, b27, _⟩
  have bq43 := BoxC.below bq42 b27
  have q0 : w27.cell? ⟨w.heap.size, 0, none⟩ = some (.int .i64 m0.c) ∧ w27.cell? ⟨w.heap.size, 1, none⟩ = some (.int .i64 m0.d) ∧ w27.cell? ⟨w.heap.size, 2, none⟩ = some (.int .i64 m0.s) ∧ w27.cell? ⟨w.heap.size, 3, none⟩ = some (.int .i64 m0.a) ∧ w27.cell? ⟨w.heap.size, 4, none⟩ = some (.int .i64 m0.l) ∧ True := bq43
  go_wp2_with fail
  clear q0
  have D25_27 := b26.trans (b27.mono b26.size)
  refine (implPathOf_any m0 A1_25 c1_25 xs1 A2_26 c2_26 xs2 A3_27 c3_27 xs3 _ (rA1_25.below D25_27) (rA2_26.below b27) rA3_27).mono ?_
  rintro e w28 ⟨Ah0, ch0, rfl, hch0, rh0, oh0, b28⟩
  have bq44 := BoxC.below bq43 b28
  have q0 : w28.cell? ⟨w.heap.size, 0, none⟩ = some (.int .i64 m0.c) ∧ w28.cell? ⟨w.heap.size, 1, none⟩ = some (.int .i64 m0.d) ∧ w28.cell? ⟨w.heap.size, 2, none⟩ = some (.int .i64 m0.s) ∧ w28.cell? ⟨w.heap.size, 3, none⟩ = some (.int .i64 m0.a) ∧ w28.cell? ⟨w.heap.size, 4, none⟩ = some (.int .i64 m0.l) ∧ True := bq44
  go_wp2_with fail
  clear q0
  have D5_21 := D5_20.trans (b21.mono D5_20.size)
  have D5_22 := D5_21.trans ((on22.below (S9_21)).mono (S5_9))
  have D5_23 := D5_22.trans (b23.mono D5_22.size)
  have D5_24 := D5_23.trans (b24.mono D5_23.size)
  have D5_25 := D5_24.trans (b25.mono D5_24.size)
  have D5_26 := D5_25.trans (b26.mono D5_25.size)
  have D5_27 := D5_26.trans (b27.mono D5_26.size)
  have D5_28 := D5_27.trans (b28.mono D5_27.size)
  refine (eqI_t Ah0 As0 ch0 cs0 (pathOfR m0 xs1 xs2 xs3).1 _ rh0 (rs0.below D5_28)).mono ?_
  rintro e w29 ⟨rfl, b29⟩
  have bq45 := BoxC.below bq44 b29
  have q0 : w29.cell? ⟨w.heap.size, 0, none⟩ = some (.int .i64 m0.c) ∧ w29.cell? ⟨w.heap.size, 1, none⟩ = some (.int .i64 m0.d) ∧ w29.cell? ⟨w.heap.size, 2, none⟩ = some (.int .i64 m0.s) ∧ w29.cell? ⟨w.heap.size, 3, none⟩ = some (.int .i64 m0.a) ∧ w29.cell? ⟨w.heap.size, 4, none⟩ = some (.int .i64 m0.l) ∧ True := bq45
  go_wp2_with fail
  clear q0
  have D22_24 := b23.trans (b24.mono b23.size)
  have D22_25 := D22_24.trans (b25.mono D22_24.size)
  have D22_26 := D22_25.trans (b26.mono D22_25.size)
  have D22_27 := D22_26.trans (b27.mono D22_26.size)
  have D22_28 := D22_27.trans (b28.mono D22_27.size)
  have D22_29 := D22_28.trans (b29.mono D22_28.size)
  have S10_21 := Nat.le_trans (S10_20) b21.size
  have S10_22 := Nat.le_trans (S10_21) on22.size
  have Y46 := Y37.below (D22_29.mono (S10_22))
  refine (heldI_t Ag0 cg0 (pathOfR m0 xs1 xs2 xs3).1.length _ _ (OI.ri Y46) (by omega) (by omega) (by omega)).mono ?_
  rintro e w30 ⟨rfl, b30⟩
  have D0_27 := D0_26.trans (b27.mono D0_26.size)
  have D0_28 := D0_27.trans (b28.mono D0_27.size)
  have D0_29 := D0_28.trans (b29.mono D0_28.size)
  have D0_30 := D0_29.trans (b30.mono D0_29.size)
  have DD := D0_30
  have bq47 := BoxC.below bq45 b30
  have q0 : w30.cell? ⟨w.heap.size, 0, none⟩ = some (.int .i64 m0.c) ∧ w30.cell? ⟨w.heap.size, 1, none⟩ = some (.int .i64 m0.d) ∧ w30.cell? ⟨w.heap.size, 2, none⟩ = some (.int .i64 m0.s) ∧ w30.cell? ⟨w.heap.size, 3, none⟩ = some (.int .i64 m0.a) ∧ w30.cell? ⟨w.heap.size, 4, none⟩ = some (.int .i64 m0.l) ∧ True := bq47
  go_wp2_with fail
  go_ret
  exact ⟨rfl, HB0.trans (DD.mono HB0.size)⟩
end Go.Proofs.Ytlpkcjnifbdfdaa.fnExactPathOf
