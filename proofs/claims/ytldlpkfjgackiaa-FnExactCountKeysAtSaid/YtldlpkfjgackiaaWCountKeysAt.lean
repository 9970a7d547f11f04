/- The walk of the law FnExactCountKeysAt. -/
import Derived.Test.YtldlpkfjgackiaaFCountAtI
import Derived.Test.YtldlpkfjgackiaaHelp
namespace Go.Proofs.Ytldlpkfjgackiaa.fnExactCountKeysAt
set_option linter.unusedVariables false
open Go.RowKit
theorem specC (m : Mk) (A : Option Addr) (c : Nat) (ms : List Int) (B : Option Addr) (d : Nat) (ls : List Int) (D : Option Addr) (e : Nat) (ps : List Int) (w : World) (h : RI w A ms) (g : RI w B ls) (p : RI w D ps) :
    Calls Try.prog 14 #[.agg #[.int .i64 m.c, .int .i64 m.d, .int .i64 m.s, .int .i64 m.a, .int .i64 m.l], .slice A ms.length c, .slice B ls.length d, .slice D ps.length e] w (ResNC w (countAtR m ms ls ps)) := specCountKeysAt_any m A B D c d e ms ls ps w h g p
theorem implC (m : Mk) (A : Option Addr) (c : Nat) (ms : List Int) (B : Option Addr) (d : Nat) (ls : List Int) (D : Option Addr) (e : Nat) (ps : List Int) (w : World) (h : RI w A ms) (g : RI w B ls) (p : RI w D ps) (hcd : ls.length ≤ d) :
    Calls Try.prog 17 #[.agg #[.int .i64 m.c, .int .i64 m.d, .int .i64 m.s, .int .i64 m.a, .int .i64 m.l], .slice A ms.length c, .slice B ls.length d, .slice D ps.length e] w (ResNC w (countAtR m ms ls ps)) := implCountKeysAt_any m A B D c d e ms ls ps w h g p hcd
set_option maxRecDepth 100000 in
set_option maxHeartbeats 8000000 in
theorem walk (m0 : Mk) (A1 : Option Addr) (c1 : Nat) (xs1 : List Int) (A2 : Option Addr) (c2 : Nat) (xs2 : List Int) (A3 : Option Addr) (c3 : Nat) (xs3 : List Int) (w : World) (hc1 : xs1.length ≤ c1) (h1 : RI w A1 xs1) (hc2 : xs2.length ≤ c2) (h2 : RI w A2 xs2) (hc3 : xs3.length ≤ c3) (h3 : RI w A3 xs3) :
    Calls Try.prog 3 #[.agg #[.int .i64 m0.c, .int .i64 m0.d, .int .i64 m0.s, .int .i64 m0.a, .int .i64 m0.l], .slice A1 xs1.length c1, .slice A2 xs2.length c2, .slice A3 xs3.length c3] w fun e w' => e = .returned (.bool true) ∧ Below w.heap.size w w' := by
  have HB0 : Below w.heap.size w (w.alloc (.cells #[.int .i64 m0.c, .int .i64 m0.d, .int .i64 m0.s, .int .i64 m0.a, .int .i64 m0.l] 23)) := (Below.refl w.heap.size w).alloc (by exact Nat.le_refl _) _
  have bx0 : BoxC (w.alloc (.cells #[.int .i64 m0.c, .int .i64 m0.d, .int .i64 m0.s, .int .i64 m0.a, .int .i64 m0.l] 23)) (w.heap.size) 0 [.int .i64 m0.c, .int .i64 m0.d, .int .i64 m0.s, .int .i64 m0.a, .int .i64 m0.l] := by simp [BoxC, Go.World.cell?_alloc_at]
  have Rxs1 := (h1).alloc (.cells #[.int .i64 m0.c, .int .i64 m0.d, .int .i64 m0.s, .int .i64 m0.a, .int .i64 m0.l] 23)
  have Rxs2 := (h2).alloc (.cells #[.int .i64 m0.c, .int .i64 m0.d, .int .i64 m0.s, .int .i64 m0.a, .int .i64 m0.l] 23)
  have Rxs3 := (h3).alloc (.cells #[.int .i64 m0.c, .int .i64 m0.d, .int .i64 m0.s, .int .i64 m0.a, .int .i64 m0.l] 23)
  by_cases z1 : xs1.length ≤ 1048576
  case neg =>
    have i1 : (1048576 : Int) < (xs1.length : Int) := by omega
    go_enter Try.func3, Try.ntmps3
    go_wp2_with fail
    go_ret
    exact ⟨rfl, HB0⟩
  have i1 : ¬ ((1048576 : Int) < (xs1.length : Int)) := by omega
  by_cases z2 : xs2.length ≤ 1048576
  case neg =>
    have i2 : (1048576 : Int) < (xs2.length : Int) := by omega
    go_enter Try.func3, Try.ntmps3
    go_wp2_with fail
    go_ret
    exact ⟨rfl, HB0⟩
  have i2 : ¬ ((1048576 : Int) < (xs2.length : Int)) := by omega
  by_cases z3 : xs3.length ≤ 1048576
  case neg =>
    have i3 : (1048576 : Int) < (xs3.length : Int) := by omega
    go_enter Try.func3, Try.ntmps3
    go_wp2_with fail
    go_ret
    exact ⟨rfl, HB0⟩
  have i3 : ¬ ((1048576 : Int) < (xs3.length : Int)) := by omega
  go_enter Try.func3, Try.ntmps3
  have q0 : (w.alloc (.cells #[.int .i64 m0.c, .int .i64 m0.d, .int .i64 m0.s, .int .i64 m0.a, .int .i64 m0.l] 23)).cell? ⟨w.heap.size, 0, none⟩ = some (.int .i64 m0.c) ∧ (w.alloc (.cells #[.int .i64 m0.c, .int .i64 m0.d, .int .i64 m0.s, .int .i64 m0.a, .int .i64 m0.l] 23)).cell? ⟨w.heap.size, 1, none⟩ = some (.int .i64 m0.d) ∧ (w.alloc (.cells #[.int .i64 m0.c, .int .i64 m0.d, .int .i64 m0.s, .int .i64 m0.a, .int .i64 m0.l] 23)).cell? ⟨w.heap.size, 2, none⟩ = some (.int .i64 m0.s) ∧ (w.alloc (.cells #[.int .i64 m0.c, .int .i64 m0.d, .int .i64 m0.s, .int .i64 m0.a, .int .i64 m0.l] 23)).cell? ⟨w.heap.size, 3, none⟩ = some (.int .i64 m0.a) ∧ (w.alloc (.cells #[.int .i64 m0.c, .int .i64 m0.d, .int .i64 m0.s, .int .i64 m0.a, .int .i64 m0.l] 23)).cell? ⟨w.heap.size, 4, none⟩ = some (.int .i64 m0.l) ∧ True := bx0
  go_wp2_with fail
  clear q0
  refine (toM m0.c m0.d m0.s m0.a m0.l _).mono ?_
  rintro e w1 ⟨rfl, b1⟩
  have bq1 := BoxC.below bx0 b1
  have q0 : w1.cell? ⟨w.heap.size, 0, none⟩ = some (.int .i64 m0.c) ∧ w1.cell? ⟨w.heap.size, 1, none⟩ = some (.int .i64 m0.d) ∧ w1.cell? ⟨w.heap.size, 2, none⟩ = some (.int .i64 m0.s) ∧ w1.cell? ⟨w.heap.size, 3, none⟩ = some (.int .i64 m0.a) ∧ w1.cell? ⟨w.heap.size, 4, none⟩ = some (.int .i64 m0.l) ∧ True := bq1
  go_wp2_with fail
  clear q0
  refine (toI A1 c1 xs1 _ (Rxs1.below b1) z1).mono ?_
  rintro e w2 ⟨A1_2, c1_2, rfl, hc1_2, rA1_2, oA1_2, b2, _⟩
  have bq2 := BoxC.below bq1 b2
  have q0 : w2.cell? ⟨w.heap.size, 0, none⟩ = some (.int .i64 m0.c) ∧ w2.cell? ⟨w.heap.size, 1, none⟩ = some (.int .i64 m0.d) ∧ w2.cell? ⟨w.heap.size, 2, none⟩ = some (.int .i64 m0.s) ∧ w2.cell? ⟨w.heap.size, 3, none⟩ = some (.int .i64 m0.a) ∧ w2.cell? ⟨w.heap.size, 4, none⟩ = some (.int .i64 m0.l) ∧ True := bq2
  go_wp2_with fail
  clear q0
  have D0_2 := b1.trans (b2.mono b1.size)
  refine (toI A2 c2 xs2 _ (Rxs2.below D0_2) z2).mono ?_
  rintro e w3 ⟨A2_3, c2_3, rfl, hc2_3, rA2_3, oA2_3, b3, _⟩
  have bq3 := BoxC.below bq2 b3
  have q0 : w3.cell? ⟨w.heap.size, 0, none⟩ = some (.int .i64 m0.c) ∧ w3.cell? ⟨w.heap.size, 1, none⟩ = some (.int .i64 m0.d) ∧ w3.cell? ⟨w.heap.size, 2, none⟩ = some (.int .i64 m0.s) ∧ w3.cell? ⟨w.heap.size, 3, none⟩ = some (.int .i64 m0.a) ∧ w3.cell? ⟨w.heap.size, 4, none⟩ = some (.int .i64 m0.l) ∧ True := bq3
  go_wp2_with fail
  clear q0
  have D0_3 := D0_2.trans (b3.mono D0_2.size)
  refine (toI A3 c3 xs3 _ (Rxs3.below D0_3) z3).mono ?_
  rintro e w4 ⟨A3_4, c3_4, rfl, hc3_4, rA3_4, oA3_4, b4, _⟩
  have bq4 := BoxC.below bq3 b4
  have q0 : w4.cell? ⟨w.heap.size, 0, none⟩ = some (.int .i64 m0.c) ∧ w4.cell? ⟨w.heap.size, 1, none⟩ = some (.int .i64 m0.d) ∧ w4.cell? ⟨w.heap.size, 2, none⟩ = some (.int .i64 m0.s) ∧ w4.cell? ⟨w.heap.size, 3, none⟩ = some (.int .i64 m0.a) ∧ w4.cell? ⟨w.heap.size, 4, none⟩ = some (.int .i64 m0.l) ∧ True := bq4
  go_wp2_with fail
  clear q0
  have D2_4 := b3.trans (b4.mono b3.size)
  refine (specC m0 A1_2 c1_2 xs1 A2_3 c2_3 xs2 A3_4 c3_4 xs3 _ (rA1_2.below D2_4) (rA2_3.below b4) rA3_4).mono ?_
  rintro e w5 ⟨rfl, b5⟩
  have bq5 := BoxC.below bq4 b5
  have q0 : w5.cell? ⟨w.heap.size, 0, none⟩ = some (.int .i64 m0.c) ∧ w5.cell? ⟨w.heap.size, 1, none⟩ = some (.int .i64 m0.d) ∧ w5.cell? ⟨w.heap.size, 2, none⟩ = some (.int .i64 m0.s) ∧ w5.cell? ⟨w.heap.size, 3, none⟩ = some (.int .i64 m0.a) ∧ w5.cell? ⟨w.heap.size, 4, none⟩ = some (.int .i64 m0.l) ∧ True := bq5
  go_wp2_with fail
  clear q0
  have D0_4 := D0_3.trans (b4.mono D0_3.size)
  have D0_5 := D0_4.trans (b5.mono D0_4.size)
  refine (toI A1 c1 xs1 _ (Rxs1.below D0_5) z1).mono ?_
  rintro e w6 ⟨A1_6, c1_6, rfl, hc1_6, rA1_6, oA1_6, b6, _⟩
  have bq6 := BoxC.below bq5 b6
  have q0 : w6.cell? ⟨w.heap.size, 0, none⟩ = some (.int .i64 m0.c) ∧ w6.cell? ⟨w.heap.size, 1, none⟩ = some (.int .i64 m0.d) ∧ w6.cell? ⟨w.heap.size, 2, none⟩ = some (.int .i64 m0.s) ∧ w6.cell? ⟨w.heap.size, 3, none⟩ = some (.int .i64 m0.a) ∧ w6.cell? ⟨w.heap.size, 4, none⟩ = some (.int .i64 m0.l) ∧ True := bq6
  go_wp2_with fail
  clear q0
  have D0_6 := D0_5.trans (b6.mono D0_5.size)
  refine (toI A2 c2 xs2 _ (Rxs2.below D0_6) z2).mono ?_
  rintro e w7 ⟨A2_7, c2_7, rfl, hc2_7, rA2_7, oA2_7, b7, _⟩
  have bq7 := BoxC.below bq6 b7
  have q0 : w7.cell? ⟨w.heap.size, 0, none⟩ = some (.int .i64 m0.c) ∧ w7.cell? ⟨w.heap.size, 1, none⟩ = some (.int .i64 m0.d) ∧ w7.cell? ⟨w.heap.size, 2, none⟩ = some (.int .i64 m0.s) ∧ w7.cell? ⟨w.heap.size, 3, none⟩ = some (.int .i64 m0.a) ∧ w7.cell? ⟨w.heap.size, 4, none⟩ = some (.int .i64 m0.l) ∧ True := bq7
  go_wp2_with fail
  clear q0
  have D0_7 := D0_6.trans (b7.mono D0_6.size)
  refine (toI A3 c3 xs3 _ (Rxs3.below D0_7) z3).mono ?_
  rintro e w8 ⟨A3_8, c3_8, rfl, hc3_8, rA3_8, oA3_8, b8, _⟩
  have bq8 := BoxC.below bq7 b8
  have q0 : w8.cell? ⟨w.heap.size, 0, none⟩ = some (.int .i64 m0.c) ∧ w8.cell? ⟨w.heap.size, 1, none⟩ = some (.int .i64 m0.d) ∧ w8.cell? ⟨w.heap.size, 2, none⟩ = some (.int .i64 m0.s) ∧ w8.cell? ⟨w.heap.size, 3, none⟩ = some (.int .i64 m0.a) ∧ w8.cell? ⟨w.heap.size, 4, none⟩ = some (.int .i64 m0.l) ∧ True := bq8
  go_wp2_with fail
  clear q0
  refine (toM m0.c m0.d m0.s m0.a m0.l _).mono ?_
  rintro e w9 ⟨rfl, b9⟩
  have bq9 := BoxC.below bq8 b9
  have q0 : w9.cell? ⟨w.heap.size, 0, none⟩ = some (.int .i64 m0.c) ∧ w9.cell? ⟨w.heap.size, 1, none⟩ = some (.int .i64 m0.d) ∧ w9.cell? ⟨w.heap.size, 2, none⟩ = some (.int .i64 m0.s) ∧ w9.cell? ⟨w.heap.size, 3, none⟩ = some (.int .i64 m0.a) ∧ w9.cell? ⟨w.heap.size, 4, none⟩ = some (.int .i64 m0.l) ∧ True := bq9
  go_wp2_with fail
  clear q0
  have D6_8 := b7.trans (b8.mono b7.size)
  have D6_9 := D6_8.trans (b9.mono D6_8.size)
  have D7_9 := b8.trans (b9.mono b8.size)
  refine (implC m0 A1_6 c1_6 xs1 A2_7 c2_7 xs2 A3_8 c3_8 xs3 _ (rA1_6.below D6_9) (rA2_7.below D7_9) (rA3_8.below b9) hc2_7).mono ?_
  rintro e w10 ⟨rfl, b10⟩
  have bq10 := BoxC.below bq9 b10
  have q0 : w10.cell? ⟨w.heap.size, 0, none⟩ = some (.int .i64 m0.c) ∧ w10.cell? ⟨w.heap.size, 1, none⟩ = some (.int .i64 m0.d) ∧ w10.cell? ⟨w.heap.size, 2, none⟩ = some (.int .i64 m0.s) ∧ w10.cell? ⟨w.heap.size, 3, none⟩ = some (.int .i64 m0.a) ∧ w10.cell? ⟨w.heap.size, 4, none⟩ = some (.int .i64 m0.l) ∧ True := bq10
  go_wp2_with fail
  clear q0
  have D0_8 := D0_7.trans (b8.mono D0_7.size)
  have D0_9 := D0_8.trans (b9.mono D0_8.size)
  have D0_10 := D0_9.trans (b10.mono D0_9.size)
  refine (toI A1 c1 xs1 _ (Rxs1.below D0_10) z1).mono ?_
  rintro e w11 ⟨A1_11, c1_11, rfl, hc1_11, rA1_11, oA1_11, b11, _⟩
  have bq11 := BoxC.below bq10 b11
  have q0 : w11.cell? ⟨w.heap.size, 0, none⟩ = some (.int .i64 m0.c) ∧ w11.cell? ⟨w.heap.size, 1, none⟩ = some (.int .i64 m0.d) ∧ w11.cell? ⟨w.heap.size, 2, none⟩ = some (.int .i64 m0.s) ∧ w11.cell? ⟨w.heap.size, 3, none⟩ = some (.int .i64 m0.a) ∧ w11.cell? ⟨w.heap.size, 4, none⟩ = some (.int .i64 m0.l) ∧ True := bq11
  go_wp2_with fail
  clear q0
  have D6_10 := D6_9.trans (b10.mono D6_9.size)
  have D6_11 := D6_10.trans (b11.mono D6_10.size)
  refine (eqI_t A1_6 A1_11 c1_6 c1_11 xs1 _ (rA1_6.below D6_11) rA1_11).mono ?_
  rintro e w12 ⟨rfl, b12⟩
  have bq12 := BoxC.below bq11 b12
  have q0 : w12.cell? ⟨w.heap.size, 0, none⟩ = some (.int .i64 m0.c) ∧ w12.cell? ⟨w.heap.size, 1, none⟩ = some (.int .i64 m0.d) ∧ w12.cell? ⟨w.heap.size, 2, none⟩ = some (.int .i64 m0.s) ∧ w12.cell? ⟨w.heap.size, 3, none⟩ = some (.int .i64 m0.a) ∧ w12.cell? ⟨w.heap.size, 4, none⟩ = some (.int .i64 m0.l) ∧ True := bq12
  go_wp2_with fail
  clear q0
  have D0_11 := D0_10.trans (b11.mono D0_10.size)
  have D0_12 := D0_11.trans (b12.mono D0_11.size)
  refine (toI A2 c2 xs2 _ (Rxs2.below D0_12) z2).mono ?_
  rintro e w13 ⟨A2_13, c2_13, rfl, hc2_13, rA2_13, oA2_13, b13, _⟩
  have bq13 := BoxC.below bq12 b13
  have q0 : w13.cell? ⟨w.heap.size, 0, none⟩ = some (.int .i64 m0.c) ∧ w13.cell? ⟨w.heap.size, 1, none⟩ = some (.int .i64 m0.d) ∧ w13.cell? ⟨w.heap.size, 2, none⟩ = some (.int .i64 m0.s) ∧ w13.cell? ⟨w.heap.size, 3, none⟩ = some (.int .i64 m0.a) ∧ w13.cell? ⟨w.heap.size, 4, none⟩ = some (.int .i64 m0.l) ∧ True := bq13
  go_wp2_with fail
  clear q0
  have D7_10 := D7_9.trans (b10.mono D7_9.size)
  have D7_11 := D7_10.trans (b11.mono D7_10.size)
  have D7_12 := D7_11.trans (b12.mono D7_11.size)
  have D7_13 := D7_12.trans (b13.mono D7_12.size)
  refine (eqI_t A2_7 A2_13 c2_7 c2_13 xs2 _ (rA2_7.below D7_13) rA2_13).mono ?_
  rintro e w14 ⟨rfl, b14⟩
  have bq14 := BoxC.below bq13 b14
  have q0 : w14.cell? ⟨w.heap.size, 0, none⟩ = some (.int .i64 m0.c) ∧ w14.cell? ⟨w.heap.size, 1, none⟩ = some (.int .i64 m0.d) ∧ w14.cell? ⟨w.heap.size, 2, none⟩ = some (.int .i64 m0.s) ∧ w14.cell? ⟨w.heap.size, 3, none⟩ = some (.int .i64 m0.a) ∧ w14.cell? ⟨w.heap.size, 4, none⟩ = some (.int .i64 m0.l) ∧ True := bq14
  go_wp2_with fail
  clear q0
  have D0_13 := D0_12.trans (b13.mono D0_12.size)
  have D0_14 := D0_13.trans (b14.mono D0_13.size)
  refine (toI A3 c3 xs3 _ (Rxs3.below D0_14) z3).mono ?_
  rintro e w15 ⟨A3_15, c3_15, rfl, hc3_15, rA3_15, oA3_15, b15, _⟩
  have bq15 := BoxC.below bq14 b15
  have q0 : w15.cell? ⟨w.heap.size, 0, none⟩ = some (.int .i64 m0.c) ∧ w15.cell? ⟨w.heap.size, 1, none⟩ = some (.int .i64 m0.d) ∧ w15.cell? ⟨w.heap.size, 2, none⟩ = some (.int .i64 m0.s) ∧ w15.cell? ⟨w.heap.size, 3, none⟩ = some (.int .i64 m0.a) ∧ w15.cell? ⟨w.heap.size, 4, none⟩ = some (.int .i64 m0.l) ∧ True := bq15
  go_wp2_with fail
  clear q0
  have D8_10 := b9.trans (b10.mono b9.size)
  have D8_11 := D8_10.trans (b11.mono D8_10.size)
  have D8_12 := D8_11.trans (b12.mono D8_11.size)
  have D8_13 := D8_12.trans (b13.mono D8_12.size)
  have D8_14 := D8_13.trans (b14.mono D8_13.size)
  have D8_15 := D8_14.trans (b15.mono D8_14.size)
  refine (eqI_t A3_8 A3_15 c3_8 c3_15 xs3 _ (rA3_8.below D8_15) rA3_15).mono ?_
  rintro e w16 ⟨rfl, b16⟩
  have D0_15 := D0_14.trans (b15.mono D0_14.size)
  have D0_16 := D0_15.trans (b16.mono D0_15.size)
  have DD := D0_16
  have bq16 := BoxC.below bq15 b16
  have q0 : w16.cell? ⟨w.heap.size, 0, none⟩ = some (.int .i64 m0.c) ∧ w16.cell? ⟨w.heap.size, 1, none⟩ = some (.int .i64 m0.d) ∧ w16.cell? ⟨w.heap.size, 2, none⟩ = some (.int .i64 m0.s) ∧ w16.cell? ⟨w.heap.size, 3, none⟩ = some (.int .i64 m0.a) ∧ w16.cell? ⟨w.heap.size, 4, none⟩ = some (.int .i64 m0.l) ∧ True := bq16
  go_wp2_with fail
  go_ret
  exact ⟨rfl, HB0.trans (DD.mono HB0.size)⟩
end Go.Proofs.Ytldlpkfjgackiaa.fnExactCountKeysAt
