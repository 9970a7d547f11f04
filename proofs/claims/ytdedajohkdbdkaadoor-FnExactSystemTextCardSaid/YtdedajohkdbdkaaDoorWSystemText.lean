/- The walk of the law FnExactSystemText. -/
import Derived.Test.YtdedajohkdbdkaaDoorFSysText
import Derived.Test.YtdedajohkdbdkaaDoorHelpS
namespace Go.Proofs.YtdedajohkdbdkaaDoor.fnExactSystemText
set_option linter.unusedVariables false
open Go.RowKit
set_option maxRecDepth 100000 in
set_option maxHeartbeats 8000000 in
theorem walk (m0 : Mk) (A0 : Option Addr) (c0 : Nat) (xs0 : List (List Int)) (A1 : Option Addr) (c1 : Nat) (xs1 : List (List Int)) (w : World) (hc0 : xs0.length ≤ c0) (h0 : RII w A0 xs0) (hc1 : xs1.length ≤ c1) (h1 : RII w A1 xs1) :
    Calls Tryd.prog 3 #[.agg #[.int .i64 m0.c, .int .i64 m0.d, .int .i64 m0.s, .int .i64 m0.a, .int .i64 m0.l, .slice A0 xs0.length c0], .slice A1 xs1.length c1] w fun e w' => e = .returned (.bool true) ∧ Below w.heap.size w w' := by
  have HB0 : Below w.heap.size w (w.alloc (.cells #[.int .i64 m0.c, .int .i64 m0.d, .int .i64 m0.s, .int .i64 m0.a, .int .i64 m0.l, .slice A0 xs0.length c0] 26)) := (Below.refl w.heap.size w).alloc (by exact Nat.le_refl _) _
  have bx0 : BoxC (w.alloc (.cells #[.int .i64 m0.c, .int .i64 m0.d, .int .i64 m0.s, .int .i64 m0.a, .int .i64 m0.l, .slice A0 xs0.length c0] 26)) (w.heap.size) 0 [.int .i64 m0.c, .int .i64 m0.d, .int .i64 m0.s, .int .i64 m0.a, .int .i64 m0.l, .slice A0 xs0.length c0] := by simp [BoxC, Go.World.cell?_alloc_at]
  have Rxs0 := (h0).alloc (.cells #[.int .i64 m0.c, .int .i64 m0.d, .int .i64 m0.s, .int .i64 m0.a, .int .i64 m0.l, .slice A0 xs0.length c0] 26)
  have Rxs1 := (h1).alloc (.cells #[.int .i64 m0.c, .int .i64 m0.d, .int .i64 m0.s, .int .i64 m0.a, .int .i64 m0.l, .slice A0 xs0.length c0] 26)
  go_enter Tryd.func3, Tryd.ntmps3
  have q0 : (w.alloc (.cells #[.int .i64 m0.c, .int .i64 m0.d, .int .i64 m0.s, .int .i64 m0.a, .int .i64 m0.l, .slice A0 xs0.length c0] 26)).cell? ⟨w.heap.size, 0, none⟩ = some (.int .i64 m0.c) ∧ (w.alloc (.cells #[.int .i64 m0.c, .int .i64 m0.d, .int .i64 m0.s, .int .i64 m0.a, .int .i64 m0.l, .slice A0 xs0.length c0] 26)).cell? ⟨w.heap.size, 1, none⟩ = some (.int .i64 m0.d) ∧ (w.alloc (.cells #[.int .i64 m0.c, .int .i64 m0.d, .int .i64 m0.s, .int .i64 m0.a, .int .i64 m0.l, .slice A0 xs0.length c0] 26)).cell? ⟨w.heap.size, 2, none⟩ = some (.int .i64 m0.s) ∧ (w.alloc (.cells #[.int .i64 m0.c, .int .i64 m0.d, .int .i64 m0.s, .int .i64 m0.a, .int .i64 m0.l, .slice A0 xs0.length c0] 26)).cell? ⟨w.heap.size, 3, none⟩ = some (.int .i64 m0.a) ∧ (w.alloc (.cells #[.int .i64 m0.c, .int .i64 m0.d, .int .i64 m0.s, .int .i64 m0.a, .int .i64 m0.l, .slice A0 xs0.length c0] 26)).cell? ⟨w.heap.size, 4, none⟩ = some (.int .i64 m0.l) ∧ (w.alloc (.cells #[.int .i64 m0.c, .int .i64 m0.d, .int .i64 m0.s, .int .i64 m0.a, .int .i64 m0.l, .slice A0 xs0.length c0] 26)).cell? ⟨w.heap.size, 5, none⟩ = some (.slice A0 xs0.length c0) ∧ True := bx0
  go_wp2_with fail
  clear q0
  refine (szS m0 A0 c0 xs0 _ _ Rxs0 (by omega) (by omega)).mono ?_
  rintro e w1 ⟨r0, rfl, hL0, b1, hm0⟩
  by_cases hz0 : r0 < 0
  case pos =>
    go_wp2_with fail
    go_ret
    exact ⟨rfl, HB0.trans (b1.mono HB0.size)⟩
  have hL02 := hL0.2 (by omega)
  have hL01 := hL0.1
  have zxs0 : xs0.length ≤ 1048576 ∧ sumLen xs0 ≤ 1048576 := by omega
  have zzxs0 : ∀ k (hk : k < xs0.length), xs0[k].length ≤ 1048576 := fun k hk => by have := mem_sumLen hk; omega
  have zt0 : (xs0.length + sumLen xs0 : Nat) + r0 ≤ 1048576 := by omega
  have Hz0 := Lib.hid hL02; clear hL02 hL0
  have bq1 := BoxC.below bx0 b1
  have q0 : w1.cell? ⟨w.heap.size, 0, none⟩ = some (.int .i64 m0.c) ∧ w1.cell? ⟨w.heap.size, 1, none⟩ = some (.int .i64 m0.d) ∧ w1.cell? ⟨w.heap.size, 2, none⟩ = some (.int .i64 m0.s) ∧ w1.cell? ⟨w.heap.size, 3, none⟩ = some (.int .i64 m0.a) ∧ w1.cell? ⟨w.heap.size, 4, none⟩ = some (.int .i64 m0.l) ∧ w1.cell? ⟨w.heap.size, 5, none⟩ = some (.slice A0 xs0.length c0) ∧ True := bq1
  go_wp2_with fail
  clear q0
  refine (szII_b A1 c1 xs1 _ _ (Rxs1.below b1) (by omega) (by omega)).mono ?_
  rintro e w2 ⟨r1, rfl, hL1, b2, hm1⟩
  have D0_2 := b1.trans (b2.mono b1.size)
  by_cases hz1 : r1 < 0
  case pos =>
    go_wp2_with fail
    go_ret
    exact ⟨rfl, HB0.trans (D0_2.mono HB0.size)⟩
  have hL12 := hL1.2 (by omega)
  have hL11 := hL1.1
  have zxs1 : xs1.length ≤ 1048576 ∧ sumLen xs1 ≤ 1048576 := by omega
  have zzxs1 : ∀ k (hk : k < xs1.length), xs1[k].length ≤ 1048576 := fun k hk => by have := mem_sumLen hk; omega
  have zt1 : (xs0.length + sumLen xs0 : Nat) + (xs1.length + sumLen xs1 : Nat) + r1 ≤ 1048576 := by omega
  have Hz1 := Lib.hid hL12; clear hL12 hL1
  have bq2 := BoxC.below bq1 b2
  have q0 : w2.cell? ⟨w.heap.size, 0, none⟩ = some (.int .i64 m0.c) ∧ w2.cell? ⟨w.heap.size, 1, none⟩ = some (.int .i64 m0.d) ∧ w2.cell? ⟨w.heap.size, 2, none⟩ = some (.int .i64 m0.s) ∧ w2.cell? ⟨w.heap.size, 3, none⟩ = some (.int .i64 m0.a) ∧ w2.cell? ⟨w.heap.size, 4, none⟩ = some (.int .i64 m0.l) ∧ w2.cell? ⟨w.heap.size, 5, none⟩ = some (.slice A0 xs0.length c0) ∧ True := bq2
  go_wp2_with fail
  clear q0
  refine (toS m0 A0 c0 xs0 _ (Rxs0.below D0_2) zxs0.1 zzxs0).mono ?_
  rintro e w3 ⟨A0_3, c0_3, rfl, hc0_3, rA0_3, oA0_3, b3⟩
  have bq3 := BoxC.below bq2 b3
  have q0 : w3.cell? ⟨w.heap.size, 0, none⟩ = some (.int .i64 m0.c) ∧ w3.cell? ⟨w.heap.size, 1, none⟩ = some (.int .i64 m0.d) ∧ w3.cell? ⟨w.heap.size, 2, none⟩ = some (.int .i64 m0.s) ∧ w3.cell? ⟨w.heap.size, 3, none⟩ = some (.int .i64 m0.a) ∧ w3.cell? ⟨w.heap.size, 4, none⟩ = some (.int .i64 m0.l) ∧ w3.cell? ⟨w.heap.size, 5, none⟩ = some (.slice A0 xs0.length c0) ∧ True := bq3
  go_wp2_with fail
  clear q0
  have D0_3 := D0_2.trans (b3.mono D0_2.size)
  refine (toII A1 c1 xs1 _ (Rxs1.below D0_3) zxs1.1 zzxs1).mono ?_
  rintro e w4 ⟨A1_4, c1_4, rfl, hc1_4, rA1_4, oA1_4, b4⟩
  have bq4 := BoxC.below bq3 b4
  have q0 : w4.cell? ⟨w.heap.size, 0, none⟩ = some (.int .i64 m0.c) ∧ w4.cell? ⟨w.heap.size, 1, none⟩ = some (.int .i64 m0.d) ∧ w4.cell? ⟨w.heap.size, 2, none⟩ = some (.int .i64 m0.s) ∧ w4.cell? ⟨w.heap.size, 3, none⟩ = some (.int .i64 m0.a) ∧ w4.cell? ⟨w.heap.size, 4, none⟩ = some (.int .i64 m0.l) ∧ w4.cell? ⟨w.heap.size, 5, none⟩ = some (.slice A0 xs0.length c0) ∧ True := bq4
  go_wp2_with fail
  clear q0
  refine (specSystemText_any m0 A0_3 c0_3 xs0 A1_4 c1_4 xs1 _ (rA0_3.below b4) rA1_4).mono ?_
  rintro e w5 ⟨rfl, b5⟩
  have bq5 := BoxC.below bq4 b5
  have q0 : w5.cell? ⟨w.heap.size, 0, none⟩ = some (.int .i64 m0.c) ∧ w5.cell? ⟨w.heap.size, 1, none⟩ = some (.int .i64 m0.d) ∧ w5.cell? ⟨w.heap.size, 2, none⟩ = some (.int .i64 m0.s) ∧ w5.cell? ⟨w.heap.size, 3, none⟩ = some (.int .i64 m0.a) ∧ w5.cell? ⟨w.heap.size, 4, none⟩ = some (.int .i64 m0.l) ∧ w5.cell? ⟨w.heap.size, 5, none⟩ = some (.slice A0 xs0.length c0) ∧ True := bq5
  go_wp2_with fail
  clear q0
  have D0_4 := D0_3.trans (b4.mono D0_3.size)
  have D0_5 := D0_4.trans (b5.mono D0_4.size)
  refine (toS m0 A0 c0 xs0 _ (Rxs0.below D0_5) zxs0.1 zzxs0).mono ?_
  rintro e w6 ⟨A0_6, c0_6, rfl, hc0_6, rA0_6, oA0_6, b6⟩
  have b7 : Below w6.heap.size w6 (w6.alloc (.cells #[.int .i64 m0.c, .int .i64 m0.d, .int .i64 m0.s, .int .i64 m0.a, .int .i64 m0.l, .slice A0_6 xs0.length c0_6] 33)) := (Below.refl _ _).alloc (Nat.le_refl _) _
  have bq6 : BoxC (w6.alloc (.cells #[.int .i64 m0.c, .int .i64 m0.d, .int .i64 m0.s, .int .i64 m0.a, .int .i64 m0.l, .slice A0_6 xs0.length c0_6] 33)) (w6.heap.size) 0 [.int .i64 m0.c, .int .i64 m0.d, .int .i64 m0.s, .int .i64 m0.a, .int .i64 m0.l, .slice A0_6 xs0.length c0_6] := by simp [BoxC, Go.World.cell?_alloc_at]
  have D5_7 := b6.trans (b7.mono b6.size)
  have bq7 := BoxC.below bq5 D5_7
  have q0 : (w6.alloc (.cells #[.int .i64 m0.c, .int .i64 m0.d, .int .i64 m0.s, .int .i64 m0.a, .int .i64 m0.l, .slice A0_6 xs0.length c0_6] 33)).cell? ⟨w.heap.size, 0, none⟩ = some (.int .i64 m0.c) ∧ (w6.alloc (.cells #[.int .i64 m0.c, .int .i64 m0.d, .int .i64 m0.s, .int .i64 m0.a, .int .i64 m0.l, .slice A0_6 xs0.length c0_6] 33)).cell? ⟨w.heap.size, 1, none⟩ = some (.int .i64 m0.d) ∧ (w6.alloc (.cells #[.int .i64 m0.c, .int .i64 m0.d, .int .i64 m0.s, .int .i64 m0.a, .int .i64 m0.l, .slice A0_6 xs0.length c0_6] 33)).cell? ⟨w.heap.size, 2, none⟩ = some (.int .i64 m0.s) ∧ (w6.alloc (.cells #[.int .i64 m0.c, .int .i64 m0.d, .int .i64 m0.s, .int .i64 m0.a, .int .i64 m0.l, .slice A0_6 xs0.length c0_6] 33)).cell? ⟨w.heap.size, 3, none⟩ = some (.int .i64 m0.a) ∧ (w6.alloc (.cells #[.int .i64 m0.c, .int .i64 m0.d, .int .i64 m0.s, .int .i64 m0.a, .int .i64 m0.l, .slice A0_6 xs0.length c0_6] 33)).cell? ⟨w.heap.size, 4, none⟩ = some (.int .i64 m0.l) ∧ (w6.alloc (.cells #[.int .i64 m0.c, .int .i64 m0.d, .int .i64 m0.s, .int .i64 m0.a, .int .i64 m0.l, .slice A0_6 xs0.length c0_6] 33)).cell? ⟨w.heap.size, 5, none⟩ = some (.slice A0 xs0.length c0) ∧ True := bq7
  have q1 : (w6.alloc (.cells #[.int .i64 m0.c, .int .i64 m0.d, .int .i64 m0.s, .int .i64 m0.a, .int .i64 m0.l, .slice A0_6 xs0.length c0_6] 33)).cell? ⟨w6.heap.size, 0, none⟩ = some (.int .i64 m0.c) ∧ (w6.alloc (.cells #[.int .i64 m0.c, .int .i64 m0.d, .int .i64 m0.s, .int .i64 m0.a, .int .i64 m0.l, .slice A0_6 xs0.length c0_6] 33)).cell? ⟨w6.heap.size, 1, none⟩ = some (.int .i64 m0.d) ∧ (w6.alloc (.cells #[.int .i64 m0.c, .int .i64 m0.d, .int .i64 m0.s, .int .i64 m0.a, .int .i64 m0.l, .slice A0_6 xs0.length c0_6] 33)).cell? ⟨w6.heap.size, 2, none⟩ = some (.int .i64 m0.s) ∧ (w6.alloc (.cells #[.int .i64 m0.c, .int .i64 m0.d, .int .i64 m0.s, .int .i64 m0.a, .int .i64 m0.l, .slice A0_6 xs0.length c0_6] 33)).cell? ⟨w6.heap.size, 3, none⟩ = some (.int .i64 m0.a) ∧ (w6.alloc (.cells #[.int .i64 m0.c, .int .i64 m0.d, .int .i64 m0.s, .int .i64 m0.a, .int .i64 m0.l, .slice A0_6 xs0.length c0_6] 33)).cell? ⟨w6.heap.size, 4, none⟩ = some (.int .i64 m0.l) ∧ (w6.alloc (.cells #[.int .i64 m0.c, .int .i64 m0.d, .int .i64 m0.s, .int .i64 m0.a, .int .i64 m0.l, .slice A0_6 xs0.length c0_6] 33)).cell? ⟨w6.heap.size, 5, none⟩ = some (.slice A0_6 xs0.length c0_6) ∧ True := bq6
  go_wp2_with fail
  clear q0 q1
  have D0_6 := D0_5.trans (b6.mono D0_5.size)
  have D0_7 := D0_6.trans (b7.mono D0_6.size)
  refine (toII A1 c1 xs1 _ (Rxs1.below D0_7) zxs1.1 zzxs1).mono ?_
  rintro e w8 ⟨A1_8, c1_8, rfl, hc1_8, rA1_8, oA1_8, b8⟩
  have bq8 := BoxC.below bq7 b8
  have q0 : w8.cell? ⟨w.heap.size, 0, none⟩ = some (.int .i64 m0.c) ∧ w8.cell? ⟨w.heap.size, 1, none⟩ = some (.int .i64 m0.d) ∧ w8.cell? ⟨w.heap.size, 2, none⟩ = some (.int .i64 m0.s) ∧ w8.cell? ⟨w.heap.size, 3, none⟩ = some (.int .i64 m0.a) ∧ w8.cell? ⟨w.heap.size, 4, none⟩ = some (.int .i64 m0.l) ∧ w8.cell? ⟨w.heap.size, 5, none⟩ = some (.slice A0 xs0.length c0) ∧ True := bq8
  have bq9 := BoxC.below bq6 b8
  have q1 : w8.cell? ⟨w6.heap.size, 0, none⟩ = some (.int .i64 m0.c) ∧ w8.cell? ⟨w6.heap.size, 1, none⟩ = some (.int .i64 m0.d) ∧ w8.cell? ⟨w6.heap.size, 2, none⟩ = some (.int .i64 m0.s) ∧ w8.cell? ⟨w6.heap.size, 3, none⟩ = some (.int .i64 m0.a) ∧ w8.cell? ⟨w6.heap.size, 4, none⟩ = some (.int .i64 m0.l) ∧ w8.cell? ⟨w6.heap.size, 5, none⟩ = some (.slice A0_6 xs0.length c0_6) ∧ True := bq9
  go_wp2_with fail
  clear q0 q1
  have D6_8 := b7.trans (b8.mono b7.size)
  refine (implSystemText_any m0 A0_6 c0_6 xs0 A1_8 c1_8 xs1 _ (rA0_6.below D6_8) rA1_8).mono ?_
  rintro e w9 ⟨rfl, b9⟩
  have bq10 := BoxC.below bq8 b9
  have q0 : w9.cell? ⟨w.heap.size, 0, none⟩ = some (.int .i64 m0.c) ∧ w9.cell? ⟨w.heap.size, 1, none⟩ = some (.int .i64 m0.d) ∧ w9.cell? ⟨w.heap.size, 2, none⟩ = some (.int .i64 m0.s) ∧ w9.cell? ⟨w.heap.size, 3, none⟩ = some (.int .i64 m0.a) ∧ w9.cell? ⟨w.heap.size, 4, none⟩ = some (.int .i64 m0.l) ∧ w9.cell? ⟨w.heap.size, 5, none⟩ = some (.slice A0 xs0.length c0) ∧ True := bq10
  have bq11 := BoxC.below bq9 b9
  have q1 : w9.cell? ⟨w6.heap.size, 0, none⟩ = some (.int .i64 m0.c) ∧ w9.cell? ⟨w6.heap.size, 1, none⟩ = some (.int .i64 m0.d) ∧ w9.cell? ⟨w6.heap.size, 2, none⟩ = some (.int .i64 m0.s) ∧ w9.cell? ⟨w6.heap.size, 3, none⟩ = some (.int .i64 m0.a) ∧ w9.cell? ⟨w6.heap.size, 4, none⟩ = some (.int .i64 m0.l) ∧ w9.cell? ⟨w6.heap.size, 5, none⟩ = some (.slice A0_6 xs0.length c0_6) ∧ True := bq11
  go_wp2_with fail
  clear q0 q1
  have KS12 := Lib.hid (show ∀ w' : World, Below w9.heap.size w9 w' → ((w'.cell? ⟨w.heap.size, 0, none⟩ = some (.int .i64 m0.c) ∧ w'.cell? ⟨w.heap.size, 1, none⟩ = some (.int .i64 m0.d) ∧ w'.cell? ⟨w.heap.size, 2, none⟩ = some (.int .i64 m0.s) ∧ w'.cell? ⟨w.heap.size, 3, none⟩ = some (.int .i64 m0.a) ∧ w'.cell? ⟨w.heap.size, 4, none⟩ = some (.int .i64 m0.l) ∧ w'.cell? ⟨w.heap.size, 5, none⟩ = some (.slice A0 xs0.length c0) ∧ True) ∧ (w'.cell? ⟨w6.heap.size, 0, none⟩ = some (.int .i64 m0.c) ∧ w'.cell? ⟨w6.heap.size, 1, none⟩ = some (.int .i64 m0.d) ∧ w'.cell? ⟨w6.heap.size, 2, none⟩ = some (.int .i64 m0.s) ∧ w'.cell? ⟨w6.heap.size, 3, none⟩ = some (.int .i64 m0.a) ∧ w'.cell? ⟨w6.heap.size, 4, none⟩ = some (.int .i64 m0.l) ∧ w'.cell? ⟨w6.heap.size, 5, none⟩ = some (.slice A0_6 xs0.length c0_6) ∧ True)) from fun w' hb => ⟨BoxC.below bq10 hb, BoxC.below bq11 hb⟩)
  go_region_held3 (fun w' => (w'.cell? ⟨w.heap.size, 0, none⟩ = some (.int .i64 m0.c) ∧ w'.cell? ⟨w.heap.size, 1, none⟩ = some (.int .i64 m0.d) ∧ w'.cell? ⟨w.heap.size, 2, none⟩ = some (.int .i64 m0.s) ∧ w'.cell? ⟨w.heap.size, 3, none⟩ = some (.int .i64 m0.a) ∧ w'.cell? ⟨w.heap.size, 4, none⟩ = some (.int .i64 m0.l) ∧ w'.cell? ⟨w.heap.size, 5, none⟩ = some (.slice A0 xs0.length c0) ∧ True) ∧ (w'.cell? ⟨w6.heap.size, 0, none⟩ = some (.int .i64 m0.c) ∧ w'.cell? ⟨w6.heap.size, 1, none⟩ = some (.int .i64 m0.d) ∧ w'.cell? ⟨w6.heap.size, 2, none⟩ = some (.int .i64 m0.s) ∧ w'.cell? ⟨w6.heap.size, 3, none⟩ = some (.int .i64 m0.a) ∧ w'.cell? ⟨w6.heap.size, 4, none⟩ = some (.int .i64 m0.l) ∧ w'.cell? ⟨w6.heap.size, 5, none⟩ = some (.slice A0_6 xs0.length c0_6) ∧ True)) (first | (refine KS12.out _ ?_; first | assumption | exact belowDrew0 _ | exact Below.alloc (by assumption) (Below.size (by assumption)) _)) (first | (go_at_call 10; have D6_9 := D6_8.trans (b9.mono D6_8.size); have D6_10 := D6_9.trans (b10.mono D6_9.size); refine (eqS_t m0 A0_6 A0_10 c0_6 c0_10 xs0 _ (rA0_6.below D6_10) rA0_10).mono ?_; rintro e w11 ⟨rfl, b11⟩; have BS11 := Below.trans b10 (b11.mono (Below.size b10))) | (go_at_call 7; have D0_8 := D0_7.trans (b8.mono D0_7.size); have D0_9 := D0_8.trans (b9.mono D0_8.size); refine (toS m0 A0 c0 xs0 _ ((Rxs0.below D0_9).below (belowDrew0 _)) zxs0.1 zzxs0).mono ?_; rintro e w10 ⟨A0_10, c0_10, rfl, hc0_10, rA0_10, oA0_10, b10⟩; have b10 := belowDrew b10))
  have D9_11 := b10.trans (b11.mono b10.size)
  have bq13 := BoxC.below bq10 D9_11
  have q0 : w11.cell? ⟨w.heap.size, 0, none⟩ = some (.int .i64 m0.c) ∧ w11.cell? ⟨w.heap.size, 1, none⟩ = some (.int .i64 m0.d) ∧ w11.cell? ⟨w.heap.size, 2, none⟩ = some (.int .i64 m0.s) ∧ w11.cell? ⟨w.heap.size, 3, none⟩ = some (.int .i64 m0.a) ∧ w11.cell? ⟨w.heap.size, 4, none⟩ = some (.int .i64 m0.l) ∧ w11.cell? ⟨w.heap.size, 5, none⟩ = some (.slice A0 xs0.length c0) ∧ True := bq13
  have bq14 := BoxC.below bq11 D9_11
  have q1 : w11.cell? ⟨w6.heap.size, 0, none⟩ = some (.int .i64 m0.c) ∧ w11.cell? ⟨w6.heap.size, 1, none⟩ = some (.int .i64 m0.d) ∧ w11.cell? ⟨w6.heap.size, 2, none⟩ = some (.int .i64 m0.s) ∧ w11.cell? ⟨w6.heap.size, 3, none⟩ = some (.int .i64 m0.a) ∧ w11.cell? ⟨w6.heap.size, 4, none⟩ = some (.int .i64 m0.l) ∧ w11.cell? ⟨w6.heap.size, 5, none⟩ = some (.slice A0_6 xs0.length c0_6) ∧ True := bq14
  go_wp2_with fail
  clear q0 q1
  have D0_10 := D0_9.trans (b10.mono D0_9.size)
  have D0_11 := D0_10.trans (b11.mono D0_10.size)
  refine (toII A1 c1 xs1 _ (Rxs1.below D0_11) zxs1.1 zzxs1).mono ?_
  rintro e w12 ⟨A1_12, c1_12, rfl, hc1_12, rA1_12, oA1_12, b12⟩
  have bq15 := BoxC.below bq13 b12
  have q0 : w12.cell? ⟨w.heap.size, 0, none⟩ = some (.int .i64 m0.c) ∧ w12.cell? ⟨w.heap.size, 1, none⟩ = some (.int .i64 m0.d) ∧ w12.cell? ⟨w.heap.size, 2, none⟩ = some (.int .i64 m0.s) ∧ w12.cell? ⟨w.heap.size, 3, none⟩ = some (.int .i64 m0.a) ∧ w12.cell? ⟨w.heap.size, 4, none⟩ = some (.int .i64 m0.l) ∧ w12.cell? ⟨w.heap.size, 5, none⟩ = some (.slice A0 xs0.length c0) ∧ True := bq15
  have bq16 := BoxC.below bq14 b12
  have q1 : w12.cell? ⟨w6.heap.size, 0, none⟩ = some (.int .i64 m0.c) ∧ w12.cell? ⟨w6.heap.size, 1, none⟩ = some (.int .i64 m0.d) ∧ w12.cell? ⟨w6.heap.size, 2, none⟩ = some (.int .i64 m0.s) ∧ w12.cell? ⟨w6.heap.size, 3, none⟩ = some (.int .i64 m0.a) ∧ w12.cell? ⟨w6.heap.size, 4, none⟩ = some (.int .i64 m0.l) ∧ w12.cell? ⟨w6.heap.size, 5, none⟩ = some (.slice A0_6 xs0.length c0_6) ∧ True := bq16
  go_wp2_with fail
  clear q0 q1
  have D8_10 := b9.trans (b10.mono b9.size)
  have D8_11 := D8_10.trans (b11.mono D8_10.size)
  have D8_12 := D8_11.trans (b12.mono D8_11.size)
  refine (eqII_t A1_8 A1_12 c1_8 c1_12 xs1 _ (rA1_8.below D8_12) rA1_12).mono ?_
  rintro e w13 ⟨rfl, b13⟩
  have D0_12 := D0_11.trans (b12.mono D0_11.size)
  have D0_13 := D0_12.trans (b13.mono D0_12.size)
  have DD := D0_13
  have bq17 := BoxC.below bq15 b13
  have q0 : w13.cell? ⟨w.heap.size, 0, none⟩ = some (.int .i64 m0.c) ∧ w13.cell? ⟨w.heap.size, 1, none⟩ = some (.int .i64 m0.d) ∧ w13.cell? ⟨w.heap.size, 2, none⟩ = some (.int .i64 m0.s) ∧ w13.cell? ⟨w.heap.size, 3, none⟩ = some (.int .i64 m0.a) ∧ w13.cell? ⟨w.heap.size, 4, none⟩ = some (.int .i64 m0.l) ∧ w13.cell? ⟨w.heap.size, 5, none⟩ = some (.slice A0 xs0.length c0) ∧ True := bq17
  have bq18 := BoxC.below bq16 b13
  have q1 : w13.cell? ⟨w6.heap.size, 0, none⟩ = some (.int .i64 m0.c) ∧ w13.cell? ⟨w6.heap.size, 1, none⟩ = some (.int .i64 m0.d) ∧ w13.cell? ⟨w6.heap.size, 2, none⟩ = some (.int .i64 m0.s) ∧ w13.cell? ⟨w6.heap.size, 3, none⟩ = some (.int .i64 m0.a) ∧ w13.cell? ⟨w6.heap.size, 4, none⟩ = some (.int .i64 m0.l) ∧ w13.cell? ⟨w6.heap.size, 5, none⟩ = some (.slice A0_6 xs0.length c0_6) ∧ True := bq18
  go_wp2_with fail
  go_ret
  exact ⟨rfl, HB0.trans (DD.mono HB0.size)⟩
end Go.Proofs.YtdedajohkdbdkaaDoor.fnExactSystemText
