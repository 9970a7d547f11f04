/- The walk of the law FnExactIsGhost. -/
import Derived.Test.YtcdajogdpgjgjaaFIsGhost
import Derived.Test.YtcdajogdpgjgjaaHelpL
namespace Go.Proofs.Ytcdajogdpgjgjaa.fnExactIsGhost
set_option linter.unusedVariables false
open Go.RowKit
set_option maxRecDepth 100000 in
set_option maxHeartbeats 8000000 in
theorem walk (m0 : Mk) (A1 : Option Addr) (c1 : Nat) (xs1 : List (List Int)) (A2 : Option Addr) (c2 : Nat) (xs2 : List (List Int)) (A3 : Option Addr) (c3 : Nat) (xs3 : List Int) (w : World) (hc1 : xs1.length ≤ c1) (h1 : RII w A1 xs1) (hc2 : xs2.length ≤ c2) (h2 : RII w A2 xs2) (hc3 : xs3.length ≤ c3) (h3 : RI w A3 xs3) :
    Calls Try.prog 7 #[.agg #[.int .i64 m0.c, .int .i64 m0.d, .int .i64 m0.s, .int .i64 m0.a, .int .i64 m0.l], .agg #[.slice A1 xs1.length c1], .slice A2 xs2.length c2, .slice A3 xs3.length c3] w fun e w' => e = .returned (.bool true) ∧ Below w.heap.size w w' := by
  have HB0 : Below w.heap.size w ((w.alloc (.cells #[.int .i64 m0.c, .int .i64 m0.d, .int .i64 m0.s, .int .i64 m0.a, .int .i64 m0.l] 23)).alloc (.cells #[.slice A1 xs1.length c1] 52)) := ((Below.refl w.heap.size w).alloc (by exact Nat.le_refl _) _).alloc (by simp only [World.size_alloc]; omega) _
  have bx0 : BoxC ((w.alloc (.cells #[.int .i64 m0.c, .int .i64 m0.d, .int .i64 m0.s, .int .i64 m0.a, .int .i64 m0.l] 23)).alloc (.cells #[.slice A1 xs1.length c1] 52)) (w.heap.size) 0 [.int .i64 m0.c, .int .i64 m0.d, .int .i64 m0.s, .int .i64 m0.a, .int .i64 m0.l] := by simp [BoxC, Go.World.cell?_alloc_at, Go.World.cell?_alloc_past]
  have bx1 : BoxC ((w.alloc (.cells #[.int .i64 m0.c, .int .i64 m0.d, .int .i64 m0.s, .int .i64 m0.a, .int .i64 m0.l] 23)).alloc (.cells #[.slice A1 xs1.length c1] 52)) (w.heap.size + 1) 0 [.slice A1 xs1.length c1] := by simp [BoxC, Go.World.cell?_alloc_at]
  have Rxs1 := ((h1).alloc (.cells #[.int .i64 m0.c, .int .i64 m0.d, .int .i64 m0.s, .int .i64 m0.a, .int .i64 m0.l] 23)).alloc (.cells #[.slice A1 xs1.length c1] 52)
  have Rxs2 := ((h2).alloc (.cells #[.int .i64 m0.c, .int .i64 m0.d, .int .i64 m0.s, .int .i64 m0.a, .int .i64 m0.l] 23)).alloc (.cells #[.slice A1 xs1.length c1] 52)
  have Rxs3 := ((h3).alloc (.cells #[.int .i64 m0.c, .int .i64 m0.d, .int .i64 m0.s, .int .i64 m0.a, .int .i64 m0.l] 23)).alloc (.cells #[.slice A1 xs1.length c1] 52)
  by_cases z3 : xs3.length ≤ 1048576
  case neg =>
    have i3 : (1048576 : Int) < (xs3.length : Int) := by omega
    go_enter Try.func7, Try.ntmps7
    go_wp2_with fail
    go_ret
    exact ⟨rfl, HB0⟩
  have i3 : ¬ ((1048576 : Int) < (xs3.length : Int)) := by omega
  go_enter Try.func7, Try.ntmps7
  have q0 : ((w.alloc (.cells #[.int .i64 m0.c, .int .i64 m0.d, .int .i64 m0.s, .int .i64 m0.a, .int .i64 m0.l] 23)).alloc (.cells #[.slice A1 xs1.length c1] 52)).cell? ⟨w.heap.size, 0, none⟩ = some (.int .i64 m0.c) ∧ ((w.alloc (.cells #[.int .i64 m0.c, .int .i64 m0.d, .int .i64 m0.s, .int .i64 m0.a, .int .i64 m0.l] 23)).alloc (.cells #[.slice A1 xs1.length c1] 52)).cell? ⟨w.heap.size, 1, none⟩ = some (.int .i64 m0.d) ∧ ((w.alloc (.cells #[.int .i64 m0.c, .int .i64 m0.d, .int .i64 m0.s, .int .i64 m0.a, .int .i64 m0.l] 23)).alloc (.cells #[.slice A1 xs1.length c1] 52)).cell? ⟨w.heap.size, 2, none⟩ = some (.int .i64 m0.s) ∧ ((w.alloc (.cells #[.int .i64 m0.c, .int .i64 m0.d, .int .i64 m0.s, .int .i64 m0.a, .int .i64 m0.l] 23)).alloc (.cells #[.slice A1 xs1.length c1] 52)).cell? ⟨w.heap.size, 3, none⟩ = some (.int .i64 m0.a) ∧ ((w.alloc (.cells #[.int .i64 m0.c, .int .i64 m0.d, .int .i64 m0.s, .int .i64 m0.a, .int .i64 m0.l] 23)).alloc (.cells #[.slice A1 xs1.length c1] 52)).cell? ⟨w.heap.size, 4, none⟩ = some (.int .i64 m0.l) ∧ True := bx0
  have q1 : ((w.alloc (.cells #[.int .i64 m0.c, .int .i64 m0.d, .int .i64 m0.s, .int .i64 m0.a, .int .i64 m0.l] 23)).alloc (.cells #[.slice A1 xs1.length c1] 52)).cell? ⟨w.heap.size + 1, 0, none⟩ = some (.slice A1 xs1.length c1) ∧ True := bx1
  go_wp2_with fail
  clear q0 q1
  refine (szL A1 c1 xs1 _ _ Rxs1 (by omega) (by omega)).mono ?_
  rintro e w1 ⟨r1, rfl, hL1, b1, hm1⟩
  by_cases hz1 : r1 < 0
  case pos =>
    go_wp2_with fail
    go_ret
    exact ⟨rfl, HB0.trans (b1.mono HB0.size)⟩
  have hL12 := hL1.2 (by omega)
  have hL11 := hL1.1
  have zxs1 : xs1.length ≤ 1048576 ∧ sumLen xs1 ≤ 1048576 := by omega
  have zzxs1 : ∀ k (hk : k < xs1.length), xs1[k].length ≤ 1048576 := fun k hk => by have := mem_sumLen hk; omega
  have zt1 : (xs1.length + sumLen xs1 : Nat) + r1 ≤ 1048576 := by omega
  have Hz1 := Lib.hid hL12; clear hL12 hL1
  have bq1 := BoxC.below bx0 b1
  have q0 : w1.cell? ⟨w.heap.size, 0, none⟩ = some (.int .i64 m0.c) ∧ w1.cell? ⟨w.heap.size, 1, none⟩ = some (.int .i64 m0.d) ∧ w1.cell? ⟨w.heap.size, 2, none⟩ = some (.int .i64 m0.s) ∧ w1.cell? ⟨w.heap.size, 3, none⟩ = some (.int .i64 m0.a) ∧ w1.cell? ⟨w.heap.size, 4, none⟩ = some (.int .i64 m0.l) ∧ True := bq1
  have bq2 := BoxC.below bx1 b1
  have q1 : w1.cell? ⟨w.heap.size + 1, 0, none⟩ = some (.slice A1 xs1.length c1) ∧ True := bq2
  go_wp2_with fail
  clear q0 q1
  refine (szII_b A2 c2 xs2 _ _ (Rxs2.below b1) (by omega) (by omega)).mono ?_
  rintro e w2 ⟨r2, rfl, hL2, b2, hm2⟩
  have D0_2 := b1.trans (b2.mono b1.size)
  by_cases hz2 : r2 < 0
  case pos =>
    go_wp2_with fail
    go_ret
    exact ⟨rfl, HB0.trans (D0_2.mono HB0.size)⟩
  have hL22 := hL2.2 (by omega)
  have hL21 := hL2.1
  have zxs2 : xs2.length ≤ 1048576 ∧ sumLen xs2 ≤ 1048576 := by omega
  have zzxs2 : ∀ k (hk : k < xs2.length), xs2[k].length ≤ 1048576 := fun k hk => by have := mem_sumLen hk; omega
  have zt2 : (xs1.length + sumLen xs1 : Nat) + (xs2.length + sumLen xs2 : Nat) + r2 ≤ 1048576 := by omega
  have Hz2 := Lib.hid hL22; clear hL22 hL2
  have bq3 := BoxC.below bq1 b2
  have q0 : w2.cell? ⟨w.heap.size, 0, none⟩ = some (.int .i64 m0.c) ∧ w2.cell? ⟨w.heap.size, 1, none⟩ = some (.int .i64 m0.d) ∧ w2.cell? ⟨w.heap.size, 2, none⟩ = some (.int .i64 m0.s) ∧ w2.cell? ⟨w.heap.size, 3, none⟩ = some (.int .i64 m0.a) ∧ w2.cell? ⟨w.heap.size, 4, none⟩ = some (.int .i64 m0.l) ∧ True := bq3
  have bq4 := BoxC.below bq2 b2
  have q1 : w2.cell? ⟨w.heap.size + 1, 0, none⟩ = some (.slice A1 xs1.length c1) ∧ True := bq4
  go_wp2_with fail
  clear q0 q1
  have KS5 := Lib.hid (show ∀ w' : World, Below w2.heap.size w2 w' → ((w'.cell? ⟨w.heap.size, 0, none⟩ = some (.int .i64 m0.c) ∧ w'.cell? ⟨w.heap.size, 1, none⟩ = some (.int .i64 m0.d) ∧ w'.cell? ⟨w.heap.size, 2, none⟩ = some (.int .i64 m0.s) ∧ w'.cell? ⟨w.heap.size, 3, none⟩ = some (.int .i64 m0.a) ∧ w'.cell? ⟨w.heap.size, 4, none⟩ = some (.int .i64 m0.l) ∧ True) ∧ (w'.cell? ⟨w.heap.size + 1, 0, none⟩ = some (.slice A1 xs1.length c1) ∧ True)) from fun w' hb => ⟨BoxC.below bq3 hb, BoxC.below bq4 hb⟩)
  go_region_held3 (fun w' => (w'.cell? ⟨w.heap.size, 0, none⟩ = some (.int .i64 m0.c) ∧ w'.cell? ⟨w.heap.size, 1, none⟩ = some (.int .i64 m0.d) ∧ w'.cell? ⟨w.heap.size, 2, none⟩ = some (.int .i64 m0.s) ∧ w'.cell? ⟨w.heap.size, 3, none⟩ = some (.int .i64 m0.a) ∧ w'.cell? ⟨w.heap.size, 4, none⟩ = some (.int .i64 m0.l) ∧ True) ∧ (w'.cell? ⟨w.heap.size + 1, 0, none⟩ = some (.slice A1 xs1.length c1) ∧ True)) (first | (refine KS5.out _ ?_; first | assumption | exact belowDrew0 _)) (first | (go_at_call 37; have D2_6 := D2_5.trans (b6.mono D2_5.size); have D4_6 := b5.trans (b6.mono b5.size); refine (specIsGhost_any m0 A1_4 c1_4 xs1 A2_5 c2_5 xs2 A3_6 c3_6 xs3 _ (rA1_4.below D4_6) (rA2_5.below b6) rA3_6 hc3_6).mono ?_; rintro e w7 ⟨rfl, b7⟩; have BS7 := Below.trans BS6 (b7.mono (Below.size BS6))) | (go_at_call 17; have D2_5 := D2_4.trans (b5.mono D2_4.size); have D0_5 := D0_4.trans (b5.mono D0_4.size); refine (toI A3 c3 xs3 _ (Rxs3.below D0_5) z3).mono ?_; rintro e w6 ⟨A3_6, c3_6, rfl, hc3_6, rA3_6, oA3_6, b6, _⟩; have BS6 := Below.trans BS5 (b6.mono (Below.size BS5))) | (go_at_call 39; have D2_4 := b3.trans (b4.mono b3.size); have D0_4 := D0_3.trans (b4.mono D0_3.size); refine (toII A2 c2 xs2 _ (Rxs2.below D0_4) zxs2.1 zzxs2).mono ?_; rintro e w5 ⟨A2_5, c2_5, rfl, hc2_5, rA2_5, oA2_5, b5⟩; have BS5 := Below.trans BS4 (b5.mono (Below.size BS4))) | (go_at_call 38; have D0_3 := D0_2.trans (b3.mono D0_2.size); refine (toL A1 c1 xs1 _ (Rxs1.below D0_3) zxs1.1 zzxs1).mono ?_; rintro e w4 ⟨A1_4, c1_4, rfl, hc1_4, rA1_4, oA1_4, b4⟩; have BS4 := Below.trans b3 (b4.mono (Below.size b3))) | (go_at_call 16; refine (toM m0.c m0.d m0.s m0.a m0.l _).mono ?_; rintro e w3 ⟨rfl, b3⟩; have b3 := belowDrew b3))
  have D2_7 := D2_6.trans (b7.mono D2_6.size)
  have bq6 := BoxC.below bq3 D2_7
  have q0 : w7.cell? ⟨w.heap.size, 0, none⟩ = some (.int .i64 m0.c) ∧ w7.cell? ⟨w.heap.size, 1, none⟩ = some (.int .i64 m0.d) ∧ w7.cell? ⟨w.heap.size, 2, none⟩ = some (.int .i64 m0.s) ∧ w7.cell? ⟨w.heap.size, 3, none⟩ = some (.int .i64 m0.a) ∧ w7.cell? ⟨w.heap.size, 4, none⟩ = some (.int .i64 m0.l) ∧ True := bq6
  have bq7 := BoxC.below bq4 D2_7
  have q1 : w7.cell? ⟨w.heap.size + 1, 0, none⟩ = some (.slice A1 xs1.length c1) ∧ True := bq7
  go_wp2_with fail
  clear q0 q1
  have D0_6 := D0_5.trans (b6.mono D0_5.size)
  have D0_7 := D0_6.trans (b7.mono D0_6.size)
  refine (toL A1 c1 xs1 _ (Rxs1.below D0_7) zxs1.1 zzxs1).mono ?_
  rintro e w8 ⟨A1_8, c1_8, rfl, hc1_8, rA1_8, oA1_8, b8⟩
  have b9 : Below w8.heap.size w8 (w8.alloc (.cells #[.slice A1_8 xs1.length c1_8] 56)) := (Below.refl _ _).alloc (Nat.le_refl _) _
  have bq8 : BoxC (w8.alloc (.cells #[.slice A1_8 xs1.length c1_8] 56)) (w8.heap.size) 0 [.slice A1_8 xs1.length c1_8] := by simp [BoxC, Go.World.cell?_alloc_at]
  have D7_9 := b8.trans (b9.mono b8.size)
  have bq9 := BoxC.below bq6 D7_9
  have q0 : (w8.alloc (.cells #[.slice A1_8 xs1.length c1_8] 56)).cell? ⟨w.heap.size, 0, none⟩ = some (.int .i64 m0.c) ∧ (w8.alloc (.cells #[.slice A1_8 xs1.length c1_8] 56)).cell? ⟨w.heap.size, 1, none⟩ = some (.int .i64 m0.d) ∧ (w8.alloc (.cells #[.slice A1_8 xs1.length c1_8] 56)).cell? ⟨w.heap.size, 2, none⟩ = some (.int .i64 m0.s) ∧ (w8.alloc (.cells #[.slice A1_8 xs1.length c1_8] 56)).cell? ⟨w.heap.size, 3, none⟩ = some (.int .i64 m0.a) ∧ (w8.alloc (.cells #[.slice A1_8 xs1.length c1_8] 56)).cell? ⟨w.heap.size, 4, none⟩ = some (.int .i64 m0.l) ∧ True := bq9
  have bq10 := BoxC.below bq7 D7_9
  have q1 : (w8.alloc (.cells #[.slice A1_8 xs1.length c1_8] 56)).cell? ⟨w.heap.size + 1, 0, none⟩ = some (.slice A1 xs1.length c1) ∧ True := bq10
  have q2 : (w8.alloc (.cells #[.slice A1_8 xs1.length c1_8] 56)).cell? ⟨w8.heap.size, 0, none⟩ = some (.slice A1_8 xs1.length c1_8) ∧ True := bq8
  go_wp2_with fail
  clear q0 q1 q2
  have D0_8 := D0_7.trans (b8.mono D0_7.size)
  have D0_9 := D0_8.trans (b9.mono D0_8.size)
  refine (toII A2 c2 xs2 _ (Rxs2.below D0_9) zxs2.1 zzxs2).mono ?_
  rintro e w10 ⟨A2_10, c2_10, rfl, hc2_10, rA2_10, oA2_10, b10⟩
  have bq11 := BoxC.below bq9 b10
  have q0 : w10.cell? ⟨w.heap.size, 0, none⟩ = some (.int .i64 m0.c) ∧ w10.cell? ⟨w.heap.size, 1, none⟩ = some (.int .i64 m0.d) ∧ w10.cell? ⟨w.heap.size, 2, none⟩ = some (.int .i64 m0.s) ∧ w10.cell? ⟨w.heap.size, 3, none⟩ = some (.int .i64 m0.a) ∧ w10.cell? ⟨w.heap.size, 4, none⟩ = some (.int .i64 m0.l) ∧ True := bq11
  have bq12 := BoxC.below bq10 b10
  have q1 : w10.cell? ⟨w.heap.size + 1, 0, none⟩ = some (.slice A1 xs1.length c1) ∧ True := bq12
  have bq13 := BoxC.below bq8 b10
  have q2 : w10.cell? ⟨w8.heap.size, 0, none⟩ = some (.slice A1_8 xs1.length c1_8) ∧ True := bq13
  go_wp2_with fail
  clear q0 q1 q2
  have D0_10 := D0_9.trans (b10.mono D0_9.size)
  refine (toI A3 c3 xs3 _ (Rxs3.below D0_10) z3).mono ?_
  rintro e w11 ⟨A3_11, c3_11, rfl, hc3_11, rA3_11, oA3_11, b11, _⟩
  have bq14 := BoxC.below bq11 b11
  have q0 : w11.cell? ⟨w.heap.size, 0, none⟩ = some (.int .i64 m0.c) ∧ w11.cell? ⟨w.heap.size, 1, none⟩ = some (.int .i64 m0.d) ∧ w11.cell? ⟨w.heap.size, 2, none⟩ = some (.int .i64 m0.s) ∧ w11.cell? ⟨w.heap.size, 3, none⟩ = some (.int .i64 m0.a) ∧ w11.cell? ⟨w.heap.size, 4, none⟩ = some (.int .i64 m0.l) ∧ True := bq14
  have bq15 := BoxC.below bq12 b11
  have q1 : w11.cell? ⟨w.heap.size + 1, 0, none⟩ = some (.slice A1 xs1.length c1) ∧ True := bq15
  have bq16 := BoxC.below bq13 b11
  have q2 : w11.cell? ⟨w8.heap.size, 0, none⟩ = some (.slice A1_8 xs1.length c1_8) ∧ True := bq16
  go_wp2_with fail
  clear q0 q1 q2
  have KS17 := Lib.hid (show ∀ w' : World, Below w11.heap.size w11 w' → ((w'.cell? ⟨w.heap.size, 0, none⟩ = some (.int .i64 m0.c) ∧ w'.cell? ⟨w.heap.size, 1, none⟩ = some (.int .i64 m0.d) ∧ w'.cell? ⟨w.heap.size, 2, none⟩ = some (.int .i64 m0.s) ∧ w'.cell? ⟨w.heap.size, 3, none⟩ = some (.int .i64 m0.a) ∧ w'.cell? ⟨w.heap.size, 4, none⟩ = some (.int .i64 m0.l) ∧ True) ∧ (w'.cell? ⟨w8.heap.size, 0, none⟩ = some (.slice A1_8 xs1.length c1_8) ∧ True)) from fun w' hb => ⟨BoxC.below bq14 hb, BoxC.below bq16 hb⟩)
  go_region_held3 (fun w' => (w'.cell? ⟨w.heap.size, 0, none⟩ = some (.int .i64 m0.c) ∧ w'.cell? ⟨w.heap.size, 1, none⟩ = some (.int .i64 m0.d) ∧ w'.cell? ⟨w.heap.size, 2, none⟩ = some (.int .i64 m0.s) ∧ w'.cell? ⟨w.heap.size, 3, none⟩ = some (.int .i64 m0.a) ∧ w'.cell? ⟨w.heap.size, 4, none⟩ = some (.int .i64 m0.l) ∧ True) ∧ (w'.cell? ⟨w8.heap.size, 0, none⟩ = some (.slice A1_8 xs1.length c1_8) ∧ True)) (first | (refine KS17.out _ ?_; first | assumption | exact belowDrew0 _)) (first | (go_at_call 40; have D8_10 := b9.trans (b10.mono b9.size); have D8_11 := D8_10.trans (b11.mono D8_10.size); have D8_12 := D8_11.trans (b12.mono D8_11.size); have D10_12 := b11.trans (b12.mono b11.size); refine (implIsGhost_any m0 A1_8 c1_8 xs1 A2_10 c2_10 xs2 A3_11 c3_11 xs3 _ (rA1_8.below D8_12) (rA2_10.below D10_12) (rA3_11.below b12) hc3_11).mono ?_; rintro e w13 ⟨rfl, b13⟩; have BS13 := Below.trans b12 (b13.mono (Below.size b12))) | (go_at_call 16; refine (toM m0.c m0.d m0.s m0.a m0.l _).mono ?_; rintro e w12 ⟨rfl, b12⟩; have b12 := belowDrew b12))
  have D11_13 := b12.trans (b13.mono b12.size)
  have bq18 := BoxC.below bq14 D11_13
  have q0 : w13.cell? ⟨w.heap.size, 0, none⟩ = some (.int .i64 m0.c) ∧ w13.cell? ⟨w.heap.size, 1, none⟩ = some (.int .i64 m0.d) ∧ w13.cell? ⟨w.heap.size, 2, none⟩ = some (.int .i64 m0.s) ∧ w13.cell? ⟨w.heap.size, 3, none⟩ = some (.int .i64 m0.a) ∧ w13.cell? ⟨w.heap.size, 4, none⟩ = some (.int .i64 m0.l) ∧ True := bq18
  have bq19 := BoxC.below bq15 D11_13
  have q1 : w13.cell? ⟨w.heap.size + 1, 0, none⟩ = some (.slice A1 xs1.length c1) ∧ True := bq19
  have bq20 := BoxC.below bq16 D11_13
  have q2 : w13.cell? ⟨w8.heap.size, 0, none⟩ = some (.slice A1_8 xs1.length c1_8) ∧ True := bq20
  go_wp2_with fail
  clear q0 q1 q2
  have KS21 := Lib.hid (show ∀ w' : World, Below w13.heap.size w13 w' → ((w'.cell? ⟨w.heap.size + 1, 0, none⟩ = some (.slice A1 xs1.length c1) ∧ True) ∧ (w'.cell? ⟨w8.heap.size, 0, none⟩ = some (.slice A1_8 xs1.length c1_8) ∧ True)) from fun w' hb => ⟨BoxC.below bq19 hb, BoxC.below bq20 hb⟩)
  go_region_held3 (fun w' => (w'.cell? ⟨w.heap.size + 1, 0, none⟩ = some (.slice A1 xs1.length c1) ∧ True) ∧ (w'.cell? ⟨w8.heap.size, 0, none⟩ = some (.slice A1_8 xs1.length c1_8) ∧ True)) (first | (refine KS21.out _ ?_; first | assumption | exact belowDrew0 _)) (first | (go_at_call 41; have D8_13 := D8_12.trans (b13.mono D8_12.size); have D8_14 := D8_13.trans (b14.mono D8_13.size); refine (eqL_t A1_8 A1_14 c1_8 c1_14 xs1 _ (rA1_8.below D8_14) rA1_14).mono ?_; rintro e w15 ⟨rfl, b15⟩; have BS15 := Below.trans b14 (b15.mono (Below.size b14))) | (go_at_call 38; have D0_11 := D0_10.trans (b11.mono D0_10.size); have D0_12 := D0_11.trans (b12.mono D0_11.size); have D0_13 := D0_12.trans (b13.mono D0_12.size); refine (toL A1 c1 xs1 _ ((Rxs1.below D0_13).below (belowDrew0 _)) zxs1.1 zzxs1).mono ?_; rintro e w14 ⟨A1_14, c1_14, rfl, hc1_14, rA1_14, oA1_14, b14⟩; have b14 := belowDrew b14))
  have D13_15 := b14.trans (b15.mono b14.size)
  have bq22 := BoxC.below bq18 D13_15
  have q0 : w15.cell? ⟨w.heap.size, 0, none⟩ = some (.int .i64 m0.c) ∧ w15.cell? ⟨w.heap.size, 1, none⟩ = some (.int .i64 m0.d) ∧ w15.cell? ⟨w.heap.size, 2, none⟩ = some (.int .i64 m0.s) ∧ w15.cell? ⟨w.heap.size, 3, none⟩ = some (.int .i64 m0.a) ∧ w15.cell? ⟨w.heap.size, 4, none⟩ = some (.int .i64 m0.l) ∧ True := bq22
  have bq23 := BoxC.below bq19 D13_15
  have q1 : w15.cell? ⟨w.heap.size + 1, 0, none⟩ = some (.slice A1 xs1.length c1) ∧ True := bq23
  have bq24 := BoxC.below bq20 D13_15
  have q2 : w15.cell? ⟨w8.heap.size, 0, none⟩ = some (.slice A1_8 xs1.length c1_8) ∧ True := bq24
  go_wp2_with fail
  clear q0 q1 q2
  have D0_14 := D0_13.trans (b14.mono D0_13.size)
  have D0_15 := D0_14.trans (b15.mono D0_14.size)
  refine (toII A2 c2 xs2 _ (Rxs2.below D0_15) zxs2.1 zzxs2).mono ?_
  rintro e w16 ⟨A2_16, c2_16, rfl, hc2_16, rA2_16, oA2_16, b16⟩
  have bq25 := BoxC.below bq22 b16
  have q0 : w16.cell? ⟨w.heap.size, 0, none⟩ = some (.int .i64 m0.c) ∧ w16.cell? ⟨w.heap.size, 1, none⟩ = some (.int .i64 m0.d) ∧ w16.cell? ⟨w.heap.size, 2, none⟩ = some (.int .i64 m0.s) ∧ w16.cell? ⟨w.heap.size, 3, none⟩ = some (.int .i64 m0.a) ∧ w16.cell? ⟨w.heap.size, 4, none⟩ = some (.int .i64 m0.l) ∧ True := bq25
  have bq26 := BoxC.below bq23 b16
  have q1 : w16.cell? ⟨w.heap.size + 1, 0, none⟩ = some (.slice A1 xs1.length c1) ∧ True := bq26
  have bq27 := BoxC.below bq24 b16
  have q2 : w16.cell? ⟨w8.heap.size, 0, none⟩ = some (.slice A1_8 xs1.length c1_8) ∧ True := bq27
  go_wp2_with fail
  clear q0 q1 q2
  have D10_13 := D10_12.trans (b13.mono D10_12.size)
  have D10_14 := D10_13.trans (b14.mono D10_13.size)
  have D10_15 := D10_14.trans (b15.mono D10_14.size)
  have D10_16 := D10_15.trans (b16.mono D10_15.size)
  refine (eqII_t A2_10 A2_16 c2_10 c2_16 xs2 _ (rA2_10.below D10_16) rA2_16).mono ?_
  rintro e w17 ⟨rfl, b17⟩
  have bq28 := BoxC.below bq25 b17
  have q0 : w17.cell? ⟨w.heap.size, 0, none⟩ = some (.int .i64 m0.c) ∧ w17.cell? ⟨w.heap.size, 1, none⟩ = some (.int .i64 m0.d) ∧ w17.cell? ⟨w.heap.size, 2, none⟩ = some (.int .i64 m0.s) ∧ w17.cell? ⟨w.heap.size, 3, none⟩ = some (.int .i64 m0.a) ∧ w17.cell? ⟨w.heap.size, 4, none⟩ = some (.int .i64 m0.l) ∧ True := bq28
  have bq29 := BoxC.below bq26 b17
  have q1 : w17.cell? ⟨w.heap.size + 1, 0, none⟩ = some (.slice A1 xs1.length c1) ∧ True := bq29
  have bq30 := BoxC.below bq27 b17
  have q2 : w17.cell? ⟨w8.heap.size, 0, none⟩ = some (.slice A1_8 xs1.length c1_8) ∧ True := bq30
  go_wp2_with fail
  clear q0 q1 q2
  have D0_16 := D0_15.trans (b16.mono D0_15.size)
  have D0_17 := D0_16.trans (b17.mono D0_16.size)
  refine (toI A3 c3 xs3 _ (Rxs3.below D0_17) z3).mono ?_
  rintro e w18 ⟨A3_18, c3_18, rfl, hc3_18, rA3_18, oA3_18, b18, _⟩
  have bq31 := BoxC.below bq28 b18
  have q0 : w18.cell? ⟨w.heap.size, 0, none⟩ = some (.int .i64 m0.c) ∧ w18.cell? ⟨w.heap.size, 1, none⟩ = some (.int .i64 m0.d) ∧ w18.cell? ⟨w.heap.size, 2, none⟩ = some (.int .i64 m0.s) ∧ w18.cell? ⟨w.heap.size, 3, none⟩ = some (.int .i64 m0.a) ∧ w18.cell? ⟨w.heap.size, 4, none⟩ = some (.int .i64 m0.l) ∧ True := bq31
  have bq32 := BoxC.below bq29 b18
  have q1 : w18.cell? ⟨w.heap.size + 1, 0, none⟩ = some (.slice A1 xs1.length c1) ∧ True := bq32
  have bq33 := BoxC.below bq30 b18
  have q2 : w18.cell? ⟨w8.heap.size, 0, none⟩ = some (.slice A1_8 xs1.length c1_8) ∧ True := bq33
  go_wp2_with fail
  clear q0 q1 q2
  have D11_14 := D11_13.trans (b14.mono D11_13.size)
  have D11_15 := D11_14.trans (b15.mono D11_14.size)
  have D11_16 := D11_15.trans (b16.mono D11_15.size)
  have D11_17 := D11_16.trans (b17.mono D11_16.size)
  have D11_18 := D11_17.trans (b18.mono D11_17.size)
  refine (eqI_t A3_11 A3_18 c3_11 c3_18 xs3 _ (rA3_11.below D11_18) rA3_18).mono ?_
  rintro e w19 ⟨rfl, b19⟩
  have D0_18 := D0_17.trans (b18.mono D0_17.size)
  have D0_19 := D0_18.trans (b19.mono D0_18.size)
  have DD := D0_19
  have bq34 := BoxC.below bq31 b19
  have q0 : w19.cell? ⟨w.heap.size, 0, none⟩ = some (.int .i64 m0.c) ∧ w19.cell? ⟨w.heap.size, 1, none⟩ = some (.int .i64 m0.d) ∧ w19.cell? ⟨w.heap.size, 2, none⟩ = some (.int .i64 m0.s) ∧ w19.cell? ⟨w.heap.size, 3, none⟩ = some (.int .i64 m0.a) ∧ w19.cell? ⟨w.heap.size, 4, none⟩ = some (.int .i64 m0.l) ∧ True := bq34
  have bq35 := BoxC.below bq32 b19
  have q1 : w19.cell? ⟨w.heap.size + 1, 0, none⟩ = some (.slice A1 xs1.length c1) ∧ True := bq35
  have bq36 := BoxC.below bq33 b19
  have q2 : w19.cell? ⟨w8.heap.size, 0, none⟩ = some (.slice A1_8 xs1.length c1_8) ∧ True := bq36
  go_wp2_with fail
  go_ret
  exact ⟨rfl, HB0.trans (DD.mono HB0.size)⟩
end Go.Proofs.Ytcdajogdpgjgjaa.fnExactIsGhost
