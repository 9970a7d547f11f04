/- The walk of the law FnExactCountGhosts. -/
import Derived.Test.YtcdajogdpgjgjaaFFrees
import Derived.Test.YtcdajogdpgjgjaaHelpL
namespace Go.Proofs.Ytcdajogdpgjgjaa.fnExactCountGhosts
set_option linter.unusedVariables false
open Go.RowKit
set_option maxRecDepth 100000 in
set_option maxHeartbeats 8000000 in
theorem walk (m0 : Mk) (A1 : Option Addr) (c1 : Nat) (xs1 : List (List Int)) (A2 : Option Addr) (c2 : Nat) (xs2 : List (List Int)) (w : World) (hc1 : xs1.length ≤ c1) (h1 : RII w A1 xs1) (hc2 : xs2.length ≤ c2) (h2 : RII w A2 xs2) :
    Calls Try.prog 11 #[.agg #[.int .i64 m0.c, .int .i64 m0.d, .int .i64 m0.s, .int .i64 m0.a, .int .i64 m0.l], .agg #[.slice A1 xs1.length c1], .slice A2 xs2.length c2] w fun e w' => e = .returned (.bool true) ∧ Below w.heap.size w w' := by
  have HB0 : Below w.heap.size w ((w.alloc (.cells #[.int .i64 m0.c, .int .i64 m0.d, .int .i64 m0.s, .int .i64 m0.a, .int .i64 m0.l] 23)).alloc (.cells #[.slice A1 xs1.length c1] 52)) := ((Below.refl w.heap.size w).alloc (by exact Nat.le_refl _) _).alloc (by simp only [World.size_alloc]; omega) _
  have bx0 : BoxC ((w.alloc (.cells #[.int .i64 m0.c, .int .i64 m0.d, .int .i64 m0.s, .int .i64 m0.a, .int .i64 m0.l] 23)).alloc (.cells #[.slice A1 xs1.length c1] 52)) (w.heap.size) 0 [.int .i64 m0.c, .int .i64 m0.d, .int .i64 m0.s, .int .i64 m0.a, .int .i64 m0.l] := by simp [BoxC, Go.World.cell?_alloc_at, Go.World.cell?_alloc_past]
  have bx1 : BoxC ((w.alloc (.cells #[.int .i64 m0.c, .int .i64 m0.d, .int .i64 m0.s, .int .i64 m0.a, .int .i64 m0.l] 23)).alloc (.cells #[.slice A1 xs1.length c1] 52)) (w.heap.size + 1) 0 [.slice A1 xs1.length c1] := by simp [BoxC, Go.World.cell?_alloc_at]
  have Rxs1 := ((h1).alloc (.cells #[.int .i64 m0.c, .int .i64 m0.d, .int .i64 m0.s, .int .i64 m0.a, .int .i64 m0.l] 23)).alloc (.cells #[.slice A1 xs1.length c1] 52)
  have Rxs2 := ((h2).alloc (.cells #[.int .i64 m0.c, .int .i64 m0.d, .int .i64 m0.s, .int .i64 m0.a, .int .i64 m0.l] 23)).alloc (.cells #[.slice A1 xs1.length c1] 52)
  go_enter Try.func11, Try.ntmps11
  have q0 : ((w.alloc (.cells #[.int .i64 m0.c, .int .i64 m0.d, .int .i64 m0.s, .int .i64 m0.a, .int .i64 m0.l] 23)).alloc (.cells #[.slice A1 xs1.length c1] 52)).cell? ⟨w.heap.size, 0, none⟩ = some (.int .i64 m0.c) ∧ ((w.alloc (.cells #[.int .i64 m0.c, .int .i64 m0.d, .int .i64 m0.s, .int .i64 m0.a, .int .i64 m0.l] 23)).alloc (.cells #[.slice A1 xs1.length c1] 52)).cell? ⟨w.heap.size, 1, none⟩ = some (.int .i64 m0.d) ∧ ((w.alloc (.cells #[.int .i64 m0.c, .int .i64 m0.d, .int .i64 m0.s, .int .i64 m0.a, .int .i64 m0.l] 23)).alloc (.cells #[.slice A1 xs1.length c1] 52)).cell? ⟨w.heap.size, 2, none⟩ = some (.int .i64 m0.s) ∧ ((w.alloc (.cells #[.int .i64 m0.c, .int .i64 m0.d, .int .i64 m0.s, .int .i64 m0.a, .int .i64 m0.l] 23)).alloc (.cells #[.slice A1 xs1.length c1] 52)).cell? ⟨w.heap.size, 3, none⟩ = some (.int .i64 m0.a) ∧ ((w.alloc (.cells #[.int .i64 m0.c, .int .i64 m0.d, .int .i64 m0.s, .int .i64 m0.a, .int .i64 m0.l] 23)).alloc (.cells #[.slice A1 xs1.length c1] 52)).cell? ⟨w.heap.size, 4, none⟩ = some (.int .i64 m0.l) ∧ True := bx0
  have q1 : ((w.alloc (.cells #[.int .i64 m0.c, .int .i64 m0.d, .int .i64 m0.s, .int .i64 m0.a, .int .i64 m0.l] 23)).alloc (.cells #[.slice A1 xs1.length c1] 52)).cell? ⟨w.heap.size + 1, 0, none⟩ = some (.slice A1 xs1.length c1) ∧ True := bx1
  go_wp2_with fail
  clear q0 q1
  refine (szL A1 c1 xs1 _ _ Rxs1 (by omega) (by omega)).mono ?_
  rintro e w1 ⟨r1, rfl, hL1, b1, hm1⟩
  by_cases hz1 : r1 < 0
  case pos =>
    go_wp2_with fail
    go_ret
    exact ⟨rfl, HB0.trans (b1.mono HB0.size)⟩
  have hL12 := hL1.2 (by omega)
  have hL11 := hL1.1
  have zxs1 : xs1.length ≤ 1048576 ∧ sumLen xs1 ≤ 1048576 := by omega
  have zzxs1 : ∀ k (hk : k < xs1.length), xs1[k].length ≤ 1048576 := fun k hk => by have := mem_sumLen hk; omega
  have zt1 : (xs1.length + sumLen xs1 : Nat) + r1 ≤ 1048576 := by omega
  have Hz1 := Lib.hid hL12; clear hL12 hL1
  have bq1 := BoxC.below bx0 b1
  have q0 : w1.cell? ⟨w.heap.size, 0, none⟩ = some (.int .i64 m0.c) ∧ w1.cell? ⟨w.heap.size, 1, none⟩ = some (.int .i64 m0.d) ∧ w1.cell? ⟨w.heap.size, 2, none⟩ = some (.int .i64 m0.s) ∧ w1.cell? ⟨w.heap.size, 3, none⟩ = some (.int .i64 m0.a) ∧ w1.cell? ⟨w.heap.size, 4, none⟩ = some (.int .i64 m0.l) ∧ True := bq1
  have bq2 := BoxC.below bx1 b1
  have q1 : w1.cell? ⟨w.heap.size + 1, 0, none⟩ = some (.slice A1 xs1.length c1) ∧ True := bq2
  go_wp2_with fail
  clear q0 q1
  refine (szII_b A2 c2 xs2 _ _ (Rxs2.below b1) (by omega) (by omega)).mono ?_
  rintro e w2 ⟨r2, rfl, hL2, b2, hm2⟩
  have D0_2 := b1.trans (b2.mono b1.size)
  by_cases hz2 : r2 < 0
  case pos =>
    go_wp2_with fail
    go_ret
    exact ⟨rfl, HB0.trans (D0_2.mono HB0.size)⟩
  have hL22 := hL2.2 (by omega)
  have hL21 := hL2.1
  have zxs2 : xs2.length ≤ 1048576 ∧ sumLen xs2 ≤ 1048576 := by omega
  have zzxs2 : ∀ k (hk : k < xs2.length), xs2[k].length ≤ 1048576 := fun k hk => by have := mem_sumLen hk; omega
  have zt2 : (xs1.length + sumLen xs1 : Nat) + (xs2.length + sumLen xs2 : Nat) + r2 ≤ 1048576 := by omega
  have Hz2 := Lib.hid hL22; clear hL22 hL2
  have bq3 := BoxC.below bq1 b2
  have q0 : w2.cell? ⟨w.heap.size, 0, none⟩ = some (.int .i64 m0.c) ∧ w2.cell? ⟨w.heap.size, 1, none⟩ = some (.int .i64 m0.d) ∧ w2.cell? ⟨w.heap.size, 2, none⟩ = some (.int .i64 m0.s) ∧ w2.cell? ⟨w.heap.size, 3, none⟩ = some (.int .i64 m0.a) ∧ w2.cell? ⟨w.heap.size, 4, none⟩ = some (.int .i64 m0.l) ∧ True := bq3
  have bq4 := BoxC.below bq2 b2
  have q1 : w2.cell? ⟨w.heap.size + 1, 0, none⟩ = some (.slice A1 xs1.length c1) ∧ True := bq4
  go_wp2_with fail
  clear q0 q1
  have KS5 := Lib.hid (show ∀ w' : World, Below w2.heap.size w2 w' → ((w'.cell? ⟨w.heap.size, 0, none⟩ = some (.int .i64 m0.c) ∧ w'.cell? ⟨w.heap.size, 1, none⟩ = some (.int .i64 m0.d) ∧ w'.cell? ⟨w.heap.size, 2, none⟩ = some (.int .i64 m0.s) ∧ w'.cell? ⟨w.heap.size, 3, none⟩ = some (.int .i64 m0.a) ∧ w'.cell? ⟨w.heap.size, 4, none⟩ = some (.int .i64 m0.l) ∧ True) ∧ (w'.cell? ⟨w.heap.size + 1, 0, none⟩ = some (.slice A1 xs1.length c1) ∧ True)) from fun w' hb => ⟨BoxC.below bq3 hb, BoxC.below bq4 hb⟩)
  go_region_held3 (fun w' => (w'.cell? ⟨w.heap.size, 0, none⟩ = some (.int .i64 m0.c) ∧ w'.cell? ⟨w.heap.size, 1, none⟩ = some (.int .i64 m0.d) ∧ w'.cell? ⟨w.heap.size, 2, none⟩ = some (.int .i64 m0.s) ∧ w'.cell? ⟨w.heap.size, 3, none⟩ = some (.int .i64 m0.a) ∧ w'.cell? ⟨w.heap.size, 4, none⟩ = some (.int .i64 m0.l) ∧ True) ∧ (w'.cell? ⟨w.heap.size + 1, 0, none⟩ = some (.slice A1 xs1.length c1) ∧ True)) (first | (refine KS5.out _ ?_; first | assumption | exact belowDrew0 _)) (first | (go_at_call 53; have D2_5 := D2_4.trans (b5.mono D2_4.size); refine (specCountGhosts_any m0 A1_4 c1_4 xs1 A2_5 c2_5 xs2 _ (rA1_4.below b5) rA2_5).mono ?_; rintro e w6 ⟨rfl, b6⟩; have BS6 := Below.trans BS5 (b6.mono (Below.size BS5))) | (go_at_call 39; have D2_4 := b3.trans (b4.mono b3.size); have D0_4 := D0_3.trans (b4.mono D0_3.size); refine (toII A2 c2 xs2 _ (Rxs2.below D0_4) zxs2.1 zzxs2).mono ?_; rintro e w5 ⟨A2_5, c2_5, rfl, hc2_5, rA2_5, oA2_5, b5⟩; have BS5 := Below.trans BS4 (b5.mono (Below.size BS4))) | (go_at_call 38; have D0_3 := D0_2.trans (b3.mono D0_2.size); refine (toL A1 c1 xs1 _ (Rxs1.below D0_3) zxs1.1 zzxs1).mono ?_; rintro e w4 ⟨A1_4, c1_4, rfl, hc1_4, rA1_4, oA1_4, b4⟩; have BS4 := Below.trans b3 (b4.mono (Below.size b3))) | (go_at_call 16; refine (toM m0.c m0.d m0.s m0.a m0.l _).mono ?_; rintro e w3 ⟨rfl, b3⟩; have b3 := belowDrew b3))
  have D2_6 := D2_5.trans (b6.mono D2_5.size)
  have bq6 := BoxC.below bq3 D2_6
  have q0 : w6.cell? ⟨w.heap.size, 0, none⟩ = some (.int .i64 m0.c) ∧ w6.cell? ⟨w.heap.size, 1, none⟩ = some (.int .i64 m0.d) ∧ w6.cell? ⟨w.heap.size, 2, none⟩ = some (.int .i64 m0.s) ∧ w6.cell? ⟨w.heap.size, 3, none⟩ = some (.int .i64 m0.a) ∧ w6.cell? ⟨w.heap.size, 4, none⟩ = some (.int .i64 m0.l) ∧ True := bq6
  have bq7 := BoxC.below bq4 D2_6
  have q1 : w6.cell? ⟨w.heap.size + 1, 0, none⟩ = some (.slice A1 xs1.length c1) ∧ True := bq7
  go_wp2_with fail
  clear q0 q1
  have D0_5 := D0_4.trans (b5.mono D0_4.size)
  have D0_6 := D0_5.trans (b6.mono D0_5.size)
  refine (toL A1 c1 xs1 _ (Rxs1.below D0_6) zxs1.1 zzxs1).mono ?_
  rintro e w7 ⟨A1_7, c1_7, rfl, hc1_7, rA1_7, oA1_7, b7⟩
  have b8 : Below w7.heap.size w7 (w7.alloc (.cells #[.slice A1_7 xs1.length c1_7] 56)) := (Below.refl _ _).alloc (Nat.le_refl _) _
  have bq8 : BoxC (w7.alloc (.cells #[.slice A1_7 xs1.length c1_7] 56)) (w7.heap.size) 0 [.slice A1_7 xs1.length c1_7] := by simp [BoxC, Go.World.cell?_alloc_at]
  have D6_8 := b7.trans (b8.mono b7.size)
  have bq9 := BoxC.below bq6 D6_8
  have q0 : (w7.alloc (.cells #[.slice A1_7 xs1.length c1_7] 56)).cell? ⟨w.heap.size, 0, none⟩ = some (.int .i64 m0.c) ∧ (w7.alloc (.cells #[.slice A1_7 xs1.length c1_7] 56)).cell? ⟨w.heap.size, 1, none⟩ = some (.int .i64 m0.d) ∧ (w7.alloc (.cells #[.slice A1_7 xs1.length c1_7] 56)).cell? ⟨w.heap.size, 2, none⟩ = some (.int .i64 m0.s) ∧ (w7.alloc (.cells #[.slice A1_7 xs1.length c1_7] 56)).cell? ⟨w.heap.size, 3, none⟩ = some (.int .i64 m0.a) ∧ (w7.alloc (.cells #[.slice A1_7 xs1.length c1_7] 56)).cell? ⟨w.heap.size, 4, none⟩ = some (.int .i64 m0.l) ∧ True := bq9
  have bq10 := BoxC.below bq7 D6_8
  have q1 : (w7.alloc (.cells #[.slice A1_7 xs1.length c1_7] 56)).cell? ⟨w.heap.size + 1, 0, none⟩ = some (.slice A1 xs1.length c1) ∧ True := bq10
  have q2 : (w7.alloc (.cells #[.slice A1_7 xs1.length c1_7] 56)).cell? ⟨w7.heap.size, 0, none⟩ = some (.slice A1_7 xs1.length c1_7) ∧ True := bq8
  go_wp2_with fail
  clear q0 q1 q2
  have D0_7 := D0_6.trans (b7.mono D0_6.size)
  have D0_8 := D0_7.trans (b8.mono D0_7.size)
  refine (toII A2 c2 xs2 _ (Rxs2.below D0_8) zxs2.1 zzxs2).mono ?_
  rintro e w9 ⟨A2_9, c2_9, rfl, hc2_9, rA2_9, oA2_9, b9⟩
  have bq11 := BoxC.below bq9 b9
  have q0 : w9.cell? ⟨w.heap.size, 0, none⟩ = some (.int .i64 m0.c) ∧ w9.cell? ⟨w.heap.size, 1, none⟩ = some (.int .i64 m0.d) ∧ w9.cell? ⟨w.heap.size, 2, none⟩ = some (.int .i64 m0.s) ∧ w9.cell? ⟨w.heap.size, 3, none⟩ = some (.int .i64 m0.a) ∧ w9.cell? ⟨w.heap.size, 4, none⟩ = some (.int .i64 m0.l) ∧ True := bq11
  have bq12 := BoxC.below bq10 b9
  have q1 : w9.cell? ⟨w.heap.size + 1, 0, none⟩ = some (.slice A1 xs1.length c1) ∧ True := bq12
  have bq13 := BoxC.below bq8 b9
  have q2 : w9.cell? ⟨w7.heap.size, 0, none⟩ = some (.slice A1_7 xs1.length c1_7) ∧ True := bq13
  go_wp2_with fail
  clear q0 q1 q2
  have KS14 := Lib.hid (show ∀ w' : World, Below w9.heap.size w9 w' → ((w'.cell? ⟨w.heap.size, 0, none⟩ = some (.int .i64 m0.c) ∧ w'.cell? ⟨w.heap.size, 1, none⟩ = some (.int .i64 m0.d) ∧ w'.cell? ⟨w.heap.size, 2, none⟩ = some (.int .i64 m0.s) ∧ w'.cell? ⟨w.heap.size, 3, none⟩ = some (.int .i64 m0.a) ∧ w'.cell? ⟨w.heap.size, 4, none⟩ = some (.int .i64 m0.l) ∧ True) ∧ (w'.cell? ⟨w7.heap.size, 0, none⟩ = some (.slice A1_7 xs1.length c1_7) ∧ True)) from fun w' hb => ⟨BoxC.below bq11 hb, BoxC.below bq13 hb⟩)
  go_region_held3 (fun w' => (w'.cell? ⟨w.heap.size, 0, none⟩ = some (.int .i64 m0.c) ∧ w'.cell? ⟨w.heap.size, 1, none⟩ = some (.int .i64 m0.d) ∧ w'.cell? ⟨w.heap.size, 2, none⟩ = some (.int .i64 m0.s) ∧ w'.cell? ⟨w.heap.size, 3, none⟩ = some (.int .i64 m0.a) ∧ w'.cell? ⟨w.heap.size, 4, none⟩ = some (.int .i64 m0.l) ∧ True) ∧ (w'.cell? ⟨w7.heap.size, 0, none⟩ = some (.slice A1_7 xs1.length c1_7) ∧ True)) (first | (refine KS14.out _ ?_; first | assumption | exact belowDrew0 _)) (first | (go_at_call 54; have D7_9 := b8.trans (b9.mono b8.size); have D7_10 := D7_9.trans (b10.mono D7_9.size); refine (implCountGhosts_any m0 A1_7 c1_7 xs1 A2_9 c2_9 xs2 _ (rA1_7.below D7_10) (rA2_9.below b10)).mono ?_; rintro e w11 ⟨rfl, b11⟩; have BS11 := Below.trans b10 (b11.mono (Below.size b10))) | (go_at_call 16; refine (toM m0.c m0.d m0.s m0.a m0.l _).mono ?_; rintro e w10 ⟨rfl, b10⟩; have b10 := belowDrew b10))
  have D9_11 := b10.trans (b11.mono b10.size)
  have bq15 := BoxC.below bq11 D9_11
  have q0 : w11.cell? ⟨w.heap.size, 0, none⟩ = some (.int .i64 m0.c) ∧ w11.cell? ⟨w.heap.size, 1, none⟩ = some (.int .i64 m0.d) ∧ w11.cell? ⟨w.heap.size, 2, none⟩ = some (.int .i64 m0.s) ∧ w11.cell? ⟨w.heap.size, 3, none⟩ = some (.int .i64 m0.a) ∧ w11.cell? ⟨w.heap.size, 4, none⟩ = some (.int .i64 m0.l) ∧ True := bq15
  have bq16 := BoxC.below bq12 D9_11
  have q1 : w11.cell? ⟨w.heap.size + 1, 0, none⟩ = some (.slice A1 xs1.length c1) ∧ True := bq16
  have bq17 := BoxC.below bq13 D9_11
  have q2 : w11.cell? ⟨w7.heap.size, 0, none⟩ = some (.slice A1_7 xs1.length c1_7) ∧ True := bq17
  go_wp2_with fail
  clear q0 q1 q2
  have KS18 := Lib.hid (show ∀ w' : World, Below w11.heap.size w11 w' → ((w'.cell? ⟨w.heap.size + 1, 0, none⟩ = some (.slice A1 xs1.length c1) ∧ True) ∧ (w'.cell? ⟨w7.heap.size, 0, none⟩ = some (.slice A1_7 xs1.length c1_7) ∧ True)) from fun w' hb => ⟨BoxC.below bq16 hb, BoxC.below bq17 hb⟩)
  go_region_held3 (fun w' => (w'.cell? ⟨w.heap.size + 1, 0, none⟩ = some (.slice A1 xs1.length c1) ∧ True) ∧ (w'.cell? ⟨w7.heap.size, 0, none⟩ = some (.slice A1_7 xs1.length c1_7) ∧ True)) (first | (refine KS18.out _ ?_; first | assumption | exact belowDrew0 _)) (first | (go_at_call 41; have D7_11 := D7_10.trans (b11.mono D7_10.size); have D7_12 := D7_11.trans (b12.mono D7_11.size); refine (eqL_t A1_7 A1_12 c1_7 c1_12 xs1 _ (rA1_7.below D7_12) rA1_12).mono ?_; rintro e w13 ⟨rfl, b13⟩; have BS13 := Below.trans b12 (b13.mono (Below.size b12))) | (go_at_call 38; have D0_9 := D0_8.trans (b9.mono D0_8.size); have D0_10 := D0_9.trans (b10.mono D0_9.size); have D0_11 := D0_10.trans (b11.mono D0_10.size); refine (toL A1 c1 xs1 _ ((Rxs1.below D0_11).below (belowDrew0 _)) zxs1.1 zzxs1).mono ?_; rintro e w12 ⟨A1_12, c1_12, rfl, hc1_12, rA1_12, oA1_12, b12⟩; have b12 := belowDrew b12))
  have D11_13 := b12.trans (b13.mono b12.size)
  have bq19 := BoxC.below bq15 D11_13
  have q0 : w13.cell? ⟨w.heap.size, 0, none⟩ = some (.int .i64 m0.c) ∧ w13.cell? ⟨w.heap.size, 1, none⟩ = some (.int .i64 m0.d) ∧ w13.cell? ⟨w.heap.size, 2, none⟩ = some (.int .i64 m0.s) ∧ w13.cell? ⟨w.heap.size, 3, none⟩ = some (.int .i64 m0.a) ∧ w13.cell? ⟨w.heap.size, 4, none⟩ = some (.int .i64 m0.l) ∧ True := bq19
  have bq20 := BoxC.below bq16 D11_13
  have q1 : w13.cell? ⟨w.heap.size + 1, 0, none⟩ = some (.slice A1 xs1.length c1) ∧ True := bq20
  have bq21 := BoxC.below bq17 D11_13
  have q2 : w13.cell? ⟨w7.heap.size, 0, none⟩ = some (.slice A1_7 xs1.length c1_7) ∧ True := bq21
  go_wp2_with fail
  clear q0 q1 q2
  have D0_12 := D0_11.trans (b12.mono D0_11.size)
  have D0_13 := D0_12.trans (b13.mono D0_12.size)
  refine (toII A2 c2 xs2 _ (Rxs2.below D0_13) zxs2.1 zzxs2).mono ?_
  rintro e w14 ⟨A2_14, c2_14, rfl, hc2_14, rA2_14, oA2_14, b14⟩
  have bq22 := BoxC.below bq19 b14
  have q0 : w14.cell? ⟨w.heap.size, 0, none⟩ = some (.int .i64 m0.c) ∧ w14.cell? ⟨w.heap.size, 1, none⟩ = some (.int .i64 m0.d) ∧ w14.cell? ⟨w.heap.size, 2, none⟩ = some (.int .i64 m0.s) ∧ w14.cell? ⟨w.heap.size, 3, none⟩ = some (.int .i64 m0.a) ∧ w14.cell? ⟨w.heap.size, 4, none⟩ = some (.int .i64 m0.l) ∧ True := bq22
  have bq23 := BoxC.below bq20 b14
  have q1 : w14.cell? ⟨w.heap.size + 1, 0, none⟩ = some (.slice A1 xs1.length c1) ∧ True := bq23
  have bq24 := BoxC.below bq21 b14
  have q2 : w14.cell? ⟨w7.heap.size, 0, none⟩ = some (.slice A1_7 xs1.length c1_7) ∧ True := bq24
  go_wp2_with fail
  clear q0 q1 q2
  have D9_12 := D9_11.trans (b12.mono D9_11.size)
  have D9_13 := D9_12.trans (b13.mono D9_12.size)
  have D9_14 := D9_13.trans (b14.mono D9_13.size)
  refine (eqII_t A2_9 A2_14 c2_9 c2_14 xs2 _ (rA2_9.below D9_14) rA2_14).mono ?_
  rintro e w15 ⟨rfl, b15⟩
  have D0_14 := D0_13.trans (b14.mono D0_13.size)
  have D0_15 := D0_14.trans (b15.mono D0_14.size)
  have DD := D0_15
  have bq25 := BoxC.below bq22 b15
  have q0 : w15.cell? ⟨w.heap.size, 0, none⟩ = some (.int .i64 m0.c) ∧ w15.cell? ⟨w.heap.size, 1, none⟩ = some (.int .i64 m0.d) ∧ w15.cell? ⟨w.heap.size, 2, none⟩ = some (.int .i64 m0.s) ∧ w15.cell? ⟨w.heap.size, 3, none⟩ = some (.int .i64 m0.a) ∧ w15.cell? ⟨w.heap.size, 4, none⟩ = some (.int .i64 m0.l) ∧ True := bq25
  have bq26 := BoxC.below bq23 b15
  have q1 : w15.cell? ⟨w.heap.size + 1, 0, none⟩ = some (.slice A1 xs1.length c1) ∧ True := bq26
  have bq27 := BoxC.below bq24 b15
  have q2 : w15.cell? ⟨w7.heap.size, 0, none⟩ = some (.slice A1_7 xs1.length c1_7) ∧ True := bq27
  go_wp2_with fail
  go_ret
  exact ⟨rfl, HB0.trans (DD.mono HB0.size)⟩
end Go.Proofs.Ytcdajogdpgjgjaa.fnExactCountGhosts
