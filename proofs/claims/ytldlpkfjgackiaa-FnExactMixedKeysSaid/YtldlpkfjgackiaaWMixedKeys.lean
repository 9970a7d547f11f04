/- The walk of the law FnExactMixedKeys. -/
import Derived.Test.YtldlpkfjgackiaaFMixed
import Derived.Test.YtldlpkfjgackiaaHelpP
namespace Go.Proofs.Ytldlpkfjgackiaa.fnExactMixedKeys
set_option linter.unusedVariables false
open Go.RowKit
set_option maxRecDepth 100000 in
set_option maxHeartbeats 8000000 in
theorem walk (m0 : Mk) (A1 : Option Addr) (c1 : Nat) (xs1 : List Int) (B1 : Option Addr) (d1 : Nat) (ys1 : List Int) (s1 : Int) (A2 : Option Addr) (c2 : Nat) (xs2 : List Int) (w : World) (hc1 : xs1.length ≤ c1) (h1 : RI w A1 xs1) (hd1 : ys1.length ≤ d1) (k1 : RI w B1 ys1) (hc2 : xs2.length ≤ c2) (h2 : RI w A2 xs2) :
    Calls Try.prog 7 #[.agg #[.int .i64 m0.c, .int .i64 m0.d, .int .i64 m0.s, .int .i64 m0.a, .int .i64 m0.l], .agg #[.slice A1 xs1.length c1, .slice B1 ys1.length d1, .int .i64 s1], .slice A2 xs2.length c2] w fun e w' => e = .returned (.bool true) ∧ Below w.heap.size w w' := by
  have HB0 : Below w.heap.size w ((w.alloc (.cells #[.int .i64 m0.c, .int .i64 m0.d, .int .i64 m0.s, .int .i64 m0.a, .int .i64 m0.l] 23)).alloc (.cells #[.slice A1 xs1.length c1, .slice B1 ys1.length d1, .int .i64 s1] 55)) := ((Below.refl w.heap.size w).alloc (by exact Nat.le_refl _) _).alloc (by simp only [World.size_alloc]; omega) _
  have bx0 : BoxC ((w.alloc (.cells #[.int .i64 m0.c, .int .i64 m0.d, .int .i64 m0.s, .int .i64 m0.a, .int .i64 m0.l] 23)).alloc (.cells #[.slice A1 xs1.length c1, .slice B1 ys1.length d1, .int .i64 s1] 55)) (w.heap.size) 0 [.int .i64 m0.c, .int .i64 m0.d, .int .i64 m0.s, .int .i64 m0.a, .int .i64 m0.l] := by simp [BoxC, Go.World.cell?_alloc_at, Go.World.cell?_alloc_past]
  have bx1 : BoxC ((w.alloc (.cells #[.int .i64 m0.c, .int .i64 m0.d, .int .i64 m0.s, .int .i64 m0.a, .int .i64 m0.l] 23)).alloc (.cells #[.slice A1 xs1.length c1, .slice B1 ys1.length d1, .int .i64 s1] 55)) (w.heap.size + 1) 0 [.slice A1 xs1.length c1, .slice B1 ys1.length d1, .int .i64 s1] := by simp [BoxC, Go.World.cell?_alloc_at]
  have Rxs1 := ((h1).alloc (.cells #[.int .i64 m0.c, .int .i64 m0.d, .int .i64 m0.s, .int .i64 m0.a, .int .i64 m0.l] 23)).alloc (.cells #[.slice A1 xs1.length c1, .slice B1 ys1.length d1, .int .i64 s1] 55)
  have Rys1 := ((k1).alloc (.cells #[.int .i64 m0.c, .int .i64 m0.d, .int .i64 m0.s, .int .i64 m0.a, .int .i64 m0.l] 23)).alloc (.cells #[.slice A1 xs1.length c1, .slice B1 ys1.length d1, .int .i64 s1] 55)
  have Rxs2 := ((h2).alloc (.cells #[.int .i64 m0.c, .int .i64 m0.d, .int .i64 m0.s, .int .i64 m0.a, .int .i64 m0.l] 23)).alloc (.cells #[.slice A1 xs1.length c1, .slice B1 ys1.length d1, .int .i64 s1] 55)
  by_cases z2 : xs2.length ≤ 1048576
  case neg =>
    have i2 : (1048576 : Int) < (xs2.length : Int) := by omega
    go_enter Try.func7, Try.ntmps7
    go_wp2_with fail
    go_ret
    exact ⟨rfl, HB0⟩
  have i2 : ¬ ((1048576 : Int) < (xs2.length : Int)) := by omega
  go_enter Try.func7, Try.ntmps7
  have q0 : ((w.alloc (.cells #[.int .i64 m0.c, .int .i64 m0.d, .int .i64 m0.s, .int .i64 m0.a, .int .i64 m0.l] 23)).alloc (.cells #[.slice A1 xs1.length c1, .slice B1 ys1.length d1, .int .i64 s1] 55)).cell? ⟨w.heap.size, 0, none⟩ = some (.int .i64 m0.c) ∧ ((w.alloc (.cells #[.int .i64 m0.c, .int .i64 m0.d, .int .i64 m0.s, .int .i64 m0.a, .int .i64 m0.l] 23)).alloc (.cells #[.slice A1 xs1.length c1, .slice B1 ys1.length d1, .int .i64 s1] 55)).cell? ⟨w.heap.size, 1, none⟩ = some (.int .i64 m0.d) ∧ ((w.alloc (.cells #[.int .i64 m0.c, .int .i64 m0.d, .int .i64 m0.s, .int .i64 m0.a, .int .i64 m0.l] 23)).alloc (.cells #[.slice A1 xs1.length c1, .slice B1 ys1.length d1, .int .i64 s1] 55)).cell? ⟨w.heap.size, 2, none⟩ = some (.int .i64 m0.s) ∧ ((w.alloc (.cells #[.int .i64 m0.c, .int .i64 m0.d, .int .i64 m0.s, .int .i64 m0.a, .int .i64 m0.l] 23)).alloc (.cells #[.slice A1 xs1.length c1, .slice B1 ys1.length d1, .int .i64 s1] 55)).cell? ⟨w.heap.size, 3, none⟩ = some (.int .i64 m0.a) ∧ ((w.alloc (.cells #[.int .i64 m0.c, .int .i64 m0.d, .int .i64 m0.s, .int .i64 m0.a, .int .i64 m0.l] 23)).alloc (.cells #[.slice A1 xs1.length c1, .slice B1 ys1.length d1, .int .i64 s1] 55)).cell? ⟨w.heap.size, 4, none⟩ = some (.int .i64 m0.l) ∧ True := bx0
  have q1 : ((w.alloc (.cells #[.int .i64 m0.c, .int .i64 m0.d, .int .i64 m0.s, .int .i64 m0.a, .int .i64 m0.l] 23)).alloc (.cells #[.slice A1 xs1.length c1, .slice B1 ys1.length d1, .int .i64 s1] 55)).cell? ⟨w.heap.size + 1, 0, none⟩ = some (.slice A1 xs1.length c1) ∧ ((w.alloc (.cells #[.int .i64 m0.c, .int .i64 m0.d, .int .i64 m0.s, .int .i64 m0.a, .int .i64 m0.l] 23)).alloc (.cells #[.slice A1 xs1.length c1, .slice B1 ys1.length d1, .int .i64 s1] 55)).cell? ⟨w.heap.size + 1, 1, none⟩ = some (.slice B1 ys1.length d1) ∧ ((w.alloc (.cells #[.int .i64 m0.c, .int .i64 m0.d, .int .i64 m0.s, .int .i64 m0.a, .int .i64 m0.l] 23)).alloc (.cells #[.slice A1 xs1.length c1, .slice B1 ys1.length d1, .int .i64 s1] 55)).cell? ⟨w.heap.size + 1, 2, none⟩ = some (.int .i64 s1) ∧ True := bx1
  go_wp2_with fail
  clear q0 q1
  refine (szP A1 c1 xs1 B1 d1 ys1 s1 _ _ Rxs1 Rys1 (by omega) (by omega)).mono ?_
  rintro e w1 ⟨r1, rfl, hL1, b1, hm1⟩
  by_cases hz1 : r1 < 0
  case pos =>
    go_wp2_with fail
    go_ret
    exact ⟨rfl, HB0.trans (b1.mono HB0.size)⟩
  have hL12 := hL1.2 (by omega)
  have hL11 := hL1.1
  have zxs1 : xs1.length ≤ 1048576 := by omega
  have zys1 : ys1.length ≤ 1048576 := by omega
  have zt1 : (xs1.length : Nat) + (ys1.length : Nat) + r1 ≤ 1048576 := by omega
  have Hz1 := Lib.hid hL12; clear hL12 hL1
  have bq1 := BoxC.below bx0 b1
  have q0 : w1.cell? ⟨w.heap.size, 0, none⟩ = some (.int .i64 m0.c) ∧ w1.cell? ⟨w.heap.size, 1, none⟩ = some (.int .i64 m0.d) ∧ w1.cell? ⟨w.heap.size, 2, none⟩ = some (.int .i64 m0.s) ∧ w1.cell? ⟨w.heap.size, 3, none⟩ = some (.int .i64 m0.a) ∧ w1.cell? ⟨w.heap.size, 4, none⟩ = some (.int .i64 m0.l) ∧ True := bq1
  have bq2 := BoxC.below bx1 b1
  have q1 : w1.cell? ⟨w.heap.size + 1, 0, none⟩ = some (.slice A1 xs1.length c1) ∧ w1.cell? ⟨w.heap.size + 1, 1, none⟩ = some (.slice B1 ys1.length d1) ∧ w1.cell? ⟨w.heap.size + 1, 2, none⟩ = some (.int .i64 s1) ∧ True := bq2
  go_wp2_with fail
  clear q0 q1
  have KS3 := Lib.hid (show ∀ w' : World, Below w1.heap.size w1 w' → ((w'.cell? ⟨w.heap.size, 0, none⟩ = some (.int .i64 m0.c) ∧ w'.cell? ⟨w.heap.size, 1, none⟩ = some (.int .i64 m0.d) ∧ w'.cell? ⟨w.heap.size, 2, none⟩ = some (.int .i64 m0.s) ∧ w'.cell? ⟨w.heap.size, 3, none⟩ = some (.int .i64 m0.a) ∧ w'.cell? ⟨w.heap.size, 4, none⟩ = some (.int .i64 m0.l) ∧ True) ∧ (w'.cell? ⟨w.heap.size + 1, 0, none⟩ = some (.slice A1 xs1.length c1) ∧ w'.cell? ⟨w.heap.size + 1, 1, none⟩ = some (.slice B1 ys1.length d1) ∧ w'.cell? ⟨w.heap.size + 1, 2, none⟩ = some (.int .i64 s1) ∧ True)) from fun w' hb => ⟨BoxC.below bq1 hb, BoxC.below bq2 hb⟩)
  go_region_held3 (fun w' => (w'.cell? ⟨w.heap.size, 0, none⟩ = some (.int .i64 m0.c) ∧ w'.cell? ⟨w.heap.size, 1, none⟩ = some (.int .i64 m0.d) ∧ w'.cell? ⟨w.heap.size, 2, none⟩ = some (.int .i64 m0.s) ∧ w'.cell? ⟨w.heap.size, 3, none⟩ = some (.int .i64 m0.a) ∧ w'.cell? ⟨w.heap.size, 4, none⟩ = some (.int .i64 m0.l) ∧ True) ∧ (w'.cell? ⟨w.heap.size + 1, 0, none⟩ = some (.slice A1 xs1.length c1) ∧ w'.cell? ⟨w.heap.size + 1, 1, none⟩ = some (.slice B1 ys1.length d1) ∧ w'.cell? ⟨w.heap.size + 1, 2, none⟩ = some (.int .i64 s1) ∧ True)) (first | (refine KS3.out _ ?_; first | assumption | exact belowDrew0 _ | exact Below.alloc (by assumption) (Below.size (by assumption)) _)) (first | (go_at_call 43; have D1_4 := D1_3.trans (b4.mono D1_3.size); refine (specMixedKeys_any m0 A1_3 c1_3 xs1 B1_3 d1_3 ys1 s1 A2_4 c2_4 xs2 _ (rA1_3.below b4) (rB1_3.below b4) rA2_4 hc1_3 hc2_4).mono ?_; rintro e w5 ⟨rfl, b5⟩; have BS5 := Below.trans BS4 (b5.mono (Below.size BS4))) | (go_at_call 16; have D1_3 := b2.trans (b3.mono b2.size); have D0_3 := D0_2.trans (b3.mono D0_2.size); refine (toI A2 c2 xs2 _ (Rxs2.below D0_3) z2).mono ?_; rintro e w4 ⟨A2_4, c2_4, rfl, hc2_4, rA2_4, oA2_4, b4, _⟩; have BS4 := Below.trans BS3 (b4.mono (Below.size BS3))) | (go_at_call 39; have D0_2 := b1.trans (b2.mono b1.size); refine (toP A1 c1 xs1 B1 d1 ys1 s1 _ (Rxs1.below D0_2) (Rys1.below D0_2) zxs1 zys1).mono ?_; rintro e w3 ⟨A1_3, c1_3, B1_3, d1_3, rfl, hc1_3, rA1_3, hd1_3, rB1_3, oA1_3, b3⟩; have BS3 := Below.trans b2 (b3.mono (Below.size b2))) | (go_at_call 15; refine (toM m0.c m0.d m0.s m0.a m0.l _).mono ?_; rintro e w2 ⟨rfl, b2⟩; have b2 := belowDrew b2))
  have D1_5 := D1_4.trans (b5.mono D1_4.size)
  have bq4 := BoxC.below bq1 D1_5
  have q0 : w5.cell? ⟨w.heap.size, 0, none⟩ = some (.int .i64 m0.c) ∧ w5.cell? ⟨w.heap.size, 1, none⟩ = some (.int .i64 m0.d) ∧ w5.cell? ⟨w.heap.size, 2, none⟩ = some (.int .i64 m0.s) ∧ w5.cell? ⟨w.heap.size, 3, none⟩ = some (.int .i64 m0.a) ∧ w5.cell? ⟨w.heap.size, 4, none⟩ = some (.int .i64 m0.l) ∧ True := bq4
  have bq5 := BoxC.below bq2 D1_5
  have q1 : w5.cell? ⟨w.heap.size + 1, 0, none⟩ = some (.slice A1 xs1.length c1) ∧ w5.cell? ⟨w.heap.size + 1, 1, none⟩ = some (.slice B1 ys1.length d1) ∧ w5.cell? ⟨w.heap.size + 1, 2, none⟩ = some (.int .i64 s1) ∧ True := bq5
  go_wp2_with fail
  clear q0 q1
  have D0_4 := D0_3.trans (b4.mono D0_3.size)
  have D0_5 := D0_4.trans (b5.mono D0_4.size)
  refine (toP A1 c1 xs1 B1 d1 ys1 s1 _ (Rxs1.below D0_5) (Rys1.below D0_5) zxs1 zys1).mono ?_
  rintro e w6 ⟨A1_6, c1_6, B1_6, d1_6, rfl, hc1_6, rA1_6, hd1_6, rB1_6, oA1_6, b6⟩
  have b7 : Below w6.heap.size w6 (w6.alloc (.cells #[.slice A1_6 xs1.length c1_6, .slice B1_6 ys1.length d1_6, .int .i64 s1] 58)) := (Below.refl _ _).alloc (Nat.le_refl _) _
  have bq6 : BoxC (w6.alloc (.cells #[.slice A1_6 xs1.length c1_6, .slice B1_6 ys1.length d1_6, .int .i64 s1] 58)) (w6.heap.size) 0 [.slice A1_6 xs1.length c1_6, .slice B1_6 ys1.length d1_6, .int .i64 s1] := by simp [BoxC, Go.World.cell?_alloc_at]
  have D5_7 := b6.trans (b7.mono b6.size)
  have bq7 := BoxC.below bq4 D5_7
  have q0 : (w6.alloc (.cells #[.slice A1_6 xs1.length c1_6, .slice B1_6 ys1.length d1_6, .int .i64 s1] 58)).cell? ⟨w.heap.size, 0, none⟩ = some (.int .i64 m0.c) ∧ (w6.alloc (.cells #[.slice A1_6 xs1.length c1_6, .slice B1_6 ys1.length d1_6, .int .i64 s1] 58)).cell? ⟨w.heap.size, 1, none⟩ = some (.int .i64 m0.d) ∧ (w6.alloc (.cells #[.slice A1_6 xs1.length c1_6, .slice B1_6 ys1.length d1_6, .int .i64 s1] 58)).cell? ⟨w.heap.size, 2, none⟩ = some (.int .i64 m0.s) ∧ (w6.alloc (.cells #[.slice A1_6 xs1.length c1_6, .slice B1_6 ys1.length d1_6, .int .i64 s1] 58)).cell? ⟨w.heap.size, 3, none⟩ = some (.int .i64 m0.a) ∧ (w6.alloc (.cells #[.slice A1_6 xs1.length c1_6, .slice B1_6 ys1.length d1_6, .int .i64 s1] 58)).cell? ⟨w.heap.size, 4, none⟩ = some (.int .i64 m0.l) ∧ True := bq7
  have bq8 := BoxC.below bq5 D5_7
  have q1 : (w6.alloc (.cells #[.slice A1_6 xs1.length c1_6, .slice B1_6 ys1.length d1_6, .int .i64 s1] 58)).cell? ⟨w.heap.size + 1, 0, none⟩ = some (.slice A1 xs1.length c1) ∧ (w6.alloc (.cells #[.slice A1_6 xs1.length c1_6, .slice B1_6 ys1.length d1_6, .int .i64 s1] 58)).cell? ⟨w.heap.size + 1, 1, none⟩ = some (.slice B1 ys1.length d1) ∧ (w6.alloc (.cells #[.slice A1_6 xs1.length c1_6, .slice B1_6 ys1.length d1_6, .int .i64 s1] 58)).cell? ⟨w.heap.size + 1, 2, none⟩ = some (.int .i64 s1) ∧ True := bq8
  have q2 : (w6.alloc (.cells #[.slice A1_6 xs1.length c1_6, .slice B1_6 ys1.length d1_6, .int .i64 s1] 58)).cell? ⟨w6.heap.size, 0, none⟩ = some (.slice A1_6 xs1.length c1_6) ∧ (w6.alloc (.cells #[.slice A1_6 xs1.length c1_6, .slice B1_6 ys1.length d1_6, .int .i64 s1] 58)).cell? ⟨w6.heap.size, 1, none⟩ = some (.slice B1_6 ys1.length d1_6) ∧ (w6.alloc (.cells #[.slice A1_6 xs1.length c1_6, .slice B1_6 ys1.length d1_6, .int .i64 s1] 58)).cell? ⟨w6.heap.size, 2, none⟩ = some (.int .i64 s1) ∧ True := bq6
  go_wp2_with fail
  clear q0 q1 q2
  have D0_6 := D0_5.trans (b6.mono D0_5.size)
  have D0_7 := D0_6.trans (b7.mono D0_6.size)
  refine (toI A2 c2 xs2 _ (Rxs2.below D0_7) z2).mono ?_
  rintro e w8 ⟨A2_8, c2_8, rfl, hc2_8, rA2_8, oA2_8, b8, _⟩
  have bq9 := BoxC.below bq7 b8
  have q0 : w8.cell? ⟨w.heap.size, 0, none⟩ = some (.int .i64 m0.c) ∧ w8.cell? ⟨w.heap.size, 1, none⟩ = some (.int .i64 m0.d) ∧ w8.cell? ⟨w.heap.size, 2, none⟩ = some (.int .i64 m0.s) ∧ w8.cell? ⟨w.heap.size, 3, none⟩ = some (.int .i64 m0.a) ∧ w8.cell? ⟨w.heap.size, 4, none⟩ = some (.int .i64 m0.l) ∧ True := bq9
  have bq10 := BoxC.below bq8 b8
  have q1 : w8.cell? ⟨w.heap.size + 1, 0, none⟩ = some (.slice A1 xs1.length c1) ∧ w8.cell? ⟨w.heap.size + 1, 1, none⟩ = some (.slice B1 ys1.length d1) ∧ w8.cell? ⟨w.heap.size + 1, 2, none⟩ = some (.int .i64 s1) ∧ True := bq10
  have bq11 := BoxC.below bq6 b8
  have q2 : w8.cell? ⟨w6.heap.size, 0, none⟩ = some (.slice A1_6 xs1.length c1_6) ∧ w8.cell? ⟨w6.heap.size, 1, none⟩ = some (.slice B1_6 ys1.length d1_6) ∧ w8.cell? ⟨w6.heap.size, 2, none⟩ = some (.int .i64 s1) ∧ True := bq11
  go_wp2_with fail
  clear q0 q1 q2
  have KS12 := Lib.hid (show ∀ w' : World, Below w8.heap.size w8 w' → ((w'.cell? ⟨w.heap.size, 0, none⟩ = some (.int .i64 m0.c) ∧ w'.cell? ⟨w.heap.size, 1, none⟩ = some (.int .i64 m0.d) ∧ w'.cell? ⟨w.heap.size, 2, none⟩ = some (.int .i64 m0.s) ∧ w'.cell? ⟨w.heap.size, 3, none⟩ = some (.int .i64 m0.a) ∧ w'.cell? ⟨w.heap.size, 4, none⟩ = some (.int .i64 m0.l) ∧ True) ∧ (w'.cell? ⟨w6.heap.size, 0, none⟩ = some (.slice A1_6 xs1.length c1_6) ∧ w'.cell? ⟨w6.heap.size, 1, none⟩ = some (.slice B1_6 ys1.length d1_6) ∧ w'.cell? ⟨w6.heap.size, 2, none⟩ = some (.int .i64 s1) ∧ True)) from fun w' hb => ⟨BoxC.below bq9 hb, BoxC.below bq11 hb⟩)
  go_region_held3 (fun w' => (w'.cell? ⟨w.heap.size, 0, none⟩ = some (.int .i64 m0.c) ∧ w'.cell? ⟨w.heap.size, 1, none⟩ = some (.int .i64 m0.d) ∧ w'.cell? ⟨w.heap.size, 2, none⟩ = some (.int .i64 m0.s) ∧ w'.cell? ⟨w.heap.size, 3, none⟩ = some (.int .i64 m0.a) ∧ w'.cell? ⟨w.heap.size, 4, none⟩ = some (.int .i64 m0.l) ∧ True) ∧ (w'.cell? ⟨w6.heap.size, 0, none⟩ = some (.slice A1_6 xs1.length c1_6) ∧ w'.cell? ⟨w6.heap.size, 1, none⟩ = some (.slice B1_6 ys1.length d1_6) ∧ w'.cell? ⟨w6.heap.size, 2, none⟩ = some (.int .i64 s1) ∧ True)) (first | (refine KS12.out _ ?_; first | assumption | exact belowDrew0 _ | exact Below.alloc (by assumption) (Below.size (by assumption)) _)) (first | (go_at_call 44; have D6_8 := b7.trans (b8.mono b7.size); have D6_9 := D6_8.trans (b9.mono D6_8.size); refine (implMixedKeys_any m0 A1_6 c1_6 xs1 B1_6 d1_6 ys1 s1 A2_8 c2_8 xs2 _ (rA1_6.below D6_9) (rB1_6.below D6_9) (rA2_8.below b9) hc1_6 hc2_8).mono ?_; rintro e w10 ⟨rfl, b10⟩; have BS10 := Below.trans b9 (b10.mono (Below.size b9))) | (go_at_call 15; refine (toM m0.c m0.d m0.s m0.a m0.l _).mono ?_; rintro e w9 ⟨rfl, b9⟩; have b9 := belowDrew b9))
  have D8_10 := b9.trans (b10.mono b9.size)
  have bq13 := BoxC.below bq9 D8_10
  have q0 : w10.cell? ⟨w.heap.size, 0, none⟩ = some (.int .i64 m0.c) ∧ w10.cell? ⟨w.heap.size, 1, none⟩ = some (.int .i64 m0.d) ∧ w10.cell? ⟨w.heap.size, 2, none⟩ = some (.int .i64 m0.s) ∧ w10.cell? ⟨w.heap.size, 3, none⟩ = some (.int .i64 m0.a) ∧ w10.cell? ⟨w.heap.size, 4, none⟩ = some (.int .i64 m0.l) ∧ True := bq13
  have bq14 := BoxC.below bq10 D8_10
  have q1 : w10.cell? ⟨w.heap.size + 1, 0, none⟩ = some (.slice A1 xs1.length c1) ∧ w10.cell? ⟨w.heap.size + 1, 1, none⟩ = some (.slice B1 ys1.length d1) ∧ w10.cell? ⟨w.heap.size + 1, 2, none⟩ = some (.int .i64 s1) ∧ True := bq14
  have bq15 := BoxC.below bq11 D8_10
  have q2 : w10.cell? ⟨w6.heap.size, 0, none⟩ = some (.slice A1_6 xs1.length c1_6) ∧ w10.cell? ⟨w6.heap.size, 1, none⟩ = some (.slice B1_6 ys1.length d1_6) ∧ w10.cell? ⟨w6.heap.size, 2, none⟩ = some (.int .i64 s1) ∧ True := bq15
  go_wp2_with fail
  clear q0 q1 q2
  have KS16 := Lib.hid (show ∀ w' : World, Below w10.heap.size w10 w' → ((w'.cell? ⟨w.heap.size + 1, 0, none⟩ = some (.slice A1 xs1.length c1) ∧ w'.cell? ⟨w.heap.size + 1, 1, none⟩ = some (.slice B1 ys1.length d1) ∧ w'.cell? ⟨w.heap.size + 1, 2, none⟩ = some (.int .i64 s1) ∧ True) ∧ (w'.cell? ⟨w6.heap.size, 0, none⟩ = some (.slice A1_6 xs1.length c1_6) ∧ w'.cell? ⟨w6.heap.size, 1, none⟩ = some (.slice B1_6 ys1.length d1_6) ∧ w'.cell? ⟨w6.heap.size, 2, none⟩ = some (.int .i64 s1) ∧ True)) from fun w' hb => ⟨BoxC.below bq14 hb, BoxC.below bq15 hb⟩)
  go_region_held3 (fun w' => (w'.cell? ⟨w.heap.size + 1, 0, none⟩ = some (.slice A1 xs1.length c1) ∧ w'.cell? ⟨w.heap.size + 1, 1, none⟩ = some (.slice B1 ys1.length d1) ∧ w'.cell? ⟨w.heap.size + 1, 2, none⟩ = some (.int .i64 s1) ∧ True) ∧ (w'.cell? ⟨w6.heap.size, 0, none⟩ = some (.slice A1_6 xs1.length c1_6) ∧ w'.cell? ⟨w6.heap.size, 1, none⟩ = some (.slice B1_6 ys1.length d1_6) ∧ w'.cell? ⟨w6.heap.size, 2, none⟩ = some (.int .i64 s1) ∧ True)) (first | (refine KS16.out _ ?_; first | assumption | exact belowDrew0 _ | exact Below.alloc (by assumption) (Below.size (by assumption)) _)) (first | (go_at_call 41; have D6_10 := D6_9.trans (b10.mono D6_9.size); have D6_11 := D6_10.trans (b11.mono D6_10.size); refine (eqP_t A1_6 A1_11 c1_6 c1_11 xs1 B1_6 B1_11 d1_6 d1_11 ys1 s1 _ (rA1_6.below D6_11) rA1_11 (rB1_6.below D6_11) rB1_11).mono ?_; rintro e w12 ⟨rfl, b12⟩; have BS12 := Below.trans b11 (b12.mono (Below.size b11))) | (go_at_call 39; have D0_8 := D0_7.trans (b8.mono D0_7.size); have D0_9 := D0_8.trans (b9.mono D0_8.size); have D0_10 := D0_9.trans (b10.mono D0_9.size); refine (toP A1 c1 xs1 B1 d1 ys1 s1 _ ((Rxs1.below D0_10).below (belowDrew0 _)) ((Rys1.below D0_10).below (belowDrew0 _)) zxs1 zys1).mono ?_; rintro e w11 ⟨A1_11, c1_11, B1_11, d1_11, rfl, hc1_11, rA1_11, hd1_11, rB1_11, oA1_11, b11⟩; have b11 := belowDrew b11))
  have D10_12 := b11.trans (b12.mono b11.size)
  have bq17 := BoxC.below bq13 D10_12
  have q0 : w12.cell? ⟨w.heap.size, 0, none⟩ = some (.int .i64 m0.c) ∧ w12.cell? ⟨w.heap.size, 1, none⟩ = some (.int .i64 m0.d) ∧ w12.cell? ⟨w.heap.size, 2, none⟩ = some (.int .i64 m0.s) ∧ w12.cell? ⟨w.heap.size, 3, none⟩ = some (.int .i64 m0.a) ∧ w12.cell? ⟨w.heap.size, 4, none⟩ = some (.int .i64 m0.l) ∧ True := bq17
  have bq18 := BoxC.below bq14 D10_12
  have q1 : w12.cell? ⟨w.heap.size + 1, 0, none⟩ = some (.slice A1 xs1.length c1) ∧ w12.cell? ⟨w.heap.size + 1, 1, none⟩ = some (.slice B1 ys1.length d1) ∧ w12.cell? ⟨w.heap.size + 1, 2, none⟩ = some (.int .i64 s1) ∧ True := bq18
  have bq19 := BoxC.below bq15 D10_12
  have q2 : w12.cell? ⟨w6.heap.size, 0, none⟩ = some (.slice A1_6 xs1.length c1_6) ∧ w12.cell? ⟨w6.heap.size, 1, none⟩ = some (.slice B1_6 ys1.length d1_6) ∧ w12.cell? ⟨w6.heap.size, 2, none⟩ = some (.int .i64 s1) ∧ True := bq19
  go_wp2_with fail
  clear q0 q1 q2
  have D0_11 := D0_10.trans (b11.mono D0_10.size)
  have D0_12 := D0_11.trans (b12.mono D0_11.size)
  refine (toI A2 c2 xs2 _ (Rxs2.below D0_12) z2).mono ?_
  rintro e w13 ⟨A2_13, c2_13, rfl, hc2_13, rA2_13, oA2_13, b13, _⟩
  have bq20 := BoxC.below bq17 b13
  have q0 : w13.cell? ⟨w.heap.size, 0, none⟩ = some (.int .i64 m0.c) ∧ w13.cell? ⟨w.heap.size, 1, none⟩ = some (.int .i64 m0.d) ∧ w13.cell? ⟨w.heap.size, 2, none⟩ = some (.int .i64 m0.s) ∧ w13.cell? ⟨w.heap.size, 3, none⟩ = some (.int .i64 m0.a) ∧ w13.cell? ⟨w.heap.size, 4, none⟩ = some (.int .i64 m0.l) ∧ True := bq20
  have bq21 := BoxC.below bq18 b13
  have q1 : w13.cell? ⟨w.heap.size + 1, 0, none⟩ = some (.slice A1 xs1.length c1) ∧ w13.cell? ⟨w.heap.size + 1, 1, none⟩ = some (.slice B1 ys1.length d1) ∧ w13.cell? ⟨w.heap.size + 1, 2, none⟩ = some (.int .i64 s1) ∧ True := bq21
  have bq22 := BoxC.below bq19 b13
  have q2 : w13.cell? ⟨w6.heap.size, 0, none⟩ = some (.slice A1_6 xs1.length c1_6) ∧ w13.cell? ⟨w6.heap.size, 1, none⟩ = some (.slice B1_6 ys1.length d1_6) ∧ w13.cell? ⟨w6.heap.size, 2, none⟩ = some (.int .i64 s1) ∧ True := bq22
  go_wp2_with fail
  clear q0 q1 q2
  have D8_11 := D8_10.trans (b11.mono D8_10.size)
  have D8_12 := D8_11.trans (b12.mono D8_11.size)
  have D8_13 := D8_12.trans (b13.mono D8_12.size)
  refine (eqI_t A2_8 A2_13 c2_8 c2_13 xs2 _ (rA2_8.below D8_13) rA2_13).mono ?_
  rintro e w14 ⟨rfl, b14⟩
  have D0_13 := D0_12.trans (b13.mono D0_12.size)
  have D0_14 := D0_13.trans (b14.mono D0_13.size)
  have DD := D0_14
  have bq23 := BoxC.below bq20 b14
  have q0 : w14.cell? ⟨w.heap.size, 0, none⟩ = some (.int .i64 m0.c) ∧ w14.cell? ⟨w.heap.size, 1, none⟩ = some (.int .i64 m0.d) ∧ w14.cell? ⟨w.heap.size, 2, none⟩ = some (.int .i64 m0.s) ∧ w14.cell? ⟨w.heap.size, 3, none⟩ = some (.int .i64 m0.a) ∧ w14.cell? ⟨w.heap.size, 4, none⟩ = some (.int .i64 m0.l) ∧ True := bq23
  have bq24 := BoxC.below bq21 b14
  have q1 : w14.cell? ⟨w.heap.size + 1, 0, none⟩ = some (.slice A1 xs1.length c1) ∧ w14.cell? ⟨w.heap.size + 1, 1, none⟩ = some (.slice B1 ys1.length d1) ∧ w14.cell? ⟨w.heap.size + 1, 2, none⟩ = some (.int .i64 s1) ∧ True := bq24
  have bq25 := BoxC.below bq22 b14
  have q2 : w14.cell? ⟨w6.heap.size, 0, none⟩ = some (.slice A1_6 xs1.length c1_6) ∧ w14.cell? ⟨w6.heap.size, 1, none⟩ = some (.slice B1_6 ys1.length d1_6) ∧ w14.cell? ⟨w6.heap.size, 2, none⟩ = some (.int .i64 s1) ∧ True := bq25
  go_wp2_with fail
  go_ret
  exact ⟨rfl, HB0.trans (DD.mono HB0.size)⟩
end Go.Proofs.Ytldlpkfjgackiaa.fnExactMixedKeys
