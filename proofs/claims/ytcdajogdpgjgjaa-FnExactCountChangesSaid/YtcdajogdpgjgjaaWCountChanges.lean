/- The walk of the law FnExactCountChanges. -/
import Derived.Test.YtcdajogdpgjgjaaFChanges
import Derived.Test.YtcdajogdpgjgjaaHelpP
namespace Go.Proofs.Ytcdajogdpgjgjaa.fnExactCountChanges
set_option linter.unusedVariables false
open Go.RowKit
set_option maxRecDepth 100000 in
set_option maxHeartbeats 8000000 in
theorem walk (m0 : Mk) (A1 : Option Addr) (c1 : Nat) (xs1 : List Int) (B1 : Option Addr) (d1 : Nat) (ys1 : List Int) (s1 : Int) (w : World) (hc1 : xs1.length ≤ c1) (h1 : RI w A1 xs1) (hd1 : ys1.length ≤ d1) (k1 : RI w B1 ys1) :
    Calls Try.prog 4 #[.agg #[.int .i64 m0.c, .int .i64 m0.d, .int .i64 m0.s, .int .i64 m0.a, .int .i64 m0.l], .agg #[.slice A1 xs1.length c1, .slice B1 ys1.length d1, .int .i64 s1]] w fun e w' => e = .returned (.bool true) ∧ Below w.heap.size w w' := by
  have HB0 : Below w.heap.size w ((w.alloc (.cells #[.int .i64 m0.c, .int .i64 m0.d, .int .i64 m0.s, .int .i64 m0.a, .int .i64 m0.l] 23)).alloc (.cells #[.slice A1 xs1.length c1, .slice B1 ys1.length d1, .int .i64 s1] 33)) := ((Below.refl w.heap.size w).alloc (by exact Nat.le_refl _) _).alloc (by simp only [World.size_alloc]; omega) _
  have bx0 : BoxC ((w.alloc (.cells #[.int .i64 m0.c, .int .i64 m0.d, .int .i64 m0.s, .int .i64 m0.a, .int .i64 m0.l] 23)).alloc (.cells #[.slice A1 xs1.length c1, .slice B1 ys1.length d1, .int .i64 s1] 33)) (w.heap.size) 0 [.int .i64 m0.c, .int .i64 m0.d, .int .i64 m0.s, .int .i64 m0.a, .int .i64 m0.l] := by simp [BoxC, Go.World.cell?_alloc_at, Go.World.cell?_alloc_past]
  have bx1 : BoxC ((w.alloc (.cells #[.int .i64 m0.c, .int .i64 m0.d, .int .i64 m0.s, .int .i64 m0.a, .int .i64 m0.l] 23)).alloc (.cells #[.slice A1 xs1.length c1, .slice B1 ys1.length d1, .int .i64 s1] 33)) (w.heap.size + 1) 0 [.slice A1 xs1.length c1, .slice B1 ys1.length d1, .int .i64 s1] := by simp [BoxC, Go.World.cell?_alloc_at]
  have Rxs1 := ((h1).alloc (.cells #[.int .i64 m0.c, .int .i64 m0.d, .int .i64 m0.s, .int .i64 m0.a, .int .i64 m0.l] 23)).alloc (.cells #[.slice A1 xs1.length c1, .slice B1 ys1.length d1, .int .i64 s1] 33)
  have Rys1 := ((k1).alloc (.cells #[.int .i64 m0.c, .int .i64 m0.d, .int .i64 m0.s, .int .i64 m0.a, .int .i64 m0.l] 23)).alloc (.cells #[.slice A1 xs1.length c1, .slice B1 ys1.length d1, .int .i64 s1] 33)
  go_enter Try.func4, Try.ntmps4
  have q0 : ((w.alloc (.cells #[.int .i64 m0.c, .int .i64 m0.d, .int .i64 m0.s, .int .i64 m0.a, .int .i64 m0.l] 23)).alloc (.cells #[.slice A1 xs1.length c1, .slice B1 ys1.length d1, .int .i64 s1] 33)).cell? ⟨w.heap.size, 0, none⟩ = some (.int .i64 m0.c) ∧ ((w.alloc (.cells #[.int .i64 m0.c, .int .i64 m0.d, .int .i64 m0.s, .int .i64 m0.a, .int .i64 m0.l] 23)).alloc (.cells #[.slice A1 xs1.length c1, .slice B1 ys1.length d1, .int .i64 s1] 33)).cell? ⟨w.heap.size, 1, none⟩ = some (.int .i64 m0.d) ∧ ((w.alloc (.cells #[.int .i64 m0.c, .int .i64 m0.d, .int .i64 m0.s, .int .i64 m0.a, .int .i64 m0.l] 23)).alloc (.cells #[.slice A1 xs1.length c1, .slice B1 ys1.length d1, .int .i64 s1] 33)).cell? ⟨w.heap.size, 2, none⟩ = some (.int .i64 m0.s) ∧ ((w.alloc (.cells #[.int .i64 m0.c, .int .i64 m0.d, .int .i64 m0.s, .int .i64 m0.a, .int .i64 m0.l] 23)).alloc (.cells #[.slice A1 xs1.length c1, .slice B1 ys1.length d1, .int .i64 s1] 33)).cell? ⟨w.heap.size, 3, none⟩ = some (.int .i64 m0.a) ∧ ((w.alloc (.cells #[.int .i64 m0.c, .int .i64 m0.d, .int .i64 m0.s, .int .i64 m0.a, .int .i64 m0.l] 23)).alloc (.cells #[.slice A1 xs1.length c1, .slice B1 ys1.length d1, .int .i64 s1] 33)).cell? ⟨w.heap.size, 4, none⟩ = some (.int .i64 m0.l) ∧ True := bx0
  have q1 : ((w.alloc (.cells #[.int .i64 m0.c, .int .i64 m0.d, .int .i64 m0.s, .int .i64 m0.a, .int .i64 m0.l] 23)).alloc (.cells #[.slice A1 xs1.length c1, .slice B1 ys1.length d1, .int .i64 s1] 33)).cell? ⟨w.heap.size + 1, 0, none⟩ = some (.slice A1 xs1.length c1) ∧ ((w.alloc (.cells #[.int .i64 m0.c, .int .i64 m0.d, .int .i64 m0.s, .int .i64 m0.a, .int .i64 m0.l] 23)).alloc (.cells #[.slice A1 xs1.length c1, .slice B1 ys1.length d1, .int .i64 s1] 33)).cell? ⟨w.heap.size + 1, 1, none⟩ = some (.slice B1 ys1.length d1) ∧ ((w.alloc (.cells #[.int .i64 m0.c, .int .i64 m0.d, .int .i64 m0.s, .int .i64 m0.a, .int .i64 m0.l] 23)).alloc (.cells #[.slice A1 xs1.length c1, .slice B1 ys1.length d1, .int .i64 s1] 33)).cell? ⟨w.heap.size + 1, 2, none⟩ = some (.int .i64 s1) ∧ True := bx1
  go_wp2_with fail
  clear q0 q1
  refine (szP A1 c1 xs1 B1 d1 ys1 s1 _ _ Rxs1 Rys1 (by omega) (by omega)).mono ?_
  rintro e w1 ⟨r1, rfl, hL1, b1, hm1⟩
  by_cases hz1 : r1 < 0
  case pos =>
    go_wp2_with fail
    go_ret
    exact ⟨rfl, HB0.trans (b1.mono HB0.size)⟩
  have hL12 := hL1.2 (by omega)
  have hL11 := hL1.1
  have zxs1 : xs1.length ≤ 1048576 := by omega
  have zys1 : ys1.length ≤ 1048576 := by omega
  have zt1 : (xs1.length : Nat) + (ys1.length : Nat) + r1 ≤ 1048576 := by omega
  have Hz1 := Lib.hid hL12; clear hL12 hL1
  have bq1 := BoxC.below bx0 b1
  have q0 : w1.cell? ⟨w.heap.size, 0, none⟩ = some (.int .i64 m0.c) ∧ w1.cell? ⟨w.heap.size, 1, none⟩ = some (.int .i64 m0.d) ∧ w1.cell? ⟨w.heap.size, 2, none⟩ = some (.int .i64 m0.s) ∧ w1.cell? ⟨w.heap.size, 3, none⟩ = some (.int .i64 m0.a) ∧ w1.cell? ⟨w.heap.size, 4, none⟩ = some (.int .i64 m0.l) ∧ True := bq1
  have bq2 := BoxC.below bx1 b1
  have q1 : w1.cell? ⟨w.heap.size + 1, 0, none⟩ = some (.slice A1 xs1.length c1) ∧ w1.cell? ⟨w.heap.size + 1, 1, none⟩ = some (.slice B1 ys1.length d1) ∧ w1.cell? ⟨w.heap.size + 1, 2, none⟩ = some (.int .i64 s1) ∧ True := bq2
  go_wp2_with fail
  clear q0 q1
  have KS3 := Lib.hid (show ∀ w' : World, Below w1.heap.size w1 w' → ((w'.cell? ⟨w.heap.size, 0, none⟩ = some (.int .i64 m0.c) ∧ w'.cell? ⟨w.heap.size, 1, none⟩ = some (.int .i64 m0.d) ∧ w'.cell? ⟨w.heap.size, 2, none⟩ = some (.int .i64 m0.s) ∧ w'.cell? ⟨w.heap.size, 3, none⟩ = some (.int .i64 m0.a) ∧ w'.cell? ⟨w.heap.size, 4, none⟩ = some (.int .i64 m0.l) ∧ True) ∧ (w'.cell? ⟨w.heap.size + 1, 0, none⟩ = some (.slice A1 xs1.length c1) ∧ w'.cell? ⟨w.heap.size + 1, 1, none⟩ = some (.slice B1 ys1.length d1) ∧ w'.cell? ⟨w.heap.size + 1, 2, none⟩ = some (.int .i64 s1) ∧ True)) from fun w' hb => ⟨BoxC.below bq1 hb, BoxC.below bq2 hb⟩)
  go_region_held3 (fun w' => (w'.cell? ⟨w.heap.size, 0, none⟩ = some (.int .i64 m0.c) ∧ w'.cell? ⟨w.heap.size, 1, none⟩ = some (.int .i64 m0.d) ∧ w'.cell? ⟨w.heap.size, 2, none⟩ = some (.int .i64 m0.s) ∧ w'.cell? ⟨w.heap.size, 3, none⟩ = some (.int .i64 m0.a) ∧ w'.cell? ⟨w.heap.size, 4, none⟩ = some (.int .i64 m0.l) ∧ True) ∧ (w'.cell? ⟨w.heap.size + 1, 0, none⟩ = some (.slice A1 xs1.length c1) ∧ w'.cell? ⟨w.heap.size + 1, 1, none⟩ = some (.slice B1 ys1.length d1) ∧ w'.cell? ⟨w.heap.size + 1, 2, none⟩ = some (.int .i64 s1) ∧ True)) (first | (refine KS3.out _ ?_; first | assumption | exact belowDrew0 _)) (first | (go_at_call 21; have D1_3 := b2.trans (b3.mono b2.size); refine (specCountChanges_any m0 A1_3 c1_3 xs1 B1_3 d1_3 ys1 s1 _ rA1_3 rB1_3 hc1_3).mono ?_; rintro e w4 ⟨rfl, b4⟩; have BS4 := Below.trans BS3 (b4.mono (Below.size BS3))) | (go_at_call 22; have D0_2 := b1.trans (b2.mono b1.size); refine (toP A1 c1 xs1 B1 d1 ys1 s1 _ (Rxs1.below D0_2) (Rys1.below D0_2) zxs1 zys1).mono ?_; rintro e w3 ⟨A1_3, c1_3, B1_3, d1_3, rfl, hc1_3, rA1_3, hd1_3, rB1_3, oA1_3, b3⟩; have BS3 := Below.trans b2 (b3.mono (Below.size b2))) | (go_at_call 16; refine (toM m0.c m0.d m0.s m0.a m0.l _).mono ?_; rintro e w2 ⟨rfl, b2⟩; have b2 := belowDrew b2))
  have D1_4 := D1_3.trans (b4.mono D1_3.size)
  have bq4 := BoxC.below bq1 D1_4
  have q0 : w4.cell? ⟨w.heap.size, 0, none⟩ = some (.int .i64 m0.c) ∧ w4.cell? ⟨w.heap.size, 1, none⟩ = some (.int .i64 m0.d) ∧ w4.cell? ⟨w.heap.size, 2, none⟩ = some (.int .i64 m0.s) ∧ w4.cell? ⟨w.heap.size, 3, none⟩ = some (.int .i64 m0.a) ∧ w4.cell? ⟨w.heap.size, 4, none⟩ = some (.int .i64 m0.l) ∧ True := bq4
  have bq5 := BoxC.below bq2 D1_4
  have q1 : w4.cell? ⟨w.heap.size + 1, 0, none⟩ = some (.slice A1 xs1.length c1) ∧ w4.cell? ⟨w.heap.size + 1, 1, none⟩ = some (.slice B1 ys1.length d1) ∧ w4.cell? ⟨w.heap.size + 1, 2, none⟩ = some (.int .i64 s1) ∧ True := bq5
  go_wp2_with fail
  clear q0 q1
  have D0_3 := D0_2.trans (b3.mono D0_2.size)
  have D0_4 := D0_3.trans (b4.mono D0_3.size)
  refine (toP A1 c1 xs1 B1 d1 ys1 s1 _ (Rxs1.below D0_4) (Rys1.below D0_4) zxs1 zys1).mono ?_
  rintro e w5 ⟨A1_5, c1_5, B1_5, d1_5, rfl, hc1_5, rA1_5, hd1_5, rB1_5, oA1_5, b5⟩
  have b6 : Below w5.heap.size w5 (w5.alloc (.cells #[.slice A1_5 xs1.length c1_5, .slice B1_5 ys1.length d1_5, .int .i64 s1] 36)) := (Below.refl _ _).alloc (Nat.le_refl _) _
  have bq6 : BoxC (w5.alloc (.cells #[.slice A1_5 xs1.length c1_5, .slice B1_5 ys1.length d1_5, .int .i64 s1] 36)) (w5.heap.size) 0 [.slice A1_5 xs1.length c1_5, .slice B1_5 ys1.length d1_5, .int .i64 s1] := by simp [BoxC, Go.World.cell?_alloc_at]
  have D4_6 := b5.trans (b6.mono b5.size)
  have bq7 := BoxC.below bq4 D4_6
  have q0 : (w5.alloc (.cells #[.slice A1_5 xs1.length c1_5, .slice B1_5 ys1.length d1_5, .int .i64 s1] 36)).cell? ⟨w.heap.size, 0, none⟩ = some (.int .i64 m0.c) ∧ (w5.alloc (.cells #[.slice A1_5 xs1.length c1_5, .slice B1_5 ys1.length d1_5, .int .i64 s1] 36)).cell? ⟨w.heap.size, 1, none⟩ = some (.int .i64 m0.d) ∧ (w5.alloc (.cells #[.slice A1_5 xs1.length c1_5, .slice B1_5 ys1.length d1_5, .int .i64 s1] 36)).cell? ⟨w.heap.size, 2, none⟩ = some (.int .i64 m0.s) ∧ (w5.alloc (.cells #[.slice A1_5 xs1.length c1_5, .slice B1_5 ys1.length d1_5, .int .i64 s1] 36)).cell? ⟨w.heap.size, 3, none⟩ = some (.int .i64 m0.a) ∧ (w5.alloc (.cells #[.slice A1_5 xs1.length c1_5, .slice B1_5 ys1.length d1_5, .int .i64 s1] 36)).cell? ⟨w.heap.size, 4, none⟩ = some (.int .i64 m0.l) ∧ True := bq7
  have bq8 := BoxC.below bq5 D4_6
  have q1 : (w5.alloc (.cells #[.slice A1_5 xs1.length c1_5, .slice B1_5 ys1.length d1_5, .int .i64 s1] 36)).cell? ⟨w.heap.size + 1, 0, none⟩ = some (.slice A1 xs1.length c1) ∧ (w5.alloc (.cells #[.slice A1_5 xs1.length c1_5, .slice B1_5 ys1.length d1_5, .int .i64 s1] 36)).cell? ⟨w.heap.size + 1, 1, none⟩ = some (.slice B1 ys1.length d1) ∧ (w5.alloc (.cells #[.slice A1_5 xs1.length c1_5, .slice B1_5 ys1.length d1_5, .int .i64 s1] 36)).cell? ⟨w.heap.size + 1, 2, none⟩ = some (.int .i64 s1) ∧ True := bq8
  have q2 : (w5.alloc (.cells #[.slice A1_5 xs1.length c1_5, .slice B1_5 ys1.length d1_5, .int .i64 s1] 36)).cell? ⟨w5.heap.size, 0, none⟩ = some (.slice A1_5 xs1.length c1_5) ∧ (w5.alloc (.cells #[.slice A1_5 xs1.length c1_5, .slice B1_5 ys1.length d1_5, .int .i64 s1] 36)).cell? ⟨w5.heap.size, 1, none⟩ = some (.slice B1_5 ys1.length d1_5) ∧ (w5.alloc (.cells #[.slice A1_5 xs1.length c1_5, .slice B1_5 ys1.length d1_5, .int .i64 s1] 36)).cell? ⟨w5.heap.size, 2, none⟩ = some (.int .i64 s1) ∧ True := bq6
  go_wp2_with fail
  clear q0 q1 q2
  have KS9 := Lib.hid (show ∀ w' : World, Below (w5.alloc (.cells #[.slice A1_5 xs1.length c1_5, .slice B1_5 ys1.length d1_5, .int .i64 s1] 36)).heap.size (w5.alloc (.cells #[.slice A1_5 xs1.length c1_5, .slice B1_5 ys1.length d1_5, .int .i64 s1] 36)) w' → ((w'.cell? ⟨w.heap.size, 0, none⟩ = some (.int .i64 m0.c) ∧ w'.cell? ⟨w.heap.size, 1, none⟩ = some (.int .i64 m0.d) ∧ w'.cell? ⟨w.heap.size, 2, none⟩ = some (.int .i64 m0.s) ∧ w'.cell? ⟨w.heap.size, 3, none⟩ = some (.int .i64 m0.a) ∧ w'.cell? ⟨w.heap.size, 4, none⟩ = some (.int .i64 m0.l) ∧ True) ∧ (w'.cell? ⟨w5.heap.size, 0, none⟩ = some (.slice A1_5 xs1.length c1_5) ∧ w'.cell? ⟨w5.heap.size, 1, none⟩ = some (.slice B1_5 ys1.length d1_5) ∧ w'.cell? ⟨w5.heap.size, 2, none⟩ = some (.int .i64 s1) ∧ True)) from fun w' hb => ⟨BoxC.below bq7 hb, BoxC.below bq6 hb⟩)
  go_region_held3 (fun w' => (w'.cell? ⟨w.heap.size, 0, none⟩ = some (.int .i64 m0.c) ∧ w'.cell? ⟨w.heap.size, 1, none⟩ = some (.int .i64 m0.d) ∧ w'.cell? ⟨w.heap.size, 2, none⟩ = some (.int .i64 m0.s) ∧ w'.cell? ⟨w.heap.size, 3, none⟩ = some (.int .i64 m0.a) ∧ w'.cell? ⟨w.heap.size, 4, none⟩ = some (.int .i64 m0.l) ∧ True) ∧ (w'.cell? ⟨w5.heap.size, 0, none⟩ = some (.slice A1_5 xs1.length c1_5) ∧ w'.cell? ⟨w5.heap.size, 1, none⟩ = some (.slice B1_5 ys1.length d1_5) ∧ w'.cell? ⟨w5.heap.size, 2, none⟩ = some (.int .i64 s1) ∧ True)) (first | (refine KS9.out _ ?_; first | assumption | exact belowDrew0 _)) (first | (go_at_call 23; have D5_7 := b6.trans (b7.mono b6.size); refine (implCountChanges_any m0 A1_5 c1_5 xs1 B1_5 d1_5 ys1 s1 _ (rA1_5.below D5_7) (rB1_5.below D5_7) hc1_5).mono ?_; rintro e w8 ⟨rfl, b8⟩; have BS8 := Below.trans b7 (b8.mono (Below.size b7))) | (go_at_call 16; refine (toM m0.c m0.d m0.s m0.a m0.l _).mono ?_; rintro e w7 ⟨rfl, b7⟩; have b7 := belowDrew b7))
  have D6_8 := b7.trans (b8.mono b7.size)
  have bq10 := BoxC.below bq7 D6_8
  have q0 : w8.cell? ⟨w.heap.size, 0, none⟩ = some (.int .i64 m0.c) ∧ w8.cell? ⟨w.heap.size, 1, none⟩ = some (.int .i64 m0.d) ∧ w8.cell? ⟨w.heap.size, 2, none⟩ = some (.int .i64 m0.s) ∧ w8.cell? ⟨w.heap.size, 3, none⟩ = some (.int .i64 m0.a) ∧ w8.cell? ⟨w.heap.size, 4, none⟩ = some (.int .i64 m0.l) ∧ True := bq10
  have bq11 := BoxC.below bq8 D6_8
  have q1 : w8.cell? ⟨w.heap.size + 1, 0, none⟩ = some (.slice A1 xs1.length c1) ∧ w8.cell? ⟨w.heap.size + 1, 1, none⟩ = some (.slice B1 ys1.length d1) ∧ w8.cell? ⟨w.heap.size + 1, 2, none⟩ = some (.int .i64 s1) ∧ True := bq11
  have bq12 := BoxC.below bq6 D6_8
  have q2 : w8.cell? ⟨w5.heap.size, 0, none⟩ = some (.slice A1_5 xs1.length c1_5) ∧ w8.cell? ⟨w5.heap.size, 1, none⟩ = some (.slice B1_5 ys1.length d1_5) ∧ w8.cell? ⟨w5.heap.size, 2, none⟩ = some (.int .i64 s1) ∧ True := bq12
  go_wp2_with fail
  clear q0 q1 q2
  have KS13 := Lib.hid (show ∀ w' : World, Below w8.heap.size w8 w' → ((w'.cell? ⟨w.heap.size + 1, 0, none⟩ = some (.slice A1 xs1.length c1) ∧ w'.cell? ⟨w.heap.size + 1, 1, none⟩ = some (.slice B1 ys1.length d1) ∧ w'.cell? ⟨w.heap.size + 1, 2, none⟩ = some (.int .i64 s1) ∧ True) ∧ (w'.cell? ⟨w5.heap.size, 0, none⟩ = some (.slice A1_5 xs1.length c1_5) ∧ w'.cell? ⟨w5.heap.size, 1, none⟩ = some (.slice B1_5 ys1.length d1_5) ∧ w'.cell? ⟨w5.heap.size, 2, none⟩ = some (.int .i64 s1) ∧ True)) from fun w' hb => ⟨BoxC.below bq11 hb, BoxC.below bq12 hb⟩)
  go_region_held3 (fun w' => (w'.cell? ⟨w.heap.size + 1, 0, none⟩ = some (.slice A1 xs1.length c1) ∧ w'.cell? ⟨w.heap.size + 1, 1, none⟩ = some (.slice B1 ys1.length d1) ∧ w'.cell? ⟨w.heap.size + 1, 2, none⟩ = some (.int .i64 s1) ∧ True) ∧ (w'.cell? ⟨w5.heap.size, 0, none⟩ = some (.slice A1_5 xs1.length c1_5) ∧ w'.cell? ⟨w5.heap.size, 1, none⟩ = some (.slice B1_5 ys1.length d1_5) ∧ w'.cell? ⟨w5.heap.size, 2, none⟩ = some (.int .i64 s1) ∧ True)) (first | (refine KS13.out _ ?_; first | assumption | exact belowDrew0 _)) (first | (go_at_call 24; have D5_8 := D5_7.trans (b8.mono D5_7.size); have D5_9 := D5_8.trans (b9.mono D5_8.size); refine (eqP_t A1_5 A1_9 c1_5 c1_9 xs1 B1_5 B1_9 d1_5 d1_9 ys1 s1 _ (rA1_5.below D5_9) rA1_9 (rB1_5.below D5_9) rB1_9).mono ?_; rintro e w10 ⟨rfl, b10⟩; have BS10 := Below.trans b9 (b10.mono (Below.size b9))) | (go_at_call 22; have D0_5 := D0_4.trans (b5.mono D0_4.size); have D0_6 := D0_5.trans (b6.mono D0_5.size); have D0_7 := D0_6.trans (b7.mono D0_6.size); have D0_8 := D0_7.trans (b8.mono D0_7.size); refine (toP A1 c1 xs1 B1 d1 ys1 s1 _ ((Rxs1.below D0_8).below (belowDrew0 _)) ((Rys1.below D0_8).below (belowDrew0 _)) zxs1 zys1).mono ?_; rintro e w9 ⟨A1_9, c1_9, B1_9, d1_9, rfl, hc1_9, rA1_9, hd1_9, rB1_9, oA1_9, b9⟩; have b9 := belowDrew b9))
  have D0_9 := D0_8.trans (b9.mono D0_8.size)
  have D0_10 := D0_9.trans (b10.mono D0_9.size)
  have DD := D0_10
  have D8_10 := b9.trans (b10.mono b9.size)
  have bq14 := BoxC.below bq10 D8_10
  have q0 : w10.cell? ⟨w.heap.size, 0, none⟩ = some (.int .i64 m0.c) ∧ w10.cell? ⟨w.heap.size, 1, none⟩ = some (.int .i64 m0.d) ∧ w10.cell? ⟨w.heap.size, 2, none⟩ = some (.int .i64 m0.s) ∧ w10.cell? ⟨w.heap.size, 3, none⟩ = some (.int .i64 m0.a) ∧ w10.cell? ⟨w.heap.size, 4, none⟩ = some (.int .i64 m0.l) ∧ True := bq14
  have bq15 := BoxC.below bq11 D8_10
  have q1 : w10.cell? ⟨w.heap.size + 1, 0, none⟩ = some (.slice A1 xs1.length c1) ∧ w10.cell? ⟨w.heap.size + 1, 1, none⟩ = some (.slice B1 ys1.length d1) ∧ w10.cell? ⟨w.heap.size + 1, 2, none⟩ = some (.int .i64 s1) ∧ True := bq15
  have bq16 := BoxC.below bq12 D8_10
  have q2 : w10.cell? ⟨w5.heap.size, 0, none⟩ = some (.slice A1_5 xs1.length c1_5) ∧ w10.cell? ⟨w5.heap.size, 1, none⟩ = some (.slice B1_5 ys1.length d1_5) ∧ w10.cell? ⟨w5.heap.size, 2, none⟩ = some (.int .i64 s1) ∧ True := bq16
  go_wp2_with fail
  go_ret
  exact ⟨rfl, HB0.trans (DD.mono HB0.size)⟩
end Go.Proofs.Ytcdajogdpgjgjaa.fnExactCountChanges
