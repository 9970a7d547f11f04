/- The walk of the law FnExactNearestGhost. -/
import Derived.Test.YtcdajogdpgjgjaaFNearest
import Derived.Test.YtcdajogdpgjgjaaHelpL
namespace Go.Proofs.Ytcdajogdpgjgjaa.fnExactNearestGhost
set_option linter.unusedVariables false
open Go.RowKit
theorem lens (m : Mk) (l al : List (List Int)) (kk : List Int) : (nearR m l al kk).1.length ≤ 1048576 := by
  unfold nearR
  split
  · rename_i h
    have hk := near_key h
    have c6 : m.c ≤ 6 := (mk_bounds (isLock_mk hk.1)).2.1
    have hg : ∀ x, x ∈ ghosts m l al → x.length ≤ 6 := fun x hx => by have := (ghost_key hk.1 hx).1; omega
    unfold nearestL
    split
    · simp
    · rename_i k r e
      have h0 := hg k (by rw [e]; simp)
      rcases near_mem kk (k :: r) k with h1 | h1
      · simp only; rw [h1]; omega
      · have := hg _ (by rw [e]; exact h1); simp only; omega
  · simp
set_option maxRecDepth 100000 in
set_option maxHeartbeats 8000000 in
theorem walk (m0 : Mk) (A1 : Option Addr) (c1 : Nat) (xs1 : List (List Int)) (A2 : Option Addr) (c2 : Nat) (xs2 : List (List Int)) (A3 : Option Addr) (c3 : Nat) (xs3 : List Int) (w : World) (hc1 : xs1.length ≤ c1) (h1 : RII w A1 xs1) (hc2 : xs2.length ≤ c2) (h2 : RII w A2 xs2) (hc3 : xs3.length ≤ c3) (h3 : RI w A3 xs3) :
    Calls Try.prog 14 #[.agg #[.int .i64 m0.c, .int .i64 m0.d, .int .i64 m0.s, .int .i64 m0.a, .int .i64 m0.l], .agg #[.slice A1 xs1.length c1], .slice A2 xs2.length c2, .slice A3 xs3.length c3] w fun e w' => e = .returned (.bool true) ∧ Below w.heap.size w w' := by
  have lens0 := lens m0 xs1 xs2 xs3
  have HB0 : Below w.heap.size w ((w.alloc (.cells #[.int .i64 m0.c, .int .i64 m0.d, .int .i64 m0.s, .int .i64 m0.a, .int .i64 m0.l] 23)).alloc (.cells #[.slice A1 xs1.length c1] 52)) := ((Below.refl w.heap.size w).alloc (by exact Nat.le_refl _) _).alloc (by simp only [World.size_alloc]; omega) _
  have bx0 : BoxC ((w.alloc (.cells #[.int .i64 m0.c, .int .i64 m0.d, .int .i64 m0.s, .int .i64 m0.a, .int .i64 m0.l] 23)).alloc (.cells #[.slice A1 xs1.length c1] 52)) (w.heap.size) 0 [.int .i64 m0.c, .int .i64 m0.d, .int .i64 m0.s, .int .i64 m0.a, .int .i64 m0.l] := by simp [BoxC, Go.World.cell?_alloc_at, Go.World.cell?_alloc_past]
  have bx1 : BoxC ((w.alloc (.cells #[.int .i64 m0.c, .int .i64 m0.d, .int .i64 m0.s, .int .i64 m0.a, .int .i64 m0.l] 23)).alloc (.cells #[.slice A1 xs1.length c1] 52)) (w.heap.size + 1) 0 [.slice A1 xs1.length c1] := by simp [BoxC, Go.World.cell?_alloc_at]
  have Rxs1 := ((h1).alloc (.cells #[.int .i64 m0.c, .int .i64 m0.d, .int .i64 m0.s, .int .i64 m0.a, .int .i64 m0.l] 23)).alloc (.cells #[.slice A1 xs1.length c1] 52)
  have Rxs2 := ((h2).alloc (.cells #[.int .i64 m0.c, .int .i64 m0.d, .int .i64 m0.s, .int .i64 m0.a, .int .i64 m0.l] 23)).alloc (.cells #[.slice A1 xs1.length c1] 52)
  have Rxs3 := ((h3).alloc (.cells #[.int .i64 m0.c, .int .i64 m0.d, .int .i64 m0.s, .int .i64 m0.a, .int .i64 m0.l] 23)).alloc (.cells #[.slice A1 xs1.length c1] 52)
  by_cases z3 : xs3.length ≤ 1048576
  case neg =>
    have i3 : (1048576 : Int) < (xs3.length : Int) := by omega
    go_enter Try.func14, Try.ntmps14
    go_wp2_with fail
    go_ret
    exact ⟨rfl, HB0⟩
  have i3 : ¬ ((1048576 : Int) < (xs3.length : Int)) := by omega
  go_enter Try.func14, Try.ntmps14
  have q0 : ((w.alloc (.cells #[.int .i64 m0.c, .int .i64 m0.d, .int .i64 m0.s, .int .i64 m0.a, .int .i64 m0.l] 23)).alloc (.cells #[.slice A1 xs1.length c1] 52)).cell? ⟨w.heap.size, 0, none⟩ = some (.int .i64 m0.c) ∧ ((w.alloc (.cells #[.int .i64 m0.c, .int .i64 m0.d, .int .i64 m0.s, .int .i64 m0.a, .int .i64 m0.l] 23)).alloc (.cells #[.slice A1 xs1.length c1] 52)).cell? ⟨w.heap.size, 1, none⟩ = some (.int .i64 m0.d) ∧ ((w.alloc (.cells #[.int .i64 m0.c, .int .i64 m0.d, .int .i64 m0.s, .int .i64 m0.a, .int .i64 m0.l] 23)).alloc (.cells #[.slice A1 xs1.length c1] 52)).cell? ⟨w.heap.size, 2, none⟩ = some (.int .i64 m0.s) ∧ ((w.alloc (.cells #[.int .i64 m0.c, .int .i64 m0.d, .int .i64 m0.s, .int .i64 m0.a, .int .i64 m0.l] 23)).alloc (.cells #[.slice A1 xs1.length c1] 52)).cell? ⟨w.heap.size, 3, none⟩ = some (.int .i64 m0.a) ∧ ((w.alloc (.cells #[.int .i64 m0.c, .int .i64 m0.d, .int .i64 m0.s, .int .i64 m0.a, .int .i64 m0.l] 23)).alloc (.cells #[.slice A1 xs1.length c1] 52)).cell? ⟨w.heap.size, 4, none⟩ = some (.int .i64 m0.l) ∧ True := bx0
  have q1 : ((w.alloc (.cells #[.int .i64 m0.c, .int .i64 m0.d, .int .i64 m0.s, .int .i64 m0.a, .int .i64 m0.l] 23)).alloc (.cells #[.slice A1 xs1.length c1] 52)).cell? ⟨w.heap.size + 1, 0, none⟩ = some (.slice A1 xs1.length c1) ∧ True := bx1
  go_wp2_with fail
  clear q0 q1
  refine (szL A1 c1 xs1 _ _ Rxs1 (by omega) (by omega)).mono ?_
  rintro e w1 ⟨r1, rfl, hL1, b1, hm1⟩
  by_cases hz1 : r1 < 0
  case pos =>
    go_wp2_with fail
    go_ret
    exact ⟨rfl, HB0.trans (b1.mono HB0.size)⟩
  have hL12 := hL1.2 (by omega)
  have hL11 := hL1.1
  have zxs1 : xs1.length ≤ 1048576 ∧ sumLen xs1 ≤ 1048576 := by omega
  have zzxs1 : ∀ k (hk : k < xs1.length), xs1[k].length ≤ 1048576 := fun k hk => by have := mem_sumLen hk; omega
  have zt1 : (xs1.length + sumLen xs1 : Nat) + r1 ≤ 1048576 := by omega
  have Hz1 := Lib.hid hL12; clear hL12 hL1
  have bq1 := BoxC.below bx0 b1
  have q0 : w1.cell? ⟨w.heap.size, 0, none⟩ = some (.int .i64 m0.c) ∧ w1.cell? ⟨w.heap.size, 1, none⟩ = some (.int .i64 m0.d) ∧ w1.cell? ⟨w.heap.size, 2, none⟩ = some (.int .i64 m0.s) ∧ w1.cell? ⟨w.heap.size, 3, none⟩ = some (.int .i64 m0.a) ∧ w1.cell? ⟨w.heap.size, 4, none⟩ = some (.int .i64 m0.l) ∧ True := bq1
  have bq2 := BoxC.below bx1 b1
  have q1 : w1.cell? ⟨w.heap.size + 1, 0, none⟩ = some (.slice A1 xs1.length c1) ∧ True := bq2
  go_wp2_with fail
  clear q0 q1
  refine (szII_b A2 c2 xs2 _ _ (Rxs2.below b1) (by omega) (by omega)).mono ?_
  rintro e w2 ⟨r2, rfl, hL2, b2, hm2⟩
  have D0_2 := b1.trans (b2.mono b1.size)
  by_cases hz2 : r2 < 0
  case pos =>
    go_wp2_with fail
    go_ret
    exact ⟨rfl, HB0.trans (D0_2.mono HB0.size)⟩
  have hL22 := hL2.2 (by omega)
  have hL21 := hL2.1
  have zxs2 : xs2.length ≤ 1048576 ∧ sumLen xs2 ≤ 1048576 := by omega
  have zzxs2 : ∀ k (hk : k < xs2.length), xs2[k].length ≤ 1048576 := fun k hk => by have := mem_sumLen hk; omega
  have zt2 : (xs1.length + sumLen xs1 : Nat) + (xs2.length + sumLen xs2 : Nat) + r2 ≤ 1048576 := by omega
  have Hz2 := Lib.hid hL22; clear hL22 hL2
  have bq3 := BoxC.below bq1 b2
  have q0 : w2.cell? ⟨w.heap.size, 0, none⟩ = some (.int .i64 m0.c) ∧ w2.cell? ⟨w.heap.size, 1, none⟩ = some (.int .i64 m0.d) ∧ w2.cell? ⟨w.heap.size, 2, none⟩ = some (.int .i64 m0.s) ∧ w2.cell? ⟨w.heap.size, 3, none⟩ = some (.int .i64 m0.a) ∧ w2.cell? ⟨w.heap.size, 4, none⟩ = some (.int .i64 m0.l) ∧ True := bq3
  have bq4 := BoxC.below bq2 b2
  have q1 : w2.cell? ⟨w.heap.size + 1, 0, none⟩ = some (.slice A1 xs1.length c1) ∧ True := bq4
  go_wp2_with fail
  clear q0 q1
  have KS5 := Lib.hid (show ∀ w' : World, Below w2.heap.size w2 w' → ((w'.cell? ⟨w.heap.size, 0, none⟩ = some (.int .i64 m0.c) ∧ w'.cell? ⟨w.heap.size, 1, none⟩ = some (.int .i64 m0.d) ∧ w'.cell? ⟨w.heap.size, 2, none⟩ = some (.int .i64 m0.s) ∧ w'.cell? ⟨w.heap.size, 3, none⟩ = some (.int .i64 m0.a) ∧ w'.cell? ⟨w.heap.size, 4, none⟩ = some (.int .i64 m0.l) ∧ True) ∧ (w'.cell? ⟨w.heap.size + 1, 0, none⟩ = some (.slice A1 xs1.length c1) ∧ True)) from fun w' hb => ⟨BoxC.below bq3 hb, BoxC.below bq4 hb⟩)
  go_region_held3 (fun w' => (w'.cell? ⟨w.heap.size, 0, none⟩ = some (.int .i64 m0.c) ∧ w'.cell? ⟨w.heap.size, 1, none⟩ = some (.int .i64 m0.d) ∧ w'.cell? ⟨w.heap.size, 2, none⟩ = some (.int .i64 m0.s) ∧ w'.cell? ⟨w.heap.size, 3, none⟩ = some (.int .i64 m0.a) ∧ w'.cell? ⟨w.heap.size, 4, none⟩ = some (.int .i64 m0.l) ∧ True) ∧ (w'.cell? ⟨w.heap.size + 1, 0, none⟩ = some (.slice A1 xs1.length c1) ∧ True)) (first | (refine KS5.out _ ?_; first | assumption | exact belowDrew0 _)) (first | (go_at_call 60; have D2_6 := D2_5.trans (b6.mono D2_5.size); have D4_6 := b5.trans (b6.mono b5.size); refine (specNearestGhost_any m0 A1_4 c1_4 xs1 A2_5 c2_5 xs2 A3_6 c3_6 xs3 _ (rA1_4.below D4_6) (rA2_5.below b6) rA3_6 hc3_6).mono ?_; rintro e w7 ⟨As0, cs0, rfl, hcs0, rs0, b7⟩; have BS7 := Below.trans BS6 (b7.mono (Below.size BS6))) | (go_at_call 17; have D2_5 := D2_4.trans (b5.mono D2_4.size); have D0_5 := D0_4.trans (b5.mono D0_4.size); refine (toI A3 c3 xs3 _ (Rxs3.below D0_5) z3).mono ?_; rintro e w6 ⟨A3_6, c3_6, rfl, hc3_6, rA3_6, oA3_6, b6, _⟩; have BS6 := Below.trans BS5 (b6.mono (Below.size BS5))) | (go_at_call 39; have D2_4 := b3.trans (b4.mono b3.size); have D0_4 := D0_3.trans (b4.mono D0_3.size); refine (toII A2 c2 xs2 _ (Rxs2.below D0_4) zxs2.1 zzxs2).mono ?_; rintro e w5 ⟨A2_5, c2_5, rfl, hc2_5, rA2_5, oA2_5, b5⟩; have BS5 := Below.trans BS4 (b5.mono (Below.size BS4))) | (go_at_call 38; have D0_3 := D0_2.trans (b3.mono D0_2.size); refine (toL A1 c1 xs1 _ (Rxs1.below D0_3) zxs1.1 zzxs1).mono ?_; rintro e w4 ⟨A1_4, c1_4, rfl, hc1_4, rA1_4, oA1_4, b4⟩; have BS4 := Below.trans b3 (b4.mono (Below.size b3))) | (go_at_call 16; refine (toM m0.c m0.d m0.s m0.a m0.l _).mono ?_; rintro e w3 ⟨rfl, b3⟩; have b3 := belowDrew b3))
  have D2_7 := D2_6.trans (b7.mono D2_6.size)
  have bq6 := BoxC.below bq3 D2_7
  have q0 : w7.cell? ⟨w.heap.size, 0, none⟩ = some (.int .i64 m0.c) ∧ w7.cell? ⟨w.heap.size, 1, none⟩ = some (.int .i64 m0.d) ∧ w7.cell? ⟨w.heap.size, 2, none⟩ = some (.int .i64 m0.s) ∧ w7.cell? ⟨w.heap.size, 3, none⟩ = some (.int .i64 m0.a) ∧ w7.cell? ⟨w.heap.size, 4, none⟩ = some (.int .i64 m0.l) ∧ True := bq6
  have bq7 := BoxC.below bq4 D2_7
  have q1 : w7.cell? ⟨w.heap.size + 1, 0, none⟩ = some (.slice A1 xs1.length c1) ∧ True := bq7
  go_wp2_with fail
  clear q0 q1
  have D0_6 := D0_5.trans (b6.mono D0_5.size)
  have D0_7 := D0_6.trans (b7.mono D0_6.size)
  refine (toL A1 c1 xs1 _ (Rxs1.below D0_7) zxs1.1 zzxs1).mono ?_
  rintro e w8 ⟨A1_8, c1_8, rfl, hc1_8, rA1_8, oA1_8, b8⟩
  have b9 : Below w8.heap.size w8 (w8.alloc (.cells #[.slice A1_8 xs1.length c1_8] 56)) := (Below.refl _ _).alloc (Nat.le_refl _) _
  have bq8 : BoxC (w8.alloc (.cells #[.slice A1_8 xs1.length c1_8] 56)) (w8.heap.size) 0 [.slice A1_8 xs1.length c1_8] := by simp [BoxC, Go.World.cell?_alloc_at]
  have D7_9 := b8.trans (b9.mono b8.size)
  have bq9 := BoxC.below bq6 D7_9
  have q0 : (w8.alloc (.cells #[.slice A1_8 xs1.length c1_8] 56)).cell? ⟨w.heap.size, 0, none⟩ = some (.int .i64 m0.c) ∧ (w8.alloc (.cells #[.slice A1_8 xs1.length c1_8] 56)).cell? ⟨w.heap.size, 1, none⟩ = some (.int .i64 m0.d) ∧ (w8.alloc (.cells #[.slice A1_8 xs1.length c1_8] 56)).cell? ⟨w.heap.size, 2, none⟩ = some (.int .i64 m0.s) ∧ (w8.alloc (.cells #[.slice A1_8 xs1.length c1_8] 56)).cell? ⟨w.heap.size, 3, none⟩ = some (.int .i64 m0.a) ∧ (w8.alloc (.cells #[.slice A1_8 xs1.length c1_8] 56)).cell? ⟨w.heap.size, 4, none⟩ = some (.int .i64 m0.l) ∧ True := bq9
  have bq10 := BoxC.below bq7 D7_9
  have q1 : (w8.alloc (.cells #[.slice A1_8 xs1.length c1_8] 56)).cell? ⟨w.heap.size + 1, 0, none⟩ = some (.slice A1 xs1.length c1) ∧ True := bq10
  have q2 : (w8.alloc (.cells #[.slice A1_8 xs1.length c1_8] 56)).cell? ⟨w8.heap.size, 0, none⟩ = some (.slice A1_8 xs1.length c1_8) ∧ True := bq8
  go_wp2_with fail
  clear q0 q1 q2
  have D0_8 := D0_7.trans (b8.mono D0_7.size)
  have D0_9 := D0_8.trans (b9.mono D0_8.size)
  refine (toII A2 c2 xs2 _ (Rxs2.below D0_9) zxs2.1 zzxs2).mono ?_
  rintro e w10 ⟨A2_10, c2_10, rfl, hc2_10, rA2_10, oA2_10, b10⟩
  have bq11 := BoxC.below bq9 b10
  have q0 : w10.cell? ⟨w.heap.size, 0, none⟩ = some (.int .i64 m0.c) ∧ w10.cell? ⟨w.heap.size, 1, none⟩ = some (.int .i64 m0.d) ∧ w10.cell? ⟨w.heap.size, 2, none⟩ = some (.int .i64 m0.s) ∧ w10.cell? ⟨w.heap.size, 3, none⟩ = some (.int .i64 m0.a) ∧ w10.cell? ⟨w.heap.size, 4, none⟩ = some (.int .i64 m0.l) ∧ True := bq11
  have bq12 := BoxC.below bq10 b10
  have q1 : w10.cell? ⟨w.heap.size + 1, 0, none⟩ = some (.slice A1 xs1.length c1) ∧ True := bq12
  have bq13 := BoxC.below bq8 b10
  have q2 : w10.cell? ⟨w8.heap.size, 0, none⟩ = some (.slice A1_8 xs1.length c1_8) ∧ True := bq13
  go_wp2_with fail
  clear q0 q1 q2
  have D0_10 := D0_9.trans (b10.mono D0_9.size)
  refine (toI A3 c3 xs3 _ (Rxs3.below D0_10) z3).mono ?_
  rintro e w11 ⟨A3_11, c3_11, rfl, hc3_11, rA3_11, oA3_11, b11, _⟩
  have bq14 := BoxC.below bq11 b11
  have q0 : w11.cell? ⟨w.heap.size, 0, none⟩ = some (.int .i64 m0.c) ∧ w11.cell? ⟨w.heap.size, 1, none⟩ = some (.int .i64 m0.d) ∧ w11.cell? ⟨w.heap.size, 2, none⟩ = some (.int .i64 m0.s) ∧ w11.cell? ⟨w.heap.size, 3, none⟩ = some (.int .i64 m0.a) ∧ w11.cell? ⟨w.heap.size, 4, none⟩ = some (.int .i64 m0.l) ∧ True := bq14
  have bq15 := BoxC.below bq12 b11
  have q1 : w11.cell? ⟨w.heap.size + 1, 0, none⟩ = some (.slice A1 xs1.length c1) ∧ True := bq15
  have bq16 := BoxC.below bq13 b11
  have q2 : w11.cell? ⟨w8.heap.size, 0, none⟩ = some (.slice A1_8 xs1.length c1_8) ∧ True := bq16
  go_wp2_with fail
  clear q0 q1 q2
  have KS17 := Lib.hid (show ∀ w' : World, Below w11.heap.size w11 w' → ((w'.cell? ⟨w.heap.size, 0, none⟩ = some (.int .i64 m0.c) ∧ w'.cell? ⟨w.heap.size, 1, none⟩ = some (.int .i64 m0.d) ∧ w'.cell? ⟨w.heap.size, 2, none⟩ = some (.int .i64 m0.s) ∧ w'.cell? ⟨w.heap.size, 3, none⟩ = some (.int .i64 m0.a) ∧ w'.cell? ⟨w.heap.size, 4, none⟩ = some (.int .i64 m0.l) ∧ True) ∧ (w'.cell? ⟨w8.heap.size, 0, none⟩ = some (.slice A1_8 xs1.length c1_8) ∧ True)) from fun w' hb => ⟨BoxC.below bq14 hb, BoxC.below bq16 hb⟩)
  go_region_held3 (fun w' => (w'.cell? ⟨w.heap.size, 0, none⟩ = some (.int .i64 m0.c) ∧ w'.cell? ⟨w.heap.size, 1, none⟩ = some (.int .i64 m0.d) ∧ w'.cell? ⟨w.heap.size, 2, none⟩ = some (.int .i64 m0.s) ∧ w'.cell? ⟨w.heap.size, 3, none⟩ = some (.int .i64 m0.a) ∧ w'.cell? ⟨w.heap.size, 4, none⟩ = some (.int .i64 m0.l) ∧ True) ∧ (w'.cell? ⟨w8.heap.size, 0, none⟩ = some (.slice A1_8 xs1.length c1_8) ∧ True)) (first | (refine KS17.out _ ?_; first | assumption | exact belowDrew0 _)) (first | (go_at_call 61; have D8_10 := b9.trans (b10.mono b9.size); have D8_11 := D8_10.trans (b11.mono D8_10.size); have D8_12 := D8_11.trans (b12.mono D8_11.size); have D10_12 := b11.trans (b12.mono b11.size); refine (implNearestGhost_any m0 A1_8 c1_8 xs1 A2_10 c2_10 xs2 A3_11 c3_11 xs3 _ (rA1_8.below D8_12) (rA2_10.below D10_12) (rA3_11.below b12) hc3_11).mono ?_; rintro e w13 ⟨Ag0, cg0, rfl, hcg0, rg0, og0, b13⟩; have BS13 := Below.trans b12 (b13.mono (Below.size b12))) | (go_at_call 16; refine (toM m0.c m0.d m0.s m0.a m0.l _).mono ?_; rintro e w12 ⟨rfl, b12⟩; have b12 := belowDrew b12))
  have D11_13 := b12.trans (b13.mono b12.size)
  have bq18 := BoxC.below bq14 D11_13
  have q0 : w13.cell? ⟨w.heap.size, 0, none⟩ = some (.int .i64 m0.c) ∧ w13.cell? ⟨w.heap.size, 1, none⟩ = some (.int .i64 m0.d) ∧ w13.cell? ⟨w.heap.size, 2, none⟩ = some (.int .i64 m0.s) ∧ w13.cell? ⟨w.heap.size, 3, none⟩ = some (.int .i64 m0.a) ∧ w13.cell? ⟨w.heap.size, 4, none⟩ = some (.int .i64 m0.l) ∧ True := bq18
  have bq19 := BoxC.below bq15 D11_13
  have q1 : w13.cell? ⟨w.heap.size + 1, 0, none⟩ = some (.slice A1 xs1.length c1) ∧ True := bq19
  have bq20 := BoxC.below bq16 D11_13
  have q2 : w13.cell? ⟨w8.heap.size, 0, none⟩ = some (.slice A1_8 xs1.length c1_8) ∧ True := bq20
  go_wp2_with fail
  clear q0 q1 q2
  have D7_10 := D7_9.trans (b10.mono D7_9.size)
  have D7_11 := D7_10.trans (b11.mono D7_10.size)
  have D7_12 := D7_11.trans (b12.mono D7_11.size)
  have D7_13 := D7_12.trans (b13.mono D7_12.size)
  refine (eqI_t Ag0 As0 cg0 cs0 (nearR m0 xs1 xs2 xs3).1 _ rg0 (rs0.below D7_13)).mono ?_
  rintro e w14 ⟨rfl, b14⟩
  have bq21 := BoxC.below bq18 b14
  have q0 : w14.cell? ⟨w.heap.size, 0, none⟩ = some (.int .i64 m0.c) ∧ w14.cell? ⟨w.heap.size, 1, none⟩ = some (.int .i64 m0.d) ∧ w14.cell? ⟨w.heap.size, 2, none⟩ = some (.int .i64 m0.s) ∧ w14.cell? ⟨w.heap.size, 3, none⟩ = some (.int .i64 m0.a) ∧ w14.cell? ⟨w.heap.size, 4, none⟩ = some (.int .i64 m0.l) ∧ True := bq21
  have bq22 := BoxC.below bq19 b14
  have q1 : w14.cell? ⟨w.heap.size + 1, 0, none⟩ = some (.slice A1 xs1.length c1) ∧ True := bq22
  have bq23 := BoxC.below bq20 b14
  have q2 : w14.cell? ⟨w8.heap.size, 0, none⟩ = some (.slice A1_8 xs1.length c1_8) ∧ True := bq23
  go_wp2_with fail
  clear q0 q1 q2
  have KS24 := Lib.hid (show ∀ w' : World, Below w14.heap.size w14 w' → ((w'.cell? ⟨w.heap.size + 1, 0, none⟩ = some (.slice A1 xs1.length c1) ∧ True) ∧ (w'.cell? ⟨w8.heap.size, 0, none⟩ = some (.slice A1_8 xs1.length c1_8) ∧ True)) from fun w' hb => ⟨BoxC.below bq22 hb, BoxC.below bq23 hb⟩)
  go_region_held3 (fun w' => (w'.cell? ⟨w.heap.size + 1, 0, none⟩ = some (.slice A1 xs1.length c1) ∧ True) ∧ (w'.cell? ⟨w8.heap.size, 0, none⟩ = some (.slice A1_8 xs1.length c1_8) ∧ True)) (first | (refine KS24.out _ ?_; first | assumption | exact belowDrew0 _)) (first | (go_at_call 41; have D8_13 := D8_12.trans (b13.mono D8_12.size); have D8_14 := D8_13.trans (b14.mono D8_13.size); have D8_15 := D8_14.trans (b15.mono D8_14.size); refine (eqL_t A1_8 A1_15 c1_8 c1_15 xs1 _ (rA1_8.below D8_15) rA1_15).mono ?_; rintro e w16 ⟨rfl, b16⟩; have BS16 := Below.trans b15 (b16.mono (Below.size b15))) | (go_at_call 38; have D0_11 := D0_10.trans (b11.mono D0_10.size); have D0_12 := D0_11.trans (b12.mono D0_11.size); have D0_13 := D0_12.trans (b13.mono D0_12.size); have D0_14 := D0_13.trans (b14.mono D0_13.size); refine (toL A1 c1 xs1 _ ((Rxs1.below D0_14).below (belowDrew0 _)) zxs1.1 zzxs1).mono ?_; rintro e w15 ⟨A1_15, c1_15, rfl, hc1_15, rA1_15, oA1_15, b15⟩; have b15 := belowDrew b15))
  have D14_16 := b15.trans (b16.mono b15.size)
  have bq25 := BoxC.below bq21 D14_16
  have q0 : w16.cell? ⟨w.heap.size, 0, none⟩ = some (.int .i64 m0.c) ∧ w16.cell? ⟨w.heap.size, 1, none⟩ = some (.int .i64 m0.d) ∧ w16.cell? ⟨w.heap.size, 2, none⟩ = some (.int .i64 m0.s) ∧ w16.cell? ⟨w.heap.size, 3, none⟩ = some (.int .i64 m0.a) ∧ w16.cell? ⟨w.heap.size, 4, none⟩ = some (.int .i64 m0.l) ∧ True := bq25
  have bq26 := BoxC.below bq22 D14_16
  have q1 : w16.cell? ⟨w.heap.size + 1, 0, none⟩ = some (.slice A1 xs1.length c1) ∧ True := bq26
  have bq27 := BoxC.below bq23 D14_16
  have q2 : w16.cell? ⟨w8.heap.size, 0, none⟩ = some (.slice A1_8 xs1.length c1_8) ∧ True := bq27
  go_wp2_with fail
  clear q0 q1 q2
  have D0_15 := D0_14.trans (b15.mono D0_14.size)
  have D0_16 := D0_15.trans (b16.mono D0_15.size)
  refine (toII A2 c2 xs2 _ (Rxs2.below D0_16) zxs2.1 zzxs2).mono ?_
  rintro e w17 ⟨A2_17, c2_17, rfl, hc2_17, rA2_17, oA2_17, b17⟩
  have bq28 := BoxC.below bq25 b17
  have q0 : w17.cell? ⟨w.heap.size, 0, none⟩ = some (.int .i64 m0.c) ∧ w17.cell? ⟨w.heap.size, 1, none⟩ = some (.int .i64 m0.d) ∧ w17.cell? ⟨w.heap.size, 2, none⟩ = some (.int .i64 m0.s) ∧ w17.cell? ⟨w.heap.size, 3, none⟩ = some (.int .i64 m0.a) ∧ w17.cell? ⟨w.heap.size, 4, none⟩ = some (.int .i64 m0.l) ∧ True := bq28
  have bq29 := BoxC.below bq26 b17
  have q1 : w17.cell? ⟨w.heap.size + 1, 0, none⟩ = some (.slice A1 xs1.length c1) ∧ True := bq29
  have bq30 := BoxC.below bq27 b17
  have q2 : w17.cell? ⟨w8.heap.size, 0, none⟩ = some (.slice A1_8 xs1.length c1_8) ∧ True := bq30
  go_wp2_with fail
  clear q0 q1 q2
  have D10_13 := D10_12.trans (b13.mono D10_12.size)
  have D10_14 := D10_13.trans (b14.mono D10_13.size)
  have D10_15 := D10_14.trans (b15.mono D10_14.size)
  have D10_16 := D10_15.trans (b16.mono D10_15.size)
  have D10_17 := D10_16.trans (b17.mono D10_16.size)
  refine (eqII_t A2_10 A2_17 c2_10 c2_17 xs2 _ (rA2_10.below D10_17) rA2_17).mono ?_
  rintro e w18 ⟨rfl, b18⟩
  have bq31 := BoxC.below bq28 b18
  have q0 : w18.cell? ⟨w.heap.size, 0, none⟩ = some (.int .i64 m0.c) ∧ w18.cell? ⟨w.heap.size, 1, none⟩ = some (.int .i64 m0.d) ∧ w18.cell? ⟨w.heap.size, 2, none⟩ = some (.int .i64 m0.s) ∧ w18.cell? ⟨w.heap.size, 3, none⟩ = some (.int .i64 m0.a) ∧ w18.cell? ⟨w.heap.size, 4, none⟩ = some (.int .i64 m0.l) ∧ True := bq31
  have bq32 := BoxC.below bq29 b18
  have q1 : w18.cell? ⟨w.heap.size + 1, 0, none⟩ = some (.slice A1 xs1.length c1) ∧ True := bq32
  have bq33 := BoxC.below bq30 b18
  have q2 : w18.cell? ⟨w8.heap.size, 0, none⟩ = some (.slice A1_8 xs1.length c1_8) ∧ True := bq33
  go_wp2_with fail
  clear q0 q1 q2
  have D0_17 := D0_16.trans (b17.mono D0_16.size)
  have D0_18 := D0_17.trans (b18.mono D0_17.size)
  refine (toI A3 c3 xs3 _ (Rxs3.below D0_18) z3).mono ?_
  rintro e w19 ⟨A3_19, c3_19, rfl, hc3_19, rA3_19, oA3_19, b19, _⟩
  have bq34 := BoxC.below bq31 b19
  have q0 : w19.cell? ⟨w.heap.size, 0, none⟩ = some (.int .i64 m0.c) ∧ w19.cell? ⟨w.heap.size, 1, none⟩ = some (.int .i64 m0.d) ∧ w19.cell? ⟨w.heap.size, 2, none⟩ = some (.int .i64 m0.s) ∧ w19.cell? ⟨w.heap.size, 3, none⟩ = some (.int .i64 m0.a) ∧ w19.cell? ⟨w.heap.size, 4, none⟩ = some (.int .i64 m0.l) ∧ True := bq34
  have bq35 := BoxC.below bq32 b19
  have q1 : w19.cell? ⟨w.heap.size + 1, 0, none⟩ = some (.slice A1 xs1.length c1) ∧ True := bq35
  have bq36 := BoxC.below bq33 b19
  have q2 : w19.cell? ⟨w8.heap.size, 0, none⟩ = some (.slice A1_8 xs1.length c1_8) ∧ True := bq36
  go_wp2_with fail
  clear q0 q1 q2
  have D11_14 := D11_13.trans (b14.mono D11_13.size)
  have D11_15 := D11_14.trans (b15.mono D11_14.size)
  have D11_16 := D11_15.trans (b16.mono D11_15.size)
  have D11_17 := D11_16.trans (b17.mono D11_16.size)
  have D11_18 := D11_17.trans (b18.mono D11_17.size)
  have D11_19 := D11_18.trans (b19.mono D11_18.size)
  refine (eqI_t A3_11 A3_19 c3_11 c3_19 xs3 _ (rA3_11.below D11_19) rA3_19).mono ?_
  rintro e w20 ⟨rfl, b20⟩
  have bq37 := BoxC.below bq34 b20
  have q0 : w20.cell? ⟨w.heap.size, 0, none⟩ = some (.int .i64 m0.c) ∧ w20.cell? ⟨w.heap.size, 1, none⟩ = some (.int .i64 m0.d) ∧ w20.cell? ⟨w.heap.size, 2, none⟩ = some (.int .i64 m0.s) ∧ w20.cell? ⟨w.heap.size, 3, none⟩ = some (.int .i64 m0.a) ∧ w20.cell? ⟨w.heap.size, 4, none⟩ = some (.int .i64 m0.l) ∧ True := bq37
  have bq38 := BoxC.below bq35 b20
  have q1 : w20.cell? ⟨w.heap.size + 1, 0, none⟩ = some (.slice A1 xs1.length c1) ∧ True := bq38
  have bq39 := BoxC.below bq36 b20
  have q2 : w20.cell? ⟨w8.heap.size, 0, none⟩ = some (.slice A1_8 xs1.length c1_8) ∧ True := bq39
  go_wp2_with fail
  clear q0 q1 q2
  have D8_16 := D8_15.trans (b16.mono D8_15.size)
  have D8_17 := D8_16.trans (b17.mono D8_16.size)
  have D8_18 := D8_17.trans (b18.mono D8_17.size)
  have D8_19 := D8_18.trans (b19.mono D8_18.size)
  have D8_20 := D8_19.trans (b20.mono D8_19.size)
  have Y40 := oA1_8.below (D8_20.mono (Nat.le_refl _))
  have D10_18 := D10_17.trans (b18.mono D10_17.size)
  have D10_19 := D10_18.trans (b19.mono D10_18.size)
  have D10_20 := D10_19.trans (b20.mono D10_19.size)
  have Y41 := oA2_10.below (D10_20.mono (Nat.le_refl _))
  have D11_20 := D11_19.trans (b20.mono D11_19.size)
  have Y42 := oA3_11.below (D11_20.mono (Nat.le_refl _))
  have D13_15 := b14.trans (b15.mono b14.size)
  have D13_16 := D13_15.trans (b16.mono D13_15.size)
  have D13_17 := D13_16.trans (b17.mono D13_16.size)
  have D13_18 := D13_17.trans (b18.mono D13_17.size)
  have D13_19 := D13_18.trans (b19.mono D13_18.size)
  have D13_20 := D13_19.trans (b20.mono D13_19.size)
  have Y43 := og0.below (D13_20.mono (Nat.le_refl _))
  have S8_10 := Nat.le_trans (b9.size) b10.size
  have S8_11 := Nat.le_trans (S8_10) b11.size
  have S8_12 := Nat.le_trans (S8_11) b12.size
  have S8_13 := Nat.le_trans (S8_12) b13.size
  have S8_14 := Nat.le_trans (S8_13) b14.size
  have S8_15 := Nat.le_trans (S8_14) b15.size
  have S8_16 := Nat.le_trans (S8_15) b16.size
  have S8_17 := Nat.le_trans (S8_16) b17.size
  have S8_18 := Nat.le_trans (S8_17) b18.size
  have S8_19 := Nat.le_trans (S8_18) b19.size
  have S8_20 := Nat.le_trans (S8_19) b20.size
  refine (markL_t (.slice A1_8 xs1.length c1_8) xs1 _ _ _ _ Y40 (by omega) (by omega) (by omega) (by omega) (S8_20)).mono ?_
  rintro e w21 ⟨rfl, Y44, on21⟩
  have S0_2 := Nat.le_trans (b1.size) b2.size
  have S0_3 := Nat.le_trans (S0_2) b3.size
  have S0_4 := Nat.le_trans (S0_3) b4.size
  have S0_5 := Nat.le_trans (S0_4) b5.size
  have S0_6 := Nat.le_trans (S0_5) b6.size
  have S0_7 := Nat.le_trans (S0_6) b7.size
  have bq45 := BoxC.only bq37 on21 (Or.inl (Nat.lt_of_lt_of_le (by simp only [World.size_alloc]; omega) (S0_7)))
  have q0 : w21.cell? ⟨w.heap.size, 0, none⟩ = some (.int .i64 m0.c) ∧ w21.cell? ⟨w.heap.size, 1, none⟩ = some (.int .i64 m0.d) ∧ w21.cell? ⟨w.heap.size, 2, none⟩ = some (.int .i64 m0.s) ∧ w21.cell? ⟨w.heap.size, 3, none⟩ = some (.int .i64 m0.a) ∧ w21.cell? ⟨w.heap.size, 4, none⟩ = some (.int .i64 m0.l) ∧ True := bq45
  have bq46 := BoxC.only bq38 on21 (Or.inl (Nat.lt_of_lt_of_le (by simp only [World.size_alloc]; omega) (S0_7)))
  have q1 : w21.cell? ⟨w.heap.size + 1, 0, none⟩ = some (.slice A1 xs1.length c1) ∧ True := bq46
  have bq47 := BoxC.only bq39 on21 (Or.inr (Nat.le_refl _))
  have q2 : w21.cell? ⟨w8.heap.size, 0, none⟩ = some (.slice A1_8 xs1.length c1_8) ∧ True := bq47
  go_wp2_with fail
  clear q0 q1 q2
  have Y48 := Y41.only on21 (Or.inr (b9.size))
  have Y49 := Y42.only on21 (Or.inr (S8_10))
  have Y50 := Y43.only on21 (Or.inr (S8_12))
  refine (markII_t (.slice A2_10 xs2.length c2_10) xs2 _ _ _ _ Y48 (by omega) (by omega) (by omega) (by omega)).mono ?_
  rintro e w22 ⟨rfl, Y51, on22⟩
  have S0_8 := Nat.le_trans (S0_7) b8.size
  have S0_9 := Nat.le_trans (S0_8) b9.size
  have bq52 := BoxC.only bq45 on22 (Or.inl (Nat.lt_of_lt_of_le (by simp only [World.size_alloc]; omega) (S0_9)))
  have q0 : w22.cell? ⟨w.heap.size, 0, none⟩ = some (.int .i64 m0.c) ∧ w22.cell? ⟨w.heap.size, 1, none⟩ = some (.int .i64 m0.d) ∧ w22.cell? ⟨w.heap.size, 2, none⟩ = some (.int .i64 m0.s) ∧ w22.cell? ⟨w.heap.size, 3, none⟩ = some (.int .i64 m0.a) ∧ w22.cell? ⟨w.heap.size, 4, none⟩ = some (.int .i64 m0.l) ∧ True := bq52
  have bq53 := BoxC.only bq46 on22 (Or.inl (Nat.lt_of_lt_of_le (by simp only [World.size_alloc]; omega) (S0_9)))
  have q1 : w22.cell? ⟨w.heap.size + 1, 0, none⟩ = some (.slice A1 xs1.length c1) ∧ True := bq53
  have bq54 := BoxC.only bq47 on22 (Or.inl (Nat.lt_of_lt_of_le (by first | exact Nat.lt_succ_self _ | simp) (Nat.le_refl _)))
  have q2 : w22.cell? ⟨w8.heap.size, 0, none⟩ = some (.slice A1_8 xs1.length c1_8) ∧ True := bq54
  go_wp2_with fail
  clear q0 q1 q2
  have Y55 := Y49.only on22 (Or.inr (Nat.le_refl _))
  have Y56 := Y44.only on22 (Or.inl (b9.size))
  have S10_12 := Nat.le_trans (b11.size) b12.size
  have Y57 := Y50.only on22 (Or.inr (S10_12))
  refine (markI_t (.slice A3_11 xs3.length c3_11) xs3 _ _ _ _ Y55 (by omega) (by omega) (by omega)).mono ?_
  rintro e w23 ⟨rfl, Y58, on23⟩
  have S0_10 := Nat.le_trans (S0_9) b10.size
  have bq59 := BoxC.only bq52 on23 (Or.inl (Nat.lt_of_lt_of_le (by simp only [World.size_alloc]; omega) (S0_10)))
  have q0 : w23.cell? ⟨w.heap.size, 0, none⟩ = some (.int .i64 m0.c) ∧ w23.cell? ⟨w.heap.size, 1, none⟩ = some (.int .i64 m0.d) ∧ w23.cell? ⟨w.heap.size, 2, none⟩ = some (.int .i64 m0.s) ∧ w23.cell? ⟨w.heap.size, 3, none⟩ = some (.int .i64 m0.a) ∧ w23.cell? ⟨w.heap.size, 4, none⟩ = some (.int .i64 m0.l) ∧ True := bq59
  have bq60 := BoxC.only bq53 on23 (Or.inl (Nat.lt_of_lt_of_le (by simp only [World.size_alloc]; omega) (S0_10)))
  have q1 : w23.cell? ⟨w.heap.size + 1, 0, none⟩ = some (.slice A1 xs1.length c1) ∧ True := bq60
  have bq61 := BoxC.only bq54 on23 (Or.inl (Nat.lt_of_lt_of_le (by first | exact Nat.lt_succ_self _ | simp) (b10.size)))
  have q2 : w23.cell? ⟨w8.heap.size, 0, none⟩ = some (.slice A1_8 xs1.length c1_8) ∧ True := bq61
  go_wp2_with fail
  clear q0 q1 q2
  have Y62 := Y57.only on23 (Or.inr (b12.size))
  have S10_13 := Nat.le_trans (S10_12) b13.size
  have S10_14 := Nat.le_trans (S10_13) b14.size
  have S10_15 := Nat.le_trans (S10_14) b15.size
  have S10_16 := Nat.le_trans (S10_15) b16.size
  have S10_17 := Nat.le_trans (S10_16) b17.size
  have S10_18 := Nat.le_trans (S10_17) b18.size
  have S10_19 := Nat.le_trans (S10_18) b19.size
  have S10_20 := Nat.le_trans (S10_19) b20.size
  have S10_21 := Nat.le_trans (S10_20) on21.size
  have S10_22 := Nat.le_trans (S10_21) on22.size
  have S7_9 := Nat.le_trans (b8.size) b9.size
  have S7_10 := Nat.le_trans (S7_9) b10.size
  have S9_11 := Nat.le_trans (b10.size) b11.size
  have S9_12 := Nat.le_trans (S9_11) b12.size
  have S9_13 := Nat.le_trans (S9_12) b13.size
  have S9_14 := Nat.le_trans (S9_13) b14.size
  have S9_15 := Nat.le_trans (S9_14) b15.size
  have S9_16 := Nat.le_trans (S9_15) b16.size
  have S9_17 := Nat.le_trans (S9_16) b17.size
  have S9_18 := Nat.le_trans (S9_17) b18.size
  have S9_19 := Nat.le_trans (S9_18) b19.size
  have S9_20 := Nat.le_trans (S9_19) b20.size
  have S9_21 := Nat.le_trans (S9_20) on21.size
  have S7_11 := Nat.le_trans (S7_10) b11.size
  have S7_12 := Nat.le_trans (S7_11) b12.size
  have S7_13 := Nat.le_trans (S7_12) b13.size
  have S7_14 := Nat.le_trans (S7_13) b14.size
  have S7_15 := Nat.le_trans (S7_14) b15.size
  have S7_16 := Nat.le_trans (S7_15) b16.size
  have S7_17 := Nat.le_trans (S7_16) b17.size
  have S7_18 := Nat.le_trans (S7_17) b18.size
  have S7_19 := Nat.le_trans (S7_18) b19.size
  have S7_20 := Nat.le_trans (S7_19) b20.size
  have D7_14 := D7_13.trans (b14.mono D7_13.size)
  have D7_15 := D7_14.trans (b15.mono D7_14.size)
  have D7_16 := D7_15.trans (b16.mono D7_15.size)
  have D7_17 := D7_16.trans (b17.mono D7_16.size)
  have D7_18 := D7_17.trans (b18.mono D7_17.size)
  have D7_19 := D7_18.trans (b19.mono D7_18.size)
  have D7_20 := D7_19.trans (b20.mono D7_19.size)
  have D7_21 := D7_20.trans (on21.below (S7_20))
  have D7_22 := D7_21.trans ((on22.below (S9_21)).mono (S7_9))
  have D7_23 := D7_22.trans ((on23.below (S10_22)).mono (S7_10))
  refine (eqI_t Ag0 As0 cg0 cs0 (nearR m0 xs1 xs2 xs3).1 _ (OI.ri Y62) (rs0.below D7_23)).mono ?_
  rintro e w24 ⟨rfl, b24⟩
  have bq63 := BoxC.below bq59 b24
  have q0 : w24.cell? ⟨w.heap.size, 0, none⟩ = some (.int .i64 m0.c) ∧ w24.cell? ⟨w.heap.size, 1, none⟩ = some (.int .i64 m0.d) ∧ w24.cell? ⟨w.heap.size, 2, none⟩ = some (.int .i64 m0.s) ∧ w24.cell? ⟨w.heap.size, 3, none⟩ = some (.int .i64 m0.a) ∧ w24.cell? ⟨w.heap.size, 4, none⟩ = some (.int .i64 m0.l) ∧ True := bq63
  have bq64 := BoxC.below bq60 b24
  have q1 : w24.cell? ⟨w.heap.size + 1, 0, none⟩ = some (.slice A1 xs1.length c1) ∧ True := bq64
  have bq65 := BoxC.below bq61 b24
  have q2 : w24.cell? ⟨w8.heap.size, 0, none⟩ = some (.slice A1_8 xs1.length c1_8) ∧ True := bq65
  go_wp2_with fail
  clear q0 q1 q2
  have S13_15 := Nat.le_trans (b14.size) b15.size
  have S13_16 := Nat.le_trans (S13_15) b16.size
  have S13_17 := Nat.le_trans (S13_16) b17.size
  have S13_18 := Nat.le_trans (S13_17) b18.size
  have S13_19 := Nat.le_trans (S13_18) b19.size
  have S13_20 := Nat.le_trans (S13_19) b20.size
  have S13_21 := Nat.le_trans (S13_20) on21.size
  have S13_22 := Nat.le_trans (S13_21) on22.size
  have S13_23 := Nat.le_trans (S13_22) on23.size
  have Y66 := Y62.below (b24.mono (S13_23))
  refine (markI_t (.slice Ag0 (nearR m0 xs1 xs2 xs3).1.length cg0) (nearR m0 xs1 xs2 xs3).1 _ _ _ _ Y66 (by omega) (by omega) (by omega)).mono ?_
  rintro e w25 ⟨rfl, Y67, on25⟩
  have S0_11 := Nat.le_trans (S0_10) b11.size
  have S0_12 := Nat.le_trans (S0_11) b12.size
  have bq68 := BoxC.only bq63 on25 (Or.inl (Nat.lt_of_lt_of_le (by simp only [World.size_alloc]; omega) (S0_12)))
  have q0 : w25.cell? ⟨w.heap.size, 0, none⟩ = some (.int .i64 m0.c) ∧ w25.cell? ⟨w.heap.size, 1, none⟩ = some (.int .i64 m0.d) ∧ w25.cell? ⟨w.heap.size, 2, none⟩ = some (.int .i64 m0.s) ∧ w25.cell? ⟨w.heap.size, 3, none⟩ = some (.int .i64 m0.a) ∧ w25.cell? ⟨w.heap.size, 4, none⟩ = some (.int .i64 m0.l) ∧ True := bq68
  have bq69 := BoxC.only bq64 on25 (Or.inl (Nat.lt_of_lt_of_le (by simp only [World.size_alloc]; omega) (S0_12)))
  have q1 : w25.cell? ⟨w.heap.size + 1, 0, none⟩ = some (.slice A1 xs1.length c1) ∧ True := bq69
  have bq70 := BoxC.only bq65 on25 (Or.inl (Nat.lt_of_lt_of_le (by first | exact Nat.lt_succ_self _ | simp) (S9_12)))
  have q2 : w25.cell? ⟨w8.heap.size, 0, none⟩ = some (.slice A1_8 xs1.length c1_8) ∧ True := bq70
  go_wp2_with fail
  clear q0 q1 q2
  refine (heldI_t Ag0 cg0 (nearR m0 xs1 xs2 xs3).1.length _ _ (OI.ri Y67) (by omega) (by omega) (by omega)).mono ?_
  rintro e w26 ⟨rfl, b26⟩
  have bq71 := BoxC.below bq68 b26
  have q0 : w26.cell? ⟨w.heap.size, 0, none⟩ = some (.int .i64 m0.c) ∧ w26.cell? ⟨w.heap.size, 1, none⟩ = some (.int .i64 m0.d) ∧ w26.cell? ⟨w.heap.size, 2, none⟩ = some (.int .i64 m0.s) ∧ w26.cell? ⟨w.heap.size, 3, none⟩ = some (.int .i64 m0.a) ∧ w26.cell? ⟨w.heap.size, 4, none⟩ = some (.int .i64 m0.l) ∧ True := bq71
  have bq72 := BoxC.below bq69 b26
  have q1 : w26.cell? ⟨w.heap.size + 1, 0, none⟩ = some (.slice A1 xs1.length c1) ∧ True := bq72
  have bq73 := BoxC.below bq70 b26
  have q2 : w26.cell? ⟨w8.heap.size, 0, none⟩ = some (.slice A1_8 xs1.length c1_8) ∧ True := bq73
  go_wp2_with fail
  clear q0 q1 q2
  have KS74 := Lib.hid (show ∀ w' : World, Below w26.heap.size w26 w' → ((w'.cell? ⟨w.heap.size, 0, none⟩ = some (.int .i64 m0.c) ∧ w'.cell? ⟨w.heap.size, 1, none⟩ = some (.int .i64 m0.d) ∧ w'.cell? ⟨w.heap.size, 2, none⟩ = some (.int .i64 m0.s) ∧ w'.cell? ⟨w.heap.size, 3, none⟩ = some (.int .i64 m0.a) ∧ w'.cell? ⟨w.heap.size, 4, none⟩ = some (.int .i64 m0.l) ∧ True) ∧ (w'.cell? ⟨w.heap.size + 1, 0, none⟩ = some (.slice A1 xs1.length c1) ∧ True)) from fun w' hb => ⟨BoxC.below bq71 hb, BoxC.below bq72 hb⟩)
  go_region_held3 (fun w' => (w'.cell? ⟨w.heap.size, 0, none⟩ = some (.int .i64 m0.c) ∧ w'.cell? ⟨w.heap.size, 1, none⟩ = some (.int .i64 m0.d) ∧ w'.cell? ⟨w.heap.size, 2, none⟩ = some (.int .i64 m0.s) ∧ w'.cell? ⟨w.heap.size, 3, none⟩ = some (.int .i64 m0.a) ∧ w'.cell? ⟨w.heap.size, 4, none⟩ = some (.int .i64 m0.l) ∧ True) ∧ (w'.cell? ⟨w.heap.size + 1, 0, none⟩ = some (.slice A1 xs1.length c1) ∧ True)) (first | (refine KS74.out _ ?_; first | assumption | exact belowDrew0 _)) (first | (go_at_call 61; have D26_30 := D26_29.trans (b30.mono D26_29.size); have D28_30 := b29.trans (b30.mono b29.size); refine (implNearestGhost_any m0 A1_28 c1_28 xs1 A2_29 c2_29 xs2 A3_30 c3_30 xs3 _ (rA1_28.below D28_30) (rA2_29.below b30) rA3_30 hc3_30).mono ?_; rintro e w31 ⟨Ah0, ch0, rfl, hch0, rh0, oh0, b31⟩; have BS31 := Below.trans BS30 (b31.mono (Below.size BS30))) | (go_at_call 17; have D26_29 := D26_28.trans (b29.mono D26_28.size); have D0_29 := D0_28.trans (b29.mono D0_28.size); refine (toI A3 c3 xs3 _ (Rxs3.below D0_29) z3).mono ?_; rintro e w30 ⟨A3_30, c3_30, rfl, hc3_30, rA3_30, oA3_30, b30, _⟩; have BS30 := Below.trans BS29 (b30.mono (Below.size BS29))) | (go_at_call 39; have D26_28 := b27.trans (b28.mono b27.size); have D0_28 := D0_27.trans (b28.mono D0_27.size); refine (toII A2 c2 xs2 _ (Rxs2.below D0_28) zxs2.1 zzxs2).mono ?_; rintro e w29 ⟨A2_29, c2_29, rfl, hc2_29, rA2_29, oA2_29, b29⟩; have BS29 := Below.trans BS28 (b29.mono (Below.size BS28))) | (go_at_call 38; have S12_14 := Nat.le_trans (b13.size) b14.size; have S12_15 := Nat.le_trans (S12_14) b15.size; have S12_16 := Nat.le_trans (S12_15) b16.size; have S12_17 := Nat.le_trans (S12_16) b17.size; have S12_18 := Nat.le_trans (S12_17) b18.size; have S12_19 := Nat.le_trans (S12_18) b19.size; have S12_20 := Nat.le_trans (S12_19) b20.size; have S12_21 := Nat.le_trans (S12_20) on21.size; have S12_22 := Nat.le_trans (S12_21) on22.size; have S12_23 := Nat.le_trans (S12_22) on23.size; have S12_24 := Nat.le_trans (S12_23) b24.size; have D0_19 := D0_18.trans (b19.mono D0_18.size); have D0_20 := D0_19.trans (b20.mono D0_19.size); have D0_21 := D0_20.trans ((on21.below (S7_20)).mono (S0_7)); have D0_22 := D0_21.trans ((on22.below (S9_21)).mono (S0_9)); have D0_23 := D0_22.trans ((on23.below (S10_22)).mono (S0_10)); have D0_24 := D0_23.trans (b24.mono D0_23.size); have D0_25 := D0_24.trans ((on25.below (S12_24)).mono (S0_12)); have D0_26 := D0_25.trans (b26.mono D0_25.size); have D0_27 := D0_26.trans (b27.mono D0_26.size); refine (toL A1 c1 xs1 _ (Rxs1.below D0_27) zxs1.1 zzxs1).mono ?_; rintro e w28 ⟨A1_28, c1_28, rfl, hc1_28, rA1_28, oA1_28, b28⟩; have BS28 := Below.trans b27 (b28.mono (Below.size b27))) | (go_at_call 16; refine (toM m0.c m0.d m0.s m0.a m0.l _).mono ?_; rintro e w27 ⟨rfl, b27⟩; have b27 := belowDrew b27))
  have D26_31 := D26_30.trans (b31.mono D26_30.size)
  have bq75 := BoxC.below bq71 D26_31
  have q0 : w31.cell? ⟨w.heap.size, 0, none⟩ = some (.int .i64 m0.c) ∧ w31.cell? ⟨w.heap.size, 1, none⟩ = some (.int .i64 m0.d) ∧ w31.cell? ⟨w.heap.size, 2, none⟩ = some (.int .i64 m0.s) ∧ w31.cell? ⟨w.heap.size, 3, none⟩ = some (.int .i64 m0.a) ∧ w31.cell? ⟨w.heap.size, 4, none⟩ = some (.int .i64 m0.l) ∧ True := bq75
  have bq76 := BoxC.below bq72 D26_31
  have q1 : w31.cell? ⟨w.heap.size + 1, 0, none⟩ = some (.slice A1 xs1.length c1) ∧ True := bq76
  have bq77 := BoxC.below bq73 D26_31
  have q2 : w31.cell? ⟨w8.heap.size, 0, none⟩ = some (.slice A1_8 xs1.length c1_8) ∧ True := bq77
  go_wp2_with fail
  clear q0 q1 q2
  have D7_24 := D7_23.trans (b24.mono D7_23.size)
  have D7_25 := D7_24.trans ((on25.below (S12_24)).mono (S7_12))
  have D7_26 := D7_25.trans (b26.mono D7_25.size)
  have D7_27 := D7_26.trans (b27.mono D7_26.size)
  have D7_28 := D7_27.trans (b28.mono D7_27.size)
  have D7_29 := D7_28.trans (b29.mono D7_28.size)
  have D7_30 := D7_29.trans (b30.mono D7_29.size)
  have D7_31 := D7_30.trans (b31.mono D7_30.size)
  refine (eqI_t Ah0 As0 ch0 cs0 (nearR m0 xs1 xs2 xs3).1 _ rh0 (rs0.below D7_31)).mono ?_
  rintro e w32 ⟨rfl, b32⟩
  have bq78 := BoxC.below bq75 b32
  have q0 : w32.cell? ⟨w.heap.size, 0, none⟩ = some (.int .i64 m0.c) ∧ w32.cell? ⟨w.heap.size, 1, none⟩ = some (.int .i64 m0.d) ∧ w32.cell? ⟨w.heap.size, 2, none⟩ = some (.int .i64 m0.s) ∧ w32.cell? ⟨w.heap.size, 3, none⟩ = some (.int .i64 m0.a) ∧ w32.cell? ⟨w.heap.size, 4, none⟩ = some (.int .i64 m0.l) ∧ True := bq78
  have bq79 := BoxC.below bq76 b32
  have q1 : w32.cell? ⟨w.heap.size + 1, 0, none⟩ = some (.slice A1 xs1.length c1) ∧ True := bq79
  have bq80 := BoxC.below bq77 b32
  have q2 : w32.cell? ⟨w8.heap.size, 0, none⟩ = some (.slice A1_8 xs1.length c1_8) ∧ True := bq80
  go_wp2_with fail
  clear q0 q1 q2
  have D25_27 := b26.trans (b27.mono b26.size)
  have D25_28 := D25_27.trans (b28.mono D25_27.size)
  have D25_29 := D25_28.trans (b29.mono D25_28.size)
  have D25_30 := D25_29.trans (b30.mono D25_29.size)
  have D25_31 := D25_30.trans (b31.mono D25_30.size)
  have D25_32 := D25_31.trans (b32.mono D25_31.size)
  have S13_24 := Nat.le_trans (S13_23) b24.size
  have S13_25 := Nat.le_trans (S13_24) on25.size
  have Y81 := Y67.below (D25_32.mono (S13_25))
  refine (heldI_t Ag0 cg0 (nearR m0 xs1 xs2 xs3).1.length _ _ (OI.ri Y81) (by omega) (by omega) (by omega)).mono ?_
  rintro e w33 ⟨rfl, b33⟩
  have D0_30 := D0_29.trans (b30.mono D0_29.size)
  have D0_31 := D0_30.trans (b31.mono D0_30.size)
  have D0_32 := D0_31.trans (b32.mono D0_31.size)
  have D0_33 := D0_32.trans (b33.mono D0_32.size)
  have DD := D0_33
  have bq82 := BoxC.below bq78 b33
  have q0 : w33.cell? ⟨w.heap.size, 0, none⟩ = some (.int .i64 m0.c) ∧ w33.cell? ⟨w.heap.size, 1, none⟩ = some (.int .i64 m0.d) ∧ w33.cell? ⟨w.heap.size, 2, none⟩ = some (.int .i64 m0.s) ∧ w33.cell? ⟨w.heap.size, 3, none⟩ = some (.int .i64 m0.a) ∧ w33.cell? ⟨w.heap.size, 4, none⟩ = some (.int .i64 m0.l) ∧ True := bq82
  have bq83 := BoxC.below bq79 b33
  have q1 : w33.cell? ⟨w.heap.size + 1, 0, none⟩ = some (.slice A1 xs1.length c1) ∧ True := bq83
  have bq84 := BoxC.below bq80 b33
  have q2 : w33.cell? ⟨w8.heap.size, 0, none⟩ = some (.slice A1_8 xs1.length c1_8) ∧ True := bq84
  go_wp2_with fail
  go_ret
  exact ⟨rfl, HB0.trans (DD.mono HB0.size)⟩
end Go.Proofs.Ytcdajogdpgjgjaa.fnExactNearestGhost
