/- The walk of the law FnExactLockAt. -/
import Derived.Test.YtldlpkfjgackiaaFChLock
import Derived.Test.YtldlpkfjgackiaaHelpL
namespace Go.Proofs.Ytldlpkfjgackiaa.fnExactLockAt
set_option linter.unusedVariables false
open Go.RowKit
theorem few_lens : ∀ (ls : List (List Int)) (b : Nat), (∀ x, x ∈ ls → x.length ≤ b) → sumLen ls ≤ b * ls.length
  | [], _, _ => by simp [sumLen]
  | x :: r, b, h => by
    have := few_lens r b (fun y hy => h y (by simp [hy])); have := h x (by simp)
    unfold sumLen at *; rw [List.map_cons, List.sum_cons, List.length_cons, Nat.mul_succ]; omega
theorem hull_lens {m : Mk} (hm : isMaker m = true) (ks : List (List Int)) : (hullF m.c.toNat m.d.toNat ks).length ≤ 4194304 ∧ sumLen (hullF m.c.toNat m.d.toNat ks) ≤ 1048576 := by
  have hb := mk_bounds hm
  have h1 := few_lens (hullF m.c.toNat m.d.toNat ks) 8 (fun x hx => by
    obtain ⟨i, hi, rfl⟩ := List.getElem_of_mem hx
    have := hullF_row hi; omega)
  rw [hullF_length] at h1 ⊢
  omega
theorem lens (m : Mk) (ms ls ps : List Int) : (lockAtR m ms ls ps).1.length ≤ 4194304 ∧ sumLen (lockAtR m ms ls ps).1 ≤ 1048576 := by
  unfold lockAtR
  split
  · rename_i h; exact hull_lens (lc_0_iff.1 h).1 _
  · simp [sumLen]
set_option maxRecDepth 100000 in
set_option maxHeartbeats 8000000 in
theorem walk (m0 : Mk) (A1 : Option Addr) (c1 : Nat) (xs1 : List Int) (A2 : Option Addr) (c2 : Nat) (xs2 : List Int) (A3 : Option Addr) (c3 : Nat) (xs3 : List Int) (w : World) (hc1 : xs1.length ≤ c1) (h1 : RI w A1 xs1) (hc2 : xs2.length ≤ c2) (h2 : RI w A2 xs2) (hc3 : xs3.length ≤ c3) (h3 : RI w A3 xs3) :
    Calls Try.prog 5 #[.agg #[.int .i64 m0.c, .int .i64 m0.d, .int .i64 m0.s, .int .i64 m0.a, .int .i64 m0.l], .slice A1 xs1.length c1, .slice A2 xs2.length c2, .slice A3 xs3.length c3] w fun e w' => e = .returned (.bool true) ∧ Below w.heap.size w w' := by
  have lens0 := lens m0 xs1 xs2 xs3
  have HB0 : Below w.heap.size w (w.alloc (.cells #[.int .i64 m0.c, .int .i64 m0.d, .int .i64 m0.s, .int .i64 m0.a, .int .i64 m0.l] 23)) := (Below.refl w.heap.size w).alloc (by exact Nat.le_refl _) _
  have bx0 : BoxC (w.alloc (.cells #[.int .i64 m0.c, .int .i64 m0.d, .int .i64 m0.s, .int .i64 m0.a, .int .i64 m0.l] 23)) (w.heap.size) 0 [.int .i64 m0.c, .int .i64 m0.d, .int .i64 m0.s, .int .i64 m0.a, .int .i64 m0.l] := by simp [BoxC, Go.World.cell?_alloc_at]
  have Rxs1 := (h1).alloc (.cells #[.int .i64 m0.c, .int .i64 m0.d, .int .i64 m0.s, .int .i64 m0.a, .int .i64 m0.l] 23)
  have Rxs2 := (h2).alloc (.cells #[.int .i64 m0.c, .int .i64 m0.d, .int .i64 m0.s, .int .i64 m0.a, .int .i64 m0.l] 23)
  have Rxs3 := (h3).alloc (.cells #[.int .i64 m0.c, .int .i64 m0.d, .int .i64 m0.s, .int .i64 m0.a, .int .i64 m0.l] 23)
  by_cases z1 : xs1.length ≤ 1048576
  case neg =>
    have i1 : (1048576 : Int) < (xs1.length : Int) := by omega
    go_enter Try.func5, Try.ntmps5
    go_wp2_with fail
    go_ret
    exact ⟨rfl, HB0⟩
  have i1 : ¬ ((1048576 : Int) < (xs1.length : Int)) := by omega
  by_cases z2 : xs2.length ≤ 1048576
  case neg =>
    have i2 : (1048576 : Int) < (xs2.length : Int) := by omega
    go_enter Try.func5, Try.ntmps5
    go_wp2_with fail
    go_ret
    exact ⟨rfl, HB0⟩
  have i2 : ¬ ((1048576 : Int) < (xs2.length : Int)) := by omega
  by_cases z3 : xs3.length ≤ 1048576
  case neg =>
    have i3 : (1048576 : Int) < (xs3.length : Int) := by omega
    go_enter Try.func5, Try.ntmps5
    go_wp2_with fail
    go_ret
    exact ⟨rfl, HB0⟩
  have i3 : ¬ ((1048576 : Int) < (xs3.length : Int)) := by omega
  go_enter Try.func5, Try.ntmps5
  have q0 : (w.alloc (.cells #[.int .i64 m0.c, .int .i64 m0.d, .int .i64 m0.s, .int .i64 m0.a, .int .i64 m0.l] 23)).cell? ⟨w.heap.size, 0, none⟩ = some (.int .i64 m0.c) ∧ (w.alloc (.cells #[.int .i64 m0.c, .int .i64 m0.d, .int .i64 m0.s, .int .i64 m0.a, .int .i64 m0.l] 23)).cell? ⟨w.heap.size, 1, none⟩ = some (.int .i64 m0.d) ∧ (w.alloc (.cells #[.int .i64 m0.c, .int .i64 m0.d, .int .i64 m0.s, .int .i64 m0.a, .int .i64 m0.l] 23)).cell? ⟨w.heap.size, 2, none⟩ = some (.int .i64 m0.s) ∧ (w.alloc (.cells #[.int .i64 m0.c, .int .i64 m0.d, .int .i64 m0.s, .int .i64 m0.a, .int .i64 m0.l] 23)).cell? ⟨w.heap.size, 3, none⟩ = some (.int .i64 m0.a) ∧ (w.alloc (.cells #[.int .i64 m0.c, .int .i64 m0.d, .int .i64 m0.s, .int .i64 m0.a, .int .i64 m0.l] 23)).cell? ⟨w.heap.size, 4, none⟩ = some (.int .i64 m0.l) ∧ True := bx0
  go_wp2_with fail
  clear q0
  refine (toM m0.c m0.d m0.s m0.a m0.l _).mono ?_
  rintro e w1 ⟨rfl, b1⟩
  have bq1 := BoxC.below bx0 b1
  have q0 : w1.cell? ⟨w.heap.size, 0, none⟩ = some (.int .i64 m0.c) ∧ w1.cell? ⟨w.heap.size, 1, none⟩ = some (.int .i64 m0.d) ∧ w1.cell? ⟨w.heap.size, 2, none⟩ = some (.int .i64 m0.s) ∧ w1.cell? ⟨w.heap.size, 3, none⟩ = some (.int .i64 m0.a) ∧ w1.cell? ⟨w.heap.size, 4, none⟩ = some (.int .i64 m0.l) ∧ True := bq1
  go_wp2_with fail
  clear q0
  refine (toI A1 c1 xs1 _ (Rxs1.below b1) z1).mono ?_
  rintro e w2 ⟨A1_2, c1_2, rfl, hc1_2, rA1_2, oA1_2, b2, _⟩
  have bq2 := BoxC.below bq1 b2
  have q0 : w2.cell? ⟨w.heap.size, 0, none⟩ = some (.int .i64 m0.c) ∧ w2.cell? ⟨w.heap.size, 1, none⟩ = some (.int .i64 m0.d) ∧ w2.cell? ⟨w.heap.size, 2, none⟩ = some (.int .i64 m0.s) ∧ w2.cell? ⟨w.heap.size, 3, none⟩ = some (.int .i64 m0.a) ∧ w2.cell? ⟨w.heap.size, 4, none⟩ = some (.int .i64 m0.l) ∧ True := bq2
  go_wp2_with fail
  clear q0
  have D0_2 := b1.trans (b2.mono b1.size)
  refine (toI A2 c2 xs2 _ (Rxs2.below D0_2) z2).mono ?_
  rintro e w3 ⟨A2_3, c2_3, rfl, hc2_3, rA2_3, oA2_3, b3, _⟩
  have bq3 := BoxC.below bq2 b3
  have q0 : w3.cell? ⟨w.heap.size, 0, none⟩ = some (.int .i64 m0.c) ∧ w3.cell? ⟨w.heap.size, 1, none⟩ = some (.int .i64 m0.d) ∧ w3.cell? ⟨w.heap.size, 2, none⟩ = some (.int .i64 m0.s) ∧ w3.cell? ⟨w.heap.size, 3, none⟩ = some (.int .i64 m0.a) ∧ w3.cell? ⟨w.heap.size, 4, none⟩ = some (.int .i64 m0.l) ∧ True := bq3
  go_wp2_with fail
  clear q0
  have D0_3 := D0_2.trans (b3.mono D0_2.size)
  refine (toI A3 c3 xs3 _ (Rxs3.below D0_3) z3).mono ?_
  rintro e w4 ⟨A3_4, c3_4, rfl, hc3_4, rA3_4, oA3_4, b4, _⟩
  have bq4 := BoxC.below bq3 b4
  have q0 : w4.cell? ⟨w.heap.size, 0, none⟩ = some (.int .i64 m0.c) ∧ w4.cell? ⟨w.heap.size, 1, none⟩ = some (.int .i64 m0.d) ∧ w4.cell? ⟨w.heap.size, 2, none⟩ = some (.int .i64 m0.s) ∧ w4.cell? ⟨w.heap.size, 3, none⟩ = some (.int .i64 m0.a) ∧ w4.cell? ⟨w.heap.size, 4, none⟩ = some (.int .i64 m0.l) ∧ True := bq4
  go_wp2_with fail
  clear q0
  have D2_4 := b3.trans (b4.mono b3.size)
  refine (specLockAt_any m0 A1_2 c1_2 xs1 A2_3 c2_3 xs2 A3_4 c3_4 xs3 _ (rA1_2.below D2_4) (rA2_3.below b4) rA3_4 hc1_2).mono ?_
  rintro e w5 ⟨As0, cs0, rfl, hcs0, rs0, os0, b5⟩
  have b6 : Below w5.heap.size w5 (w5.alloc (.cells #[.slice As0 (lockAtR m0 xs1 xs2 xs3).1.length cs0] 48)) := (Below.refl _ _).alloc (Nat.le_refl _) _
  have bq5 : BoxC (w5.alloc (.cells #[.slice As0 (lockAtR m0 xs1 xs2 xs3).1.length cs0] 48)) (w5.heap.size) 0 [.slice As0 (lockAtR m0 xs1 xs2 xs3).1.length cs0] := by simp [BoxC, Go.World.cell?_alloc_at]
  have D4_6 := b5.trans (b6.mono b5.size)
  have bq6 := BoxC.below bq4 D4_6
  have q0 : (w5.alloc (.cells #[.slice As0 (lockAtR m0 xs1 xs2 xs3).1.length cs0] 48)).cell? ⟨w.heap.size, 0, none⟩ = some (.int .i64 m0.c) ∧ (w5.alloc (.cells #[.slice As0 (lockAtR m0 xs1 xs2 xs3).1.length cs0] 48)).cell? ⟨w.heap.size, 1, none⟩ = some (.int .i64 m0.d) ∧ (w5.alloc (.cells #[.slice As0 (lockAtR m0 xs1 xs2 xs3).1.length cs0] 48)).cell? ⟨w.heap.size, 2, none⟩ = some (.int .i64 m0.s) ∧ (w5.alloc (.cells #[.slice As0 (lockAtR m0 xs1 xs2 xs3).1.length cs0] 48)).cell? ⟨w.heap.size, 3, none⟩ = some (.int .i64 m0.a) ∧ (w5.alloc (.cells #[.slice As0 (lockAtR m0 xs1 xs2 xs3).1.length cs0] 48)).cell? ⟨w.heap.size, 4, none⟩ = some (.int .i64 m0.l) ∧ True := bq6
  have q1 : (w5.alloc (.cells #[.slice As0 (lockAtR m0 xs1 xs2 xs3).1.length cs0] 48)).cell? ⟨w5.heap.size, 0, none⟩ = some (.slice As0 (lockAtR m0 xs1 xs2 xs3).1.length cs0) ∧ True := bq5
  go_wp2_with fail
  clear q0 q1
  have D0_4 := D0_3.trans (b4.mono D0_3.size)
  have D0_5 := D0_4.trans (b5.mono D0_4.size)
  have D0_6 := D0_5.trans (b6.mono D0_5.size)
  refine (toI A1 c1 xs1 _ (Rxs1.below D0_6) z1).mono ?_
  rintro e w7 ⟨A1_7, c1_7, rfl, hc1_7, rA1_7, oA1_7, b7, _⟩
  have bq7 := BoxC.below bq6 b7
  have q0 : w7.cell? ⟨w.heap.size, 0, none⟩ = some (.int .i64 m0.c) ∧ w7.cell? ⟨w.heap.size, 1, none⟩ = some (.int .i64 m0.d) ∧ w7.cell? ⟨w.heap.size, 2, none⟩ = some (.int .i64 m0.s) ∧ w7.cell? ⟨w.heap.size, 3, none⟩ = some (.int .i64 m0.a) ∧ w7.cell? ⟨w.heap.size, 4, none⟩ = some (.int .i64 m0.l) ∧ True := bq7
  have bq8 := BoxC.below bq5 b7
  have q1 : w7.cell? ⟨w5.heap.size, 0, none⟩ = some (.slice As0 (lockAtR m0 xs1 xs2 xs3).1.length cs0) ∧ True := bq8
  go_wp2_with fail
  clear q0 q1
  have D0_7 := D0_6.trans (b7.mono D0_6.size)
  refine (toI A2 c2 xs2 _ (Rxs2.below D0_7) z2).mono ?_
  rintro e w8 ⟨A2_8, c2_8, rfl, hc2_8, rA2_8, oA2_8, b8, _⟩
  have bq9 := BoxC.below bq7 b8
  have q0 : w8.cell? ⟨w.heap.size, 0, none⟩ = some (.int .i64 m0.c) ∧ w8.cell? ⟨w.heap.size, 1, none⟩ = some (.int .i64 m0.d) ∧ w8.cell? ⟨w.heap.size, 2, none⟩ = some (.int .i64 m0.s) ∧ w8.cell? ⟨w.heap.size, 3, none⟩ = some (.int .i64 m0.a) ∧ w8.cell? ⟨w.heap.size, 4, none⟩ = some (.int .i64 m0.l) ∧ True := bq9
  have bq10 := BoxC.below bq8 b8
  have q1 : w8.cell? ⟨w5.heap.size, 0, none⟩ = some (.slice As0 (lockAtR m0 xs1 xs2 xs3).1.length cs0) ∧ True := bq10
  go_wp2_with fail
  clear q0 q1
  have D0_8 := D0_7.trans (b8.mono D0_7.size)
  refine (toI A3 c3 xs3 _ (Rxs3.below D0_8) z3).mono ?_
  rintro e w9 ⟨A3_9, c3_9, rfl, hc3_9, rA3_9, oA3_9, b9, _⟩
  have bq11 := BoxC.below bq9 b9
  have q0 : w9.cell? ⟨w.heap.size, 0, none⟩ = some (.int .i64 m0.c) ∧ w9.cell? ⟨w.heap.size, 1, none⟩ = some (.int .i64 m0.d) ∧ w9.cell? ⟨w.heap.size, 2, none⟩ = some (.int .i64 m0.s) ∧ w9.cell? ⟨w.heap.size, 3, none⟩ = some (.int .i64 m0.a) ∧ w9.cell? ⟨w.heap.size, 4, none⟩ = some (.int .i64 m0.l) ∧ True := bq11
  have bq12 := BoxC.below bq10 b9
  have q1 : w9.cell? ⟨w5.heap.size, 0, none⟩ = some (.slice As0 (lockAtR m0 xs1 xs2 xs3).1.length cs0) ∧ True := bq12
  go_wp2_with fail
  clear q0 q1
  refine (toM m0.c m0.d m0.s m0.a m0.l _).mono ?_
  rintro e w10 ⟨rfl, b10⟩
  have bq13 := BoxC.below bq11 b10
  have q0 : w10.cell? ⟨w.heap.size, 0, none⟩ = some (.int .i64 m0.c) ∧ w10.cell? ⟨w.heap.size, 1, none⟩ = some (.int .i64 m0.d) ∧ w10.cell? ⟨w.heap.size, 2, none⟩ = some (.int .i64 m0.s) ∧ w10.cell? ⟨w.heap.size, 3, none⟩ = some (.int .i64 m0.a) ∧ w10.cell? ⟨w.heap.size, 4, none⟩ = some (.int .i64 m0.l) ∧ True := bq13
  have bq14 := BoxC.below bq12 b10
  have q1 : w10.cell? ⟨w5.heap.size, 0, none⟩ = some (.slice As0 (lockAtR m0 xs1 xs2 xs3).1.length cs0) ∧ True := bq14
  go_wp2_with fail
  clear q0 q1
  have D7_9 := b8.trans (b9.mono b8.size)
  have D7_10 := D7_9.trans (b10.mono D7_9.size)
  have D8_10 := b9.trans (b10.mono b9.size)
  refine (implLockAt_any m0 A1_7 c1_7 xs1 A2_8 c2_8 xs2 A3_9 c3_9 xs3 _ (rA1_7.below D7_10) (rA2_8.below D8_10) (rA3_9.below b10) hc1_7).mono ?_
  rintro e w11 ⟨Ag0, cg0, rfl, hcg0, rg0, og0, b11⟩
  have b12 : Below w11.heap.size w11 (w11.alloc (.cells #[.slice Ag0 (lockAtR m0 xs1 xs2 xs3).1.length cg0] 48)) := (Below.refl _ _).alloc (Nat.le_refl _) _
  have bq15 : BoxC (w11.alloc (.cells #[.slice Ag0 (lockAtR m0 xs1 xs2 xs3).1.length cg0] 48)) (w11.heap.size) 0 [.slice Ag0 (lockAtR m0 xs1 xs2 xs3).1.length cg0] := by simp [BoxC, Go.World.cell?_alloc_at]
  have D10_12 := b11.trans (b12.mono b11.size)
  have bq16 := BoxC.below bq13 D10_12
  have q0 : (w11.alloc (.cells #[.slice Ag0 (lockAtR m0 xs1 xs2 xs3).1.length cg0] 48)).cell? ⟨w.heap.size, 0, none⟩ = some (.int .i64 m0.c) ∧ (w11.alloc (.cells #[.slice Ag0 (lockAtR m0 xs1 xs2 xs3).1.length cg0] 48)).cell? ⟨w.heap.size, 1, none⟩ = some (.int .i64 m0.d) ∧ (w11.alloc (.cells #[.slice Ag0 (lockAtR m0 xs1 xs2 xs3).1.length cg0] 48)).cell? ⟨w.heap.size, 2, none⟩ = some (.int .i64 m0.s) ∧ (w11.alloc (.cells #[.slice Ag0 (lockAtR m0 xs1 xs2 xs3).1.length cg0] 48)).cell? ⟨w.heap.size, 3, none⟩ = some (.int .i64 m0.a) ∧ (w11.alloc (.cells #[.slice Ag0 (lockAtR m0 xs1 xs2 xs3).1.length cg0] 48)).cell? ⟨w.heap.size, 4, none⟩ = some (.int .i64 m0.l) ∧ True := bq16
  have bq17 := BoxC.below bq14 D10_12
  have q1 : (w11.alloc (.cells #[.slice Ag0 (lockAtR m0 xs1 xs2 xs3).1.length cg0] 48)).cell? ⟨w5.heap.size, 0, none⟩ = some (.slice As0 (lockAtR m0 xs1 xs2 xs3).1.length cs0) ∧ True := bq17
  have q2 : (w11.alloc (.cells #[.slice Ag0 (lockAtR m0 xs1 xs2 xs3).1.length cg0] 48)).cell? ⟨w11.heap.size, 0, none⟩ = some (.slice Ag0 (lockAtR m0 xs1 xs2 xs3).1.length cg0) ∧ True := bq15
  go_wp2_with fail
  clear q0 q1 q2
  have D5_7 := b6.trans (b7.mono b6.size)
  have D5_8 := D5_7.trans (b8.mono D5_7.size)
  have D5_9 := D5_8.trans (b9.mono D5_8.size)
  have D5_10 := D5_9.trans (b10.mono D5_9.size)
  have D5_11 := D5_10.trans (b11.mono D5_10.size)
  have D5_12 := D5_11.trans (b12.mono D5_11.size)
  refine (eqL_t Ag0 As0 cg0 cs0 (lockAtR m0 xs1 xs2 xs3).1 _ (rg0.below b12) (rs0.below D5_12)).mono ?_
  rintro e w13 ⟨rfl, b13⟩
  have bq18 := BoxC.below bq16 b13
  have q0 : w13.cell? ⟨w.heap.size, 0, none⟩ = some (.int .i64 m0.c) ∧ w13.cell? ⟨w.heap.size, 1, none⟩ = some (.int .i64 m0.d) ∧ w13.cell? ⟨w.heap.size, 2, none⟩ = some (.int .i64 m0.s) ∧ w13.cell? ⟨w.heap.size, 3, none⟩ = some (.int .i64 m0.a) ∧ w13.cell? ⟨w.heap.size, 4, none⟩ = some (.int .i64 m0.l) ∧ True := bq18
  have bq19 := BoxC.below bq17 b13
  have q1 : w13.cell? ⟨w5.heap.size, 0, none⟩ = some (.slice As0 (lockAtR m0 xs1 xs2 xs3).1.length cs0) ∧ True := bq19
  have bq20 := BoxC.below bq15 b13
  have q2 : w13.cell? ⟨w11.heap.size, 0, none⟩ = some (.slice Ag0 (lockAtR m0 xs1 xs2 xs3).1.length cg0) ∧ True := bq20
  go_wp2_with fail
  clear q0 q1 q2
  have D0_9 := D0_8.trans (b9.mono D0_8.size)
  have D0_10 := D0_9.trans (b10.mono D0_9.size)
  have D0_11 := D0_10.trans (b11.mono D0_10.size)
  have D0_12 := D0_11.trans (b12.mono D0_11.size)
  have D0_13 := D0_12.trans (b13.mono D0_12.size)
  refine (toI A1 c1 xs1 _ (Rxs1.below D0_13) z1).mono ?_
  rintro e w14 ⟨A1_14, c1_14, rfl, hc1_14, rA1_14, oA1_14, b14, _⟩
  have bq21 := BoxC.below bq18 b14
  have q0 : w14.cell? ⟨w.heap.size, 0, none⟩ = some (.int .i64 m0.c) ∧ w14.cell? ⟨w.heap.size, 1, none⟩ = some (.int .i64 m0.d) ∧ w14.cell? ⟨w.heap.size, 2, none⟩ = some (.int .i64 m0.s) ∧ w14.cell? ⟨w.heap.size, 3, none⟩ = some (.int .i64 m0.a) ∧ w14.cell? ⟨w.heap.size, 4, none⟩ = some (.int .i64 m0.l) ∧ True := bq21
  have bq22 := BoxC.below bq19 b14
  have q1 : w14.cell? ⟨w5.heap.size, 0, none⟩ = some (.slice As0 (lockAtR m0 xs1 xs2 xs3).1.length cs0) ∧ True := bq22
  have bq23 := BoxC.below bq20 b14
  have q2 : w14.cell? ⟨w11.heap.size, 0, none⟩ = some (.slice Ag0 (lockAtR m0 xs1 xs2 xs3).1.length cg0) ∧ True := bq23
  go_wp2_with fail
  clear q0 q1 q2
  have D7_11 := D7_10.trans (b11.mono D7_10.size)
  have D7_12 := D7_11.trans (b12.mono D7_11.size)
  have D7_13 := D7_12.trans (b13.mono D7_12.size)
  have D7_14 := D7_13.trans (b14.mono D7_13.size)
  refine (eqI_t A1_7 A1_14 c1_7 c1_14 xs1 _ (rA1_7.below D7_14) rA1_14).mono ?_
  rintro e w15 ⟨rfl, b15⟩
  have bq24 := BoxC.below bq21 b15
  have q0 : w15.cell? ⟨w.heap.size, 0, none⟩ = some (.int .i64 m0.c) ∧ w15.cell? ⟨w.heap.size, 1, none⟩ = some (.int .i64 m0.d) ∧ w15.cell? ⟨w.heap.size, 2, none⟩ = some (.int .i64 m0.s) ∧ w15.cell? ⟨w.heap.size, 3, none⟩ = some (.int .i64 m0.a) ∧ w15.cell? ⟨w.heap.size, 4, none⟩ = some (.int .i64 m0.l) ∧ True := bq24
  have bq25 := BoxC.below bq22 b15
  have q1 : w15.cell? ⟨w5.heap.size, 0, none⟩ = some (.slice As0 (lockAtR m0 xs1 xs2 xs3).1.length cs0) ∧ True := bq25
  have bq26 := BoxC.below bq23 b15
  have q2 : w15.cell? ⟨w11.heap.size, 0, none⟩ = some (.slice Ag0 (lockAtR m0 xs1 xs2 xs3).1.length cg0) ∧ True := bq26
  go_wp2_with fail
  clear q0 q1 q2
  have D0_14 := D0_13.trans (b14.mono D0_13.size)
  have D0_15 := D0_14.trans (b15.mono D0_14.size)
  refine (toI A2 c2 xs2 _ (Rxs2.below D0_15) z2).mono ?_
  rintro e w16 ⟨A2_16, c2_16, rfl, hc2_16, rA2_16, oA2_16, b16, _⟩
  have bq27 := BoxC.below bq24 b16
  have q0 : w16.cell? ⟨w.heap.size, 0, none⟩ = some (.int .i64 m0.c) ∧ w16.cell? ⟨w.heap.size, 1, none⟩ = some (.int .i64 m0.d) ∧ w16.cell? ⟨w.heap.size, 2, none⟩ = some (.int .i64 m0.s) ∧ w16.cell? ⟨w.heap.size, 3, none⟩ = some (.int .i64 m0.a) ∧ w16.cell? ⟨w.heap.size, 4, none⟩ = some (.int .i64 m0.l) ∧ True := bq27
  have bq28 := BoxC.below bq25 b16
  have q1 : w16.cell? ⟨w5.heap.size, 0, none⟩ = some (.slice As0 (lockAtR m0 xs1 xs2 xs3).1.length cs0) ∧ True := bq28
  have bq29 := BoxC.below bq26 b16
  have q2 : w16.cell? ⟨w11.heap.size, 0, none⟩ = some (.slice Ag0 (lockAtR m0 xs1 xs2 xs3).1.length cg0) ∧ True := bq29
  go_wp2_with fail
  clear q0 q1 q2
  have D8_11 := D8_10.trans (b11.mono D8_10.size)
  have D8_12 := D8_11.trans (b12.mono D8_11.size)
  have D8_13 := D8_12.trans (b13.mono D8_12.size)
  have D8_14 := D8_13.trans (b14.mono D8_13.size)
  have D8_15 := D8_14.trans (b15.mono D8_14.size)
  have D8_16 := D8_15.trans (b16.mono D8_15.size)
  refine (eqI_t A2_8 A2_16 c2_8 c2_16 xs2 _ (rA2_8.below D8_16) rA2_16).mono ?_
  rintro e w17 ⟨rfl, b17⟩
  have bq30 := BoxC.below bq27 b17
  have q0 : w17.cell? ⟨w.heap.size, 0, none⟩ = some (.int .i64 m0.c) ∧ w17.cell? ⟨w.heap.size, 1, none⟩ = some (.int .i64 m0.d) ∧ w17.cell? ⟨w.heap.size, 2, none⟩ = some (.int .i64 m0.s) ∧ w17.cell? ⟨w.heap.size, 3, none⟩ = some (.int .i64 m0.a) ∧ w17.cell? ⟨w.heap.size, 4, none⟩ = some (.int .i64 m0.l) ∧ True := bq30
  have bq31 := BoxC.below bq28 b17
  have q1 : w17.cell? ⟨w5.heap.size, 0, none⟩ = some (.slice As0 (lockAtR m0 xs1 xs2 xs3).1.length cs0) ∧ True := bq31
  have bq32 := BoxC.below bq29 b17
  have q2 : w17.cell? ⟨w11.heap.size, 0, none⟩ = some (.slice Ag0 (lockAtR m0 xs1 xs2 xs3).1.length cg0) ∧ True := bq32
  go_wp2_with fail
  clear q0 q1 q2
  have D0_16 := D0_15.trans (b16.mono D0_15.size)
  have D0_17 := D0_16.trans (b17.mono D0_16.size)
  refine (toI A3 c3 xs3 _ (Rxs3.below D0_17) z3).mono ?_
  rintro e w18 ⟨A3_18, c3_18, rfl, hc3_18, rA3_18, oA3_18, b18, _⟩
  have bq33 := BoxC.below bq30 b18
  have q0 : w18.cell? ⟨w.heap.size, 0, none⟩ = some (.int .i64 m0.c) ∧ w18.cell? ⟨w.heap.size, 1, none⟩ = some (.int .i64 m0.d) ∧ w18.cell? ⟨w.heap.size, 2, none⟩ = some (.int .i64 m0.s) ∧ w18.cell? ⟨w.heap.size, 3, none⟩ = some (.int .i64 m0.a) ∧ w18.cell? ⟨w.heap.size, 4, none⟩ = some (.int .i64 m0.l) ∧ True := bq33
  have bq34 := BoxC.below bq31 b18
  have q1 : w18.cell? ⟨w5.heap.size, 0, none⟩ = some (.slice As0 (lockAtR m0 xs1 xs2 xs3).1.length cs0) ∧ True := bq34
  have bq35 := BoxC.below bq32 b18
  have q2 : w18.cell? ⟨w11.heap.size, 0, none⟩ = some (.slice Ag0 (lockAtR m0 xs1 xs2 xs3).1.length cg0) ∧ True := bq35
  go_wp2_with fail
  clear q0 q1 q2
  have D9_11 := b10.trans (b11.mono b10.size)
  have D9_12 := D9_11.trans (b12.mono D9_11.size)
  have D9_13 := D9_12.trans (b13.mono D9_12.size)
  have D9_14 := D9_13.trans (b14.mono D9_13.size)
  have D9_15 := D9_14.trans (b15.mono D9_14.size)
  have D9_16 := D9_15.trans (b16.mono D9_15.size)
  have D9_17 := D9_16.trans (b17.mono D9_16.size)
  have D9_18 := D9_17.trans (b18.mono D9_17.size)
  refine (eqI_t A3_9 A3_18 c3_9 c3_18 xs3 _ (rA3_9.below D9_18) rA3_18).mono ?_
  rintro e w19 ⟨rfl, b19⟩
  have bq36 := BoxC.below bq33 b19
  have q0 : w19.cell? ⟨w.heap.size, 0, none⟩ = some (.int .i64 m0.c) ∧ w19.cell? ⟨w.heap.size, 1, none⟩ = some (.int .i64 m0.d) ∧ w19.cell? ⟨w.heap.size, 2, none⟩ = some (.int .i64 m0.s) ∧ w19.cell? ⟨w.heap.size, 3, none⟩ = some (.int .i64 m0.a) ∧ w19.cell? ⟨w.heap.size, 4, none⟩ = some (.int .i64 m0.l) ∧ True := bq36
  have bq37 := BoxC.below bq34 b19
  have q1 : w19.cell? ⟨w5.heap.size, 0, none⟩ = some (.slice As0 (lockAtR m0 xs1 xs2 xs3).1.length cs0) ∧ True := bq37
  have bq38 := BoxC.below bq35 b19
  have q2 : w19.cell? ⟨w11.heap.size, 0, none⟩ = some (.slice Ag0 (lockAtR m0 xs1 xs2 xs3).1.length cg0) ∧ True := bq38
  go_wp2_with fail
  clear q0 q1 q2
  have D7_15 := D7_14.trans (b15.mono D7_14.size)
  have D7_16 := D7_15.trans (b16.mono D7_15.size)
  have D7_17 := D7_16.trans (b17.mono D7_16.size)
  have D7_18 := D7_17.trans (b18.mono D7_17.size)
  have D7_19 := D7_18.trans (b19.mono D7_18.size)
  have Y39 := oA1_7.below (D7_19.mono (Nat.le_refl _))
  have D8_17 := D8_16.trans (b17.mono D8_16.size)
  have D8_18 := D8_17.trans (b18.mono D8_17.size)
  have D8_19 := D8_18.trans (b19.mono D8_18.size)
  have Y40 := oA2_8.below (D8_19.mono (Nat.le_refl _))
  have D9_19 := D9_18.trans (b19.mono D9_18.size)
  have Y41 := oA3_9.below (D9_19.mono (Nat.le_refl _))
  have D11_13 := b12.trans (b13.mono b12.size)
  have D11_14 := D11_13.trans (b14.mono D11_13.size)
  have D11_15 := D11_14.trans (b15.mono D11_14.size)
  have D11_16 := D11_15.trans (b16.mono D11_15.size)
  have D11_17 := D11_16.trans (b17.mono D11_16.size)
  have D11_18 := D11_17.trans (b18.mono D11_17.size)
  have D11_19 := D11_18.trans (b19.mono D11_18.size)
  have Y42 := og0.below (D11_19.mono (Nat.le_refl _))
  refine (markI_t (.slice A1_7 xs1.length c1_7) xs1 _ _ _ _ Y39 (by omega) (by omega) (by omega)).mono ?_
  rintro e w20 ⟨rfl, Y43, on20⟩
  have S0_2 := Nat.le_trans (b1.size) b2.size
  have S0_3 := Nat.le_trans (S0_2) b3.size
  have S0_4 := Nat.le_trans (S0_3) b4.size
  have S0_5 := Nat.le_trans (S0_4) b5.size
  have S0_6 := Nat.le_trans (S0_5) b6.size
  have bq44 := BoxC.only bq36 on20 (Or.inl (Nat.lt_of_lt_of_le (by simp only [World.size_alloc]; omega) (S0_6)))
  have q0 : w20.cell? ⟨w.heap.size, 0, none⟩ = some (.int .i64 m0.c) ∧ w20.cell? ⟨w.heap.size, 1, none⟩ = some (.int .i64 m0.d) ∧ w20.cell? ⟨w.heap.size, 2, none⟩ = some (.int .i64 m0.s) ∧ w20.cell? ⟨w.heap.size, 3, none⟩ = some (.int .i64 m0.a) ∧ w20.cell? ⟨w.heap.size, 4, none⟩ = some (.int .i64 m0.l) ∧ True := bq44
  have bq45 := BoxC.only bq37 on20 (Or.inl (Nat.lt_of_lt_of_le (by first | exact Nat.lt_succ_self _ | simp) (Nat.le_refl _)))
  have q1 : w20.cell? ⟨w5.heap.size, 0, none⟩ = some (.slice As0 (lockAtR m0 xs1 xs2 xs3).1.length cs0) ∧ True := bq45
  have S7_9 := Nat.le_trans (b8.size) b9.size
  have S7_10 := Nat.le_trans (S7_9) b10.size
  have S7_11 := Nat.le_trans (S7_10) b11.size
  have bq46 := BoxC.only bq38 on20 (Or.inr (S7_11))
  have q2 : w20.cell? ⟨w11.heap.size, 0, none⟩ = some (.slice Ag0 (lockAtR m0 xs1 xs2 xs3).1.length cg0) ∧ True := bq46
  go_wp2_with fail
  clear q0 q1 q2
  have Y47 := Y40.only on20 (Or.inr (Nat.le_refl _))
  have Y48 := Y41.only on20 (Or.inr (b8.size))
  have Y49 := Y42.only on20 (Or.inr (S7_10))
  refine (markI_t (.slice A2_8 xs2.length c2_8) xs2 _ _ _ _ Y47 (by omega) (by omega) (by omega)).mono ?_
  rintro e w21 ⟨rfl, Y50, on21⟩
  have S0_7 := Nat.le_trans (S0_6) b7.size
  have bq51 := BoxC.only bq44 on21 (Or.inl (Nat.lt_of_lt_of_le (by simp only [World.size_alloc]; omega) (S0_7)))
  have q0 : w21.cell? ⟨w.heap.size, 0, none⟩ = some (.int .i64 m0.c) ∧ w21.cell? ⟨w.heap.size, 1, none⟩ = some (.int .i64 m0.d) ∧ w21.cell? ⟨w.heap.size, 2, none⟩ = some (.int .i64 m0.s) ∧ w21.cell? ⟨w.heap.size, 3, none⟩ = some (.int .i64 m0.a) ∧ w21.cell? ⟨w.heap.size, 4, none⟩ = some (.int .i64 m0.l) ∧ True := bq51
  have bq52 := BoxC.only bq45 on21 (Or.inl (Nat.lt_of_lt_of_le (by first | exact Nat.lt_succ_self _ | simp) (b7.size)))
  have q1 : w21.cell? ⟨w5.heap.size, 0, none⟩ = some (.slice As0 (lockAtR m0 xs1 xs2 xs3).1.length cs0) ∧ True := bq52
  have S8_10 := Nat.le_trans (b9.size) b10.size
  have S8_11 := Nat.le_trans (S8_10) b11.size
  have bq53 := BoxC.only bq46 on21 (Or.inr (S8_11))
  have q2 : w21.cell? ⟨w11.heap.size, 0, none⟩ = some (.slice Ag0 (lockAtR m0 xs1 xs2 xs3).1.length cg0) ∧ True := bq53
  go_wp2_with fail
  clear q0 q1 q2
  have Y54 := Y48.only on21 (Or.inr (Nat.le_refl _))
  have Y55 := Y43.only on21 (Or.inl (Nat.le_refl _))
  have Y56 := Y49.only on21 (Or.inr (S8_10))
  refine (markI_t (.slice A3_9 xs3.length c3_9) xs3 _ _ _ _ Y54 (by omega) (by omega) (by omega)).mono ?_
  rintro e w22 ⟨rfl, Y57, on22⟩
  have S0_8 := Nat.le_trans (S0_7) b8.size
  have bq58 := BoxC.only bq51 on22 (Or.inl (Nat.lt_of_lt_of_le (by simp only [World.size_alloc]; omega) (S0_8)))
  have q0 : w22.cell? ⟨w.heap.size, 0, none⟩ = some (.int .i64 m0.c) ∧ w22.cell? ⟨w.heap.size, 1, none⟩ = some (.int .i64 m0.d) ∧ w22.cell? ⟨w.heap.size, 2, none⟩ = some (.int .i64 m0.s) ∧ w22.cell? ⟨w.heap.size, 3, none⟩ = some (.int .i64 m0.a) ∧ w22.cell? ⟨w.heap.size, 4, none⟩ = some (.int .i64 m0.l) ∧ True := bq58
  have S6_8 := Nat.le_trans (b7.size) b8.size
  have bq59 := BoxC.only bq52 on22 (Or.inl (Nat.lt_of_lt_of_le (by first | exact Nat.lt_succ_self _ | simp) (S6_8)))
  have q1 : w22.cell? ⟨w5.heap.size, 0, none⟩ = some (.slice As0 (lockAtR m0 xs1 xs2 xs3).1.length cs0) ∧ True := bq59
  have S9_11 := Nat.le_trans (b10.size) b11.size
  have bq60 := BoxC.only bq53 on22 (Or.inr (S9_11))
  have q2 : w22.cell? ⟨w11.heap.size, 0, none⟩ = some (.slice Ag0 (lockAtR m0 xs1 xs2 xs3).1.length cg0) ∧ True := bq60
  go_wp2_with fail
  clear q0 q1 q2
  have Y61 := Y56.only on22 (Or.inr (b10.size))
  have S8_12 := Nat.le_trans (S8_11) b12.size
  have S8_13 := Nat.le_trans (S8_12) b13.size
  have S8_14 := Nat.le_trans (S8_13) b14.size
  have S8_15 := Nat.le_trans (S8_14) b15.size
  have S8_16 := Nat.le_trans (S8_15) b16.size
  have S8_17 := Nat.le_trans (S8_16) b17.size
  have S8_18 := Nat.le_trans (S8_17) b18.size
  have S8_19 := Nat.le_trans (S8_18) b19.size
  have S8_20 := Nat.le_trans (S8_19) on20.size
  have S8_21 := Nat.le_trans (S8_20) on21.size
  have S5_7 := Nat.le_trans (b6.size) b7.size
  have S5_8 := Nat.le_trans (S5_7) b8.size
  have S7_12 := Nat.le_trans (S7_11) b12.size
  have S7_13 := Nat.le_trans (S7_12) b13.size
  have S7_14 := Nat.le_trans (S7_13) b14.size
  have S7_15 := Nat.le_trans (S7_14) b15.size
  have S7_16 := Nat.le_trans (S7_15) b16.size
  have S7_17 := Nat.le_trans (S7_16) b17.size
  have S7_18 := Nat.le_trans (S7_17) b18.size
  have S7_19 := Nat.le_trans (S7_18) b19.size
  have S7_20 := Nat.le_trans (S7_19) on20.size
  have S6_9 := Nat.le_trans (S6_8) b9.size
  have S6_10 := Nat.le_trans (S6_9) b10.size
  have S6_11 := Nat.le_trans (S6_10) b11.size
  have S6_12 := Nat.le_trans (S6_11) b12.size
  have S6_13 := Nat.le_trans (S6_12) b13.size
  have S6_14 := Nat.le_trans (S6_13) b14.size
  have S6_15 := Nat.le_trans (S6_14) b15.size
  have S6_16 := Nat.le_trans (S6_15) b16.size
  have S6_17 := Nat.le_trans (S6_16) b17.size
  have S6_18 := Nat.le_trans (S6_17) b18.size
  have S6_19 := Nat.le_trans (S6_18) b19.size
  have D5_13 := D5_12.trans (b13.mono D5_12.size)
  have D5_14 := D5_13.trans (b14.mono D5_13.size)
  have D5_15 := D5_14.trans (b15.mono D5_14.size)
  have D5_16 := D5_15.trans (b16.mono D5_15.size)
  have D5_17 := D5_16.trans (b17.mono D5_16.size)
  have D5_18 := D5_17.trans (b18.mono D5_17.size)
  have D5_19 := D5_18.trans (b19.mono D5_18.size)
  have D5_20 := D5_19.trans ((on20.below (S6_19)).mono (b6.size))
  have D5_21 := D5_20.trans ((on21.below (S7_20)).mono (S5_7))
  have D5_22 := D5_21.trans ((on22.below (S8_21)).mono (S5_8))
  refine (eqL_t Ag0 As0 cg0 cs0 (lockAtR m0 xs1 xs2 xs3).1 _ (OII.rii Y61) (rs0.below D5_22)).mono ?_
  rintro e w23 ⟨rfl, b23⟩
  have bq62 := BoxC.below bq58 b23
  have q0 : w23.cell? ⟨w.heap.size, 0, none⟩ = some (.int .i64 m0.c) ∧ w23.cell? ⟨w.heap.size, 1, none⟩ = some (.int .i64 m0.d) ∧ w23.cell? ⟨w.heap.size, 2, none⟩ = some (.int .i64 m0.s) ∧ w23.cell? ⟨w.heap.size, 3, none⟩ = some (.int .i64 m0.a) ∧ w23.cell? ⟨w.heap.size, 4, none⟩ = some (.int .i64 m0.l) ∧ True := bq62
  have bq63 := BoxC.below bq59 b23
  have q1 : w23.cell? ⟨w5.heap.size, 0, none⟩ = some (.slice As0 (lockAtR m0 xs1 xs2 xs3).1.length cs0) ∧ True := bq63
  have bq64 := BoxC.below bq60 b23
  have q2 : w23.cell? ⟨w11.heap.size, 0, none⟩ = some (.slice Ag0 (lockAtR m0 xs1 xs2 xs3).1.length cg0) ∧ True := bq64
  go_wp2_with fail
  clear q0 q1 q2
  have S11_13 := Nat.le_trans (b12.size) b13.size
  have S11_14 := Nat.le_trans (S11_13) b14.size
  have S11_15 := Nat.le_trans (S11_14) b15.size
  have S11_16 := Nat.le_trans (S11_15) b16.size
  have S11_17 := Nat.le_trans (S11_16) b17.size
  have S11_18 := Nat.le_trans (S11_17) b18.size
  have S11_19 := Nat.le_trans (S11_18) b19.size
  have S11_20 := Nat.le_trans (S11_19) on20.size
  have S11_21 := Nat.le_trans (S11_20) on21.size
  have S11_22 := Nat.le_trans (S11_21) on22.size
  have Y65 := Y61.below (b23.mono (S11_22))
  have S11_23 := Nat.le_trans (S11_22) b23.size
  refine (markL_t (.slice Ag0 (lockAtR m0 xs1 xs2 xs3).1.length cg0) (lockAtR m0 xs1 xs2 xs3).1 _ _ _ _ Y65 (by omega) (by omega) (by omega) (by omega) (S11_23)).mono ?_
  rintro e w24 ⟨rfl, Y66, on24⟩
  have S0_9 := Nat.le_trans (S0_8) b9.size
  have S0_10 := Nat.le_trans (S0_9) b10.size
  have bq67 := BoxC.only bq62 on24 (Or.inl (Nat.lt_of_lt_of_le (by simp only [World.size_alloc]; omega) (S0_10)))
  have q0 : w24.cell? ⟨w.heap.size, 0, none⟩ = some (.int .i64 m0.c) ∧ w24.cell? ⟨w.heap.size, 1, none⟩ = some (.int .i64 m0.d) ∧ w24.cell? ⟨w.heap.size, 2, none⟩ = some (.int .i64 m0.s) ∧ w24.cell? ⟨w.heap.size, 3, none⟩ = some (.int .i64 m0.a) ∧ w24.cell? ⟨w.heap.size, 4, none⟩ = some (.int .i64 m0.l) ∧ True := bq67
  have bq68 := BoxC.only bq63 on24 (Or.inl (Nat.lt_of_lt_of_le (by first | exact Nat.lt_succ_self _ | simp) (S6_10)))
  have q1 : w24.cell? ⟨w5.heap.size, 0, none⟩ = some (.slice As0 (lockAtR m0 xs1 xs2 xs3).1.length cs0) ∧ True := bq68
  have bq69 := BoxC.only bq64 on24 (Or.inr (Nat.le_refl _))
  have q2 : w24.cell? ⟨w11.heap.size, 0, none⟩ = some (.slice Ag0 (lockAtR m0 xs1 xs2 xs3).1.length cg0) ∧ True := bq69
  go_wp2_with fail
  clear q0 q1 q2
  refine (heldL_t Ag0 cg0 (lockAtR m0 xs1 xs2 xs3).1 _ _ (OII.rii Y66) (by omega) (by omega) (by omega) (by omega)).mono ?_
  rintro e w25 ⟨rfl, b25⟩
  have bq70 := BoxC.below bq67 b25
  have q0 : w25.cell? ⟨w.heap.size, 0, none⟩ = some (.int .i64 m0.c) ∧ w25.cell? ⟨w.heap.size, 1, none⟩ = some (.int .i64 m0.d) ∧ w25.cell? ⟨w.heap.size, 2, none⟩ = some (.int .i64 m0.s) ∧ w25.cell? ⟨w.heap.size, 3, none⟩ = some (.int .i64 m0.a) ∧ w25.cell? ⟨w.heap.size, 4, none⟩ = some (.int .i64 m0.l) ∧ True := bq70
  have bq71 := BoxC.below bq68 b25
  have q1 : w25.cell? ⟨w5.heap.size, 0, none⟩ = some (.slice As0 (lockAtR m0 xs1 xs2 xs3).1.length cs0) ∧ True := bq71
  have bq72 := BoxC.below bq69 b25
  have q2 : w25.cell? ⟨w11.heap.size, 0, none⟩ = some (.slice Ag0 (lockAtR m0 xs1 xs2 xs3).1.length cg0) ∧ True := bq72
  go_wp2_with fail
  clear q0 q1 q2
  refine (toM m0.c m0.d m0.s m0.a m0.l _).mono ?_
  rintro e w26 ⟨rfl, b26⟩
  have bq73 := BoxC.below bq70 b26
  have q0 : w26.cell? ⟨w.heap.size, 0, none⟩ = some (.int .i64 m0.c) ∧ w26.cell? ⟨w.heap.size, 1, none⟩ = some (.int .i64 m0.d) ∧ w26.cell? ⟨w.heap.size, 2, none⟩ = some (.int .i64 m0.s) ∧ w26.cell? ⟨w.heap.size, 3, none⟩ = some (.int .i64 m0.a) ∧ w26.cell? ⟨w.heap.size, 4, none⟩ = some (.int .i64 m0.l) ∧ True := bq73
  have bq74 := BoxC.below bq71 b26
  have q1 : w26.cell? ⟨w5.heap.size, 0, none⟩ = some (.slice As0 (lockAtR m0 xs1 xs2 xs3).1.length cs0) ∧ True := bq74
  have bq75 := BoxC.below bq72 b26
  have q2 : w26.cell? ⟨w11.heap.size, 0, none⟩ = some (.slice Ag0 (lockAtR m0 xs1 xs2 xs3).1.length cg0) ∧ True := bq75
  go_wp2_with fail
  clear q0 q1 q2
  have S10_12 := Nat.le_trans (b11.size) b12.size
  have S10_13 := Nat.le_trans (S10_12) b13.size
  have S10_14 := Nat.le_trans (S10_13) b14.size
  have S10_15 := Nat.le_trans (S10_14) b15.size
  have S10_16 := Nat.le_trans (S10_15) b16.size
  have S10_17 := Nat.le_trans (S10_16) b17.size
  have S10_18 := Nat.le_trans (S10_17) b18.size
  have S10_19 := Nat.le_trans (S10_18) b19.size
  have S10_20 := Nat.le_trans (S10_19) on20.size
  have S10_21 := Nat.le_trans (S10_20) on21.size
  have S10_22 := Nat.le_trans (S10_21) on22.size
  have S10_23 := Nat.le_trans (S10_22) b23.size
  have D0_18 := D0_17.trans (b18.mono D0_17.size)
  have D0_19 := D0_18.trans (b19.mono D0_18.size)
  have D0_20 := D0_19.trans ((on20.below (S6_19)).mono (S0_6))
  have D0_21 := D0_20.trans ((on21.below (S7_20)).mono (S0_7))
  have D0_22 := D0_21.trans ((on22.below (S8_21)).mono (S0_8))
  have D0_23 := D0_22.trans (b23.mono D0_22.size)
  have D0_24 := D0_23.trans ((on24.below (S10_23)).mono (S0_10))
  have D0_25 := D0_24.trans (b25.mono D0_24.size)
  have D0_26 := D0_25.trans (b26.mono D0_25.size)
  refine (toI A1 c1 xs1 _ (Rxs1.below D0_26) z1).mono ?_
  rintro e w27 ⟨A1_27, c1_27, rfl, hc1_27, rA1_27, oA1_27, b27, _⟩
  have bq76 := BoxC.below bq73 b27
  have q0 : w27.cell? ⟨w.heap.size, 0, none⟩ = some (.int .i64 m0.c) ∧ w27.cell? ⟨w.heap.size, 1, none⟩ = some (.int .i64 m0.d) ∧ w27.cell? ⟨w.heap.size, 2, none⟩ = some (.int .i64 m0.s) ∧ w27.cell? ⟨w.heap.size, 3, none⟩ = some (.int .i64 m0.a) ∧ w27.cell? ⟨w.heap.size, 4, none⟩ = some (.int .i64 m0.l) ∧ True := bq76
  have bq77 := BoxC.below bq74 b27
  have q1 : w27.cell? ⟨w5.heap.size, 0, none⟩ = some (.slice As0 (lockAtR m0 xs1 xs2 xs3).1.length cs0) ∧ True := bq77
  have bq78 := BoxC.below bq75 b27
  have q2 : w27.cell? ⟨w11.heap.size, 0, none⟩ = some (.slice Ag0 (lockAtR m0 xs1 xs2 xs3).1.length cg0) ∧ True := bq78
  go_wp2_with fail
  clear q0 q1 q2
  have D0_27 := D0_26.trans (b27.mono D0_26.size)
  refine (toI A2 c2 xs2 _ (Rxs2.below D0_27) z2).mono ?_
  rintro e w28 ⟨A2_28, c2_28, rfl, hc2_28, rA2_28, oA2_28, b28, _⟩
  have bq79 := BoxC.below bq76 b28
  have q0 : w28.cell? ⟨w.heap.size, 0, none⟩ = some (.int .i64 m0.c) ∧ w28.cell? ⟨w.heap.size, 1, none⟩ = some (.int .i64 m0.d) ∧ w28.cell? ⟨w.heap.size, 2, none⟩ = some (.int .i64 m0.s) ∧ w28.cell? ⟨w.heap.size, 3, none⟩ = some (.int .i64 m0.a) ∧ w28.cell? ⟨w.heap.size, 4, none⟩ = some (.int .i64 m0.l) ∧ True := bq79
  have bq80 := BoxC.below bq77 b28
  have q1 : w28.cell? ⟨w5.heap.size, 0, none⟩ = some (.slice As0 (lockAtR m0 xs1 xs2 xs3).1.length cs0) ∧ True := bq80
  have bq81 := BoxC.below bq78 b28
  have q2 : w28.cell? ⟨w11.heap.size, 0, none⟩ = some (.slice Ag0 (lockAtR m0 xs1 xs2 xs3).1.length cg0) ∧ True := bq81
  go_wp2_with fail
  clear q0 q1 q2
  have D0_28 := D0_27.trans (b28.mono D0_27.size)
  refine (toI A3 c3 xs3 _ (Rxs3.below D0_28) z3).mono ?_
  rintro e w29 ⟨A3_29, c3_29, rfl, hc3_29, rA3_29, oA3_29, b29, _⟩
  have bq82 := BoxC.below bq79 b29
  have q0 : w29.cell? ⟨w.heap.size, 0, none⟩ = some (.int .i64 m0.c) ∧ w29.cell? ⟨w.heap.size, 1, none⟩ = some (.int .i64 m0.d) ∧ w29.cell? ⟨w.heap.size, 2, none⟩ = some (.int .i64 m0.s) ∧ w29.cell? ⟨w.heap.size, 3, none⟩ = some (.int .i64 m0.a) ∧ w29.cell? ⟨w.heap.size, 4, none⟩ = some (.int .i64 m0.l) ∧ True := bq82
  have bq83 := BoxC.below bq80 b29
  have q1 : w29.cell? ⟨w5.heap.size, 0, none⟩ = some (.slice As0 (lockAtR m0 xs1 xs2 xs3).1.length cs0) ∧ True := bq83
  have bq84 := BoxC.below bq81 b29
  have q2 : w29.cell? ⟨w11.heap.size, 0, none⟩ = some (.slice Ag0 (lockAtR m0 xs1 xs2 xs3).1.length cg0) ∧ True := bq84
  go_wp2_with fail
  clear q0 q1 q2
  have D27_29 := b28.trans (b29.mono b28.size)
  refine (implLockAt_any m0 A1_27 c1_27 xs1 A2_28 c2_28 xs2 A3_29 c3_29 xs3 _ (rA1_27.below D27_29) (rA2_28.below b29) rA3_29 hc1_27).mono ?_
  rintro e w30 ⟨Ah0, ch0, rfl, hch0, rh0, oh0, b30⟩
  have b31 : Below w30.heap.size w30 (w30.alloc (.cells #[.slice Ah0 (lockAtR m0 xs1 xs2 xs3).1.length ch0] 48)) := (Below.refl _ _).alloc (Nat.le_refl _) _
  have bq85 : BoxC (w30.alloc (.cells #[.slice Ah0 (lockAtR m0 xs1 xs2 xs3).1.length ch0] 48)) (w30.heap.size) 0 [.slice Ah0 (lockAtR m0 xs1 xs2 xs3).1.length ch0] := by simp [BoxC, Go.World.cell?_alloc_at]
  have D29_31 := b30.trans (b31.mono b30.size)
  have bq86 := BoxC.below bq82 D29_31
  have q0 : (w30.alloc (.cells #[.slice Ah0 (lockAtR m0 xs1 xs2 xs3).1.length ch0] 48)).cell? ⟨w.heap.size, 0, none⟩ = some (.int .i64 m0.c) ∧ (w30.alloc (.cells #[.slice Ah0 (lockAtR m0 xs1 xs2 xs3).1.length ch0] 48)).cell? ⟨w.heap.size, 1, none⟩ = some (.int .i64 m0.d) ∧ (w30.alloc (.cells #[.slice Ah0 (lockAtR m0 xs1 xs2 xs3).1.length ch0] 48)).cell? ⟨w.heap.size, 2, none⟩ = some (.int .i64 m0.s) ∧ (w30.alloc (.cells #[.slice Ah0 (lockAtR m0 xs1 xs2 xs3).1.length ch0] 48)).cell? ⟨w.heap.size, 3, none⟩ = some (.int .i64 m0.a) ∧ (w30.alloc (.cells #[.slice Ah0 (lockAtR m0 xs1 xs2 xs3).1.length ch0] 48)).cell? ⟨w.heap.size, 4, none⟩ = some (.int .i64 m0.l) ∧ True := bq86
  have bq87 := BoxC.below bq83 D29_31
  have q1 : (w30.alloc (.cells #[.slice Ah0 (lockAtR m0 xs1 xs2 xs3).1.length ch0] 48)).cell? ⟨w5.heap.size, 0, none⟩ = some (.slice As0 (lockAtR m0 xs1 xs2 xs3).1.length cs0) ∧ True := bq87
  have bq88 := BoxC.below bq84 D29_31
  have q2 : (w30.alloc (.cells #[.slice Ah0 (lockAtR m0 xs1 xs2 xs3).1.length ch0] 48)).cell? ⟨w11.heap.size, 0, none⟩ = some (.slice Ag0 (lockAtR m0 xs1 xs2 xs3).1.length cg0) ∧ True := bq88
  have q3 : (w30.alloc (.cells #[.slice Ah0 (lockAtR m0 xs1 xs2 xs3).1.length ch0] 48)).cell? ⟨w30.heap.size, 0, none⟩ = some (.slice Ah0 (lockAtR m0 xs1 xs2 xs3).1.length ch0) ∧ True := bq85
  go_wp2_with fail
  clear q0 q1 q2 q3
  have S5_9 := Nat.le_trans (S5_8) b9.size
  have S5_10 := Nat.le_trans (S5_9) b10.size
  have D5_23 := D5_22.trans (b23.mono D5_22.size)
  have D5_24 := D5_23.trans ((on24.below (S10_23)).mono (S5_10))
  have D5_25 := D5_24.trans (b25.mono D5_24.size)
  have D5_26 := D5_25.trans (b26.mono D5_25.size)
  have D5_27 := D5_26.trans (b27.mono D5_26.size)
  have D5_28 := D5_27.trans (b28.mono D5_27.size)
  have D5_29 := D5_28.trans (b29.mono D5_28.size)
  have D5_30 := D5_29.trans (b30.mono D5_29.size)
  have D5_31 := D5_30.trans (b31.mono D5_30.size)
  refine (eqL_t Ah0 As0 ch0 cs0 (lockAtR m0 xs1 xs2 xs3).1 _ (rh0.below b31) (rs0.below D5_31)).mono ?_
  rintro e w32 ⟨rfl, b32⟩
  have bq89 := BoxC.below bq86 b32
  have q0 : w32.cell? ⟨w.heap.size, 0, none⟩ = some (.int .i64 m0.c) ∧ w32.cell? ⟨w.heap.size, 1, none⟩ = some (.int .i64 m0.d) ∧ w32.cell? ⟨w.heap.size, 2, none⟩ = some (.int .i64 m0.s) ∧ w32.cell? ⟨w.heap.size, 3, none⟩ = some (.int .i64 m0.a) ∧ w32.cell? ⟨w.heap.size, 4, none⟩ = some (.int .i64 m0.l) ∧ True := bq89
  have bq90 := BoxC.below bq87 b32
  have q1 : w32.cell? ⟨w5.heap.size, 0, none⟩ = some (.slice As0 (lockAtR m0 xs1 xs2 xs3).1.length cs0) ∧ True := bq90
  have bq91 := BoxC.below bq88 b32
  have q2 : w32.cell? ⟨w11.heap.size, 0, none⟩ = some (.slice Ag0 (lockAtR m0 xs1 xs2 xs3).1.length cg0) ∧ True := bq91
  have bq92 := BoxC.below bq85 b32
  have q3 : w32.cell? ⟨w30.heap.size, 0, none⟩ = some (.slice Ah0 (lockAtR m0 xs1 xs2 xs3).1.length ch0) ∧ True := bq92
  go_wp2_with fail
  clear q0 q1 q2 q3
  have D24_26 := b25.trans (b26.mono b25.size)
  have D24_27 := D24_26.trans (b27.mono D24_26.size)
  have D24_28 := D24_27.trans (b28.mono D24_27.size)
  have D24_29 := D24_28.trans (b29.mono D24_28.size)
  have D24_30 := D24_29.trans (b30.mono D24_29.size)
  have D24_31 := D24_30.trans (b31.mono D24_30.size)
  have D24_32 := D24_31.trans (b32.mono D24_31.size)
  have S11_24 := Nat.le_trans (S11_23) on24.size
  have Y93 := Y66.below (D24_32.mono (S11_24))
  refine (heldL_t Ag0 cg0 (lockAtR m0 xs1 xs2 xs3).1 _ _ (OII.rii Y93) (by omega) (by omega) (by omega) (by omega)).mono ?_
  rintro e w33 ⟨rfl, b33⟩
  have D0_29 := D0_28.trans (b29.mono D0_28.size)
  have D0_30 := D0_29.trans (b30.mono D0_29.size)
  have D0_31 := D0_30.trans (b31.mono D0_30.size)
  have D0_32 := D0_31.trans (b32.mono D0_31.size)
  have D0_33 := D0_32.trans (b33.mono D0_32.size)
  have DD := D0_33
  have bq94 := BoxC.below bq89 b33
  have q0 : w33.cell? ⟨w.heap.size, 0, none⟩ = some (.int .i64 m0.c) ∧ w33.cell? ⟨w.heap.size, 1, none⟩ = some (.int .i64 m0.d) ∧ w33.cell? ⟨w.heap.size, 2, none⟩ = some (.int .i64 m0.s) ∧ w33.cell? ⟨w.heap.size, 3, none⟩ = some (.int .i64 m0.a) ∧ w33.cell? ⟨w.heap.size, 4, none⟩ = some (.int .i64 m0.l) ∧ True := bq94
  have bq95 := BoxC.below bq90 b33
  have q1 : w33.cell? ⟨w5.heap.size, 0, none⟩ = some (.slice As0 (lockAtR m0 xs1 xs2 xs3).1.length cs0) ∧ True := bq95
  have bq96 := BoxC.below bq91 b33
  have q2 : w33.cell? ⟨w11.heap.size, 0, none⟩ = some (.slice Ag0 (lockAtR m0 xs1 xs2 xs3).1.length cg0) ∧ True := bq96
  have bq97 := BoxC.below bq92 b33
  have q3 : w33.cell? ⟨w30.heap.size, 0, none⟩ = some (.slice Ah0 (lockAtR m0 xs1 xs2 xs3).1.length ch0) ∧ True := bq97
  go_wp2_with fail
  go_ret
  exact ⟨rfl, HB0.trans (DD.mono HB0.size)⟩
end Go.Proofs.Ytldlpkfjgackiaa.fnExactLockAt
