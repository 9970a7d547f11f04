/- The walk of the law FnExactBestChambers. -/
import Derived.Test.YtcdajogdpgjgjaaFBest
import Derived.Test.YtcdajogdpgjgjaaHelp
namespace Go.Proofs.Ytcdajogdpgjgjaa.fnExactBestChambers
set_option linter.unusedVariables false
open Go.RowKit
theorem lens (m : Mk) (ms : List Int) (n s : Int) : (bestChR m ms n s).1.length ≤ 1048576 := by
  unfold bestChR
  split
  · split
    · rename_i h1 h2
      rw [Bool.and_eq_true] at h1 h2
      have hm := mk_bounds h1.1
      have hn : 1 ≤ n ∧ n ≤ m.c := by simpa [inB] using h2.1
      have hb := bestC_fold (cntCh_nn m ms s) (choices_sorted n.toNat m.c.toNat) [] (choices n.toNat m.c.toNat).length (Nat.le_refl _)
      rw [List.take_length] at hb
      rcases hb with ⟨hb, _⟩ | ⟨hb, _⟩
      · exact absurd hb (choices_ne (by omega))
      · have := ((mem_choices _ _ _).1 hb).1
        show (bestSt m ms n s).1.length ≤ _
        unfold bestSt; omega
    · simp
  · simp
set_option maxRecDepth 100000 in
set_option maxHeartbeats 8000000 in
theorem walk (m0 : Mk) (A1 : Option Addr) (c1 : Nat) (xs1 : List Int) (n2 : Int) (n3 : Int) (w : World) (hc1 : xs1.length ≤ c1) (h1 : RI w A1 xs1) (g2 : (Lit.int .i64 n2).wf = true) (g3 : (Lit.int .i64 n3).wf = true) :
    Calls Try.prog 5 #[.agg #[.int .i64 m0.c, .int .i64 m0.d, .int .i64 m0.s, .int .i64 m0.a, .int .i64 m0.l], .slice A1 xs1.length c1, .int .i64 n2, .int .i64 n3] w fun e w' => e = .returned (.bool true) ∧ Below w.heap.size w w' := by
  have lens0 := lens m0 xs1 n2 n3
  have HB0 : Below w.heap.size w (w.alloc (.cells #[.int .i64 m0.c, .int .i64 m0.d, .int .i64 m0.s, .int .i64 m0.a, .int .i64 m0.l] 23)) := (Below.refl w.heap.size w).alloc (by exact Nat.le_refl _) _
  have bx0 : BoxC (w.alloc (.cells #[.int .i64 m0.c, .int .i64 m0.d, .int .i64 m0.s, .int .i64 m0.a, .int .i64 m0.l] 23)) (w.heap.size) 0 [.int .i64 m0.c, .int .i64 m0.d, .int .i64 m0.s, .int .i64 m0.a, .int .i64 m0.l] := by simp [BoxC, Go.World.cell?_alloc_at]
  have Rxs1 := (h1).alloc (.cells #[.int .i64 m0.c, .int .i64 m0.d, .int .i64 m0.s, .int .i64 m0.a, .int .i64 m0.l] 23)
  by_cases z1 : xs1.length ≤ 1048576
  case neg =>
    have i1 : (1048576 : Int) < (xs1.length : Int) := by omega
    go_enter Try.func5, Try.ntmps5
    go_wp2_with fail
    go_ret
    exact ⟨rfl, HB0⟩
  have i1 : ¬ ((1048576 : Int) < (xs1.length : Int)) := by omega
  go_enter Try.func5, Try.ntmps5
  have q0 : (w.alloc (.cells #[.int .i64 m0.c, .int .i64 m0.d, .int .i64 m0.s, .int .i64 m0.a, .int .i64 m0.l] 23)).cell? ⟨w.heap.size, 0, none⟩ = some (.int .i64 m0.c) ∧ (w.alloc (.cells #[.int .i64 m0.c, .int .i64 m0.d, .int .i64 m0.s, .int .i64 m0.a, .int .i64 m0.l] 23)).cell? ⟨w.heap.size, 1, none⟩ = some (.int .i64 m0.d) ∧ (w.alloc (.cells #[.int .i64 m0.c, .int .i64 m0.d, .int .i64 m0.s, .int .i64 m0.a, .int .i64 m0.l] 23)).cell? ⟨w.heap.size, 2, none⟩ = some (.int .i64 m0.s) ∧ (w.alloc (.cells #[.int .i64 m0.c, .int .i64 m0.d, .int .i64 m0.s, .int .i64 m0.a, .int .i64 m0.l] 23)).cell? ⟨w.heap.size, 3, none⟩ = some (.int .i64 m0.a) ∧ (w.alloc (.cells #[.int .i64 m0.c, .int .i64 m0.d, .int .i64 m0.s, .int .i64 m0.a, .int .i64 m0.l] 23)).cell? ⟨w.heap.size, 4, none⟩ = some (.int .i64 m0.l) ∧ True := bx0
  go_wp2_with fail
  clear q0
  refine (toM m0.c m0.d m0.s m0.a m0.l _).mono ?_
  rintro e w1 ⟨rfl, b1⟩
  have bq1 := BoxC.below bx0 b1
  have q0 : w1.cell? ⟨w.heap.size, 0, none⟩ = some (.int .i64 m0.c) ∧ w1.cell? ⟨w.heap.size, 1, none⟩ = some (.int .i64 m0.d) ∧ w1.cell? ⟨w.heap.size, 2, none⟩ = some (.int .i64 m0.s) ∧ w1.cell? ⟨w.heap.size, 3, none⟩ = some (.int .i64 m0.a) ∧ w1.cell? ⟨w.heap.size, 4, none⟩ = some (.int .i64 m0.l) ∧ True := bq1
  go_wp2_with fail
  clear q0
  refine (toI A1 c1 xs1 _ (Rxs1.below b1) z1).mono ?_
  rintro e w2 ⟨A1_2, c1_2, rfl, hc1_2, rA1_2, oA1_2, b2, _⟩
  have bq2 := BoxC.below bq1 b2
  have q0 : w2.cell? ⟨w.heap.size, 0, none⟩ = some (.int .i64 m0.c) ∧ w2.cell? ⟨w.heap.size, 1, none⟩ = some (.int .i64 m0.d) ∧ w2.cell? ⟨w.heap.size, 2, none⟩ = some (.int .i64 m0.s) ∧ w2.cell? ⟨w.heap.size, 3, none⟩ = some (.int .i64 m0.a) ∧ w2.cell? ⟨w.heap.size, 4, none⟩ = some (.int .i64 m0.l) ∧ True := bq2
  go_wp2_with fail
  clear q0
  refine (specBestChambers_any m0 A1_2 c1_2 xs1 n2 n3 _ rA1_2 hc1_2 g2 g3).mono ?_
  rintro e w3 ⟨As0, cs0, rfl, hcs0, rs0, b3⟩
  have bq3 := BoxC.below bq2 b3
  have q0 : w3.cell? ⟨w.heap.size, 0, none⟩ = some (.int .i64 m0.c) ∧ w3.cell? ⟨w.heap.size, 1, none⟩ = some (.int .i64 m0.d) ∧ w3.cell? ⟨w.heap.size, 2, none⟩ = some (.int .i64 m0.s) ∧ w3.cell? ⟨w.heap.size, 3, none⟩ = some (.int .i64 m0.a) ∧ w3.cell? ⟨w.heap.size, 4, none⟩ = some (.int .i64 m0.l) ∧ True := bq3
  go_wp2_with fail
  clear q0
  have D0_2 := b1.trans (b2.mono b1.size)
  have D0_3 := D0_2.trans (b3.mono D0_2.size)
  refine (toI A1 c1 xs1 _ (Rxs1.below D0_3) z1).mono ?_
  rintro e w4 ⟨A1_4, c1_4, rfl, hc1_4, rA1_4, oA1_4, b4, _⟩
  have bq4 := BoxC.below bq3 b4
  have q0 : w4.cell? ⟨w.heap.size, 0, none⟩ = some (.int .i64 m0.c) ∧ w4.cell? ⟨w.heap.size, 1, none⟩ = some (.int .i64 m0.d) ∧ w4.cell? ⟨w.heap.size, 2, none⟩ = some (.int .i64 m0.s) ∧ w4.cell? ⟨w.heap.size, 3, none⟩ = some (.int .i64 m0.a) ∧ w4.cell? ⟨w.heap.size, 4, none⟩ = some (.int .i64 m0.l) ∧ True := bq4
  go_wp2_with fail
  clear q0
  refine (toM m0.c m0.d m0.s m0.a m0.l _).mono ?_
  rintro e w5 ⟨rfl, b5⟩
  have bq5 := BoxC.below bq4 b5
  have q0 : w5.cell? ⟨w.heap.size, 0, none⟩ = some (.int .i64 m0.c) ∧ w5.cell? ⟨w.heap.size, 1, none⟩ = some (.int .i64 m0.d) ∧ w5.cell? ⟨w.heap.size, 2, none⟩ = some (.int .i64 m0.s) ∧ w5.cell? ⟨w.heap.size, 3, none⟩ = some (.int .i64 m0.a) ∧ w5.cell? ⟨w.heap.size, 4, none⟩ = some (.int .i64 m0.l) ∧ True := bq5
  go_wp2_with fail
  clear q0
  refine (implBestChambers_any m0 A1_4 c1_4 xs1 n2 n3 _ (rA1_4.below b5) hc1_4 g2 g3).mono ?_
  rintro e w6 ⟨Ag0, cg0, rfl, hcg0, rg0, og0, b6⟩
  have bq6 := BoxC.below bq5 b6
  have q0 : w6.cell? ⟨w.heap.size, 0, none⟩ = some (.int .i64 m0.c) ∧ w6.cell? ⟨w.heap.size, 1, none⟩ = some (.int .i64 m0.d) ∧ w6.cell? ⟨w.heap.size, 2, none⟩ = some (.int .i64 m0.s) ∧ w6.cell? ⟨w.heap.size, 3, none⟩ = some (.int .i64 m0.a) ∧ w6.cell? ⟨w.heap.size, 4, none⟩ = some (.int .i64 m0.l) ∧ True := bq6
  go_wp2_with fail
  clear q0
  have D3_5 := b4.trans (b5.mono b4.size)
  have D3_6 := D3_5.trans (b6.mono D3_5.size)
  refine (eqI_t Ag0 As0 cg0 cs0 (bestChR m0 xs1 n2 n3).1 _ rg0 (rs0.below D3_6)).mono ?_
  rintro e w7 ⟨rfl, b7⟩
  have bq7 := BoxC.below bq6 b7
  have q0 : w7.cell? ⟨w.heap.size, 0, none⟩ = some (.int .i64 m0.c) ∧ w7.cell? ⟨w.heap.size, 1, none⟩ = some (.int .i64 m0.d) ∧ w7.cell? ⟨w.heap.size, 2, none⟩ = some (.int .i64 m0.s) ∧ w7.cell? ⟨w.heap.size, 3, none⟩ = some (.int .i64 m0.a) ∧ w7.cell? ⟨w.heap.size, 4, none⟩ = some (.int .i64 m0.l) ∧ True := bq7
  go_wp2_with fail
  clear q0
  have D0_4 := D0_3.trans (b4.mono D0_3.size)
  have D0_5 := D0_4.trans (b5.mono D0_4.size)
  have D0_6 := D0_5.trans (b6.mono D0_5.size)
  have D0_7 := D0_6.trans (b7.mono D0_6.size)
  refine (toI A1 c1 xs1 _ (Rxs1.below D0_7) z1).mono ?_
  rintro e w8 ⟨A1_8, c1_8, rfl, hc1_8, rA1_8, oA1_8, b8, _⟩
  have bq8 := BoxC.below bq7 b8
  have q0 : w8.cell? ⟨w.heap.size, 0, none⟩ = some (.int .i64 m0.c) ∧ w8.cell? ⟨w.heap.size, 1, none⟩ = some (.int .i64 m0.d) ∧ w8.cell? ⟨w.heap.size, 2, none⟩ = some (.int .i64 m0.s) ∧ w8.cell? ⟨w.heap.size, 3, none⟩ = some (.int .i64 m0.a) ∧ w8.cell? ⟨w.heap.size, 4, none⟩ = some (.int .i64 m0.l) ∧ True := bq8
  go_wp2_with fail
  clear q0
  have D4_6 := b5.trans (b6.mono b5.size)
  have D4_7 := D4_6.trans (b7.mono D4_6.size)
  have D4_8 := D4_7.trans (b8.mono D4_7.size)
  refine (eqI_t A1_4 A1_8 c1_4 c1_8 xs1 _ (rA1_4.below D4_8) rA1_8).mono ?_
  rintro e w9 ⟨rfl, b9⟩
  have bq9 := BoxC.below bq8 b9
  have q0 : w9.cell? ⟨w.heap.size, 0, none⟩ = some (.int .i64 m0.c) ∧ w9.cell? ⟨w.heap.size, 1, none⟩ = some (.int .i64 m0.d) ∧ w9.cell? ⟨w.heap.size, 2, none⟩ = some (.int .i64 m0.s) ∧ w9.cell? ⟨w.heap.size, 3, none⟩ = some (.int .i64 m0.a) ∧ w9.cell? ⟨w.heap.size, 4, none⟩ = some (.int .i64 m0.l) ∧ True := bq9
  go_wp2_with fail
  clear q0
  have D4_9 := D4_8.trans (b9.mono D4_8.size)
  have Y10 := oA1_4.below (D4_9.mono (Nat.le_refl _))
  have D6_8 := b7.trans (b8.mono b7.size)
  have D6_9 := D6_8.trans (b9.mono D6_8.size)
  have Y11 := og0.below (D6_9.mono (Nat.le_refl _))
  refine (markI_t (.slice A1_4 xs1.length c1_4) xs1 _ _ _ _ Y10 (by omega) (by omega) (by omega)).mono ?_
  rintro e w10 ⟨rfl, Y12, on10⟩
  have S0_2 := Nat.le_trans (b1.size) b2.size
  have S0_3 := Nat.le_trans (S0_2) b3.size
  have bq13 := BoxC.only bq9 on10 (Or.inl (Nat.lt_of_lt_of_le (by simp only [World.size_alloc]; omega) (S0_3)))
  have q0 : w10.cell? ⟨w.heap.size, 0, none⟩ = some (.int .i64 m0.c) ∧ w10.cell? ⟨w.heap.size, 1, none⟩ = some (.int .i64 m0.d) ∧ w10.cell? ⟨w.heap.size, 2, none⟩ = some (.int .i64 m0.s) ∧ w10.cell? ⟨w.heap.size, 3, none⟩ = some (.int .i64 m0.a) ∧ w10.cell? ⟨w.heap.size, 4, none⟩ = some (.int .i64 m0.l) ∧ True := bq13
  go_wp2_with fail
  clear q0
  have Y14 := Y11.only on10 (Or.inr (b5.size))
  have S3_5 := Nat.le_trans (b4.size) b5.size
  have S3_6 := Nat.le_trans (S3_5) b6.size
  have S3_7 := Nat.le_trans (S3_6) b7.size
  have S3_8 := Nat.le_trans (S3_7) b8.size
  have S3_9 := Nat.le_trans (S3_8) b9.size
  have D3_7 := D3_6.trans (b7.mono D3_6.size)
  have D3_8 := D3_7.trans (b8.mono D3_7.size)
  have D3_9 := D3_8.trans (b9.mono D3_8.size)
  have D3_10 := D3_9.trans (on10.below (S3_9))
  refine (eqI_t Ag0 As0 cg0 cs0 (bestChR m0 xs1 n2 n3).1 _ (OI.ri Y14) (rs0.below D3_10)).mono ?_
  rintro e w11 ⟨rfl, b11⟩
  have bq15 := BoxC.below bq13 b11
  have q0 : w11.cell? ⟨w.heap.size, 0, none⟩ = some (.int .i64 m0.c) ∧ w11.cell? ⟨w.heap.size, 1, none⟩ = some (.int .i64 m0.d) ∧ w11.cell? ⟨w.heap.size, 2, none⟩ = some (.int .i64 m0.s) ∧ w11.cell? ⟨w.heap.size, 3, none⟩ = some (.int .i64 m0.a) ∧ w11.cell? ⟨w.heap.size, 4, none⟩ = some (.int .i64 m0.l) ∧ True := bq15
  go_wp2_with fail
  clear q0
  have S6_8 := Nat.le_trans (b7.size) b8.size
  have S6_9 := Nat.le_trans (S6_8) b9.size
  have S6_10 := Nat.le_trans (S6_9) on10.size
  have Y16 := Y14.below (b11.mono (S6_10))
  refine (markI_t (.slice Ag0 (bestChR m0 xs1 n2 n3).1.length cg0) (bestChR m0 xs1 n2 n3).1 _ _ _ _ Y16 (by omega) (by omega) (by omega)).mono ?_
  rintro e w12 ⟨rfl, Y17, on12⟩
  have S0_4 := Nat.le_trans (S0_3) b4.size
  have S0_5 := Nat.le_trans (S0_4) b5.size
  have bq18 := BoxC.only bq15 on12 (Or.inl (Nat.lt_of_lt_of_le (by simp only [World.size_alloc]; omega) (S0_5)))
  have q0 : w12.cell? ⟨w.heap.size, 0, none⟩ = some (.int .i64 m0.c) ∧ w12.cell? ⟨w.heap.size, 1, none⟩ = some (.int .i64 m0.d) ∧ w12.cell? ⟨w.heap.size, 2, none⟩ = some (.int .i64 m0.s) ∧ w12.cell? ⟨w.heap.size, 3, none⟩ = some (.int .i64 m0.a) ∧ w12.cell? ⟨w.heap.size, 4, none⟩ = some (.int .i64 m0.l) ∧ True := bq18
  go_wp2_with fail
  clear q0
  refine (heldI_t Ag0 cg0 (bestChR m0 xs1 n2 n3).1.length _ _ (OI.ri Y17) (by omega) (by omega) (by omega)).mono ?_
  rintro e w13 ⟨rfl, b13⟩
  have bq19 := BoxC.below bq18 b13
  have q0 : w13.cell? ⟨w.heap.size, 0, none⟩ = some (.int .i64 m0.c) ∧ w13.cell? ⟨w.heap.size, 1, none⟩ = some (.int .i64 m0.d) ∧ w13.cell? ⟨w.heap.size, 2, none⟩ = some (.int .i64 m0.s) ∧ w13.cell? ⟨w.heap.size, 3, none⟩ = some (.int .i64 m0.a) ∧ w13.cell? ⟨w.heap.size, 4, none⟩ = some (.int .i64 m0.l) ∧ True := bq19
  go_wp2_with fail
  clear q0
  refine (toM m0.c m0.d m0.s m0.a m0.l _).mono ?_
  rintro e w14 ⟨rfl, b14⟩
  have bq20 := BoxC.below bq19 b14
  have q0 : w14.cell? ⟨w.heap.size, 0, none⟩ = some (.int .i64 m0.c) ∧ w14.cell? ⟨w.heap.size, 1, none⟩ = some (.int .i64 m0.d) ∧ w14.cell? ⟨w.heap.size, 2, none⟩ = some (.int .i64 m0.s) ∧ w14.cell? ⟨w.heap.size, 3, none⟩ = some (.int .i64 m0.a) ∧ w14.cell? ⟨w.heap.size, 4, none⟩ = some (.int .i64 m0.l) ∧ True := bq20
  go_wp2_with fail
  clear q0
  have S5_7 := Nat.le_trans (b6.size) b7.size
  have S5_8 := Nat.le_trans (S5_7) b8.size
  have S5_9 := Nat.le_trans (S5_8) b9.size
  have S5_10 := Nat.le_trans (S5_9) on10.size
  have S5_11 := Nat.le_trans (S5_10) b11.size
  have D0_8 := D0_7.trans (b8.mono D0_7.size)
  have D0_9 := D0_8.trans (b9.mono D0_8.size)
  have D0_10 := D0_9.trans ((on10.below (S3_9)).mono (S0_3))
  have D0_11 := D0_10.trans (b11.mono D0_10.size)
  have D0_12 := D0_11.trans ((on12.below (S5_11)).mono (S0_5))
  have D0_13 := D0_12.trans (b13.mono D0_12.size)
  have D0_14 := D0_13.trans (b14.mono D0_13.size)
  refine (toI A1 c1 xs1 _ (Rxs1.below D0_14) z1).mono ?_
  rintro e w15 ⟨A1_15, c1_15, rfl, hc1_15, rA1_15, oA1_15, b15, _⟩
  have bq21 := BoxC.below bq20 b15
  have q0 : w15.cell? ⟨w.heap.size, 0, none⟩ = some (.int .i64 m0.c) ∧ w15.cell? ⟨w.heap.size, 1, none⟩ = some (.int .i64 m0.d) ∧ w15.cell? ⟨w.heap.size, 2, none⟩ = some (.int .i64 m0.s) ∧ w15.cell? ⟨w.heap.size, 3, none⟩ = some (.int .i64 m0.a) ∧ w15.cell? ⟨w.heap.size, 4, none⟩ = some (.int .i64 m0.l) ∧ True := bq21
  go_wp2_with fail
  clear q0
  refine (implBestChambers_any m0 A1_15 c1_15 xs1 n2 n3 _ rA1_15 hc1_15 g2 g3).mono ?_
  rintro e w16 ⟨Ah0, ch0, rfl, hch0, rh0, oh0, b16⟩
  have bq22 := BoxC.below bq21 b16
  have q0 : w16.cell? ⟨w.heap.size, 0, none⟩ = some (.int .i64 m0.c) ∧ w16.cell? ⟨w.heap.size, 1, none⟩ = some (.int .i64 m0.d) ∧ w16.cell? ⟨w.heap.size, 2, none⟩ = some (.int .i64 m0.s) ∧ w16.cell? ⟨w.heap.size, 3, none⟩ = some (.int .i64 m0.a) ∧ w16.cell? ⟨w.heap.size, 4, none⟩ = some (.int .i64 m0.l) ∧ True := bq22
  go_wp2_with fail
  clear q0
  have D3_11 := D3_10.trans (b11.mono D3_10.size)
  have D3_12 := D3_11.trans ((on12.below (S5_11)).mono (S3_5))
  have D3_13 := D3_12.trans (b13.mono D3_12.size)
  have D3_14 := D3_13.trans (b14.mono D3_13.size)
  have D3_15 := D3_14.trans (b15.mono D3_14.size)
  have D3_16 := D3_15.trans (b16.mono D3_15.size)
  refine (eqI_t Ah0 As0 ch0 cs0 (bestChR m0 xs1 n2 n3).1 _ rh0 (rs0.below D3_16)).mono ?_
  rintro e w17 ⟨rfl, b17⟩
  have bq23 := BoxC.below bq22 b17
  have q0 : w17.cell? ⟨w.heap.size, 0, none⟩ = some (.int .i64 m0.c) ∧ w17.cell? ⟨w.heap.size, 1, none⟩ = some (.int .i64 m0.d) ∧ w17.cell? ⟨w.heap.size, 2, none⟩ = some (.int .i64 m0.s) ∧ w17.cell? ⟨w.heap.size, 3, none⟩ = some (.int .i64 m0.a) ∧ w17.cell? ⟨w.heap.size, 4, none⟩ = some (.int .i64 m0.l) ∧ True := bq23
  go_wp2_with fail
  clear q0
  have D12_14 := b13.trans (b14.mono b13.size)
  have D12_15 := D12_14.trans (b15.mono D12_14.size)
  have D12_16 := D12_15.trans (b16.mono D12_15.size)
  have D12_17 := D12_16.trans (b17.mono D12_16.size)
  have S6_11 := Nat.le_trans (S6_10) b11.size
  have S6_12 := Nat.le_trans (S6_11) on12.size
  have Y24 := Y17.below (D12_17.mono (S6_12))
  refine (heldI_t Ag0 cg0 (bestChR m0 xs1 n2 n3).1.length _ _ (OI.ri Y24) (by omega) (by omega) (by omega)).mono ?_
  rintro e w18 ⟨rfl, b18⟩
  have D0_15 := D0_14.trans (b15.mono D0_14.size)
  have D0_16 := D0_15.trans (b16.mono D0_15.size)
  have D0_17 := D0_16.trans (b17.mono D0_16.size)
  have D0_18 := D0_17.trans (b18.mono D0_17.size)
  have DD := D0_18
  have bq25 := BoxC.below bq23 b18
  have q0 : w18.cell? ⟨w.heap.size, 0, none⟩ = some (.int .i64 m0.c) ∧ w18.cell? ⟨w.heap.size, 1, none⟩ = some (.int .i64 m0.d) ∧ w18.cell? ⟨w.heap.size, 2, none⟩ = some (.int .i64 m0.s) ∧ w18.cell? ⟨w.heap.size, 3, none⟩ = some (.int .i64 m0.a) ∧ w18.cell? ⟨w.heap.size, 4, none⟩ = some (.int .i64 m0.l) ∧ True := bq25
  go_wp2_with fail
  go_ret
  exact ⟨rfl, HB0.trans (DD.mono HB0.size)⟩
end Go.Proofs.Ytcdajogdpgjgjaa.fnExactBestChambers
