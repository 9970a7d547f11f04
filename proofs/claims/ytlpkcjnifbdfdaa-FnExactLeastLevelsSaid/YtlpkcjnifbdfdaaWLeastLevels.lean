/- The walk of the law FnExactLeastLevels. -/
import Derived.Test.YtlpkcjnifbdfdaaFLeastP
import Derived.Test.YtlpkcjnifbdfdaaFLeastR
namespace Go.Proofs.Ytlpkcjnifbdfdaa.fnExactLeastLevels
set_option linter.unusedVariables false
open Go.RowKit
theorem leastGo_len (b : Int) : ∀ (ns : List Int) (left : Int) (l : List Int), leastGo b ns left = some l → l.length = ns.length
  | [], _, l, h => by simp [leastGo] at h; subst h; rfl
  | n :: r, left, l, h => by
    rw [leastGo] at h
    generalize (if r = [] then left else climbR b left n 1) = e at h
    split at h
    · simp at h
    · obtain ⟨l', h1, rfl⟩ := Option.map_eq_some_iff.1 h
      simp [leastGo_len b r _ l' h1]
theorem lens (m : Mk) (ns : List Int) : (leastLevels m ns).1.length ≤ 4194304 := by
  unfold leastLevels
  split
  · split
    · rename_i h
      split
      · simp
      · rename_i l hl; have := leastGo_len _ _ _ _ hl; simp; omega
    · simp
  · simp
set_option maxRecDepth 100000 in
set_option maxHeartbeats 4000000 in
theorem walk (m0 : Mk) (A1 : Option Addr) (c1 : Nat) (xs1 : List Int) (w : World) (hc1 : xs1.length ≤ c1) (h1 : RI w A1 xs1) :
    Calls Try.prog 4 #[.agg #[.int .i64 m0.c, .int .i64 m0.d, .int .i64 m0.s, .int .i64 m0.a, .int .i64 m0.l], .slice A1 xs1.length c1] w fun e w' => e = .returned (.bool true) ∧ Below w.heap.size w w' := by
  have HB0 : Below w.heap.size w (w.alloc (.cells #[.int .i64 m0.c, .int .i64 m0.d, .int .i64 m0.s, .int .i64 m0.a, .int .i64 m0.l] 26)) := (Below.refl w.heap.size w).alloc (by exact Nat.le_refl _) _
  have lens0 := lens m0 xs1
  have Rxs1 := (h1).alloc (.cells #[.int .i64 m0.c, .int .i64 m0.d, .int .i64 m0.s, .int .i64 m0.a, .int .i64 m0.l] 26)
  by_cases z1 : xs1.length ≤ 1048576
  case neg =>
    have i1 : (1048576 : Int) < (xs1.length : Int) := by omega
    go_enter Try.func4, Try.ntmps4
    go_wp2_with fail
    go_ret
    exact ⟨rfl, HB0⟩
  have i1 : ¬ ((1048576 : Int) < (xs1.length : Int)) := by omega
  go_enter Try.func4, Try.ntmps4
  go_wp2_with fail
  refine (toM m0.c m0.d m0.s m0.a m0.l _).mono ?_
  rintro e w1 ⟨rfl, b1⟩
  have C := (bcell b1).1
  go_wp2_with fail
  clear C
  refine (toI A1 c1 xs1 _ (Rxs1.below b1) z1).mono ?_
  rintro e w2 ⟨A1_2, c1_2, rfl, hc1_2, r1_2, o1_2, b2, _⟩
  have D0_2 := b1.trans (b2.mono b1.size)
  have C := (bcell D0_2).1
  go_wp2_with fail
  clear C
  refine (specLeast_any m0 A1_2 c1_2 xs1 _ r1_2).mono ?_
  rintro e w3 ⟨As0, cs0, rfl, hcs0, rs0, os0, b3⟩
  have D0_3 := D0_2.trans (b3.mono D0_2.size)
  have C := (bcell D0_3).1
  go_wp2_with fail
  clear C
  refine (toI A1 c1 xs1 _ (Rxs1.below D0_3) z1).mono ?_
  rintro e w4 ⟨A1_4, c1_4, rfl, hc1_4, r1_4, o1_4, b4, _⟩
  have D0_4 := D0_3.trans (b4.mono D0_3.size)
  have C := (bcell D0_4).1
  go_wp2_with fail
  clear C
  refine (toM m0.c m0.d m0.s m0.a m0.l _).mono ?_
  rintro e w5 ⟨rfl, b5⟩
  have D0_5 := D0_4.trans (b5.mono D0_4.size)
  have C := (bcell D0_5).1
  go_wp2_with fail
  clear C
  refine (implLeast_any m0 A1_4 c1_4 xs1 _ (r1_4.below b5)).mono ?_
  rintro e w6 ⟨Ag0, cg0, rfl, hcg0, rg0, og0, b6⟩
  have D3_5 := b4.trans (b5.mono b4.size)
  have D3_6 := D3_5.trans (b6.mono D3_5.size)
  have D0_6 := D0_5.trans (b6.mono D0_5.size)
  have C := (bcell D0_6).1
  go_wp2_with fail
  clear C
  refine (eqI_t Ag0 As0 cg0 cs0 (leastLevels m0 xs1).1 _ rg0 (rs0.below D3_6)).mono ?_
  rintro e w7 ⟨rfl, b7⟩
  have D0_7 := D0_6.trans (b7.mono D0_6.size)
  have C := (bcell D0_7).1
  go_wp2_with fail
  clear C
  refine (toI A1 c1 xs1 _ (Rxs1.below D0_7) z1).mono ?_
  rintro e w8 ⟨A1_8, c1_8, rfl, hc1_8, r1_8, o1_8, b8, _⟩
  have D4_6 := b5.trans (b6.mono b5.size)
  have D4_7 := D4_6.trans (b7.mono D4_6.size)
  have D4_8 := D4_7.trans (b8.mono D4_7.size)
  have D0_8 := D0_7.trans (b8.mono D0_7.size)
  have C := (bcell D0_8).1
  go_wp2_with fail
  clear C
  refine (eqI_t A1_4 A1_8 c1_4 c1_8 xs1 _ (r1_4.below D4_8) r1_8).mono ?_
  rintro e w9 ⟨rfl, b9⟩
  have D4_9 := D4_8.trans (b9.mono D4_8.size)
  have X1_0 := o1_4.below D4_9
  have D6_8 := b7.trans (b8.mono b7.size)
  have D6_9 := D6_8.trans (b9.mono D6_8.size)
  have G0 := og0.below D6_9
  have D0_9 := D0_8.trans (b9.mono D0_8.size)
  have C := (bcell D0_9).1
  go_wp2_with fail
  clear C
  refine (markI_t (.slice A1_4 xs1.length c1_4) xs1 _ _ _ _ X1_0 (by omega) (by omega) (by omega)).mono ?_
  rintro e w10 ⟨rfl, Y1, on10⟩
  have Y2 := G0.only on10 (Or.inr (b5.size))
  have S3_7 := Nat.le_trans (D3_6.size) b7.size
  have S3_8 := Nat.le_trans (S3_7) b8.size
  have S3_9 := Nat.le_trans (S3_8) b9.size
  have D3_7 := D3_6.trans (b7.mono D3_6.size)
  have D3_8 := D3_7.trans (b8.mono D3_7.size)
  have D3_9 := D3_8.trans (b9.mono D3_8.size)
  have D3_10 := D3_9.trans (on10.below (S3_9))
  have D0_10 := D0_9.trans ((on10.below (S3_9)).mono (D0_3.size))
  have C := (bcell D0_10).1
  go_wp2_with fail
  clear C
  refine (eqI_t Ag0 As0 cg0 cs0 (leastLevels m0 xs1).1 _ (OI.ri Y2) (rs0.below D3_10)).mono ?_
  rintro e w11 ⟨rfl, b11⟩
  have S6_10 := Nat.le_trans (D6_9.size) on10.size
  have Y3 := Y2.below (b11.mono (S6_10))
  have D0_11 := D0_10.trans (b11.mono D0_10.size)
  have C := (bcell D0_11).1
  go_wp2_with fail
  clear C
  refine (markI_t (.slice Ag0 (leastLevels m0 xs1).1.length cg0) (leastLevels m0 xs1).1 _ _ _ _ Y3 (by omega) (by omega) (by omega)).mono ?_
  rintro e w12 ⟨rfl, Y4, on12⟩
  have S5_7 := Nat.le_trans (b6.size) b7.size
  have S5_8 := Nat.le_trans (S5_7) b8.size
  have S5_9 := Nat.le_trans (S5_8) b9.size
  have S5_10 := Nat.le_trans (S5_9) on10.size
  have S5_11 := Nat.le_trans (S5_10) b11.size
  have D0_12 := D0_11.trans ((on12.below (S5_11)).mono (D0_5.size))
  have C := (bcell D0_12).1
  go_wp2_with fail
  clear C
  refine (heldI_t Ag0 cg0 (leastLevels m0 xs1).1.length _ _ (OI.ri Y4) (by omega) (by omega) (by omega)).mono ?_
  rintro e w13 ⟨rfl, b13⟩
  have S6_11 := Nat.le_trans (S6_10) b11.size
  have S6_12 := Nat.le_trans (S6_11) on12.size
  have Y5 := Y4.below (b13.mono (S6_12))
  have D0_13 := D0_12.trans (b13.mono D0_12.size)
  have C := (bcell D0_13).1
  go_wp2_with fail
  clear C
  refine (toM m0.c m0.d m0.s m0.a m0.l _).mono ?_
  rintro e w14 ⟨rfl, b14⟩
  have D0_14 := D0_13.trans (b14.mono D0_13.size)
  have C := (bcell D0_14).1
  go_wp2_with fail
  clear C
  refine (toI A1 c1 xs1 _ (Rxs1.below D0_14) z1).mono ?_
  rintro e w15 ⟨A1_15, c1_15, rfl, hc1_15, r1_15, o1_15, b15, _⟩
  have D0_15 := D0_14.trans (b15.mono D0_14.size)
  have C := (bcell D0_15).1
  go_wp2_with fail
  clear C
  refine (implLeast_any m0 A1_15 c1_15 xs1 _ r1_15).mono ?_
  rintro e w16 ⟨Ah0, ch0, rfl, hch0, rh0, oh0, b16⟩
  have D3_11 := D3_10.trans (b11.mono D3_10.size)
  have D3_12 := D3_11.trans ((on12.below (S5_11)).mono (D3_5.size))
  have D3_13 := D3_12.trans (b13.mono D3_12.size)
  have D3_14 := D3_13.trans (b14.mono D3_13.size)
  have D3_15 := D3_14.trans (b15.mono D3_14.size)
  have D3_16 := D3_15.trans (b16.mono D3_15.size)
  have D0_16 := D0_15.trans (b16.mono D0_15.size)
  have C := (bcell D0_16).1
  go_wp2_with fail
  clear C
  refine (eqI_t Ah0 As0 ch0 cs0 (leastLevels m0 xs1).1 _ rh0 (rs0.below D3_16)).mono ?_
  rintro e w17 ⟨rfl, b17⟩
  have D13_15 := b14.trans (b15.mono b14.size)
  have D13_16 := D13_15.trans (b16.mono D13_15.size)
  have D13_17 := D13_16.trans (b17.mono D13_16.size)
  have S6_13 := Nat.le_trans (S6_12) b13.size
  have Y6 := Y5.below (D13_17.mono (S6_13))
  have D0_17 := D0_16.trans (b17.mono D0_16.size)
  have C := (bcell D0_17).1
  go_wp2_with fail
  clear C
  refine (heldI_t Ag0 cg0 (leastLevels m0 xs1).1.length _ _ (OI.ri Y6) (by omega) (by omega) (by omega)).mono ?_
  rintro e w18 ⟨rfl, b18⟩
  have S6_14 := Nat.le_trans (S6_13) b14.size
  have S6_15 := Nat.le_trans (S6_14) b15.size
  have S6_16 := Nat.le_trans (S6_15) b16.size
  have S6_17 := Nat.le_trans (S6_16) b17.size
  have Y7 := Y6.below (b18.mono (S6_17))
  have D0_18 := D0_17.trans (b18.mono D0_17.size)
  have DD := D0_18
  have C := (bcell DD).1
  go_wp2_with fail
  go_ret
  exact ⟨rfl, HB0.trans (DD.mono HB0.size)⟩
end Go.Proofs.Ytlpkcjnifbdfdaa.fnExactLeastLevels
