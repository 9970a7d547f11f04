/- The walk of the law FnExactLeastKeysFor. -/
import Derived.Test.YtlpkcjnifbdfdaaFLeastI
namespace Go.Proofs.Ytlpkcjnifbdfdaa.fnExactLeastKeysFor
set_option linter.unusedVariables false
open Go.RowKit
theorem inc_len (n : Nat) : ∀ (r : List Int) (lo : Int), 0 ≤ lo → Inc lo n r → r.length ≤ n
  | [], _, _, _ => by simp
  | x :: r, lo, h0, h => by
    have key : ∀ (r : List Int) (lo : Int), Inc lo n r → r = [] ∨ lo + r.length ≤ n := by
      intro r
      induction r with
      | nil => intro _ _; exact .inl rfl
      | cons y s ih =>
        intro lo h
        right
        rcases ih _ h.2.2 with h2 | h2
        · subst h2; have := h.1; have := h.2.1; simp; omega
        · have := h.1; simp; omega
    rcases key (x :: r) lo h with h2 | h2
    · cases h2
    · omega
theorem lens (t : List (List Int)) (ds : List Int) : (leastKeys t ds).1.length ≤ 4194304 := by
  unfold leastKeys
  split
  · rename_i h
    have hT := isTable_get h
    split
    · split
      · rename_i l hl
        have hm := (mem_all t.length l).1 (List.mem_of_find?_eq_some hl)
        have := inc_len t.length l 0 (by omega) hm
        simp only; omega
      · simp
    · simp
  · simp
set_option maxRecDepth 100000 in
set_option maxHeartbeats 8000000 in
theorem walk (A0 : Option Addr) (c0 : Nat) (xs0 : List (List Int)) (A1 : Option Addr) (c1 : Nat) (xs1 : List Int) (w : World) (hc0 : xs0.length ≤ c0) (h0 : RII w A0 xs0) (hc1 : xs1.length ≤ c1) (h1 : RI w A1 xs1) :
    Calls Try.prog 13 #[.slice A0 xs0.length c0, .slice A1 xs1.length c1] w fun e w' => e = .returned (.bool true) ∧ Below w.heap.size w w' := by
  have lens0 := lens xs0 xs1
  have HB0 : Below w.heap.size w w := Below.refl w.heap.size w
  have Rxs0 := h0
  have Rxs1 := h1
  by_cases z1 : xs1.length ≤ 1048576
  case neg =>
    have i1 : (1048576 : Int) < (xs1.length : Int) := by omega
    go_enter Try.func13, Try.ntmps13
    go_wp2_with fail
    go_ret
    exact ⟨rfl, HB0⟩
  have i1 : ¬ ((1048576 : Int) < (xs1.length : Int)) := by omega
  go_enter Try.func13, Try.ntmps13
  go_wp2_with fail
  refine (szII_b A0 c0 xs0 _ _ Rxs0 (by omega) (by omega)).mono ?_
  rintro e w1 ⟨r0, rfl, hL0, b1, hm0⟩
  by_cases hz0 : r0 < 0
  case pos =>
    go_wp2_with fail
    go_ret
    exact ⟨rfl, HB0.trans (b1.mono HB0.size)⟩
  have hL02 := hL0.2 (by omega)
  have hL01 := hL0.1
  have zxs0 : xs0.length ≤ 1048576 ∧ sumLen xs0 ≤ 1048576 := by omega
  have zzxs0 : ∀ k (hk : k < xs0.length), xs0[k].length ≤ 1048576 := fun k hk => by have := mem_sumLen hk; omega
  have zt0 : (xs0.length + sumLen xs0 : Nat) + r0 ≤ 1048576 := by omega
  have Hz0 := Lib.hid hL02; clear hL02 hL0
  go_wp2_with fail
  refine (toII A0 c0 xs0 _ (Rxs0.below b1) zxs0.1 zzxs0).mono ?_
  rintro e w2 ⟨A0_2, c0_2, rfl, hc0_2, rA0_2, oA0_2, b2⟩
  go_wp2_with fail
  have D0_2 := b1.trans (b2.mono b1.size)
  refine (toI A1 c1 xs1 _ (Rxs1.below D0_2) z1).mono ?_
  rintro e w3 ⟨A1_3, c1_3, rfl, hc1_3, rA1_3, oA1_3, b3, _⟩
  go_wp2_with fail
  refine (specLeastKeys_any A0_2 c0_2 xs0 A1_3 c1_3 xs1 _ (rA0_2.below b3) rA1_3).mono ?_
  rintro e w4 ⟨As0, cs0, rfl, hcs0, rs0, b4⟩
  go_wp2_with fail
  have D0_3 := D0_2.trans (b3.mono D0_2.size)
  have D0_4 := D0_3.trans (b4.mono D0_3.size)
  refine (toII A0 c0 xs0 _ (Rxs0.below D0_4) zxs0.1 zzxs0).mono ?_
  rintro e w5 ⟨A0_5, c0_5, rfl, hc0_5, rA0_5, oA0_5, b5⟩
  go_wp2_with fail
  have D0_5 := D0_4.trans (b5.mono D0_4.size)
  refine (toI A1 c1 xs1 _ (Rxs1.below D0_5) z1).mono ?_
  rintro e w6 ⟨A1_6, c1_6, rfl, hc1_6, rA1_6, oA1_6, b6, _⟩
  go_wp2_with fail
  refine (implLeastKeys_any A0_5 c0_5 xs0 A1_6 c1_6 xs1 _ (rA0_5.below b6) rA1_6).mono ?_
  rintro e w7 ⟨Ag0, cg0, rfl, hcg0, rg0, og0, b7⟩
  go_wp2_with fail
  have D4_6 := b5.trans (b6.mono b5.size)
  have D4_7 := D4_6.trans (b7.mono D4_6.size)
  refine (eqI_t Ag0 As0 cg0 cs0 (leastKeys xs0 xs1).1 _ rg0 (rs0.below D4_7)).mono ?_
  rintro e w8 ⟨rfl, b8⟩
  go_wp2_with fail
  have D0_6 := D0_5.trans (b6.mono D0_5.size)
  have D0_7 := D0_6.trans (b7.mono D0_6.size)
  have D0_8 := D0_7.trans (b8.mono D0_7.size)
  refine (toII A0 c0 xs0 _ (Rxs0.below D0_8) zxs0.1 zzxs0).mono ?_
  rintro e w9 ⟨A0_9, c0_9, rfl, hc0_9, rA0_9, oA0_9, b9⟩
  go_wp2_with fail
  have D5_7 := b6.trans (b7.mono b6.size)
  have D5_8 := D5_7.trans (b8.mono D5_7.size)
  have D5_9 := D5_8.trans (b9.mono D5_8.size)
  refine (eqII_t A0_5 A0_9 c0_5 c0_9 xs0 _ (rA0_5.below D5_9) rA0_9).mono ?_
  rintro e w10 ⟨rfl, b10⟩
  go_wp2_with fail
  have D0_9 := D0_8.trans (b9.mono D0_8.size)
  have D0_10 := D0_9.trans (b10.mono D0_9.size)
  refine (toI A1 c1 xs1 _ (Rxs1.below D0_10) z1).mono ?_
  rintro e w11 ⟨A1_11, c1_11, rfl, hc1_11, rA1_11, oA1_11, b11, _⟩
  go_wp2_with fail
  have D6_8 := b7.trans (b8.mono b7.size)
  have D6_9 := D6_8.trans (b9.mono D6_8.size)
  have D6_10 := D6_9.trans (b10.mono D6_9.size)
  have D6_11 := D6_10.trans (b11.mono D6_10.size)
  refine (eqI_t A1_6 A1_11 c1_6 c1_11 xs1 _ (rA1_6.below D6_11) rA1_11).mono ?_
  rintro e w12 ⟨rfl, b12⟩
  go_wp2_with fail
  have D5_10 := D5_9.trans (b10.mono D5_9.size)
  have D5_11 := D5_10.trans (b11.mono D5_10.size)
  have D5_12 := D5_11.trans (b12.mono D5_11.size)
  have Y1 := oA0_5.below (D5_12.mono (Nat.le_refl _))
  have D6_12 := D6_11.trans (b12.mono D6_11.size)
  have Y2 := oA1_6.below (D6_12.mono (Nat.le_refl _))
  have D7_9 := b8.trans (b9.mono b8.size)
  have D7_10 := D7_9.trans (b10.mono D7_9.size)
  have D7_11 := D7_10.trans (b11.mono D7_10.size)
  have D7_12 := D7_11.trans (b12.mono D7_11.size)
  have Y3 := og0.below (D7_12.mono (Nat.le_refl _))
  refine (markII_t (.slice A0_5 xs0.length c0_5) xs0 _ _ _ _ Y1 (by omega) (by omega) (by omega) (by omega)).mono ?_
  rintro e w13 ⟨rfl, Y4, on13⟩
  go_wp2_with fail
  have Y5 := Y2.only on13 (Or.inr (Nat.le_refl _))
  have Y6 := Y3.only on13 (Or.inr (b6.size))
  refine (markI_t (.slice A1_6 xs1.length c1_6) xs1 _ _ _ _ Y5 (by omega) (by omega) (by omega)).mono ?_
  rintro e w14 ⟨rfl, Y7, on14⟩
  go_wp2_with fail
  have Y8 := Y6.only on14 (Or.inr (Nat.le_refl _))
  have S5_7 := Nat.le_trans (b6.size) b7.size
  have S5_8 := Nat.le_trans (S5_7) b8.size
  have S5_9 := Nat.le_trans (S5_8) b9.size
  have S5_10 := Nat.le_trans (S5_9) b10.size
  have S5_11 := Nat.le_trans (S5_10) b11.size
  have S5_12 := Nat.le_trans (S5_11) b12.size
  have S5_13 := Nat.le_trans (S5_12) on13.size
  have S4_6 := Nat.le_trans (b5.size) b6.size
  have S4_7 := Nat.le_trans (S4_6) b7.size
  have S4_8 := Nat.le_trans (S4_7) b8.size
  have S4_9 := Nat.le_trans (S4_8) b9.size
  have S4_10 := Nat.le_trans (S4_9) b10.size
  have S4_11 := Nat.le_trans (S4_10) b11.size
  have S4_12 := Nat.le_trans (S4_11) b12.size
  have D4_8 := D4_7.trans (b8.mono D4_7.size)
  have D4_9 := D4_8.trans (b9.mono D4_8.size)
  have D4_10 := D4_9.trans (b10.mono D4_9.size)
  have D4_11 := D4_10.trans (b11.mono D4_10.size)
  have D4_12 := D4_11.trans (b12.mono D4_11.size)
  have D4_13 := D4_12.trans (on13.below (S4_12))
  have D4_14 := D4_13.trans ((on14.below (S5_13)).mono (b5.size))
  refine (eqI_t Ag0 As0 cg0 cs0 (leastKeys xs0 xs1).1 _ (OI.ri Y8) (rs0.below D4_14)).mono ?_
  rintro e w15 ⟨rfl, b15⟩
  go_wp2_with fail
  have S7_9 := Nat.le_trans (b8.size) b9.size
  have S7_10 := Nat.le_trans (S7_9) b10.size
  have S7_11 := Nat.le_trans (S7_10) b11.size
  have S7_12 := Nat.le_trans (S7_11) b12.size
  have S7_13 := Nat.le_trans (S7_12) on13.size
  have S7_14 := Nat.le_trans (S7_13) on14.size
  have Y9 := Y8.below (b15.mono (S7_14))
  refine (markI_t (.slice Ag0 (leastKeys xs0 xs1).1.length cg0) (leastKeys xs0 xs1).1 _ _ _ _ Y9 (by omega) (by omega) (by omega)).mono ?_
  rintro e w16 ⟨rfl, Y10, on16⟩
  go_wp2_with fail
  refine (heldI_t Ag0 cg0 (leastKeys xs0 xs1).1.length _ _ (OI.ri Y10) (by omega) (by omega) (by omega)).mono ?_
  rintro e w17 ⟨rfl, b17⟩
  go_wp2_with fail
  have S6_8 := Nat.le_trans (b7.size) b8.size
  have S6_9 := Nat.le_trans (S6_8) b9.size
  have S6_10 := Nat.le_trans (S6_9) b10.size
  have S6_11 := Nat.le_trans (S6_10) b11.size
  have S6_12 := Nat.le_trans (S6_11) b12.size
  have S6_13 := Nat.le_trans (S6_12) on13.size
  have S6_14 := Nat.le_trans (S6_13) on14.size
  have S6_15 := Nat.le_trans (S6_14) b15.size
  have S0_2 := Nat.le_trans (b1.size) b2.size
  have S0_3 := Nat.le_trans (S0_2) b3.size
  have S0_4 := Nat.le_trans (S0_3) b4.size
  have S0_5 := Nat.le_trans (S0_4) b5.size
  have S0_6 := Nat.le_trans (S0_5) b6.size
  have D0_11 := D0_10.trans (b11.mono D0_10.size)
  have D0_12 := D0_11.trans (b12.mono D0_11.size)
  have D0_13 := D0_12.trans ((on13.below (S4_12)).mono (S0_4))
  have D0_14 := D0_13.trans ((on14.below (S5_13)).mono (S0_5))
  have D0_15 := D0_14.trans (b15.mono D0_14.size)
  have D0_16 := D0_15.trans ((on16.below (S6_15)).mono (S0_6))
  have D0_17 := D0_16.trans (b17.mono D0_16.size)
  refine (toII A0 c0 xs0 _ (Rxs0.below D0_17) zxs0.1 zzxs0).mono ?_
  rintro e w18 ⟨A0_18, c0_18, rfl, hc0_18, rA0_18, oA0_18, b18⟩
  go_wp2_with fail
  have D0_18 := D0_17.trans (b18.mono D0_17.size)
  refine (toI A1 c1 xs1 _ (Rxs1.below D0_18) z1).mono ?_
  rintro e w19 ⟨A1_19, c1_19, rfl, hc1_19, rA1_19, oA1_19, b19, _⟩
  go_wp2_with fail
  refine (implLeastKeys_any A0_18 c0_18 xs0 A1_19 c1_19 xs1 _ (rA0_18.below b19) rA1_19).mono ?_
  rintro e w20 ⟨Ah0, ch0, rfl, hch0, rh0, oh0, b20⟩
  go_wp2_with fail
  have D4_15 := D4_14.trans (b15.mono D4_14.size)
  have D4_16 := D4_15.trans ((on16.below (S6_15)).mono (S4_6))
  have D4_17 := D4_16.trans (b17.mono D4_16.size)
  have D4_18 := D4_17.trans (b18.mono D4_17.size)
  have D4_19 := D4_18.trans (b19.mono D4_18.size)
  have D4_20 := D4_19.trans (b20.mono D4_19.size)
  refine (eqI_t Ah0 As0 ch0 cs0 (leastKeys xs0 xs1).1 _ rh0 (rs0.below D4_20)).mono ?_
  rintro e w21 ⟨rfl, b21⟩
  go_wp2_with fail
  have D16_18 := b17.trans (b18.mono b17.size)
  have D16_19 := D16_18.trans (b19.mono D16_18.size)
  have D16_20 := D16_19.trans (b20.mono D16_19.size)
  have D16_21 := D16_20.trans (b21.mono D16_20.size)
  have S7_15 := Nat.le_trans (S7_14) b15.size
  have S7_16 := Nat.le_trans (S7_15) on16.size
  have Y11 := Y10.below (D16_21.mono (S7_16))
  refine (heldI_t Ag0 cg0 (leastKeys xs0 xs1).1.length _ _ (OI.ri Y11) (by omega) (by omega) (by omega)).mono ?_
  rintro e w22 ⟨rfl, b22⟩
  have D0_19 := D0_18.trans (b19.mono D0_18.size)
  have D0_20 := D0_19.trans (b20.mono D0_19.size)
  have D0_21 := D0_20.trans (b21.mono D0_20.size)
  have D0_22 := D0_21.trans (b22.mono D0_21.size)
  have DD := D0_22
  go_wp2_with fail
  go_ret
  exact ⟨rfl, HB0.trans (DD.mono HB0.size)⟩
end Go.Proofs.Ytlpkcjnifbdfdaa.fnExactLeastKeysFor
