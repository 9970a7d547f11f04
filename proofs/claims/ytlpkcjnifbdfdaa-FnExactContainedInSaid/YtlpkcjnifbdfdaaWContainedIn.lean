/- The walk of the law FnExactContainedIn. -/
import Derived.Test.YtlpkcjnifbdfdaaFContIn
namespace Go.Proofs.Ytlpkcjnifbdfdaa.fnExactContainedIn
set_option linter.unusedVariables false
open Go.RowKit
theorem lens (t : List (List Int)) (key : Int) : (contIn leAll t key).1.length ≤ 4194304 := by
  unfold contIn
  split
  · rename_i h
    split
    · have := isTable_get h; have := selG_len (contP leAll t key) t; simp only; omega
    · simp
  · simp
set_option maxRecDepth 100000 in
set_option maxHeartbeats 4000000 in
theorem walk (A0 : Option Addr) (c0 : Nat) (xs0 : List (List Int)) (n1 : Int) (w : World) (hc0 : xs0.length ≤ c0) (h0 : RII w A0 xs0) (g1 : (Lit.int .i64 n1).wf = true) :
    Calls Try.prog 9 #[.slice A0 xs0.length c0, .int .i64 n1] w fun e w' => e = .returned (.bool true) ∧ Below w.heap.size w w' := by
  have HB0 : Below w.heap.size w w := Below.refl w.heap.size w
  have lens0 := lens xs0 n1
  have Rxs0 := h0
  go_enter Try.func9, Try.ntmps9
  go_wp2_with fail
  refine (szII A0 c0 xs0 _ _ Rxs0 (by omega) (by omega)).mono ?_
  rintro e wz ⟨r0, rfl, hL0, rfl, hm0⟩
  by_cases hz0 : r0 < 0
  case pos =>
    go_wp2_with fail
    go_ret
    exact ⟨rfl, HB0⟩
  have hL02 := hL0.2 (by omega)
  have hL01 := hL0.1
  have zxs0 : xs0.length ≤ 1048576 ∧ sumLen xs0 ≤ 1048576 := by omega
  have zzxs0 : ∀ k (hk : k < xs0.length), xs0[k].length ≤ 1048576 := fun k hk => by have := mem_sumLen hk; omega
  have Hz0 := Lib.hid hL02; clear hL02 hL0
  go_wp2_with fail
  refine (toII A0 c0 xs0 _ Rxs0 zxs0.1 zzxs0).mono ?_
  rintro e w1 ⟨A0_1, c0_1, rfl, hc0_1, r0_1, o0_1, b1⟩
  go_wp2_with fail
  refine (specContIn_any A0_1 c0_1 xs0 n1 _ r0_1 g1).mono ?_
  rintro e w2 ⟨As0, cs0, rfl, hcs0, rs0, os0, b2⟩
  have D0_2 := b1.trans (b2.mono b1.size)
  go_wp2_with fail
  refine (toII A0 c0 xs0 _ (Rxs0.below D0_2) zxs0.1 zzxs0).mono ?_
  rintro e w3 ⟨A0_3, c0_3, rfl, hc0_3, r0_3, o0_3, b3⟩
  go_wp2_with fail
  refine (implContIn_any A0_3 c0_3 xs0 n1 _ r0_3 g1).mono ?_
  rintro e w4 ⟨Ag0, cg0, rfl, hcg0, rg0, og0, b4⟩
  have D2_4 := b3.trans (b4.mono b3.size)
  go_wp2_with fail
  refine (eqI_t Ag0 As0 cg0 cs0 (contIn leAll xs0 n1).1 _ rg0 (rs0.below D2_4)).mono ?_
  rintro e w5 ⟨rfl, b5⟩
  have D0_3 := D0_2.trans (b3.mono D0_2.size)
  have D0_4 := D0_3.trans (b4.mono D0_3.size)
  have D0_5 := D0_4.trans (b5.mono D0_4.size)
  go_wp2_with fail
  refine (toII A0 c0 xs0 _ (Rxs0.below D0_5) zxs0.1 zzxs0).mono ?_
  rintro e w6 ⟨A0_6, c0_6, rfl, hc0_6, r0_6, o0_6, b6⟩
  have D3_5 := b4.trans (b5.mono b4.size)
  have D3_6 := D3_5.trans (b6.mono D3_5.size)
  go_wp2_with fail
  refine (eqII_t A0_3 A0_6 c0_3 c0_6 xs0 _ (r0_3.below D3_6) r0_6).mono ?_
  rintro e w7 ⟨rfl, b7⟩
  have D3_7 := D3_6.trans (b7.mono D3_6.size)
  have X0_0 := o0_3.below D3_7
  have D4_6 := b5.trans (b6.mono b5.size)
  have D4_7 := D4_6.trans (b7.mono D4_6.size)
  have G0 := og0.below D4_7
  go_wp2_with fail
  refine (markII_t (.slice A0_3 xs0.length c0_3) xs0 _ _ _ _ X0_0 (by omega) (by omega) (by omega) (by omega)).mono ?_
  rintro e w8 ⟨rfl, Y1, on8⟩
  have Y2 := G0.only on8 (Or.inr (Nat.le_refl _))
  have S2_5 := Nat.le_trans (D2_4.size) b5.size
  have S2_6 := Nat.le_trans (S2_5) b6.size
  have S2_7 := Nat.le_trans (S2_6) b7.size
  have D2_5 := D2_4.trans (b5.mono D2_4.size)
  have D2_6 := D2_5.trans (b6.mono D2_5.size)
  have D2_7 := D2_6.trans (b7.mono D2_6.size)
  have D2_8 := D2_7.trans (on8.below (S2_7))
  go_wp2_with fail
  refine (eqI_t Ag0 As0 cg0 cs0 (contIn leAll xs0 n1).1 _ (OI.ri Y2) (rs0.below D2_8)).mono ?_
  rintro e w9 ⟨rfl, b9⟩
  have S4_8 := Nat.le_trans (D4_7.size) on8.size
  have Y3 := Y2.below (b9.mono (S4_8))
  go_wp2_with fail
  refine (markI_t (.slice Ag0 (contIn leAll xs0 n1).1.length cg0) (contIn leAll xs0 n1).1 _ _ _ _ Y3 (by omega) (by omega) (by omega)).mono ?_
  rintro e w10 ⟨rfl, Y4, on10⟩
  go_wp2_with fail
  refine (heldI_t Ag0 cg0 (contIn leAll xs0 n1).1.length _ _ (OI.ri Y4) (by omega) (by omega) (by omega)).mono ?_
  rintro e w11 ⟨rfl, b11⟩
  have S4_9 := Nat.le_trans (S4_8) b9.size
  have S4_10 := Nat.le_trans (S4_9) on10.size
  have Y5 := Y4.below (b11.mono (S4_10))
  have S3_8 := Nat.le_trans (D3_7.size) on8.size
  have S3_9 := Nat.le_trans (S3_8) b9.size
  have D0_6 := D0_5.trans (b6.mono D0_5.size)
  have D0_7 := D0_6.trans (b7.mono D0_6.size)
  have D0_8 := D0_7.trans ((on8.below (S2_7)).mono (D0_2.size))
  have D0_9 := D0_8.trans (b9.mono D0_8.size)
  have D0_10 := D0_9.trans ((on10.below (S3_9)).mono (D0_3.size))
  have D0_11 := D0_10.trans (b11.mono D0_10.size)
  go_wp2_with fail
  refine (toII A0 c0 xs0 _ (Rxs0.below D0_11) zxs0.1 zzxs0).mono ?_
  rintro e w12 ⟨A0_12, c0_12, rfl, hc0_12, r0_12, o0_12, b12⟩
  go_wp2_with fail
  refine (implContIn_any A0_12 c0_12 xs0 n1 _ r0_12 g1).mono ?_
  rintro e w13 ⟨Ah0, ch0, rfl, hch0, rh0, oh0, b13⟩
  have D2_9 := D2_8.trans (b9.mono D2_8.size)
  have D2_10 := D2_9.trans ((on10.below (S3_9)).mono (b3.size))
  have D2_11 := D2_10.trans (b11.mono D2_10.size)
  have D2_12 := D2_11.trans (b12.mono D2_11.size)
  have D2_13 := D2_12.trans (b13.mono D2_12.size)
  go_wp2_with fail
  refine (eqI_t Ah0 As0 ch0 cs0 (contIn leAll xs0 n1).1 _ rh0 (rs0.below D2_13)).mono ?_
  rintro e w14 ⟨rfl, b14⟩
  have D11_13 := b12.trans (b13.mono b12.size)
  have D11_14 := D11_13.trans (b14.mono D11_13.size)
  have S4_11 := Nat.le_trans (S4_10) b11.size
  have Y6 := Y5.below (D11_14.mono (S4_11))
  go_wp2_with fail
  refine (heldI_t Ag0 cg0 (contIn leAll xs0 n1).1.length _ _ (OI.ri Y6) (by omega) (by omega) (by omega)).mono ?_
  rintro e w15 ⟨rfl, b15⟩
  have S4_12 := Nat.le_trans (S4_11) b12.size
  have S4_13 := Nat.le_trans (S4_12) b13.size
  have S4_14 := Nat.le_trans (S4_13) b14.size
  have Y7 := Y6.below (b15.mono (S4_14))
  have D0_12 := D0_11.trans (b12.mono D0_11.size)
  have D0_13 := D0_12.trans (b13.mono D0_12.size)
  have D0_14 := D0_13.trans (b14.mono D0_13.size)
  have D0_15 := D0_14.trans (b15.mono D0_14.size)
  have DD := D0_15
  go_wp2_with fail
  go_ret
  exact ⟨rfl, HB0.trans (DD.mono HB0.size)⟩
end Go.Proofs.Ytlpkcjnifbdfdaa.fnExactContainedIn
