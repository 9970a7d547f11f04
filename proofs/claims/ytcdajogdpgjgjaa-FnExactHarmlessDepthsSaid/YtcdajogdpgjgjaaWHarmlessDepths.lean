/- The walk of the law FnExactHarmlessDepths. -/
import Derived.Test.YtcdajogdpgjgjaaFHarmS
import Derived.Test.YtcdajogdpgjgjaaHelpL
namespace Go.Proofs.Ytcdajogdpgjgjaa.fnExactHarmlessDepths
set_option linter.unusedVariables false
open Go.RowKit
theorem few_lens : ∀ ls : List (List Int), (∀ x, x ∈ ls → x.length ≤ 8) → sumLen ls ≤ 8 * ls.length
  | [], _ => by simp [sumLen]
  | x :: r, h => by
    have := few_lens r (fun y hy => h y (by simp [hy])); have := h x (by simp)
    unfold sumLen at *; rw [List.map_cons, List.sum_cons, List.length_cons]; omega
theorem lens (m : Mk) (l al : List (List Int)) : (harmR m l al).1.length ≤ 4194304 ∧ sumLen (harmR m l al).1 ≤ 1048576 := by
  unfold harmR
  split
  · rename_i h
    have hlk := (allowedC_0 h).1
    have hmb := mk_bounds (isLock_mk hlk)
    have d8 : m.d ≤ 8 := hmb.2.2.2.1
    have hl6 : l.length ≤ 6 := by have := isLock_len hlk; have := hmb.2.1; omega
    have h4 := few_lens (harmL m l l.length) (fun x hx => by
      unfold harmL at hx
      obtain ⟨i, _, rfl⟩ := List.mem_map.1 hx
      have := harmSet_len m l i m.d.toNat; omega)
    rw [harmL_len] at h4
    simp only [harmL_len]; omega
  · simp [sumLen]
set_option maxRecDepth 100000 in
set_option maxHeartbeats 8000000 in
theorem walk (m0 : Mk) (A1 : Option Addr) (c1 : Nat) (xs1 : List (List Int)) (A2 : Option Addr) (c2 : Nat) (xs2 : List (List Int)) (w : World) (hc1 : xs1.length ≤ c1) (h1 : RII w A1 xs1) (hc2 : xs2.length ≤ c2) (h2 : RII w A2 xs2) :
    Calls Try.prog 12 #[.agg #[.int .i64 m0.c, .int .i64 m0.d, .int .i64 m0.s, .int .i64 m0.a, .int .i64 m0.l], .agg #[.slice A1 xs1.length c1], .slice A2 xs2.length c2] w fun e w' => e = .returned (.bool true) ∧ Below w.heap.size w w' := by
  have lens0 := lens m0 xs1 xs2
  have HB0 : Below w.heap.size w ((w.alloc (.cells #[.int .i64 m0.c, .int .i64 m0.d, .int .i64 m0.s, .int .i64 m0.a, .int .i64 m0.l] 23)).alloc (.cells #[.slice A1 xs1.length c1] 52)) := ((Below.refl w.heap.size w).alloc (by exact Nat.le_refl _) _).alloc (by simp only [World.size_alloc]; omega) _
  have bx0 : BoxC ((w.alloc (.cells #[.int .i64 m0.c, .int .i64 m0.d, .int .i64 m0.s, .int .i64 m0.a, .int .i64 m0.l] 23)).alloc (.cells #[.slice A1 xs1.length c1] 52)) (w.heap.size) 0 [.int .i64 m0.c, .int .i64 m0.d, .int .i64 m0.s, .int .i64 m0.a, .int .i64 m0.l] := by simp [BoxC, Go.World.cell?_alloc_at, Go.World.cell?_alloc_past]
  have bx1 : BoxC ((w.alloc (.cells #[.int .i64 m0.c, .int .i64 m0.d, .int .i64 m0.s, .int .i64 m0.a, .int .i64 m0.l] 23)).alloc (.cells #[.slice A1 xs1.length c1] 52)) (w.heap.size + 1) 0 [.slice A1 xs1.length c1] := by simp [BoxC, Go.World.cell?_alloc_at]
  have Rxs1 := ((h1).alloc (.cells #[.int .i64 m0.c, .int .i64 m0.d, .int .i64 m0.s, .int .i64 m0.a, .int .i64 m0.l] 23)).alloc (.cells #[.slice A1 xs1.length c1] 52)
  have Rxs2 := ((h2).alloc (.cells #[.int .i64 m0.c, .int .i64 m0.d, .int .i64 m0.s, .int .i64 m0.a, .int .i64 m0.l] 23)).alloc (.cells #[.slice A1 xs1.length c1] 52)
  go_enter Try.func12, Try.ntmps12
  have q0 : ((w.alloc (.cells #[.int .i64 m0.c, .int .i64 m0.d, .int .i64 m0.s, .int .i64 m0.a, .int .i64 m0.l] 23)).alloc (.cells #[.slice A1 xs1.length c1] 52)).cell? ⟨w.heap.size, 0, none⟩ = some (.int .i64 m0.c) ∧ ((w.alloc (.cells #[.int .i64 m0.c, .int .i64 m0.d, .int .i64 m0.s, .int .i64 m0.a, .int .i64 m0.l] 23)).alloc (.cells #[.slice A1 xs1.length c1] 52)).cell? ⟨w.heap.size, 1, none⟩ = some (.int .i64 m0.d) ∧ ((w.alloc (.cells #[.int .i64 m0.c, .int .i64 m0.d, .int .i64 m0.s, .int .i64 m0.a, .int .i64 m0.l] 23)).alloc (.cells #[.slice A1 xs1.length c1] 52)).cell? ⟨w.heap.size, 2, none⟩ = some (.int .i64 m0.s) ∧ ((w.alloc (.cells #[.int .i64 m0.c, .int .i64 m0.d, .int .i64 m0.s, .int .i64 m0.a, .int .i64 m0.l] 23)).alloc (.cells #[.slice A1 xs1.length c1] 52)).cell? ⟨w.heap.size, 3, none⟩ = some (.int .i64 m0.a) ∧ ((w.alloc (.cells #[.int .i64 m0.c, .int .i64 m0.d, .int .i64 m0.s, .int .i64 m0.a, .int .i64 m0.l] 23)).alloc (.cells #[.slice A1 xs1.length c1] 52)).cell? ⟨w.heap.size, 4, none⟩ = some (.int .i64 m0.l) ∧ True := bx0
  have q1 : ((w.alloc (.cells #[.int .i64 m0.c, .int .i64 m0.d, .int .i64 m0.s, .int .i64 m0.a, .int .i64 m0.l] 23)).alloc (.cells #[.slice A1 xs1.length c1] 52)).cell? ⟨w.heap.size + 1, 0, none⟩ = some (.slice A1 xs1.length c1) ∧ True := bx1
  go_wp2_with fail
  clear q0 q1
  refine (szL A1 c1 xs1 _ _ Rxs1 (by omega) (by omega)).mono ?_
  rintro e w1 ⟨r1, rfl, hL1, b1, hm1⟩
  by_cases hz1 : r1 < 0
  case pos =>
    go_wp2_with fail
    go_ret
    exact ⟨rfl, HB0.trans (b1.mono HB0.size)⟩
  have hL12 := hL1.2 (by omega)
  have hL11 := hL1.1
  have zxs1 : xs1.length ≤ 1048576 ∧ sumLen xs1 ≤ 1048576 := by omega
  have zzxs1 : ∀ k (hk : k < xs1.length), xs1[k].length ≤ 1048576 := fun k hk => by have := mem_sumLen hk; omega
  have zt1 : (xs1.length + sumLen xs1 : Nat) + r1 ≤ 1048576 := by omega
  have Hz1 := Lib.hid hL12; clear hL12 hL1
  have bq1 := BoxC.below bx0 b1
  have q0 : w1.cell? ⟨w.heap.size, 0, none⟩ = some (.int .i64 m0.c) ∧ w1.cell? ⟨w.heap.size, 1, none⟩ = some (.int .i64 m0.d) ∧ w1.cell? ⟨w.heap.size, 2, none⟩ = some (.int .i64 m0.s) ∧ w1.cell? ⟨w.heap.size, 3, none⟩ = some (.int .i64 m0.a) ∧ w1.cell? ⟨w.heap.size, 4, none⟩ = some (.int .i64 m0.l) ∧ True := bq1
  have bq2 := BoxC.below bx1 b1
  have q1 : w1.cell? ⟨w.heap.size + 1, 0, none⟩ = some (.slice A1 xs1.length c1) ∧ True := bq2
  go_wp2_with fail
  clear q0 q1
  refine (szII_b A2 c2 xs2 _ _ (Rxs2.below b1) (by omega) (by omega)).mono ?_
  rintro e w2 ⟨r2, rfl, hL2, b2, hm2⟩
  have D0_2 := b1.trans (b2.mono b1.size)
  by_cases hz2 : r2 < 0
  case pos =>
    go_wp2_with fail
    go_ret
    exact ⟨rfl, HB0.trans (D0_2.mono HB0.size)⟩
  have hL22 := hL2.2 (by omega)
  have hL21 := hL2.1
  have zxs2 : xs2.length ≤ 1048576 ∧ sumLen xs2 ≤ 1048576 := by omega
  have zzxs2 : ∀ k (hk : k < xs2.length), xs2[k].length ≤ 1048576 := fun k hk => by have := mem_sumLen hk; omega
  have zt2 : (xs1.length + sumLen xs1 : Nat) + (xs2.length + sumLen xs2 : Nat) + r2 ≤ 1048576 := by omega
  have Hz2 := Lib.hid hL22; clear hL22 hL2
  have bq3 := BoxC.below bq1 b2
  have q0 : w2.cell? ⟨w.heap.size, 0, none⟩ = some (.int .i64 m0.c) ∧ w2.cell? ⟨w.heap.size, 1, none⟩ = some (.int .i64 m0.d) ∧ w2.cell? ⟨w.heap.size, 2, none⟩ = some (.int .i64 m0.s) ∧ w2.cell? ⟨w.heap.size, 3, none⟩ = some (.int .i64 m0.a) ∧ w2.cell? ⟨w.heap.size, 4, none⟩ = some (.int .i64 m0.l) ∧ True := bq3
  have bq4 := BoxC.below bq2 b2
  have q1 : w2.cell? ⟨w.heap.size + 1, 0, none⟩ = some (.slice A1 xs1.length c1) ∧ True := bq4
  go_wp2_with fail
  clear q0 q1
  have KS5 := Lib.hid (show ∀ w' : World, Below w2.heap.size w2 w' → ((w'.cell? ⟨w.heap.size, 0, none⟩ = some (.int .i64 m0.c) ∧ w'.cell? ⟨w.heap.size, 1, none⟩ = some (.int .i64 m0.d) ∧ w'.cell? ⟨w.heap.size, 2, none⟩ = some (.int .i64 m0.s) ∧ w'.cell? ⟨w.heap.size, 3, none⟩ = some (.int .i64 m0.a) ∧ w'.cell? ⟨w.heap.size, 4, none⟩ = some (.int .i64 m0.l) ∧ True) ∧ (w'.cell? ⟨w.heap.size + 1, 0, none⟩ = some (.slice A1 xs1.length c1) ∧ True)) from fun w' hb => ⟨BoxC.below bq3 hb, BoxC.below bq4 hb⟩)
  go_region_held3 (fun w' => (w'.cell? ⟨w.heap.size, 0, none⟩ = some (.int .i64 m0.c) ∧ w'.cell? ⟨w.heap.size, 1, none⟩ = some (.int .i64 m0.d) ∧ w'.cell? ⟨w.heap.size, 2, none⟩ = some (.int .i64 m0.s) ∧ w'.cell? ⟨w.heap.size, 3, none⟩ = some (.int .i64 m0.a) ∧ w'.cell? ⟨w.heap.size, 4, none⟩ = some (.int .i64 m0.l) ∧ True) ∧ (w'.cell? ⟨w.heap.size + 1, 0, none⟩ = some (.slice A1 xs1.length c1) ∧ True)) (first | (refine KS5.out _ ?_; first | assumption | exact belowDrew0 _)) (first | (go_at_call 55; have D2_5 := D2_4.trans (b5.mono D2_4.size); refine (specHarmlessDepths_any m0 A1_4 c1_4 xs1 A2_5 c2_5 xs2 _ (rA1_4.below b5) rA2_5).mono ?_; rintro e w6 ⟨As0, cs0, rfl, hcs0, rs0, os0, b6⟩; have BS6 := Below.trans BS5 (b6.mono (Below.size BS5))) | (go_at_call 39; have D2_4 := b3.trans (b4.mono b3.size); have D0_4 := D0_3.trans (b4.mono D0_3.size); refine (toII A2 c2 xs2 _ (Rxs2.below D0_4) zxs2.1 zzxs2).mono ?_; rintro e w5 ⟨A2_5, c2_5, rfl, hc2_5, rA2_5, oA2_5, b5⟩; have BS5 := Below.trans BS4 (b5.mono (Below.size BS4))) | (go_at_call 38; have D0_3 := D0_2.trans (b3.mono D0_2.size); refine (toL A1 c1 xs1 _ (Rxs1.below D0_3) zxs1.1 zzxs1).mono ?_; rintro e w4 ⟨A1_4, c1_4, rfl, hc1_4, rA1_4, oA1_4, b4⟩; have BS4 := Below.trans b3 (b4.mono (Below.size b3))) | (go_at_call 16; refine (toM m0.c m0.d m0.s m0.a m0.l _).mono ?_; rintro e w3 ⟨rfl, b3⟩; have b3 := belowDrew b3))
  have D2_6 := D2_5.trans (b6.mono D2_5.size)
  have bq6 := BoxC.below bq3 D2_6
  have q0 : w6.cell? ⟨w.heap.size, 0, none⟩ = some (.int .i64 m0.c) ∧ w6.cell? ⟨w.heap.size, 1, none⟩ = some (.int .i64 m0.d) ∧ w6.cell? ⟨w.heap.size, 2, none⟩ = some (.int .i64 m0.s) ∧ w6.cell? ⟨w.heap.size, 3, none⟩ = some (.int .i64 m0.a) ∧ w6.cell? ⟨w.heap.size, 4, none⟩ = some (.int .i64 m0.l) ∧ True := bq6
  have bq7 := BoxC.below bq4 D2_6
  have q1 : w6.cell? ⟨w.heap.size + 1, 0, none⟩ = some (.slice A1 xs1.length c1) ∧ True := bq7
  go_wp2_with fail
  clear q0 q1
  have D0_5 := D0_4.trans (b5.mono D0_4.size)
  have D0_6 := D0_5.trans (b6.mono D0_5.size)
  refine (toL A1 c1 xs1 _ (Rxs1.below D0_6) zxs1.1 zzxs1).mono ?_
  rintro e w7 ⟨A1_7, c1_7, rfl, hc1_7, rA1_7, oA1_7, b7⟩
  have b8 : Below w7.heap.size w7 (w7.alloc (.cells #[.slice A1_7 xs1.length c1_7] 56)) := (Below.refl _ _).alloc (Nat.le_refl _) _
  have bq8 : BoxC (w7.alloc (.cells #[.slice A1_7 xs1.length c1_7] 56)) (w7.heap.size) 0 [.slice A1_7 xs1.length c1_7] := by simp [BoxC, Go.World.cell?_alloc_at]
  have D6_8 := b7.trans (b8.mono b7.size)
  have bq9 := BoxC.below bq6 D6_8
  have q0 : (w7.alloc (.cells #[.slice A1_7 xs1.length c1_7] 56)).cell? ⟨w.heap.size, 0, none⟩ = some (.int .i64 m0.c) ∧ (w7.alloc (.cells #[.slice A1_7 xs1.length c1_7] 56)).cell? ⟨w.heap.size, 1, none⟩ = some (.int .i64 m0.d) ∧ (w7.alloc (.cells #[.slice A1_7 xs1.length c1_7] 56)).cell? ⟨w.heap.size, 2, none⟩ = some (.int .i64 m0.s) ∧ (w7.alloc (.cells #[.slice A1_7 xs1.length c1_7] 56)).cell? ⟨w.heap.size, 3, none⟩ = some (.int .i64 m0.a) ∧ (w7.alloc (.cells #[.slice A1_7 xs1.length c1_7] 56)).cell? ⟨w.heap.size, 4, none⟩ = some (.int .i64 m0.l) ∧ True := bq9
  have bq10 := BoxC.below bq7 D6_8
  have q1 : (w7.alloc (.cells #[.slice A1_7 xs1.length c1_7] 56)).cell? ⟨w.heap.size + 1, 0, none⟩ = some (.slice A1 xs1.length c1) ∧ True := bq10
  have q2 : (w7.alloc (.cells #[.slice A1_7 xs1.length c1_7] 56)).cell? ⟨w7.heap.size, 0, none⟩ = some (.slice A1_7 xs1.length c1_7) ∧ True := bq8
  go_wp2_with fail
  clear q0 q1 q2
  have D0_7 := D0_6.trans (b7.mono D0_6.size)
  have D0_8 := D0_7.trans (b8.mono D0_7.size)
  refine (toII A2 c2 xs2 _ (Rxs2.below D0_8) zxs2.1 zzxs2).mono ?_
  rintro e w9 ⟨A2_9, c2_9, rfl, hc2_9, rA2_9, oA2_9, b9⟩
  have bq11 := BoxC.below bq9 b9
  have q0 : w9.cell? ⟨w.heap.size, 0, none⟩ = some (.int .i64 m0.c) ∧ w9.cell? ⟨w.heap.size, 1, none⟩ = some (.int .i64 m0.d) ∧ w9.cell? ⟨w.heap.size, 2, none⟩ = some (.int .i64 m0.s) ∧ w9.cell? ⟨w.heap.size, 3, none⟩ = some (.int .i64 m0.a) ∧ w9.cell? ⟨w.heap.size, 4, none⟩ = some (.int .i64 m0.l) ∧ True := bq11
  have bq12 := BoxC.below bq10 b9
  have q1 : w9.cell? ⟨w.heap.size + 1, 0, none⟩ = some (.slice A1 xs1.length c1) ∧ True := bq12
  have bq13 := BoxC.below bq8 b9
  have q2 : w9.cell? ⟨w7.heap.size, 0, none⟩ = some (.slice A1_7 xs1.length c1_7) ∧ True := bq13
  go_wp2_with fail
  clear q0 q1 q2
  have KS14 := Lib.hid (show ∀ w' : World, Below w9.heap.size w9 w' → ((w'.cell? ⟨w.heap.size, 0, none⟩ = some (.int .i64 m0.c) ∧ w'.cell? ⟨w.heap.size, 1, none⟩ = some (.int .i64 m0.d) ∧ w'.cell? ⟨w.heap.size, 2, none⟩ = some (.int .i64 m0.s) ∧ w'.cell? ⟨w.heap.size, 3, none⟩ = some (.int .i64 m0.a) ∧ w'.cell? ⟨w.heap.size, 4, none⟩ = some (.int .i64 m0.l) ∧ True) ∧ (w'.cell? ⟨w7.heap.size, 0, none⟩ = some (.slice A1_7 xs1.length c1_7) ∧ True)) from fun w' hb => ⟨BoxC.below bq11 hb, BoxC.below bq13 hb⟩)
  go_region_held3 (fun w' => (w'.cell? ⟨w.heap.size, 0, none⟩ = some (.int .i64 m0.c) ∧ w'.cell? ⟨w.heap.size, 1, none⟩ = some (.int .i64 m0.d) ∧ w'.cell? ⟨w.heap.size, 2, none⟩ = some (.int .i64 m0.s) ∧ w'.cell? ⟨w.heap.size, 3, none⟩ = some (.int .i64 m0.a) ∧ w'.cell? ⟨w.heap.size, 4, none⟩ = some (.int .i64 m0.l) ∧ True) ∧ (w'.cell? ⟨w7.heap.size, 0, none⟩ = some (.slice A1_7 xs1.length c1_7) ∧ True)) (first | (refine KS14.out _ ?_; first | assumption | exact belowDrew0 _)) (first | (go_at_call 56; have D7_9 := b8.trans (b9.mono b8.size); have D7_10 := D7_9.trans (b10.mono D7_9.size); refine (implHarmlessDepths_any m0 A1_7 c1_7 xs1 A2_9 c2_9 xs2 _ (rA1_7.below D7_10) (rA2_9.below b10)).mono ?_; rintro e w11 ⟨Ag0, cg0, rfl, hcg0, rg0, og0, b11⟩; have BS11 := Below.trans b10 (b11.mono (Below.size b10))) | (go_at_call 16; refine (toM m0.c m0.d m0.s m0.a m0.l _).mono ?_; rintro e w10 ⟨rfl, b10⟩; have b10 := belowDrew b10))
  have D9_11 := b10.trans (b11.mono b10.size)
  have bq15 := BoxC.below bq11 D9_11
  have q0 : w11.cell? ⟨w.heap.size, 0, none⟩ = some (.int .i64 m0.c) ∧ w11.cell? ⟨w.heap.size, 1, none⟩ = some (.int .i64 m0.d) ∧ w11.cell? ⟨w.heap.size, 2, none⟩ = some (.int .i64 m0.s) ∧ w11.cell? ⟨w.heap.size, 3, none⟩ = some (.int .i64 m0.a) ∧ w11.cell? ⟨w.heap.size, 4, none⟩ = some (.int .i64 m0.l) ∧ True := bq15
  have bq16 := BoxC.below bq12 D9_11
  have q1 : w11.cell? ⟨w.heap.size + 1, 0, none⟩ = some (.slice A1 xs1.length c1) ∧ True := bq16
  have bq17 := BoxC.below bq13 D9_11
  have q2 : w11.cell? ⟨w7.heap.size, 0, none⟩ = some (.slice A1_7 xs1.length c1_7) ∧ True := bq17
  go_wp2_with fail
  clear q0 q1 q2
  have D6_9 := D6_8.trans (b9.mono D6_8.size)
  have D6_10 := D6_9.trans (b10.mono D6_9.size)
  have D6_11 := D6_10.trans (b11.mono D6_10.size)
  refine (eqII_t Ag0 As0 cg0 cs0 (harmR m0 xs1 xs2).1 _ rg0 (rs0.below D6_11)).mono ?_
  rintro e w12 ⟨rfl, b12⟩
  have bq18 := BoxC.below bq15 b12
  have q0 : w12.cell? ⟨w.heap.size, 0, none⟩ = some (.int .i64 m0.c) ∧ w12.cell? ⟨w.heap.size, 1, none⟩ = some (.int .i64 m0.d) ∧ w12.cell? ⟨w.heap.size, 2, none⟩ = some (.int .i64 m0.s) ∧ w12.cell? ⟨w.heap.size, 3, none⟩ = some (.int .i64 m0.a) ∧ w12.cell? ⟨w.heap.size, 4, none⟩ = some (.int .i64 m0.l) ∧ True := bq18
  have bq19 := BoxC.below bq16 b12
  have q1 : w12.cell? ⟨w.heap.size + 1, 0, none⟩ = some (.slice A1 xs1.length c1) ∧ True := bq19
  have bq20 := BoxC.below bq17 b12
  have q2 : w12.cell? ⟨w7.heap.size, 0, none⟩ = some (.slice A1_7 xs1.length c1_7) ∧ True := bq20
  go_wp2_with fail
  clear q0 q1 q2
  have KS21 := Lib.hid (show ∀ w' : World, Below w12.heap.size w12 w' → ((w'.cell? ⟨w.heap.size + 1, 0, none⟩ = some (.slice A1 xs1.length c1) ∧ True) ∧ (w'.cell? ⟨w7.heap.size, 0, none⟩ = some (.slice A1_7 xs1.length c1_7) ∧ True)) from fun w' hb => ⟨BoxC.below bq19 hb, BoxC.below bq20 hb⟩)
  go_region_held3 (fun w' => (w'.cell? ⟨w.heap.size + 1, 0, none⟩ = some (.slice A1 xs1.length c1) ∧ True) ∧ (w'.cell? ⟨w7.heap.size, 0, none⟩ = some (.slice A1_7 xs1.length c1_7) ∧ True)) (first | (refine KS21.out _ ?_; first | assumption | exact belowDrew0 _)) (first | (go_at_call 41; have D7_11 := D7_10.trans (b11.mono D7_10.size); have D7_12 := D7_11.trans (b12.mono D7_11.size); have D7_13 := D7_12.trans (b13.mono D7_12.size); refine (eqL_t A1_7 A1_13 c1_7 c1_13 xs1 _ (rA1_7.below D7_13) rA1_13).mono ?_; rintro e w14 ⟨rfl, b14⟩; have BS14 := Below.trans b13 (b14.mono (Below.size b13))) | (go_at_call 38; have D0_9 := D0_8.trans (b9.mono D0_8.size); have D0_10 := D0_9.trans (b10.mono D0_9.size); have D0_11 := D0_10.trans (b11.mono D0_10.size); have D0_12 := D0_11.trans (b12.mono D0_11.size); refine (toL A1 c1 xs1 _ ((Rxs1.below D0_12).below (belowDrew0 _)) zxs1.1 zzxs1).mono ?_; rintro e w13 ⟨A1_13, c1_13, rfl, hc1_13, rA1_13, oA1_13, b13⟩; have b13 := belowDrew b13))
  have D12_14 := b13.trans (b14.mono b13.size)
  have bq22 := BoxC.below bq18 D12_14
  have q0 : w14.cell? ⟨w.heap.size, 0, none⟩ = some (.int .i64 m0.c) ∧ w14.cell? ⟨w.heap.size, 1, none⟩ = some (.int .i64 m0.d) ∧ w14.cell? ⟨w.heap.size, 2, none⟩ = some (.int .i64 m0.s) ∧ w14.cell? ⟨w.heap.size, 3, none⟩ = some (.int .i64 m0.a) ∧ w14.cell? ⟨w.heap.size, 4, none⟩ = some (.int .i64 m0.l) ∧ True := bq22
  have bq23 := BoxC.below bq19 D12_14
  have q1 : w14.cell? ⟨w.heap.size + 1, 0, none⟩ = some (.slice A1 xs1.length c1) ∧ True := bq23
  have bq24 := BoxC.below bq20 D12_14
  have q2 : w14.cell? ⟨w7.heap.size, 0, none⟩ = some (.slice A1_7 xs1.length c1_7) ∧ True := bq24
  go_wp2_with fail
  clear q0 q1 q2
  have D0_13 := D0_12.trans (b13.mono D0_12.size)
  have D0_14 := D0_13.trans (b14.mono D0_13.size)
  refine (toII A2 c2 xs2 _ (Rxs2.below D0_14) zxs2.1 zzxs2).mono ?_
  rintro e w15 ⟨A2_15, c2_15, rfl, hc2_15, rA2_15, oA2_15, b15⟩
  have bq25 := BoxC.below bq22 b15
  have q0 : w15.cell? ⟨w.heap.size, 0, none⟩ = some (.int .i64 m0.c) ∧ w15.cell? ⟨w.heap.size, 1, none⟩ = some (.int .i64 m0.d) ∧ w15.cell? ⟨w.heap.size, 2, none⟩ = some (.int .i64 m0.s) ∧ w15.cell? ⟨w.heap.size, 3, none⟩ = some (.int .i64 m0.a) ∧ w15.cell? ⟨w.heap.size, 4, none⟩ = some (.int .i64 m0.l) ∧ True := bq25
  have bq26 := BoxC.below bq23 b15
  have q1 : w15.cell? ⟨w.heap.size + 1, 0, none⟩ = some (.slice A1 xs1.length c1) ∧ True := bq26
  have bq27 := BoxC.below bq24 b15
  have q2 : w15.cell? ⟨w7.heap.size, 0, none⟩ = some (.slice A1_7 xs1.length c1_7) ∧ True := bq27
  go_wp2_with fail
  clear q0 q1 q2
  have D9_12 := D9_11.trans (b12.mono D9_11.size)
  have D9_13 := D9_12.trans (b13.mono D9_12.size)
  have D9_14 := D9_13.trans (b14.mono D9_13.size)
  have D9_15 := D9_14.trans (b15.mono D9_14.size)
  refine (eqII_t A2_9 A2_15 c2_9 c2_15 xs2 _ (rA2_9.below D9_15) rA2_15).mono ?_
  rintro e w16 ⟨rfl, b16⟩
  have bq28 := BoxC.below bq25 b16
  have q0 : w16.cell? ⟨w.heap.size, 0, none⟩ = some (.int .i64 m0.c) ∧ w16.cell? ⟨w.heap.size, 1, none⟩ = some (.int .i64 m0.d) ∧ w16.cell? ⟨w.heap.size, 2, none⟩ = some (.int .i64 m0.s) ∧ w16.cell? ⟨w.heap.size, 3, none⟩ = some (.int .i64 m0.a) ∧ w16.cell? ⟨w.heap.size, 4, none⟩ = some (.int .i64 m0.l) ∧ True := bq28
  have bq29 := BoxC.below bq26 b16
  have q1 : w16.cell? ⟨w.heap.size + 1, 0, none⟩ = some (.slice A1 xs1.length c1) ∧ True := bq29
  have bq30 := BoxC.below bq27 b16
  have q2 : w16.cell? ⟨w7.heap.size, 0, none⟩ = some (.slice A1_7 xs1.length c1_7) ∧ True := bq30
  go_wp2_with fail
  clear q0 q1 q2
  have D7_14 := D7_13.trans (b14.mono D7_13.size)
  have D7_15 := D7_14.trans (b15.mono D7_14.size)
  have D7_16 := D7_15.trans (b16.mono D7_15.size)
  have Y31 := oA1_7.below (D7_16.mono (Nat.le_refl _))
  have D9_16 := D9_15.trans (b16.mono D9_15.size)
  have Y32 := oA2_9.below (D9_16.mono (Nat.le_refl _))
  have D11_13 := b12.trans (b13.mono b12.size)
  have D11_14 := D11_13.trans (b14.mono D11_13.size)
  have D11_15 := D11_14.trans (b15.mono D11_14.size)
  have D11_16 := D11_15.trans (b16.mono D11_15.size)
  have Y33 := og0.below (D11_16.mono (Nat.le_refl _))
  have S7_9 := Nat.le_trans (b8.size) b9.size
  have S7_10 := Nat.le_trans (S7_9) b10.size
  have S7_11 := Nat.le_trans (S7_10) b11.size
  have S7_12 := Nat.le_trans (S7_11) b12.size
  have S7_13 := Nat.le_trans (S7_12) b13.size
  have S7_14 := Nat.le_trans (S7_13) b14.size
  have S7_15 := Nat.le_trans (S7_14) b15.size
  have S7_16 := Nat.le_trans (S7_15) b16.size
  refine (markL_t (.slice A1_7 xs1.length c1_7) xs1 _ _ _ _ Y31 (by omega) (by omega) (by omega) (by omega) (S7_16)).mono ?_
  rintro e w17 ⟨rfl, Y34, on17⟩
  have S0_2 := Nat.le_trans (b1.size) b2.size
  have S0_3 := Nat.le_trans (S0_2) b3.size
  have S0_4 := Nat.le_trans (S0_3) b4.size
  have S0_5 := Nat.le_trans (S0_4) b5.size
  have S0_6 := Nat.le_trans (S0_5) b6.size
  have bq35 := BoxC.only bq28 on17 (Or.inl (Nat.lt_of_lt_of_le (by simp only [World.size_alloc]; omega) (S0_6)))
  have q0 : w17.cell? ⟨w.heap.size, 0, none⟩ = some (.int .i64 m0.c) ∧ w17.cell? ⟨w.heap.size, 1, none⟩ = some (.int .i64 m0.d) ∧ w17.cell? ⟨w.heap.size, 2, none⟩ = some (.int .i64 m0.s) ∧ w17.cell? ⟨w.heap.size, 3, none⟩ = some (.int .i64 m0.a) ∧ w17.cell? ⟨w.heap.size, 4, none⟩ = some (.int .i64 m0.l) ∧ True := bq35
  have bq36 := BoxC.only bq29 on17 (Or.inl (Nat.lt_of_lt_of_le (by simp only [World.size_alloc]; omega) (S0_6)))
  have q1 : w17.cell? ⟨w.heap.size + 1, 0, none⟩ = some (.slice A1 xs1.length c1) ∧ True := bq36
  have bq37 := BoxC.only bq30 on17 (Or.inr (Nat.le_refl _))
  have q2 : w17.cell? ⟨w7.heap.size, 0, none⟩ = some (.slice A1_7 xs1.length c1_7) ∧ True := bq37
  go_wp2_with fail
  clear q0 q1 q2
  have Y38 := Y32.only on17 (Or.inr (b8.size))
  have Y39 := Y33.only on17 (Or.inr (S7_10))
  refine (markII_t (.slice A2_9 xs2.length c2_9) xs2 _ _ _ _ Y38 (by omega) (by omega) (by omega) (by omega)).mono ?_
  rintro e w18 ⟨rfl, Y40, on18⟩
  have S0_7 := Nat.le_trans (S0_6) b7.size
  have S0_8 := Nat.le_trans (S0_7) b8.size
  have bq41 := BoxC.only bq35 on18 (Or.inl (Nat.lt_of_lt_of_le (by simp only [World.size_alloc]; omega) (S0_8)))
  have q0 : w18.cell? ⟨w.heap.size, 0, none⟩ = some (.int .i64 m0.c) ∧ w18.cell? ⟨w.heap.size, 1, none⟩ = some (.int .i64 m0.d) ∧ w18.cell? ⟨w.heap.size, 2, none⟩ = some (.int .i64 m0.s) ∧ w18.cell? ⟨w.heap.size, 3, none⟩ = some (.int .i64 m0.a) ∧ w18.cell? ⟨w.heap.size, 4, none⟩ = some (.int .i64 m0.l) ∧ True := bq41
  have bq42 := BoxC.only bq36 on18 (Or.inl (Nat.lt_of_lt_of_le (by simp only [World.size_alloc]; omega) (S0_8)))
  have q1 : w18.cell? ⟨w.heap.size + 1, 0, none⟩ = some (.slice A1 xs1.length c1) ∧ True := bq42
  have bq43 := BoxC.only bq37 on18 (Or.inl (Nat.lt_of_lt_of_le (by first | exact Nat.lt_succ_self _ | simp) (Nat.le_refl _)))
  have q2 : w18.cell? ⟨w7.heap.size, 0, none⟩ = some (.slice A1_7 xs1.length c1_7) ∧ True := bq43
  go_wp2_with fail
  clear q0 q1 q2
  have Y44 := Y39.only on18 (Or.inr (b10.size))
  have S8_10 := Nat.le_trans (b9.size) b10.size
  have S8_11 := Nat.le_trans (S8_10) b11.size
  have S8_12 := Nat.le_trans (S8_11) b12.size
  have S8_13 := Nat.le_trans (S8_12) b13.size
  have S8_14 := Nat.le_trans (S8_13) b14.size
  have S8_15 := Nat.le_trans (S8_14) b15.size
  have S8_16 := Nat.le_trans (S8_15) b16.size
  have S8_17 := Nat.le_trans (S8_16) on17.size
  have S6_8 := Nat.le_trans (b7.size) b8.size
  have S6_9 := Nat.le_trans (S6_8) b9.size
  have S6_10 := Nat.le_trans (S6_9) b10.size
  have S6_11 := Nat.le_trans (S6_10) b11.size
  have S6_12 := Nat.le_trans (S6_11) b12.size
  have S6_13 := Nat.le_trans (S6_12) b13.size
  have S6_14 := Nat.le_trans (S6_13) b14.size
  have S6_15 := Nat.le_trans (S6_14) b15.size
  have S6_16 := Nat.le_trans (S6_15) b16.size
  have D6_12 := D6_11.trans (b12.mono D6_11.size)
  have D6_13 := D6_12.trans (b13.mono D6_12.size)
  have D6_14 := D6_13.trans (b14.mono D6_13.size)
  have D6_15 := D6_14.trans (b15.mono D6_14.size)
  have D6_16 := D6_15.trans (b16.mono D6_15.size)
  have D6_17 := D6_16.trans (on17.below (S6_16))
  have D6_18 := D6_17.trans ((on18.below (S8_17)).mono (S6_8))
  refine (eqII_t Ag0 As0 cg0 cs0 (harmR m0 xs1 xs2).1 _ (OII.rii Y44) (rs0.below D6_18)).mono ?_
  rintro e w19 ⟨rfl, b19⟩
  have bq45 := BoxC.below bq41 b19
  have q0 : w19.cell? ⟨w.heap.size, 0, none⟩ = some (.int .i64 m0.c) ∧ w19.cell? ⟨w.heap.size, 1, none⟩ = some (.int .i64 m0.d) ∧ w19.cell? ⟨w.heap.size, 2, none⟩ = some (.int .i64 m0.s) ∧ w19.cell? ⟨w.heap.size, 3, none⟩ = some (.int .i64 m0.a) ∧ w19.cell? ⟨w.heap.size, 4, none⟩ = some (.int .i64 m0.l) ∧ True := bq45
  have bq46 := BoxC.below bq42 b19
  have q1 : w19.cell? ⟨w.heap.size + 1, 0, none⟩ = some (.slice A1 xs1.length c1) ∧ True := bq46
  have bq47 := BoxC.below bq43 b19
  have q2 : w19.cell? ⟨w7.heap.size, 0, none⟩ = some (.slice A1_7 xs1.length c1_7) ∧ True := bq47
  go_wp2_with fail
  clear q0 q1 q2
  have S11_13 := Nat.le_trans (b12.size) b13.size
  have S11_14 := Nat.le_trans (S11_13) b14.size
  have S11_15 := Nat.le_trans (S11_14) b15.size
  have S11_16 := Nat.le_trans (S11_15) b16.size
  have S11_17 := Nat.le_trans (S11_16) on17.size
  have S11_18 := Nat.le_trans (S11_17) on18.size
  have Y48 := Y44.below (b19.mono (S11_18))
  refine (markII_t (.slice Ag0 (harmR m0 xs1 xs2).1.length cg0) (harmR m0 xs1 xs2).1 _ _ _ _ Y48 (by omega) (by omega) (by omega) (by omega)).mono ?_
  rintro e w20 ⟨rfl, Y49, on20⟩
  have S0_9 := Nat.le_trans (S0_8) b9.size
  have S0_10 := Nat.le_trans (S0_9) b10.size
  have bq50 := BoxC.only bq45 on20 (Or.inl (Nat.lt_of_lt_of_le (by simp only [World.size_alloc]; omega) (S0_10)))
  have q0 : w20.cell? ⟨w.heap.size, 0, none⟩ = some (.int .i64 m0.c) ∧ w20.cell? ⟨w.heap.size, 1, none⟩ = some (.int .i64 m0.d) ∧ w20.cell? ⟨w.heap.size, 2, none⟩ = some (.int .i64 m0.s) ∧ w20.cell? ⟨w.heap.size, 3, none⟩ = some (.int .i64 m0.a) ∧ w20.cell? ⟨w.heap.size, 4, none⟩ = some (.int .i64 m0.l) ∧ True := bq50
  have bq51 := BoxC.only bq46 on20 (Or.inl (Nat.lt_of_lt_of_le (by simp only [World.size_alloc]; omega) (S0_10)))
  have q1 : w20.cell? ⟨w.heap.size + 1, 0, none⟩ = some (.slice A1 xs1.length c1) ∧ True := bq51
  have bq52 := BoxC.only bq47 on20 (Or.inl (Nat.lt_of_lt_of_le (by first | exact Nat.lt_succ_self _ | simp) (S8_10)))
  have q2 : w20.cell? ⟨w7.heap.size, 0, none⟩ = some (.slice A1_7 xs1.length c1_7) ∧ True := bq52
  go_wp2_with fail
  clear q0 q1 q2
  refine (heldII_t Ag0 cg0 (harmR m0 xs1 xs2).1 _ _ (OII.rii Y49) (by omega) (by omega) (by omega) (by omega)).mono ?_
  rintro e w21 ⟨rfl, b21⟩
  have bq53 := BoxC.below bq50 b21
  have q0 : w21.cell? ⟨w.heap.size, 0, none⟩ = some (.int .i64 m0.c) ∧ w21.cell? ⟨w.heap.size, 1, none⟩ = some (.int .i64 m0.d) ∧ w21.cell? ⟨w.heap.size, 2, none⟩ = some (.int .i64 m0.s) ∧ w21.cell? ⟨w.heap.size, 3, none⟩ = some (.int .i64 m0.a) ∧ w21.cell? ⟨w.heap.size, 4, none⟩ = some (.int .i64 m0.l) ∧ True := bq53
  have bq54 := BoxC.below bq51 b21
  have q1 : w21.cell? ⟨w.heap.size + 1, 0, none⟩ = some (.slice A1 xs1.length c1) ∧ True := bq54
  have bq55 := BoxC.below bq52 b21
  have q2 : w21.cell? ⟨w7.heap.size, 0, none⟩ = some (.slice A1_7 xs1.length c1_7) ∧ True := bq55
  go_wp2_with fail
  clear q0 q1 q2
  have KS56 := Lib.hid (show ∀ w' : World, Below w21.heap.size w21 w' → ((w'.cell? ⟨w.heap.size, 0, none⟩ = some (.int .i64 m0.c) ∧ w'.cell? ⟨w.heap.size, 1, none⟩ = some (.int .i64 m0.d) ∧ w'.cell? ⟨w.heap.size, 2, none⟩ = some (.int .i64 m0.s) ∧ w'.cell? ⟨w.heap.size, 3, none⟩ = some (.int .i64 m0.a) ∧ w'.cell? ⟨w.heap.size, 4, none⟩ = some (.int .i64 m0.l) ∧ True) ∧ (w'.cell? ⟨w.heap.size + 1, 0, none⟩ = some (.slice A1 xs1.length c1) ∧ True)) from fun w' hb => ⟨BoxC.below bq53 hb, BoxC.below bq54 hb⟩)
  go_region_held3 (fun w' => (w'.cell? ⟨w.heap.size, 0, none⟩ = some (.int .i64 m0.c) ∧ w'.cell? ⟨w.heap.size, 1, none⟩ = some (.int .i64 m0.d) ∧ w'.cell? ⟨w.heap.size, 2, none⟩ = some (.int .i64 m0.s) ∧ w'.cell? ⟨w.heap.size, 3, none⟩ = some (.int .i64 m0.a) ∧ w'.cell? ⟨w.heap.size, 4, none⟩ = some (.int .i64 m0.l) ∧ True) ∧ (w'.cell? ⟨w.heap.size + 1, 0, none⟩ = some (.slice A1 xs1.length c1) ∧ True)) (first | (refine KS56.out _ ?_; first | assumption | exact belowDrew0 _)) (first | (go_at_call 56; have D21_24 := D21_23.trans (b24.mono D21_23.size); refine (implHarmlessDepths_any m0 A1_23 c1_23 xs1 A2_24 c2_24 xs2 _ (rA1_23.below b24) rA2_24).mono ?_; rintro e w25 ⟨Ah0, ch0, rfl, hch0, rh0, oh0, b25⟩; have BS25 := Below.trans BS24 (b25.mono (Below.size BS24))) | (go_at_call 39; have D21_23 := b22.trans (b23.mono b22.size); have D0_23 := D0_22.trans (b23.mono D0_22.size); refine (toII A2 c2 xs2 _ (Rxs2.below D0_23) zxs2.1 zzxs2).mono ?_; rintro e w24 ⟨A2_24, c2_24, rfl, hc2_24, rA2_24, oA2_24, b24⟩; have BS24 := Below.trans BS23 (b24.mono (Below.size BS23))) | (go_at_call 38; have S10_12 := Nat.le_trans (b11.size) b12.size; have S10_13 := Nat.le_trans (S10_12) b13.size; have S10_14 := Nat.le_trans (S10_13) b14.size; have S10_15 := Nat.le_trans (S10_14) b15.size; have S10_16 := Nat.le_trans (S10_15) b16.size; have S10_17 := Nat.le_trans (S10_16) on17.size; have S10_18 := Nat.le_trans (S10_17) on18.size; have S10_19 := Nat.le_trans (S10_18) b19.size; have D0_15 := D0_14.trans (b15.mono D0_14.size); have D0_16 := D0_15.trans (b16.mono D0_15.size); have D0_17 := D0_16.trans ((on17.below (S6_16)).mono (S0_6)); have D0_18 := D0_17.trans ((on18.below (S8_17)).mono (S0_8)); have D0_19 := D0_18.trans (b19.mono D0_18.size); have D0_20 := D0_19.trans ((on20.below (S10_19)).mono (S0_10)); have D0_21 := D0_20.trans (b21.mono D0_20.size); have D0_22 := D0_21.trans (b22.mono D0_21.size); refine (toL A1 c1 xs1 _ (Rxs1.below D0_22) zxs1.1 zzxs1).mono ?_; rintro e w23 ⟨A1_23, c1_23, rfl, hc1_23, rA1_23, oA1_23, b23⟩; have BS23 := Below.trans b22 (b23.mono (Below.size b22))) | (go_at_call 16; refine (toM m0.c m0.d m0.s m0.a m0.l _).mono ?_; rintro e w22 ⟨rfl, b22⟩; have b22 := belowDrew b22))
  have D21_25 := D21_24.trans (b25.mono D21_24.size)
  have bq57 := BoxC.below bq53 D21_25
  have q0 : w25.cell? ⟨w.heap.size, 0, none⟩ = some (.int .i64 m0.c) ∧ w25.cell? ⟨w.heap.size, 1, none⟩ = some (.int .i64 m0.d) ∧ w25.cell? ⟨w.heap.size, 2, none⟩ = some (.int .i64 m0.s) ∧ w25.cell? ⟨w.heap.size, 3, none⟩ = some (.int .i64 m0.a) ∧ w25.cell? ⟨w.heap.size, 4, none⟩ = some (.int .i64 m0.l) ∧ True := bq57
  have bq58 := BoxC.below bq54 D21_25
  have q1 : w25.cell? ⟨w.heap.size + 1, 0, none⟩ = some (.slice A1 xs1.length c1) ∧ True := bq58
  have bq59 := BoxC.below bq55 D21_25
  have q2 : w25.cell? ⟨w7.heap.size, 0, none⟩ = some (.slice A1_7 xs1.length c1_7) ∧ True := bq59
  go_wp2_with fail
  clear q0 q1 q2
  have D6_19 := D6_18.trans (b19.mono D6_18.size)
  have D6_20 := D6_19.trans ((on20.below (S10_19)).mono (S6_10))
  have D6_21 := D6_20.trans (b21.mono D6_20.size)
  have D6_22 := D6_21.trans (b22.mono D6_21.size)
  have D6_23 := D6_22.trans (b23.mono D6_22.size)
  have D6_24 := D6_23.trans (b24.mono D6_23.size)
  have D6_25 := D6_24.trans (b25.mono D6_24.size)
  refine (eqII_t Ah0 As0 ch0 cs0 (harmR m0 xs1 xs2).1 _ rh0 (rs0.below D6_25)).mono ?_
  rintro e w26 ⟨rfl, b26⟩
  have bq60 := BoxC.below bq57 b26
  have q0 : w26.cell? ⟨w.heap.size, 0, none⟩ = some (.int .i64 m0.c) ∧ w26.cell? ⟨w.heap.size, 1, none⟩ = some (.int .i64 m0.d) ∧ w26.cell? ⟨w.heap.size, 2, none⟩ = some (.int .i64 m0.s) ∧ w26.cell? ⟨w.heap.size, 3, none⟩ = some (.int .i64 m0.a) ∧ w26.cell? ⟨w.heap.size, 4, none⟩ = some (.int .i64 m0.l) ∧ True := bq60
  have bq61 := BoxC.below bq58 b26
  have q1 : w26.cell? ⟨w.heap.size + 1, 0, none⟩ = some (.slice A1 xs1.length c1) ∧ True := bq61
  have bq62 := BoxC.below bq59 b26
  have q2 : w26.cell? ⟨w7.heap.size, 0, none⟩ = some (.slice A1_7 xs1.length c1_7) ∧ True := bq62
  go_wp2_with fail
  clear q0 q1 q2
  have D20_22 := b21.trans (b22.mono b21.size)
  have D20_23 := D20_22.trans (b23.mono D20_22.size)
  have D20_24 := D20_23.trans (b24.mono D20_23.size)
  have D20_25 := D20_24.trans (b25.mono D20_24.size)
  have D20_26 := D20_25.trans (b26.mono D20_25.size)
  have S11_19 := Nat.le_trans (S11_18) b19.size
  have S11_20 := Nat.le_trans (S11_19) on20.size
  have Y63 := Y49.below (D20_26.mono (S11_20))
  refine (heldII_t Ag0 cg0 (harmR m0 xs1 xs2).1 _ _ (OII.rii Y63) (by omega) (by omega) (by omega) (by omega)).mono ?_
  rintro e w27 ⟨rfl, b27⟩
  have D0_24 := D0_23.trans (b24.mono D0_23.size)
  have D0_25 := D0_24.trans (b25.mono D0_24.size)
  have D0_26 := D0_25.trans (b26.mono D0_25.size)
  have D0_27 := D0_26.trans (b27.mono D0_26.size)
  have DD := D0_27
  have bq64 := BoxC.below bq60 b27
  have q0 : w27.cell? ⟨w.heap.size, 0, none⟩ = some (.int .i64 m0.c) ∧ w27.cell? ⟨w.heap.size, 1, none⟩ = some (.int .i64 m0.d) ∧ w27.cell? ⟨w.heap.size, 2, none⟩ = some (.int .i64 m0.s) ∧ w27.cell? ⟨w.heap.size, 3, none⟩ = some (.int .i64 m0.a) ∧ w27.cell? ⟨w.heap.size, 4, none⟩ = some (.int .i64 m0.l) ∧ True := bq64
  have bq65 := BoxC.below bq61 b27
  have q1 : w27.cell? ⟨w.heap.size + 1, 0, none⟩ = some (.slice A1 xs1.length c1) ∧ True := bq65
  have bq66 := BoxC.below bq62 b27
  have q2 : w27.cell? ⟨w7.heap.size, 0, none⟩ = some (.slice A1_7 xs1.length c1_7) ∧ True := bq66
  go_wp2_with fail
  go_ret
  exact ⟨rfl, HB0.trans (DD.mono HB0.size)⟩
end Go.Proofs.Ytcdajogdpgjgjaa.fnExactHarmlessDepths
