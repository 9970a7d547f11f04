/- The walk of the law FnExactChangeKeys. -/
import Derived.Test.YtcdajogdpgjgjaaFChKeys
import Derived.Test.YtcdajogdpgjgjaaHelpP
namespace Go.Proofs.Ytcdajogdpgjgjaa.fnExactChangeKeys
set_option linter.unusedVariables false
open Go.RowKit
theorem lens (m : Mk) (xs ys : List Int) (s most : Int) : (chKeysR m xs ys s most).1.length ≤ 4194304 ∧ sumLen (chKeysR m xs ys s most).1 ≤ 1048576 := by
  unfold chKeysR
  split
  · rename_i h
    split
    · rename_i h2
      have : most ≤ 300 := by have := h2; simp [inB] at this; omega
      exact keys_lens m (prog_facts h).1 _ most.toNat (by omega)
    · simp [sumLen]
  · simp [sumLen]
set_option maxRecDepth 100000 in
set_option maxHeartbeats 8000000 in
theorem walk (m0 : Mk) (A1 : Option Addr) (c1 : Nat) (xs1 : List Int) (B1 : Option Addr) (d1 : Nat) (ys1 : List Int) (s1 : Int) (n2 : Int) (w : World) (hc1 : xs1.length ≤ c1) (h1 : RI w A1 xs1) (hd1 : ys1.length ≤ d1) (k1 : RI w B1 ys1) (g2 : (Lit.int .i64 n2).wf = true) :
    Calls Try.prog 6 #[.agg #[.int .i64 m0.c, .int .i64 m0.d, .int .i64 m0.s, .int .i64 m0.a, .int .i64 m0.l], .agg #[.slice A1 xs1.length c1, .slice B1 ys1.length d1, .int .i64 s1], .int .i64 n2] w fun e w' => e = .returned (.bool true) ∧ Below w.heap.size w w' := by
  have lens0 := lens m0 xs1 ys1 s1 n2
  have HB0 : Below w.heap.size w ((w.alloc (.cells #[.int .i64 m0.c, .int .i64 m0.d, .int .i64 m0.s, .int .i64 m0.a, .int .i64 m0.l] 23)).alloc (.cells #[.slice A1 xs1.length c1, .slice B1 ys1.length d1, .int .i64 s1] 33)) := ((Below.refl w.heap.size w).alloc (by exact Nat.le_refl _) _).alloc (by simp only [World.size_alloc]; omega) _
  have bx0 : BoxC ((w.alloc (.cells #[.int .i64 m0.c, .int .i64 m0.d, .int .i64 m0.s, .int .i64 m0.a, .int .i64 m0.l] 23)).alloc (.cells #[.slice A1 xs1.length c1, .slice B1 ys1.length d1, .int .i64 s1] 33)) (w.heap.size) 0 [.int .i64 m0.c, .int .i64 m0.d, .int .i64 m0.s, .int .i64 m0.a, .int .i64 m0.l] := by simp [BoxC, Go.World.cell?_alloc_at, Go.World.cell?_alloc_past]
  have bx1 : BoxC ((w.alloc (.cells #[.int .i64 m0.c, .int .i64 m0.d, .int .i64 m0.s, .int .i64 m0.a, .int .i64 m0.l] 23)).alloc (.cells #[.slice A1 xs1.length c1, .slice B1 ys1.length d1, .int .i64 s1] 33)) (w.heap.size + 1) 0 [.slice A1 xs1.length c1, .slice B1 ys1.length d1, .int .i64 s1] := by simp [BoxC, Go.World.cell?_alloc_at]
  have Rxs1 := ((h1).alloc (.cells #[.int .i64 m0.c, .int .i64 m0.d, .int .i64 m0.s, .int .i64 m0.a, .int .i64 m0.l] 23)).alloc (.cells #[.slice A1 xs1.length c1, .slice B1 ys1.length d1, .int .i64 s1] 33)
  have Rys1 := ((k1).alloc (.cells #[.int .i64 m0.c, .int .i64 m0.d, .int .i64 m0.s, .int .i64 m0.a, .int .i64 m0.l] 23)).alloc (.cells #[.slice A1 xs1.length c1, .slice B1 ys1.length d1, .int .i64 s1] 33)
  go_enter Try.func6, Try.ntmps6
  have q0 : ((w.alloc (.cells #[.int .i64 m0.c, .int .i64 m0.d, .int .i64 m0.s, .int .i64 m0.a, .int .i64 m0.l] 23)).alloc (.cells #[.slice A1 xs1.length c1, .slice B1 ys1.length d1, .int .i64 s1] 33)).cell? ⟨w.heap.size, 0, none⟩ = some (.int .i64 m0.c) ∧ ((w.alloc (.cells #[.int .i64 m0.c, .int .i64 m0.d, .int .i64 m0.s, .int .i64 m0.a, .int .i64 m0.l] 23)).alloc (.cells #[.slice A1 xs1.length c1, .slice B1 ys1.length d1, .int .i64 s1] 33)).cell? ⟨w.heap.size, 1, none⟩ = some (.int .i64 m0.d) ∧ ((w.alloc (.cells #[.int .i64 m0.c, .int .i64 m0.d, .int .i64 m0.s, .int .i64 m0.a, .int .i64 m0.l] 23)).alloc (.cells #[.slice A1 xs1.length c1, .slice B1 ys1.length d1, .int .i64 s1] 33)).cell? ⟨w.heap.size, 2, none⟩ = some (.int .i64 m0.s) ∧ ((w.alloc (.cells #[.int .i64 m0.c, .int .i64 m0.d, .int .i64 m0.s, .int .i64 m0.a, .int .i64 m0.l] 23)).alloc (.cells #[.slice A1 xs1.length c1, .slice B1 ys1.length d1, .int .i64 s1] 33)).cell? ⟨w.heap.size, 3, none⟩ = some (.int .i64 m0.a) ∧ ((w.alloc (.cells #[.int .i64 m0.c, .int .i64 m0.d, .int .i64 m0.s, .int .i64 m0.a, .int .i64 m0.l] 23)).alloc (.cells #[.slice A1 xs1.length c1, .slice B1 ys1.length d1, .int .i64 s1] 33)).cell? ⟨w.heap.size, 4, none⟩ = some (.int .i64 m0.l) ∧ True := bx0
  have q1 : ((w.alloc (.cells #[.int .i64 m0.c, .int .i64 m0.d, .int .i64 m0.s, .int .i64 m0.a, .int .i64 m0.l] 23)).alloc (.cells #[.slice A1 xs1.length c1, .slice B1 ys1.length d1, .int .i64 s1] 33)).cell? ⟨w.heap.size + 1, 0, none⟩ = some (.slice A1 xs1.length c1) ∧ ((w.alloc (.cells #[.int .i64 m0.c, .int .i64 m0.d, .int .i64 m0.s, .int .i64 m0.a, .int .i64 m0.l] 23)).alloc (.cells #[.slice A1 xs1.length c1, .slice B1 ys1.length d1, .int .i64 s1] 33)).cell? ⟨w.heap.size + 1, 1, none⟩ = some (.slice B1 ys1.length d1) ∧ ((w.alloc (.cells #[.int .i64 m0.c, .int .i64 m0.d, .int .i64 m0.s, .int .i64 m0.a, .int .i64 m0.l] 23)).alloc (.cells #[.slice A1 xs1.length c1, .slice B1 ys1.length d1, .int .i64 s1] 33)).cell? ⟨w.heap.size + 1, 2, none⟩ = some (.int .i64 s1) ∧ True := bx1
  go_wp2_with fail
  clear q0 q1
  refine (szP A1 c1 xs1 B1 d1 ys1 s1 _ _ Rxs1 Rys1 (by omega) (by omega)).mono ?_
  rintro e w1 ⟨r1, rfl, hL1, b1, hm1⟩
  by_cases hz1 : r1 < 0
  case pos =>
    go_wp2_with fail
    go_ret
    exact ⟨rfl, HB0.trans (b1.mono HB0.size)⟩
  have hL12 := hL1.2 (by omega)
  have hL11 := hL1.1
  have zxs1 : xs1.length ≤ 1048576 := by omega
  have zys1 : ys1.length ≤ 1048576 := by omega
  have zt1 : (xs1.length : Nat) + (ys1.length : Nat) + r1 ≤ 1048576 := by omega
  have Hz1 := Lib.hid hL12; clear hL12 hL1
  have bq1 := BoxC.below bx0 b1
  have q0 : w1.cell? ⟨w.heap.size, 0, none⟩ = some (.int .i64 m0.c) ∧ w1.cell? ⟨w.heap.size, 1, none⟩ = some (.int .i64 m0.d) ∧ w1.cell? ⟨w.heap.size, 2, none⟩ = some (.int .i64 m0.s) ∧ w1.cell? ⟨w.heap.size, 3, none⟩ = some (.int .i64 m0.a) ∧ w1.cell? ⟨w.heap.size, 4, none⟩ = some (.int .i64 m0.l) ∧ True := bq1
  have bq2 := BoxC.below bx1 b1
  have q1 : w1.cell? ⟨w.heap.size + 1, 0, none⟩ = some (.slice A1 xs1.length c1) ∧ w1.cell? ⟨w.heap.size + 1, 1, none⟩ = some (.slice B1 ys1.length d1) ∧ w1.cell? ⟨w.heap.size + 1, 2, none⟩ = some (.int .i64 s1) ∧ True := bq2
  go_wp2_with fail
  clear q0 q1
  have KS3 := Lib.hid (show ∀ w' : World, Below w1.heap.size w1 w' → ((w'.cell? ⟨w.heap.size, 0, none⟩ = some (.int .i64 m0.c) ∧ w'.cell? ⟨w.heap.size, 1, none⟩ = some (.int .i64 m0.d) ∧ w'.cell? ⟨w.heap.size, 2, none⟩ = some (.int .i64 m0.s) ∧ w'.cell? ⟨w.heap.size, 3, none⟩ = some (.int .i64 m0.a) ∧ w'.cell? ⟨w.heap.size, 4, none⟩ = some (.int .i64 m0.l) ∧ True) ∧ (w'.cell? ⟨w.heap.size + 1, 0, none⟩ = some (.slice A1 xs1.length c1) ∧ w'.cell? ⟨w.heap.size + 1, 1, none⟩ = some (.slice B1 ys1.length d1) ∧ w'.cell? ⟨w.heap.size + 1, 2, none⟩ = some (.int .i64 s1) ∧ True)) from fun w' hb => ⟨BoxC.below bq1 hb, BoxC.below bq2 hb⟩)
  go_region_held3 (fun w' => (w'.cell? ⟨w.heap.size, 0, none⟩ = some (.int .i64 m0.c) ∧ w'.cell? ⟨w.heap.size, 1, none⟩ = some (.int .i64 m0.d) ∧ w'.cell? ⟨w.heap.size, 2, none⟩ = some (.int .i64 m0.s) ∧ w'.cell? ⟨w.heap.size, 3, none⟩ = some (.int .i64 m0.a) ∧ w'.cell? ⟨w.heap.size, 4, none⟩ = some (.int .i64 m0.l) ∧ True) ∧ (w'.cell? ⟨w.heap.size + 1, 0, none⟩ = some (.slice A1 xs1.length c1) ∧ w'.cell? ⟨w.heap.size + 1, 1, none⟩ = some (.slice B1 ys1.length d1) ∧ w'.cell? ⟨w.heap.size + 1, 2, none⟩ = some (.int .i64 s1) ∧ True)) (first | (refine KS3.out _ ?_; first | assumption | exact belowDrew0 _)) (first | (go_at_call 29; have D1_3 := b2.trans (b3.mono b2.size); refine (specChangeKeys_any m0 A1_3 c1_3 xs1 B1_3 d1_3 ys1 s1 n2 _ rA1_3 rB1_3 hc1_3 g2).mono ?_; rintro e w4 ⟨As0, cs0, rfl, hcs0, rs0, b4⟩; have BS4 := Below.trans BS3 (b4.mono (Below.size BS3))) | (go_at_call 22; have D0_2 := b1.trans (b2.mono b1.size); refine (toP A1 c1 xs1 B1 d1 ys1 s1 _ (Rxs1.below D0_2) (Rys1.below D0_2) zxs1 zys1).mono ?_; rintro e w3 ⟨A1_3, c1_3, B1_3, d1_3, rfl, hc1_3, rA1_3, hd1_3, rB1_3, oA1_3, b3⟩; have BS3 := Below.trans b2 (b3.mono (Below.size b2))) | (go_at_call 16; refine (toM m0.c m0.d m0.s m0.a m0.l _).mono ?_; rintro e w2 ⟨rfl, b2⟩; have b2 := belowDrew b2))
  have D1_4 := D1_3.trans (b4.mono D1_3.size)
  have bq4 := BoxC.below bq1 D1_4
  have q0 : w4.cell? ⟨w.heap.size, 0, none⟩ = some (.int .i64 m0.c) ∧ w4.cell? ⟨w.heap.size, 1, none⟩ = some (.int .i64 m0.d) ∧ w4.cell? ⟨w.heap.size, 2, none⟩ = some (.int .i64 m0.s) ∧ w4.cell? ⟨w.heap.size, 3, none⟩ = some (.int .i64 m0.a) ∧ w4.cell? ⟨w.heap.size, 4, none⟩ = some (.int .i64 m0.l) ∧ True := bq4
  have bq5 := BoxC.below bq2 D1_4
  have q1 : w4.cell? ⟨w.heap.size + 1, 0, none⟩ = some (.slice A1 xs1.length c1) ∧ w4.cell? ⟨w.heap.size + 1, 1, none⟩ = some (.slice B1 ys1.length d1) ∧ w4.cell? ⟨w.heap.size + 1, 2, none⟩ = some (.int .i64 s1) ∧ True := bq5
  go_wp2_with fail
  clear q0 q1
  have D0_3 := D0_2.trans (b3.mono D0_2.size)
  have D0_4 := D0_3.trans (b4.mono D0_3.size)
  refine (toP A1 c1 xs1 B1 d1 ys1 s1 _ (Rxs1.below D0_4) (Rys1.below D0_4) zxs1 zys1).mono ?_
  rintro e w5 ⟨A1_5, c1_5, B1_5, d1_5, rfl, hc1_5, rA1_5, hd1_5, rB1_5, oA1_5, b5⟩
  have b6 : Below w5.heap.size w5 (w5.alloc (.cells #[.slice A1_5 xs1.length c1_5, .slice B1_5 ys1.length d1_5, .int .i64 s1] 36)) := (Below.refl _ _).alloc (Nat.le_refl _) _
  have bq6 : BoxC (w5.alloc (.cells #[.slice A1_5 xs1.length c1_5, .slice B1_5 ys1.length d1_5, .int .i64 s1] 36)) (w5.heap.size) 0 [.slice A1_5 xs1.length c1_5, .slice B1_5 ys1.length d1_5, .int .i64 s1] := by simp [BoxC, Go.World.cell?_alloc_at]
  have D4_6 := b5.trans (b6.mono b5.size)
  have bq7 := BoxC.below bq4 D4_6
  have q0 : (w5.alloc (.cells #[.slice A1_5 xs1.length c1_5, .slice B1_5 ys1.length d1_5, .int .i64 s1] 36)).cell? ⟨w.heap.size, 0, none⟩ = some (.int .i64 m0.c) ∧ (w5.alloc (.cells #[.slice A1_5 xs1.length c1_5, .slice B1_5 ys1.length d1_5, .int .i64 s1] 36)).cell? ⟨w.heap.size, 1, none⟩ = some (.int .i64 m0.d) ∧ (w5.alloc (.cells #[.slice A1_5 xs1.length c1_5, .slice B1_5 ys1.length d1_5, .int .i64 s1] 36)).cell? ⟨w.heap.size, 2, none⟩ = some (.int .i64 m0.s) ∧ (w5.alloc (.cells #[.slice A1_5 xs1.length c1_5, .slice B1_5 ys1.length d1_5, .int .i64 s1] 36)).cell? ⟨w.heap.size, 3, none⟩ = some (.int .i64 m0.a) ∧ (w5.alloc (.cells #[.slice A1_5 xs1.length c1_5, .slice B1_5 ys1.length d1_5, .int .i64 s1] 36)).cell? ⟨w.heap.size, 4, none⟩ = some (.int .i64 m0.l) ∧ True := bq7
  have bq8 := BoxC.below bq5 D4_6
  have q1 : (w5.alloc (.cells #[.slice A1_5 xs1.length c1_5, .slice B1_5 ys1.length d1_5, .int .i64 s1] 36)).cell? ⟨w.heap.size + 1, 0, none⟩ = some (.slice A1 xs1.length c1) ∧ (w5.alloc (.cells #[.slice A1_5 xs1.length c1_5, .slice B1_5 ys1.length d1_5, .int .i64 s1] 36)).cell? ⟨w.heap.size + 1, 1, none⟩ = some (.slice B1 ys1.length d1) ∧ (w5.alloc (.cells #[.slice A1_5 xs1.length c1_5, .slice B1_5 ys1.length d1_5, .int .i64 s1] 36)).cell? ⟨w.heap.size + 1, 2, none⟩ = some (.int .i64 s1) ∧ True := bq8
  have q2 : (w5.alloc (.cells #[.slice A1_5 xs1.length c1_5, .slice B1_5 ys1.length d1_5, .int .i64 s1] 36)).cell? ⟨w5.heap.size, 0, none⟩ = some (.slice A1_5 xs1.length c1_5) ∧ (w5.alloc (.cells #[.slice A1_5 xs1.length c1_5, .slice B1_5 ys1.length d1_5, .int .i64 s1] 36)).cell? ⟨w5.heap.size, 1, none⟩ = some (.slice B1_5 ys1.length d1_5) ∧ (w5.alloc (.cells #[.slice A1_5 xs1.length c1_5, .slice B1_5 ys1.length d1_5, .int .i64 s1] 36)).cell? ⟨w5.heap.size, 2, none⟩ = some (.int .i64 s1) ∧ True := bq6
  go_wp2_with fail
  clear q0 q1 q2
  have KS9 := Lib.hid (show ∀ w' : World, Below (w5.alloc (.cells #[.slice A1_5 xs1.length c1_5, .slice B1_5 ys1.length d1_5, .int .i64 s1] 36)).heap.size (w5.alloc (.cells #[.slice A1_5 xs1.length c1_5, .slice B1_5 ys1.length d1_5, .int .i64 s1] 36)) w' → ((w'.cell? ⟨w.heap.size, 0, none⟩ = some (.int .i64 m0.c) ∧ w'.cell? ⟨w.heap.size, 1, none⟩ = some (.int .i64 m0.d) ∧ w'.cell? ⟨w.heap.size, 2, none⟩ = some (.int .i64 m0.s) ∧ w'.cell? ⟨w.heap.size, 3, none⟩ = some (.int .i64 m0.a) ∧ w'.cell? ⟨w.heap.size, 4, none⟩ = some (.int .i64 m0.l) ∧ True) ∧ (w'.cell? ⟨w5.heap.size, 0, none⟩ = some (.slice A1_5 xs1.length c1_5) ∧ w'.cell? ⟨w5.heap.size, 1, none⟩ = some (.slice B1_5 ys1.length d1_5) ∧ w'.cell? ⟨w5.heap.size, 2, none⟩ = some (.int .i64 s1) ∧ True)) from fun w' hb => ⟨BoxC.below bq7 hb, BoxC.below bq6 hb⟩)
  go_region_held3 (fun w' => (w'.cell? ⟨w.heap.size, 0, none⟩ = some (.int .i64 m0.c) ∧ w'.cell? ⟨w.heap.size, 1, none⟩ = some (.int .i64 m0.d) ∧ w'.cell? ⟨w.heap.size, 2, none⟩ = some (.int .i64 m0.s) ∧ w'.cell? ⟨w.heap.size, 3, none⟩ = some (.int .i64 m0.a) ∧ w'.cell? ⟨w.heap.size, 4, none⟩ = some (.int .i64 m0.l) ∧ True) ∧ (w'.cell? ⟨w5.heap.size, 0, none⟩ = some (.slice A1_5 xs1.length c1_5) ∧ w'.cell? ⟨w5.heap.size, 1, none⟩ = some (.slice B1_5 ys1.length d1_5) ∧ w'.cell? ⟨w5.heap.size, 2, none⟩ = some (.int .i64 s1) ∧ True)) (first | (refine KS9.out _ ?_; first | assumption | exact belowDrew0 _)) (first | (go_at_call 30; have D5_7 := b6.trans (b7.mono b6.size); refine (implChangeKeys_any m0 A1_5 c1_5 xs1 B1_5 d1_5 ys1 s1 n2 _ (rA1_5.below D5_7) (rB1_5.below D5_7) hc1_5 g2).mono ?_; rintro e w8 ⟨Ag0, cg0, rfl, hcg0, rg0, og0, b8⟩; have BS8 := Below.trans b7 (b8.mono (Below.size b7))) | (go_at_call 16; refine (toM m0.c m0.d m0.s m0.a m0.l _).mono ?_; rintro e w7 ⟨rfl, b7⟩; have b7 := belowDrew b7))
  have D6_8 := b7.trans (b8.mono b7.size)
  have bq10 := BoxC.below bq7 D6_8
  have q0 : w8.cell? ⟨w.heap.size, 0, none⟩ = some (.int .i64 m0.c) ∧ w8.cell? ⟨w.heap.size, 1, none⟩ = some (.int .i64 m0.d) ∧ w8.cell? ⟨w.heap.size, 2, none⟩ = some (.int .i64 m0.s) ∧ w8.cell? ⟨w.heap.size, 3, none⟩ = some (.int .i64 m0.a) ∧ w8.cell? ⟨w.heap.size, 4, none⟩ = some (.int .i64 m0.l) ∧ True := bq10
  have bq11 := BoxC.below bq8 D6_8
  have q1 : w8.cell? ⟨w.heap.size + 1, 0, none⟩ = some (.slice A1 xs1.length c1) ∧ w8.cell? ⟨w.heap.size + 1, 1, none⟩ = some (.slice B1 ys1.length d1) ∧ w8.cell? ⟨w.heap.size + 1, 2, none⟩ = some (.int .i64 s1) ∧ True := bq11
  have bq12 := BoxC.below bq6 D6_8
  have q2 : w8.cell? ⟨w5.heap.size, 0, none⟩ = some (.slice A1_5 xs1.length c1_5) ∧ w8.cell? ⟨w5.heap.size, 1, none⟩ = some (.slice B1_5 ys1.length d1_5) ∧ w8.cell? ⟨w5.heap.size, 2, none⟩ = some (.int .i64 s1) ∧ True := bq12
  go_wp2_with fail
  clear q0 q1 q2
  have D4_7 := D4_6.trans (b7.mono D4_6.size)
  have D4_8 := D4_7.trans (b8.mono D4_7.size)
  refine (eqII_t Ag0 As0 cg0 cs0 (chKeysR m0 xs1 ys1 s1 n2).1 _ rg0 (rs0.below D4_8)).mono ?_
  rintro e w9 ⟨rfl, b9⟩
  have bq13 := BoxC.below bq10 b9
  have q0 : w9.cell? ⟨w.heap.size, 0, none⟩ = some (.int .i64 m0.c) ∧ w9.cell? ⟨w.heap.size, 1, none⟩ = some (.int .i64 m0.d) ∧ w9.cell? ⟨w.heap.size, 2, none⟩ = some (.int .i64 m0.s) ∧ w9.cell? ⟨w.heap.size, 3, none⟩ = some (.int .i64 m0.a) ∧ w9.cell? ⟨w.heap.size, 4, none⟩ = some (.int .i64 m0.l) ∧ True := bq13
  have bq14 := BoxC.below bq11 b9
  have q1 : w9.cell? ⟨w.heap.size + 1, 0, none⟩ = some (.slice A1 xs1.length c1) ∧ w9.cell? ⟨w.heap.size + 1, 1, none⟩ = some (.slice B1 ys1.length d1) ∧ w9.cell? ⟨w.heap.size + 1, 2, none⟩ = some (.int .i64 s1) ∧ True := bq14
  have bq15 := BoxC.below bq12 b9
  have q2 : w9.cell? ⟨w5.heap.size, 0, none⟩ = some (.slice A1_5 xs1.length c1_5) ∧ w9.cell? ⟨w5.heap.size, 1, none⟩ = some (.slice B1_5 ys1.length d1_5) ∧ w9.cell? ⟨w5.heap.size, 2, none⟩ = some (.int .i64 s1) ∧ True := bq15
  go_wp2_with fail
  clear q0 q1 q2
  have KS16 := Lib.hid (show ∀ w' : World, Below w9.heap.size w9 w' → ((w'.cell? ⟨w.heap.size + 1, 0, none⟩ = some (.slice A1 xs1.length c1) ∧ w'.cell? ⟨w.heap.size + 1, 1, none⟩ = some (.slice B1 ys1.length d1) ∧ w'.cell? ⟨w.heap.size + 1, 2, none⟩ = some (.int .i64 s1) ∧ True) ∧ (w'.cell? ⟨w5.heap.size, 0, none⟩ = some (.slice A1_5 xs1.length c1_5) ∧ w'.cell? ⟨w5.heap.size, 1, none⟩ = some (.slice B1_5 ys1.length d1_5) ∧ w'.cell? ⟨w5.heap.size, 2, none⟩ = some (.int .i64 s1) ∧ True)) from fun w' hb => ⟨BoxC.below bq14 hb, BoxC.below bq15 hb⟩)
  go_region_held3 (fun w' => (w'.cell? ⟨w.heap.size + 1, 0, none⟩ = some (.slice A1 xs1.length c1) ∧ w'.cell? ⟨w.heap.size + 1, 1, none⟩ = some (.slice B1 ys1.length d1) ∧ w'.cell? ⟨w.heap.size + 1, 2, none⟩ = some (.int .i64 s1) ∧ True) ∧ (w'.cell? ⟨w5.heap.size, 0, none⟩ = some (.slice A1_5 xs1.length c1_5) ∧ w'.cell? ⟨w5.heap.size, 1, none⟩ = some (.slice B1_5 ys1.length d1_5) ∧ w'.cell? ⟨w5.heap.size, 2, none⟩ = some (.int .i64 s1) ∧ True)) (first | (refine KS16.out _ ?_; first | assumption | exact belowDrew0 _)) (first | (go_at_call 24; have D5_8 := D5_7.trans (b8.mono D5_7.size); have D5_9 := D5_8.trans (b9.mono D5_8.size); have D5_10 := D5_9.trans (b10.mono D5_9.size); refine (eqP_t A1_5 A1_10 c1_5 c1_10 xs1 B1_5 B1_10 d1_5 d1_10 ys1 s1 _ (rA1_5.below D5_10) rA1_10 (rB1_5.below D5_10) rB1_10).mono ?_; rintro e w11 ⟨rfl, b11⟩; have BS11 := Below.trans b10 (b11.mono (Below.size b10))) | (go_at_call 22; have D0_5 := D0_4.trans (b5.mono D0_4.size); have D0_6 := D0_5.trans (b6.mono D0_5.size); have D0_7 := D0_6.trans (b7.mono D0_6.size); have D0_8 := D0_7.trans (b8.mono D0_7.size); have D0_9 := D0_8.trans (b9.mono D0_8.size); refine (toP A1 c1 xs1 B1 d1 ys1 s1 _ ((Rxs1.below D0_9).below (belowDrew0 _)) ((Rys1.below D0_9).below (belowDrew0 _)) zxs1 zys1).mono ?_; rintro e w10 ⟨A1_10, c1_10, B1_10, d1_10, rfl, hc1_10, rA1_10, hd1_10, rB1_10, oA1_10, b10⟩; have b10 := belowDrew b10))
  have D9_11 := b10.trans (b11.mono b10.size)
  have bq17 := BoxC.below bq13 D9_11
  have q0 : w11.cell? ⟨w.heap.size, 0, none⟩ = some (.int .i64 m0.c) ∧ w11.cell? ⟨w.heap.size, 1, none⟩ = some (.int .i64 m0.d) ∧ w11.cell? ⟨w.heap.size, 2, none⟩ = some (.int .i64 m0.s) ∧ w11.cell? ⟨w.heap.size, 3, none⟩ = some (.int .i64 m0.a) ∧ w11.cell? ⟨w.heap.size, 4, none⟩ = some (.int .i64 m0.l) ∧ True := bq17
  have bq18 := BoxC.below bq14 D9_11
  have q1 : w11.cell? ⟨w.heap.size + 1, 0, none⟩ = some (.slice A1 xs1.length c1) ∧ w11.cell? ⟨w.heap.size + 1, 1, none⟩ = some (.slice B1 ys1.length d1) ∧ w11.cell? ⟨w.heap.size + 1, 2, none⟩ = some (.int .i64 s1) ∧ True := bq18
  have bq19 := BoxC.below bq15 D9_11
  have q2 : w11.cell? ⟨w5.heap.size, 0, none⟩ = some (.slice A1_5 xs1.length c1_5) ∧ w11.cell? ⟨w5.heap.size, 1, none⟩ = some (.slice B1_5 ys1.length d1_5) ∧ w11.cell? ⟨w5.heap.size, 2, none⟩ = some (.int .i64 s1) ∧ True := bq19
  go_wp2_with fail
  clear q0 q1 q2
  have D5_11 := D5_10.trans (b11.mono D5_10.size)
  have Y20 := oA1_5.below (D5_11.mono (Nat.le_refl _))
  have D8_10 := b9.trans (b10.mono b9.size)
  have D8_11 := D8_10.trans (b11.mono D8_10.size)
  have Y21 := og0.below (D8_11.mono (Nat.le_refl _))
  have S5_7 := Nat.le_trans (b6.size) b7.size
  have S5_8 := Nat.le_trans (S5_7) b8.size
  have S5_9 := Nat.le_trans (S5_8) b9.size
  have S5_10 := Nat.le_trans (S5_9) b10.size
  have S5_11 := Nat.le_trans (S5_10) b11.size
  refine (markP_t A1_5 c1_5 xs1 B1_5 d1_5 ys1 s1 _ _ _ _ Y20 (by omega) (by omega) (by omega) (by omega) (S5_11)).mono ?_
  rintro e w12 ⟨rfl, Y22, on12⟩
  have S0_2 := Nat.le_trans (b1.size) b2.size
  have S0_3 := Nat.le_trans (S0_2) b3.size
  have S0_4 := Nat.le_trans (S0_3) b4.size
  have bq23 := BoxC.only bq17 on12 (Or.inl (Nat.lt_of_lt_of_le (by simp only [World.size_alloc]; omega) (S0_4)))
  have q0 : w12.cell? ⟨w.heap.size, 0, none⟩ = some (.int .i64 m0.c) ∧ w12.cell? ⟨w.heap.size, 1, none⟩ = some (.int .i64 m0.d) ∧ w12.cell? ⟨w.heap.size, 2, none⟩ = some (.int .i64 m0.s) ∧ w12.cell? ⟨w.heap.size, 3, none⟩ = some (.int .i64 m0.a) ∧ w12.cell? ⟨w.heap.size, 4, none⟩ = some (.int .i64 m0.l) ∧ True := bq23
  have bq24 := BoxC.only bq18 on12 (Or.inl (Nat.lt_of_lt_of_le (by simp only [World.size_alloc]; omega) (S0_4)))
  have q1 : w12.cell? ⟨w.heap.size + 1, 0, none⟩ = some (.slice A1 xs1.length c1) ∧ w12.cell? ⟨w.heap.size + 1, 1, none⟩ = some (.slice B1 ys1.length d1) ∧ w12.cell? ⟨w.heap.size + 1, 2, none⟩ = some (.int .i64 s1) ∧ True := bq24
  have bq25 := BoxC.only bq19 on12 (Or.inr (Nat.le_refl _))
  have q2 : w12.cell? ⟨w5.heap.size, 0, none⟩ = some (.slice A1_5 xs1.length c1_5) ∧ w12.cell? ⟨w5.heap.size, 1, none⟩ = some (.slice B1_5 ys1.length d1_5) ∧ w12.cell? ⟨w5.heap.size, 2, none⟩ = some (.int .i64 s1) ∧ True := bq25
  go_wp2_with fail
  clear q0 q1 q2
  have Y26 := Y21.only on12 (Or.inr (S5_7))
  have S4_6 := Nat.le_trans (b5.size) b6.size
  have S4_7 := Nat.le_trans (S4_6) b7.size
  have S4_8 := Nat.le_trans (S4_7) b8.size
  have S4_9 := Nat.le_trans (S4_8) b9.size
  have S4_10 := Nat.le_trans (S4_9) b10.size
  have S4_11 := Nat.le_trans (S4_10) b11.size
  have D4_9 := D4_8.trans (b9.mono D4_8.size)
  have D4_10 := D4_9.trans (b10.mono D4_9.size)
  have D4_11 := D4_10.trans (b11.mono D4_10.size)
  have D4_12 := D4_11.trans (on12.below (S4_11))
  refine (eqII_t Ag0 As0 cg0 cs0 (chKeysR m0 xs1 ys1 s1 n2).1 _ (OII.rii Y26) (rs0.below D4_12)).mono ?_
  rintro e w13 ⟨rfl, b13⟩
  have bq27 := BoxC.below bq23 b13
  have q0 : w13.cell? ⟨w.heap.size, 0, none⟩ = some (.int .i64 m0.c) ∧ w13.cell? ⟨w.heap.size, 1, none⟩ = some (.int .i64 m0.d) ∧ w13.cell? ⟨w.heap.size, 2, none⟩ = some (.int .i64 m0.s) ∧ w13.cell? ⟨w.heap.size, 3, none⟩ = some (.int .i64 m0.a) ∧ w13.cell? ⟨w.heap.size, 4, none⟩ = some (.int .i64 m0.l) ∧ True := bq27
  have bq28 := BoxC.below bq24 b13
  have q1 : w13.cell? ⟨w.heap.size + 1, 0, none⟩ = some (.slice A1 xs1.length c1) ∧ w13.cell? ⟨w.heap.size + 1, 1, none⟩ = some (.slice B1 ys1.length d1) ∧ w13.cell? ⟨w.heap.size + 1, 2, none⟩ = some (.int .i64 s1) ∧ True := bq28
  have bq29 := BoxC.below bq25 b13
  have q2 : w13.cell? ⟨w5.heap.size, 0, none⟩ = some (.slice A1_5 xs1.length c1_5) ∧ w13.cell? ⟨w5.heap.size, 1, none⟩ = some (.slice B1_5 ys1.length d1_5) ∧ w13.cell? ⟨w5.heap.size, 2, none⟩ = some (.int .i64 s1) ∧ True := bq29
  go_wp2_with fail
  clear q0 q1 q2
  have S8_10 := Nat.le_trans (b9.size) b10.size
  have S8_11 := Nat.le_trans (S8_10) b11.size
  have S8_12 := Nat.le_trans (S8_11) on12.size
  have Y30 := Y26.below (b13.mono (S8_12))
  refine (markII_t (.slice Ag0 (chKeysR m0 xs1 ys1 s1 n2).1.length cg0) (chKeysR m0 xs1 ys1 s1 n2).1 _ _ _ _ Y30 (by omega) (by omega) (by omega) (by omega)).mono ?_
  rintro e w14 ⟨rfl, Y31, on14⟩
  have S0_5 := Nat.le_trans (S0_4) b5.size
  have S0_6 := Nat.le_trans (S0_5) b6.size
  have S0_7 := Nat.le_trans (S0_6) b7.size
  have bq32 := BoxC.only bq27 on14 (Or.inl (Nat.lt_of_lt_of_le (by simp only [World.size_alloc]; omega) (S0_7)))
  have q0 : w14.cell? ⟨w.heap.size, 0, none⟩ = some (.int .i64 m0.c) ∧ w14.cell? ⟨w.heap.size, 1, none⟩ = some (.int .i64 m0.d) ∧ w14.cell? ⟨w.heap.size, 2, none⟩ = some (.int .i64 m0.s) ∧ w14.cell? ⟨w.heap.size, 3, none⟩ = some (.int .i64 m0.a) ∧ w14.cell? ⟨w.heap.size, 4, none⟩ = some (.int .i64 m0.l) ∧ True := bq32
  have bq33 := BoxC.only bq28 on14 (Or.inl (Nat.lt_of_lt_of_le (by simp only [World.size_alloc]; omega) (S0_7)))
  have q1 : w14.cell? ⟨w.heap.size + 1, 0, none⟩ = some (.slice A1 xs1.length c1) ∧ w14.cell? ⟨w.heap.size + 1, 1, none⟩ = some (.slice B1 ys1.length d1) ∧ w14.cell? ⟨w.heap.size + 1, 2, none⟩ = some (.int .i64 s1) ∧ True := bq33
  have bq34 := BoxC.only bq29 on14 (Or.inl (Nat.lt_of_lt_of_le (by first | exact Nat.lt_succ_self _ | simp) (b7.size)))
  have q2 : w14.cell? ⟨w5.heap.size, 0, none⟩ = some (.slice A1_5 xs1.length c1_5) ∧ w14.cell? ⟨w5.heap.size, 1, none⟩ = some (.slice B1_5 ys1.length d1_5) ∧ w14.cell? ⟨w5.heap.size, 2, none⟩ = some (.int .i64 s1) ∧ True := bq34
  go_wp2_with fail
  clear q0 q1 q2
  refine (heldII_t Ag0 cg0 (chKeysR m0 xs1 ys1 s1 n2).1 _ _ (OII.rii Y31) (by omega) (by omega) (by omega) (by omega)).mono ?_
  rintro e w15 ⟨rfl, b15⟩
  have bq35 := BoxC.below bq32 b15
  have q0 : w15.cell? ⟨w.heap.size, 0, none⟩ = some (.int .i64 m0.c) ∧ w15.cell? ⟨w.heap.size, 1, none⟩ = some (.int .i64 m0.d) ∧ w15.cell? ⟨w.heap.size, 2, none⟩ = some (.int .i64 m0.s) ∧ w15.cell? ⟨w.heap.size, 3, none⟩ = some (.int .i64 m0.a) ∧ w15.cell? ⟨w.heap.size, 4, none⟩ = some (.int .i64 m0.l) ∧ True := bq35
  have bq36 := BoxC.below bq33 b15
  have q1 : w15.cell? ⟨w.heap.size + 1, 0, none⟩ = some (.slice A1 xs1.length c1) ∧ w15.cell? ⟨w.heap.size + 1, 1, none⟩ = some (.slice B1 ys1.length d1) ∧ w15.cell? ⟨w.heap.size + 1, 2, none⟩ = some (.int .i64 s1) ∧ True := bq36
  have bq37 := BoxC.below bq34 b15
  have q2 : w15.cell? ⟨w5.heap.size, 0, none⟩ = some (.slice A1_5 xs1.length c1_5) ∧ w15.cell? ⟨w5.heap.size, 1, none⟩ = some (.slice B1_5 ys1.length d1_5) ∧ w15.cell? ⟨w5.heap.size, 2, none⟩ = some (.int .i64 s1) ∧ True := bq37
  go_wp2_with fail
  clear q0 q1 q2
  have KS38 := Lib.hid (show ∀ w' : World, Below w15.heap.size w15 w' → ((w'.cell? ⟨w.heap.size, 0, none⟩ = some (.int .i64 m0.c) ∧ w'.cell? ⟨w.heap.size, 1, none⟩ = some (.int .i64 m0.d) ∧ w'.cell? ⟨w.heap.size, 2, none⟩ = some (.int .i64 m0.s) ∧ w'.cell? ⟨w.heap.size, 3, none⟩ = some (.int .i64 m0.a) ∧ w'.cell? ⟨w.heap.size, 4, none⟩ = some (.int .i64 m0.l) ∧ True) ∧ (w'.cell? ⟨w.heap.size + 1, 0, none⟩ = some (.slice A1 xs1.length c1) ∧ w'.cell? ⟨w.heap.size + 1, 1, none⟩ = some (.slice B1 ys1.length d1) ∧ w'.cell? ⟨w.heap.size + 1, 2, none⟩ = some (.int .i64 s1) ∧ True)) from fun w' hb => ⟨BoxC.below bq35 hb, BoxC.below bq36 hb⟩)
  go_region_held3 (fun w' => (w'.cell? ⟨w.heap.size, 0, none⟩ = some (.int .i64 m0.c) ∧ w'.cell? ⟨w.heap.size, 1, none⟩ = some (.int .i64 m0.d) ∧ w'.cell? ⟨w.heap.size, 2, none⟩ = some (.int .i64 m0.s) ∧ w'.cell? ⟨w.heap.size, 3, none⟩ = some (.int .i64 m0.a) ∧ w'.cell? ⟨w.heap.size, 4, none⟩ = some (.int .i64 m0.l) ∧ True) ∧ (w'.cell? ⟨w.heap.size + 1, 0, none⟩ = some (.slice A1 xs1.length c1) ∧ w'.cell? ⟨w.heap.size + 1, 1, none⟩ = some (.slice B1 ys1.length d1) ∧ w'.cell? ⟨w.heap.size + 1, 2, none⟩ = some (.int .i64 s1) ∧ True)) (first | (refine KS38.out _ ?_; first | assumption | exact belowDrew0 _)) (first | (go_at_call 30; have D15_17 := b16.trans (b17.mono b16.size); refine (implChangeKeys_any m0 A1_17 c1_17 xs1 B1_17 d1_17 ys1 s1 n2 _ rA1_17 rB1_17 hc1_17 g2).mono ?_; rintro e w18 ⟨Ah0, ch0, rfl, hch0, rh0, oh0, b18⟩; have BS18 := Below.trans BS17 (b18.mono (Below.size BS17))) | (go_at_call 22; have S7_9 := Nat.le_trans (b8.size) b9.size; have S7_10 := Nat.le_trans (S7_9) b10.size; have S7_11 := Nat.le_trans (S7_10) b11.size; have S7_12 := Nat.le_trans (S7_11) on12.size; have S7_13 := Nat.le_trans (S7_12) b13.size; have D0_10 := D0_9.trans (b10.mono D0_9.size); have D0_11 := D0_10.trans (b11.mono D0_10.size); have D0_12 := D0_11.trans ((on12.below (S4_11)).mono (S0_4)); have D0_13 := D0_12.trans (b13.mono D0_12.size); have D0_14 := D0_13.trans ((on14.below (S7_13)).mono (S0_7)); have D0_15 := D0_14.trans (b15.mono D0_14.size); have D0_16 := D0_15.trans (b16.mono D0_15.size); refine (toP A1 c1 xs1 B1 d1 ys1 s1 _ (Rxs1.below D0_16) (Rys1.below D0_16) zxs1 zys1).mono ?_; rintro e w17 ⟨A1_17, c1_17, B1_17, d1_17, rfl, hc1_17, rA1_17, hd1_17, rB1_17, oA1_17, b17⟩; have BS17 := Below.trans b16 (b17.mono (Below.size b16))) | (go_at_call 16; refine (toM m0.c m0.d m0.s m0.a m0.l _).mono ?_; rintro e w16 ⟨rfl, b16⟩; have b16 := belowDrew b16))
  have D15_18 := D15_17.trans (b18.mono D15_17.size)
  have bq39 := BoxC.below bq35 D15_18
  have q0 : w18.cell? ⟨w.heap.size, 0, none⟩ = some (.int .i64 m0.c) ∧ w18.cell? ⟨w.heap.size, 1, none⟩ = some (.int .i64 m0.d) ∧ w18.cell? ⟨w.heap.size, 2, none⟩ = some (.int .i64 m0.s) ∧ w18.cell? ⟨w.heap.size, 3, none⟩ = some (.int .i64 m0.a) ∧ w18.cell? ⟨w.heap.size, 4, none⟩ = some (.int .i64 m0.l) ∧ True := bq39
  have bq40 := BoxC.below bq36 D15_18
  have q1 : w18.cell? ⟨w.heap.size + 1, 0, none⟩ = some (.slice A1 xs1.length c1) ∧ w18.cell? ⟨w.heap.size + 1, 1, none⟩ = some (.slice B1 ys1.length d1) ∧ w18.cell? ⟨w.heap.size + 1, 2, none⟩ = some (.int .i64 s1) ∧ True := bq40
  have bq41 := BoxC.below bq37 D15_18
  have q2 : w18.cell? ⟨w5.heap.size, 0, none⟩ = some (.slice A1_5 xs1.length c1_5) ∧ w18.cell? ⟨w5.heap.size, 1, none⟩ = some (.slice B1_5 ys1.length d1_5) ∧ w18.cell? ⟨w5.heap.size, 2, none⟩ = some (.int .i64 s1) ∧ True := bq41
  go_wp2_with fail
  clear q0 q1 q2
  have D4_13 := D4_12.trans (b13.mono D4_12.size)
  have D4_14 := D4_13.trans ((on14.below (S7_13)).mono (S4_7))
  have D4_15 := D4_14.trans (b15.mono D4_14.size)
  have D4_16 := D4_15.trans (b16.mono D4_15.size)
  have D4_17 := D4_16.trans (b17.mono D4_16.size)
  have D4_18 := D4_17.trans (b18.mono D4_17.size)
  refine (eqII_t Ah0 As0 ch0 cs0 (chKeysR m0 xs1 ys1 s1 n2).1 _ rh0 (rs0.below D4_18)).mono ?_
  rintro e w19 ⟨rfl, b19⟩
  have bq42 := BoxC.below bq39 b19
  have q0 : w19.cell? ⟨w.heap.size, 0, none⟩ = some (.int .i64 m0.c) ∧ w19.cell? ⟨w.heap.size, 1, none⟩ = some (.int .i64 m0.d) ∧ w19.cell? ⟨w.heap.size, 2, none⟩ = some (.int .i64 m0.s) ∧ w19.cell? ⟨w.heap.size, 3, none⟩ = some (.int .i64 m0.a) ∧ w19.cell? ⟨w.heap.size, 4, none⟩ = some (.int .i64 m0.l) ∧ True := bq42
  have bq43 := BoxC.below bq40 b19
  have q1 : w19.cell? ⟨w.heap.size + 1, 0, none⟩ = some (.slice A1 xs1.length c1) ∧ w19.cell? ⟨w.heap.size + 1, 1, none⟩ = some (.slice B1 ys1.length d1) ∧ w19.cell? ⟨w.heap.size + 1, 2, none⟩ = some (.int .i64 s1) ∧ True := bq43
  have bq44 := BoxC.below bq41 b19
  have q2 : w19.cell? ⟨w5.heap.size, 0, none⟩ = some (.slice A1_5 xs1.length c1_5) ∧ w19.cell? ⟨w5.heap.size, 1, none⟩ = some (.slice B1_5 ys1.length d1_5) ∧ w19.cell? ⟨w5.heap.size, 2, none⟩ = some (.int .i64 s1) ∧ True := bq44
  go_wp2_with fail
  clear q0 q1 q2
  have D14_16 := b15.trans (b16.mono b15.size)
  have D14_17 := D14_16.trans (b17.mono D14_16.size)
  have D14_18 := D14_17.trans (b18.mono D14_17.size)
  have D14_19 := D14_18.trans (b19.mono D14_18.size)
  have S8_13 := Nat.le_trans (S8_12) b13.size
  have S8_14 := Nat.le_trans (S8_13) on14.size
  have Y45 := Y31.below (D14_19.mono (S8_14))
  refine (heldII_t Ag0 cg0 (chKeysR m0 xs1 ys1 s1 n2).1 _ _ (OII.rii Y45) (by omega) (by omega) (by omega) (by omega)).mono ?_
  rintro e w20 ⟨rfl, b20⟩
  have D0_17 := D0_16.trans (b17.mono D0_16.size)
  have D0_18 := D0_17.trans (b18.mono D0_17.size)
  have D0_19 := D0_18.trans (b19.mono D0_18.size)
  have D0_20 := D0_19.trans (b20.mono D0_19.size)
  have DD := D0_20
  have bq46 := BoxC.below bq42 b20
  have q0 : w20.cell? ⟨w.heap.size, 0, none⟩ = some (.int .i64 m0.c) ∧ w20.cell? ⟨w.heap.size, 1, none⟩ = some (.int .i64 m0.d) ∧ w20.cell? ⟨w.heap.size, 2, none⟩ = some (.int .i64 m0.s) ∧ w20.cell? ⟨w.heap.size, 3, none⟩ = some (.int .i64 m0.a) ∧ w20.cell? ⟨w.heap.size, 4, none⟩ = some (.int .i64 m0.l) ∧ True := bq46
  have bq47 := BoxC.below bq43 b20
  have q1 : w20.cell? ⟨w.heap.size + 1, 0, none⟩ = some (.slice A1 xs1.length c1) ∧ w20.cell? ⟨w.heap.size + 1, 1, none⟩ = some (.slice B1 ys1.length d1) ∧ w20.cell? ⟨w.heap.size + 1, 2, none⟩ = some (.int .i64 s1) ∧ True := bq47
  have bq48 := BoxC.below bq44 b20
  have q2 : w20.cell? ⟨w5.heap.size, 0, none⟩ = some (.slice A1_5 xs1.length c1_5) ∧ w20.cell? ⟨w5.heap.size, 1, none⟩ = some (.slice B1_5 ys1.length d1_5) ∧ w20.cell? ⟨w5.heap.size, 2, none⟩ = some (.int .i64 s1) ∧ True := bq48
  go_wp2_with fail
  go_ret
  exact ⟨rfl, HB0.trans (DD.mono HB0.size)⟩
end Go.Proofs.Ytcdajogdpgjgjaa.fnExactChangeKeys
