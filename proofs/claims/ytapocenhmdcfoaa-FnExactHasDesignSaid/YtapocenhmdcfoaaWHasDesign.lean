/- The walk of the law FnExactHasDesign. -/
import Derived.Test.YtapocenhmdcfoaaFFindAll
import Derived.Test.YtapocenhmdcfoaaHelpS
namespace Go.Proofs.Ytapocenhmdcfoaa.fnExactHasDesign
set_option linter.unusedVariables false
open Go.RowKit
set_option maxRecDepth 100000 in
set_option maxHeartbeats 8000000 in
theorem walk (m0 : Mk) (A0 : Option Addr) (c0 : Nat) (xs0 : List (List Int)) (n1 : Int) (w : World) (hc0 : xs0.length ≤ c0) (h0 : RII w A0 xs0) (g1 : (Lit.int .i64 n1).wf = true) :
    Calls Try.prog 8 #[.agg #[.int .i64 m0.c, .int .i64 m0.d, .int .i64 m0.s, .int .i64 m0.a, .int .i64 m0.l, .slice A0 xs0.length c0], .int .i64 n1] w fun e w' => e = .returned (.bool true) ∧ Below w.heap.size w w' := by
  have HB0 : Below w.heap.size w (w.alloc (.cells #[.int .i64 m0.c, .int .i64 m0.d, .int .i64 m0.s, .int .i64 m0.a, .int .i64 m0.l, .slice A0 xs0.length c0] 26)) := (Below.refl w.heap.size w).alloc (by exact Nat.le_refl _) _
  have bx0 : BoxC (w.alloc (.cells #[.int .i64 m0.c, .int .i64 m0.d, .int .i64 m0.s, .int .i64 m0.a, .int .i64 m0.l, .slice A0 xs0.length c0] 26)) (w.heap.size) 0 [.int .i64 m0.c, .int .i64 m0.d, .int .i64 m0.s, .int .i64 m0.a, .int .i64 m0.l, .slice A0 xs0.length c0] := by simp [BoxC, Go.World.cell?_alloc_at]
  have Rxs0 := (h0).alloc (.cells #[.int .i64 m0.c, .int .i64 m0.d, .int .i64 m0.s, .int .i64 m0.a, .int .i64 m0.l, .slice A0 xs0.length c0] 26)
  go_enter Try.func8, Try.ntmps8
  have q0 : (w.alloc (.cells #[.int .i64 m0.c, .int .i64 m0.d, .int .i64 m0.s, .int .i64 m0.a, .int .i64 m0.l, .slice A0 xs0.length c0] 26)).cell? ⟨w.heap.size, 0, none⟩ = some (.int .i64 m0.c) ∧ (w.alloc (.cells #[.int .i64 m0.c, .int .i64 m0.d, .int .i64 m0.s, .int .i64 m0.a, .int .i64 m0.l, .slice A0 xs0.length c0] 26)).cell? ⟨w.heap.size, 1, none⟩ = some (.int .i64 m0.d) ∧ (w.alloc (.cells #[.int .i64 m0.c, .int .i64 m0.d, .int .i64 m0.s, .int .i64 m0.a, .int .i64 m0.l, .slice A0 xs0.length c0] 26)).cell? ⟨w.heap.size, 2, none⟩ = some (.int .i64 m0.s) ∧ (w.alloc (.cells #[.int .i64 m0.c, .int .i64 m0.d, .int .i64 m0.s, .int .i64 m0.a, .int .i64 m0.l, .slice A0 xs0.length c0] 26)).cell? ⟨w.heap.size, 3, none⟩ = some (.int .i64 m0.a) ∧ (w.alloc (.cells #[.int .i64 m0.c, .int .i64 m0.d, .int .i64 m0.s, .int .i64 m0.a, .int .i64 m0.l, .slice A0 xs0.length c0] 26)).cell? ⟨w.heap.size, 4, none⟩ = some (.int .i64 m0.l) ∧ (w.alloc (.cells #[.int .i64 m0.c, .int .i64 m0.d, .int .i64 m0.s, .int .i64 m0.a, .int .i64 m0.l, .slice A0 xs0.length c0] 26)).cell? ⟨w.heap.size, 5, none⟩ = some (.slice A0 xs0.length c0) ∧ True := bx0
  go_wp2_with fail
  clear q0
  refine (szS m0 A0 c0 xs0 _ _ Rxs0 (by omega) (by omega)).mono ?_
  rintro e w1 ⟨r0, rfl, hL0, b1, hm0⟩
  by_cases hz0 : r0 < 0
  case pos =>
    go_wp2_with fail
    go_ret
    exact ⟨rfl, HB0.trans (b1.mono HB0.size)⟩
  have hL02 := hL0.2 (by omega)
  have hL01 := hL0.1
  have zxs0 : xs0.length ≤ 1048576 ∧ sumLen xs0 ≤ 1048576 := by omega
  have zzxs0 : ∀ k (hk : k < xs0.length), xs0[k].length ≤ 1048576 := fun k hk => by have := mem_sumLen hk; omega
  have zt0 : (xs0.length + sumLen xs0 : Nat) + r0 ≤ 1048576 := by omega
  have Hz0 := Lib.hid hL02; clear hL02 hL0
  have bq1 := BoxC.below bx0 b1
  have q0 : w1.cell? ⟨w.heap.size, 0, none⟩ = some (.int .i64 m0.c) ∧ w1.cell? ⟨w.heap.size, 1, none⟩ = some (.int .i64 m0.d) ∧ w1.cell? ⟨w.heap.size, 2, none⟩ = some (.int .i64 m0.s) ∧ w1.cell? ⟨w.heap.size, 3, none⟩ = some (.int .i64 m0.a) ∧ w1.cell? ⟨w.heap.size, 4, none⟩ = some (.int .i64 m0.l) ∧ w1.cell? ⟨w.heap.size, 5, none⟩ = some (.slice A0 xs0.length c0) ∧ True := bq1
  go_wp2_with fail
  clear q0
  refine (toS m0 A0 c0 xs0 _ (Rxs0.below b1) zxs0.1 zzxs0).mono ?_
  rintro e w2 ⟨A0_2, c0_2, rfl, hc0_2, rA0_2, oA0_2, b2⟩
  have bq2 := BoxC.below bq1 b2
  have q0 : w2.cell? ⟨w.heap.size, 0, none⟩ = some (.int .i64 m0.c) ∧ w2.cell? ⟨w.heap.size, 1, none⟩ = some (.int .i64 m0.d) ∧ w2.cell? ⟨w.heap.size, 2, none⟩ = some (.int .i64 m0.s) ∧ w2.cell? ⟨w.heap.size, 3, none⟩ = some (.int .i64 m0.a) ∧ w2.cell? ⟨w.heap.size, 4, none⟩ = some (.int .i64 m0.l) ∧ w2.cell? ⟨w.heap.size, 5, none⟩ = some (.slice A0 xs0.length c0) ∧ True := bq2
  go_wp2_with fail
  clear q0
  refine (specHasDesign_any m0 A0_2 c0_2 xs0 n1 _ rA0_2 g1).mono ?_
  rintro e w3 ⟨rfl, b3⟩
  have bq3 := BoxC.below bq2 b3
  have q0 : w3.cell? ⟨w.heap.size, 0, none⟩ = some (.int .i64 m0.c) ∧ w3.cell? ⟨w.heap.size, 1, none⟩ = some (.int .i64 m0.d) ∧ w3.cell? ⟨w.heap.size, 2, none⟩ = some (.int .i64 m0.s) ∧ w3.cell? ⟨w.heap.size, 3, none⟩ = some (.int .i64 m0.a) ∧ w3.cell? ⟨w.heap.size, 4, none⟩ = some (.int .i64 m0.l) ∧ w3.cell? ⟨w.heap.size, 5, none⟩ = some (.slice A0 xs0.length c0) ∧ True := bq3
  go_wp2_with fail
  clear q0
  have D0_2 := b1.trans (b2.mono b1.size)
  have D0_3 := D0_2.trans (b3.mono D0_2.size)
  refine (toS m0 A0 c0 xs0 _ (Rxs0.below D0_3) zxs0.1 zzxs0).mono ?_
  rintro e w4 ⟨A0_4, c0_4, rfl, hc0_4, rA0_4, oA0_4, b4⟩
  have b5 : Below w4.heap.size w4 (w4.alloc (.cells #[.int .i64 m0.c, .int .i64 m0.d, .int .i64 m0.s, .int .i64 m0.a, .int .i64 m0.l, .slice A0_4 xs0.length c0_4] 31)) := (Below.refl _ _).alloc (Nat.le_refl _) _
  have bq4 : BoxC (w4.alloc (.cells #[.int .i64 m0.c, .int .i64 m0.d, .int .i64 m0.s, .int .i64 m0.a, .int .i64 m0.l, .slice A0_4 xs0.length c0_4] 31)) (w4.heap.size) 0 [.int .i64 m0.c, .int .i64 m0.d, .int .i64 m0.s, .int .i64 m0.a, .int .i64 m0.l, .slice A0_4 xs0.length c0_4] := by simp [BoxC, Go.World.cell?_alloc_at]
  have D3_5 := b4.trans (b5.mono b4.size)
  have bq5 := BoxC.below bq3 D3_5
  have q0 : (w4.alloc (.cells #[.int .i64 m0.c, .int .i64 m0.d, .int .i64 m0.s, .int .i64 m0.a, .int .i64 m0.l, .slice A0_4 xs0.length c0_4] 31)).cell? ⟨w.heap.size, 0, none⟩ = some (.int .i64 m0.c) ∧ (w4.alloc (.cells #[.int .i64 m0.c, .int .i64 m0.d, .int .i64 m0.s, .int .i64 m0.a, .int .i64 m0.l, .slice A0_4 xs0.length c0_4] 31)).cell? ⟨w.heap.size, 1, none⟩ = some (.int .i64 m0.d) ∧ (w4.alloc (.cells #[.int .i64 m0.c, .int .i64 m0.d, .int .i64 m0.s, .int .i64 m0.a, .int .i64 m0.l, .slice A0_4 xs0.length c0_4] 31)).cell? ⟨w.heap.size, 2, none⟩ = some (.int .i64 m0.s) ∧ (w4.alloc (.cells #[.int .i64 m0.c, .int .i64 m0.d, .int .i64 m0.s, .int .i64 m0.a, .int .i64 m0.l, .slice A0_4 xs0.length c0_4] 31)).cell? ⟨w.heap.size, 3, none⟩ = some (.int .i64 m0.a) ∧ (w4.alloc (.cells #[.int .i64 m0.c, .int .i64 m0.d, .int .i64 m0.s, .int .i64 m0.a, .int .i64 m0.l, .slice A0_4 xs0.length c0_4] 31)).cell? ⟨w.heap.size, 4, none⟩ = some (.int .i64 m0.l) ∧ (w4.alloc (.cells #[.int .i64 m0.c, .int .i64 m0.d, .int .i64 m0.s, .int .i64 m0.a, .int .i64 m0.l, .slice A0_4 xs0.length c0_4] 31)).cell? ⟨w.heap.size, 5, none⟩ = some (.slice A0 xs0.length c0) ∧ True := bq5
  have q1 : (w4.alloc (.cells #[.int .i64 m0.c, .int .i64 m0.d, .int .i64 m0.s, .int .i64 m0.a, .int .i64 m0.l, .slice A0_4 xs0.length c0_4] 31)).cell? ⟨w4.heap.size, 0, none⟩ = some (.int .i64 m0.c) ∧ (w4.alloc (.cells #[.int .i64 m0.c, .int .i64 m0.d, .int .i64 m0.s, .int .i64 m0.a, .int .i64 m0.l, .slice A0_4 xs0.length c0_4] 31)).cell? ⟨w4.heap.size, 1, none⟩ = some (.int .i64 m0.d) ∧ (w4.alloc (.cells #[.int .i64 m0.c, .int .i64 m0.d, .int .i64 m0.s, .int .i64 m0.a, .int .i64 m0.l, .slice A0_4 xs0.length c0_4] 31)).cell? ⟨w4.heap.size, 2, none⟩ = some (.int .i64 m0.s) ∧ (w4.alloc (.cells #[.int .i64 m0.c, .int .i64 m0.d, .int .i64 m0.s, .int .i64 m0.a, .int .i64 m0.l, .slice A0_4 xs0.length c0_4] 31)).cell? ⟨w4.heap.size, 3, none⟩ = some (.int .i64 m0.a) ∧ (w4.alloc (.cells #[.int .i64 m0.c, .int .i64 m0.d, .int .i64 m0.s, .int .i64 m0.a, .int .i64 m0.l, .slice A0_4 xs0.length c0_4] 31)).cell? ⟨w4.heap.size, 4, none⟩ = some (.int .i64 m0.l) ∧ (w4.alloc (.cells #[.int .i64 m0.c, .int .i64 m0.d, .int .i64 m0.s, .int .i64 m0.a, .int .i64 m0.l, .slice A0_4 xs0.length c0_4] 31)).cell? ⟨w4.heap.size, 5, none⟩ = some (.slice A0_4 xs0.length c0_4) ∧ True := bq4
  go_wp2_with fail
  clear q0 q1
  refine (implHasDesign_any m0 A0_4 c0_4 xs0 n1 _ (rA0_4.below b5) g1).mono ?_
  rintro e w6 ⟨rfl, b6⟩
  have bq6 := BoxC.below bq5 b6
  have q0 : w6.cell? ⟨w.heap.size, 0, none⟩ = some (.int .i64 m0.c) ∧ w6.cell? ⟨w.heap.size, 1, none⟩ = some (.int .i64 m0.d) ∧ w6.cell? ⟨w.heap.size, 2, none⟩ = some (.int .i64 m0.s) ∧ w6.cell? ⟨w.heap.size, 3, none⟩ = some (.int .i64 m0.a) ∧ w6.cell? ⟨w.heap.size, 4, none⟩ = some (.int .i64 m0.l) ∧ w6.cell? ⟨w.heap.size, 5, none⟩ = some (.slice A0 xs0.length c0) ∧ True := bq6
  have bq7 := BoxC.below bq4 b6
  have q1 : w6.cell? ⟨w4.heap.size, 0, none⟩ = some (.int .i64 m0.c) ∧ w6.cell? ⟨w4.heap.size, 1, none⟩ = some (.int .i64 m0.d) ∧ w6.cell? ⟨w4.heap.size, 2, none⟩ = some (.int .i64 m0.s) ∧ w6.cell? ⟨w4.heap.size, 3, none⟩ = some (.int .i64 m0.a) ∧ w6.cell? ⟨w4.heap.size, 4, none⟩ = some (.int .i64 m0.l) ∧ w6.cell? ⟨w4.heap.size, 5, none⟩ = some (.slice A0_4 xs0.length c0_4) ∧ True := bq7
  go_wp2_with fail
  clear q0 q1
  have KS8 := Lib.hid (show ∀ w' : World, Below w6.heap.size w6 w' → ((w'.cell? ⟨w.heap.size, 0, none⟩ = some (.int .i64 m0.c) ∧ w'.cell? ⟨w.heap.size, 1, none⟩ = some (.int .i64 m0.d) ∧ w'.cell? ⟨w.heap.size, 2, none⟩ = some (.int .i64 m0.s) ∧ w'.cell? ⟨w.heap.size, 3, none⟩ = some (.int .i64 m0.a) ∧ w'.cell? ⟨w.heap.size, 4, none⟩ = some (.int .i64 m0.l) ∧ w'.cell? ⟨w.heap.size, 5, none⟩ = some (.slice A0 xs0.length c0) ∧ True) ∧ (w'.cell? ⟨w4.heap.size, 0, none⟩ = some (.int .i64 m0.c) ∧ w'.cell? ⟨w4.heap.size, 1, none⟩ = some (.int .i64 m0.d) ∧ w'.cell? ⟨w4.heap.size, 2, none⟩ = some (.int .i64 m0.s) ∧ w'.cell? ⟨w4.heap.size, 3, none⟩ = some (.int .i64 m0.a) ∧ w'.cell? ⟨w4.heap.size, 4, none⟩ = some (.int .i64 m0.l) ∧ w'.cell? ⟨w4.heap.size, 5, none⟩ = some (.slice A0_4 xs0.length c0_4) ∧ True)) from fun w' hb => ⟨BoxC.below bq6 hb, BoxC.below bq7 hb⟩)
  go_region_held3 (fun w' => (w'.cell? ⟨w.heap.size, 0, none⟩ = some (.int .i64 m0.c) ∧ w'.cell? ⟨w.heap.size, 1, none⟩ = some (.int .i64 m0.d) ∧ w'.cell? ⟨w.heap.size, 2, none⟩ = some (.int .i64 m0.s) ∧ w'.cell? ⟨w.heap.size, 3, none⟩ = some (.int .i64 m0.a) ∧ w'.cell? ⟨w.heap.size, 4, none⟩ = some (.int .i64 m0.l) ∧ w'.cell? ⟨w.heap.size, 5, none⟩ = some (.slice A0 xs0.length c0) ∧ True) ∧ (w'.cell? ⟨w4.heap.size, 0, none⟩ = some (.int .i64 m0.c) ∧ w'.cell? ⟨w4.heap.size, 1, none⟩ = some (.int .i64 m0.d) ∧ w'.cell? ⟨w4.heap.size, 2, none⟩ = some (.int .i64 m0.s) ∧ w'.cell? ⟨w4.heap.size, 3, none⟩ = some (.int .i64 m0.a) ∧ w'.cell? ⟨w4.heap.size, 4, none⟩ = some (.int .i64 m0.l) ∧ w'.cell? ⟨w4.heap.size, 5, none⟩ = some (.slice A0_4 xs0.length c0_4) ∧ True)) (first | (refine KS8.out _ ?_; first | assumption | exact belowDrew0 _ | exact Below.alloc (by assumption) (Below.size (by assumption)) _)) (first | (go_at_call 20; have D4_6 := b5.trans (b6.mono b5.size); have D4_7 := D4_6.trans (b7.mono D4_6.size); refine (eqS_t m0 A0_4 A0_7 c0_4 c0_7 xs0 _ (rA0_4.below D4_7) rA0_7).mono ?_; rintro e w8 ⟨rfl, b8⟩; have BS8 := Below.trans b7 (b8.mono (Below.size b7))) | (go_at_call 17; have D0_4 := D0_3.trans (b4.mono D0_3.size); have D0_5 := D0_4.trans (b5.mono D0_4.size); have D0_6 := D0_5.trans (b6.mono D0_5.size); refine (toS m0 A0 c0 xs0 _ ((Rxs0.below D0_6).below (belowDrew0 _)) zxs0.1 zzxs0).mono ?_; rintro e w7 ⟨A0_7, c0_7, rfl, hc0_7, rA0_7, oA0_7, b7⟩; have b7 := belowDrew b7))
  have D0_7 := D0_6.trans (b7.mono D0_6.size)
  have D0_8 := D0_7.trans (b8.mono D0_7.size)
  have DD := D0_8
  have D6_8 := b7.trans (b8.mono b7.size)
  have bq9 := BoxC.below bq6 D6_8
  have q0 : w8.cell? ⟨w.heap.size, 0, none⟩ = some (.int .i64 m0.c) ∧ w8.cell? ⟨w.heap.size, 1, none⟩ = some (.int .i64 m0.d) ∧ w8.cell? ⟨w.heap.size, 2, none⟩ = some (.int .i64 m0.s) ∧ w8.cell? ⟨w.heap.size, 3, none⟩ = some (.int .i64 m0.a) ∧ w8.cell? ⟨w.heap.size, 4, none⟩ = some (.int .i64 m0.l) ∧ w8.cell? ⟨w.heap.size, 5, none⟩ = some (.slice A0 xs0.length c0) ∧ True := bq9
  have bq10 := BoxC.below bq7 D6_8
  have q1 : w8.cell? ⟨w4.heap.size, 0, none⟩ = some (.int .i64 m0.c) ∧ w8.cell? ⟨w4.heap.size, 1, none⟩ = some (.int .i64 m0.d) ∧ w8.cell? ⟨w4.heap.size, 2, none⟩ = some (.int .i64 m0.s) ∧ w8.cell? ⟨w4.heap.size, 3, none⟩ = some (.int .i64 m0.a) ∧ w8.cell? ⟨w4.heap.size, 4, none⟩ = some (.int .i64 m0.l) ∧ w8.cell? ⟨w4.heap.size, 5, none⟩ = some (.slice A0_4 xs0.length c0_4) ∧ True := bq10
  go_wp2_with fail
  go_ret
  exact ⟨rfl, HB0.trans (DD.mono HB0.size)⟩
end Go.Proofs.Ytapocenhmdcfoaa.fnExactHasDesign
