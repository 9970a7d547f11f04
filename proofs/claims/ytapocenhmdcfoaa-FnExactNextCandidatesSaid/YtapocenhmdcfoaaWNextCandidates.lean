/- The walk of the law FnExactNextCandidates. -/
import Derived.Test.YtapocenhmdcfoaaFCandLaws
import Derived.Test.YtapocenhmdcfoaaHelpS
namespace Go.Proofs.Ytapocenhmdcfoaa.fnExactNextCandidates
set_option linter.unusedVariables false
open Go.RowKit
theorem few_lens : ∀ (ls : List (List Int)) (b : Nat), (∀ x, x ∈ ls → x.length ≤ b) → sumLen ls ≤ b * ls.length
  | [], _, _ => by simp [sumLen]
  | x :: r, b, h => by
    have := few_lens r b (fun y hy => h y (by simp [hy])); have := h x (by simp)
    unfold sumLen at *; rw [List.map_cons, List.sum_cons, List.length_cons, Nat.mul_succ]; omega
theorem lens (m : Mk) (t cuts : List (List Int)) (most : Int) : (nextCandR m t cuts most).1.length ≤ 4194304 ∧ sumLen (nextCandR m t cuts most).1 ≤ 1048576 := by
  unfold nextCandR
  split
  · split
    · rename_i h2
      split
      · rename_i h3
        have hm := (moreC_ok h3).2.1.mak
        have hb := inB_iff.1 h2
        have hc := (mk_bounds hm).2.1
        have h4 := few_lens ((candsF m t cuts).take most.toNat) 6 (fun x hx => by
          have h1 := List.mem_of_mem_take hx
          unfold candsF at h1
          have h5 := (key_parts ((allK_is hm).1 (List.mem_filter.1 h1).1)).1
          omega)
        rw [List.length_take] at h4
        simp only [List.length_take]
        omega
      · simp [sumLen]
    · simp [sumLen]
  · simp [sumLen]
set_option maxRecDepth 100000 in
set_option maxHeartbeats 8000000 in
theorem walk (m0 : Mk) (A0 : Option Addr) (c0 : Nat) (xs0 : List (List Int)) (A1 : Option Addr) (c1 : Nat) (xs1 : List (List Int)) (n2 : Int) (w : World) (hc0 : xs0.length ≤ c0) (h0 : RII w A0 xs0) (hc1 : xs1.length ≤ c1) (h1 : RII w A1 xs1) (g2 : (Lit.int .i64 n2).wf = true) :
    Calls Try.prog 5 #[.agg #[.int .i64 m0.c, .int .i64 m0.d, .int .i64 m0.s, .int .i64 m0.a, .int .i64 m0.l, .slice A0 xs0.length c0], .slice A1 xs1.length c1, .int .i64 n2] w fun e w' => e = .returned (.bool true) ∧ Below w.heap.size w w' := by
  have lens0 := lens m0 xs0 xs1 n2
  have HB0 : Below w.heap.size w (w.alloc (.cells #[.int .i64 m0.c, .int .i64 m0.d, .int .i64 m0.s, .int .i64 m0.a, .int .i64 m0.l, .slice A0 xs0.length c0] 26)) := (Below.refl w.heap.size w).alloc (by exact Nat.le_refl _) _
  have bx0 : BoxC (w.alloc (.cells #[.int .i64 m0.c, .int .i64 m0.d, .int .i64 m0.s, .int .i64 m0.a, .int .i64 m0.l, .slice A0 xs0.length c0] 26)) (w.heap.size) 0 [.int .i64 m0.c, .int .i64 m0.d, .int .i64 m0.s, .int .i64 m0.a, .int .i64 m0.l, .slice A0 xs0.length c0] := by simp [BoxC, Go.World.cell?_alloc_at]
  have Rxs0 := (h0).alloc (.cells #[.int .i64 m0.c, .int .i64 m0.d, .int .i64 m0.s, .int .i64 m0.a, .int .i64 m0.l, .slice A0 xs0.length c0] 26)
  have Rxs1 := (h1).alloc (.cells #[.int .i64 m0.c, .int .i64 m0.d, .int .i64 m0.s, .int .i64 m0.a, .int .i64 m0.l, .slice A0 xs0.length c0] 26)
  go_enter Try.func5, Try.ntmps5
  have q0 : (w.alloc (.cells #[.int .i64 m0.c, .int .i64 m0.d, .int .i64 m0.s, .int .i64 m0.a, .int .i64 m0.l, .slice A0 xs0.length c0] 26)).cell? ⟨w.heap.size, 0, none⟩ = some (.int .i64 m0.c) ∧ (w.alloc (.cells #[.int .i64 m0.c, .int .i64 m0.d, .int .i64 m0.s, .int .i64 m0.a, .int .i64 m0.l, .slice A0 xs0.length c0] 26)).cell? ⟨w.heap.size, 1, none⟩ = some (.int .i64 m0.d) ∧ (w.alloc (.cells #[.int .i64 m0.c, .int .i64 m0.d, .int .i64 m0.s, .int .i64 m0.a, .int .i64 m0.l, .slice A0 xs0.length c0] 26)).cell? ⟨w.heap.size, 2, none⟩ = some (.int .i64 m0.s) ∧ (w.alloc (.cells #[.int .i64 m0.c, .int .i64 m0.d, .int .i64 m0.s, .int .i64 m0.a, .int .i64 m0.l, .slice A0 xs0.length c0] 26)).cell? ⟨w.heap.size, 3, none⟩ = some (.int .i64 m0.a) ∧ (w.alloc (.cells #[.int .i64 m0.c, .int .i64 m0.d, .int .i64 m0.s, .int .i64 m0.a, .int .i64 m0.l, .slice A0 xs0.length c0] 26)).cell? ⟨w.heap.size, 4, none⟩ = some (.int .i64 m0.l) ∧ (w.alloc (.cells #[.int .i64 m0.c, .int .i64 m0.d, .int .i64 m0.s, .int .i64 m0.a, .int .i64 m0.l, .slice A0 xs0.length c0] 26)).cell? ⟨w.heap.size, 5, none⟩ = some (.slice A0 xs0.length c0) ∧ True := bx0
  go_wp2_with fail
  clear q0
  refine (szS m0 A0 c0 xs0 _ _ Rxs0 (by omega) (by omega)).mono ?_
  rintro e w1 ⟨r0, rfl, hL0, b1, hm0⟩
  by_cases hz0 : r0 < 0
  case pos =>
    go_wp2_with fail
    go_ret
    exact ⟨rfl, HB0.trans (b1.mono HB0.size)⟩
  have hL02 := hL0.2 (by omega)
  have hL01 := hL0.1
  have zxs0 : xs0.length ≤ 1048576 ∧ sumLen xs0 ≤ 1048576 := by omega
  have zzxs0 : ∀ k (hk : k < xs0.length), xs0[k].length ≤ 1048576 := fun k hk => by have := mem_sumLen hk; omega
  have zt0 : (xs0.length + sumLen xs0 : Nat) + r0 ≤ 1048576 := by omega
  have Hz0 := Lib.hid hL02; clear hL02 hL0
  have bq1 := BoxC.below bx0 b1
  have q0 : w1.cell? ⟨w.heap.size, 0, none⟩ = some (.int .i64 m0.c) ∧ w1.cell? ⟨w.heap.size, 1, none⟩ = some (.int .i64 m0.d) ∧ w1.cell? ⟨w.heap.size, 2, none⟩ = some (.int .i64 m0.s) ∧ w1.cell? ⟨w.heap.size, 3, none⟩ = some (.int .i64 m0.a) ∧ w1.cell? ⟨w.heap.size, 4, none⟩ = some (.int .i64 m0.l) ∧ w1.cell? ⟨w.heap.size, 5, none⟩ = some (.slice A0 xs0.length c0) ∧ True := bq1
  go_wp2_with fail
  clear q0
  refine (szII_b A1 c1 xs1 _ _ (Rxs1.below b1) (by omega) (by omega)).mono ?_
  rintro e w2 ⟨r1, rfl, hL1, b2, hm1⟩
  have D0_2 := b1.trans (b2.mono b1.size)
  by_cases hz1 : r1 < 0
  case pos =>
    go_wp2_with fail
    go_ret
    exact ⟨rfl, HB0.trans (D0_2.mono HB0.size)⟩
  have hL12 := hL1.2 (by omega)
  have hL11 := hL1.1
  have zxs1 : xs1.length ≤ 1048576 ∧ sumLen xs1 ≤ 1048576 := by omega
  have zzxs1 : ∀ k (hk : k < xs1.length), xs1[k].length ≤ 1048576 := fun k hk => by have := mem_sumLen hk; omega
  have zt1 : (xs0.length + sumLen xs0 : Nat) + (xs1.length + sumLen xs1 : Nat) + r1 ≤ 1048576 := by omega
  have Hz1 := Lib.hid hL12; clear hL12 hL1
  have bq2 := BoxC.below bq1 b2
  have q0 : w2.cell? ⟨w.heap.size, 0, none⟩ = some (.int .i64 m0.c) ∧ w2.cell? ⟨w.heap.size, 1, none⟩ = some (.int .i64 m0.d) ∧ w2.cell? ⟨w.heap.size, 2, none⟩ = some (.int .i64 m0.s) ∧ w2.cell? ⟨w.heap.size, 3, none⟩ = some (.int .i64 m0.a) ∧ w2.cell? ⟨w.heap.size, 4, none⟩ = some (.int .i64 m0.l) ∧ w2.cell? ⟨w.heap.size, 5, none⟩ = some (.slice A0 xs0.length c0) ∧ True := bq2
  go_wp2_with fail
  clear q0
  refine (toS m0 A0 c0 xs0 _ (Rxs0.below D0_2) zxs0.1 zzxs0).mono ?_
  rintro e w3 ⟨A0_3, c0_3, rfl, hc0_3, rA0_3, oA0_3, b3⟩
  have bq3 := BoxC.below bq2 b3
  have q0 : w3.cell? ⟨w.heap.size, 0, none⟩ = some (.int .i64 m0.c) ∧ w3.cell? ⟨w.heap.size, 1, none⟩ = some (.int .i64 m0.d) ∧ w3.cell? ⟨w.heap.size, 2, none⟩ = some (.int .i64 m0.s) ∧ w3.cell? ⟨w.heap.size, 3, none⟩ = some (.int .i64 m0.a) ∧ w3.cell? ⟨w.heap.size, 4, none⟩ = some (.int .i64 m0.l) ∧ w3.cell? ⟨w.heap.size, 5, none⟩ = some (.slice A0 xs0.length c0) ∧ True := bq3
  go_wp2_with fail
  clear q0
  have D0_3 := D0_2.trans (b3.mono D0_2.size)
  refine (toII A1 c1 xs1 _ (Rxs1.below D0_3) zxs1.1 zzxs1).mono ?_
  rintro e w4 ⟨A1_4, c1_4, rfl, hc1_4, rA1_4, oA1_4, b4⟩
  have bq4 := BoxC.below bq3 b4
  have q0 : w4.cell? ⟨w.heap.size, 0, none⟩ = some (.int .i64 m0.c) ∧ w4.cell? ⟨w.heap.size, 1, none⟩ = some (.int .i64 m0.d) ∧ w4.cell? ⟨w.heap.size, 2, none⟩ = some (.int .i64 m0.s) ∧ w4.cell? ⟨w.heap.size, 3, none⟩ = some (.int .i64 m0.a) ∧ w4.cell? ⟨w.heap.size, 4, none⟩ = some (.int .i64 m0.l) ∧ w4.cell? ⟨w.heap.size, 5, none⟩ = some (.slice A0 xs0.length c0) ∧ True := bq4
  go_wp2_with fail
  clear q0
  refine (specNextCandidates_any m0 A0_3 c0_3 xs0 A1_4 c1_4 xs1 n2 _ (rA0_3.below b4) rA1_4 g2).mono ?_
  rintro e w5 ⟨As0, cs0, rfl, hcs0, rs0, b5⟩
  have bq5 := BoxC.below bq4 b5
  have q0 : w5.cell? ⟨w.heap.size, 0, none⟩ = some (.int .i64 m0.c) ∧ w5.cell? ⟨w.heap.size, 1, none⟩ = some (.int .i64 m0.d) ∧ w5.cell? ⟨w.heap.size, 2, none⟩ = some (.int .i64 m0.s) ∧ w5.cell? ⟨w.heap.size, 3, none⟩ = some (.int .i64 m0.a) ∧ w5.cell? ⟨w.heap.size, 4, none⟩ = some (.int .i64 m0.l) ∧ w5.cell? ⟨w.heap.size, 5, none⟩ = some (.slice A0 xs0.length c0) ∧ True := bq5
  go_wp2_with fail
  clear q0
  have D0_4 := D0_3.trans (b4.mono D0_3.size)
  have D0_5 := D0_4.trans (b5.mono D0_4.size)
  refine (toS m0 A0 c0 xs0 _ (Rxs0.below D0_5) zxs0.1 zzxs0).mono ?_
  rintro e w6 ⟨A0_6, c0_6, rfl, hc0_6, rA0_6, oA0_6, b6⟩
  have b7 : Below w6.heap.size w6 (w6.alloc (.cells #[.int .i64 m0.c, .int .i64 m0.d, .int .i64 m0.s, .int .i64 m0.a, .int .i64 m0.l, .slice A0_6 xs0.length c0_6] 31)) := (Below.refl _ _).alloc (Nat.le_refl _) _
  have bq6 : BoxC (w6.alloc (.cells #[.int .i64 m0.c, .int .i64 m0.d, .int .i64 m0.s, .int .i64 m0.a, .int .i64 m0.l, .slice A0_6 xs0.length c0_6] 31)) (w6.heap.size) 0 [.int .i64 m0.c, .int .i64 m0.d, .int .i64 m0.s, .int .i64 m0.a, .int .i64 m0.l, .slice A0_6 xs0.length c0_6] := by simp [BoxC, Go.World.cell?_alloc_at]
  have D5_7 := b6.trans (b7.mono b6.size)
  have bq7 := BoxC.below bq5 D5_7
  have q0 : (w6.alloc (.cells #[.int .i64 m0.c, .int .i64 m0.d, .int .i64 m0.s, .int .i64 m0.a, .int .i64 m0.l, .slice A0_6 xs0.length c0_6] 31)).cell? ⟨w.heap.size, 0, none⟩ = some (.int .i64 m0.c) ∧ (w6.alloc (.cells #[.int .i64 m0.c, .int .i64 m0.d, .int .i64 m0.s, .int .i64 m0.a, .int .i64 m0.l, .slice A0_6 xs0.length c0_6] 31)).cell? ⟨w.heap.size, 1, none⟩ = some (.int .i64 m0.d) ∧ (w6.alloc (.cells #[.int .i64 m0.c, .int .i64 m0.d, .int .i64 m0.s, .int .i64 m0.a, .int .i64 m0.l, .slice A0_6 xs0.length c0_6] 31)).cell? ⟨w.heap.size, 2, none⟩ = some (.int .i64 m0.s) ∧ (w6.alloc (.cells #[.int .i64 m0.c, .int .i64 m0.d, .int .i64 m0.s, .int .i64 m0.a, .int .i64 m0.l, .slice A0_6 xs0.length c0_6] 31)).cell? ⟨w.heap.size, 3, none⟩ = some (.int .i64 m0.a) ∧ (w6.alloc (.cells #[.int .i64 m0.c, .int .i64 m0.d, .int .i64 m0.s, .int .i64 m0.a, .int .i64 m0.l, .slice A0_6 xs0.length c0_6] 31)).cell? ⟨w.heap.size, 4, none⟩ = some (.int .i64 m0.l) ∧ (w6.alloc (.cells #[.int .i64 m0.c, .int .i64 m0.d, .int .i64 m0.s, .int .i64 m0.a, .int .i64 m0.l, .slice A0_6 xs0.length c0_6] 31)).cell? ⟨w.heap.size, 5, none⟩ = some (.slice A0 xs0.length c0) ∧ True := bq7
  have q1 : (w6.alloc (.cells #[.int .i64 m0.c, .int .i64 m0.d, .int .i64 m0.s, .int .i64 m0.a, .int .i64 m0.l, .slice A0_6 xs0.length c0_6] 31)).cell? ⟨w6.heap.size, 0, none⟩ = some (.int .i64 m0.c) ∧ (w6.alloc (.cells #[.int .i64 m0.c, .int .i64 m0.d, .int .i64 m0.s, .int .i64 m0.a, .int .i64 m0.l, .slice A0_6 xs0.length c0_6] 31)).cell? ⟨w6.heap.size, 1, none⟩ = some (.int .i64 m0.d) ∧ (w6.alloc (.cells #[.int .i64 m0.c, .int .i64 m0.d, .int .i64 m0.s, .int .i64 m0.a, .int .i64 m0.l, .slice A0_6 xs0.length c0_6] 31)).cell? ⟨w6.heap.size, 2, none⟩ = some (.int .i64 m0.s) ∧ (w6.alloc (.cells #[.int .i64 m0.c, .int .i64 m0.d, .int .i64 m0.s, .int .i64 m0.a, .int .i64 m0.l, .slice A0_6 xs0.length c0_6] 31)).cell? ⟨w6.heap.size, 3, none⟩ = some (.int .i64 m0.a) ∧ (w6.alloc (.cells #[.int .i64 m0.c, .int .i64 m0.d, .int .i64 m0.s, .int .i64 m0.a, .int .i64 m0.l, .slice A0_6 xs0.length c0_6] 31)).cell? ⟨w6.heap.size, 4, none⟩ = some (.int .i64 m0.l) ∧ (w6.alloc (.cells #[.int .i64 m0.c, .int .i64 m0.d, .int .i64 m0.s, .int .i64 m0.a, .int .i64 m0.l, .slice A0_6 xs0.length c0_6] 31)).cell? ⟨w6.heap.size, 5, none⟩ = some (.slice A0_6 xs0.length c0_6) ∧ True := bq6
  go_wp2_with fail
  clear q0 q1
  have D0_6 := D0_5.trans (b6.mono D0_5.size)
  have D0_7 := D0_6.trans (b7.mono D0_6.size)
  refine (toII A1 c1 xs1 _ (Rxs1.below D0_7) zxs1.1 zzxs1).mono ?_
  rintro e w8 ⟨A1_8, c1_8, rfl, hc1_8, rA1_8, oA1_8, b8⟩
  have bq8 := BoxC.below bq7 b8
  have q0 : w8.cell? ⟨w.heap.size, 0, none⟩ = some (.int .i64 m0.c) ∧ w8.cell? ⟨w.heap.size, 1, none⟩ = some (.int .i64 m0.d) ∧ w8.cell? ⟨w.heap.size, 2, none⟩ = some (.int .i64 m0.s) ∧ w8.cell? ⟨w.heap.size, 3, none⟩ = some (.int .i64 m0.a) ∧ w8.cell? ⟨w.heap.size, 4, none⟩ = some (.int .i64 m0.l) ∧ w8.cell? ⟨w.heap.size, 5, none⟩ = some (.slice A0 xs0.length c0) ∧ True := bq8
  have bq9 := BoxC.below bq6 b8
  have q1 : w8.cell? ⟨w6.heap.size, 0, none⟩ = some (.int .i64 m0.c) ∧ w8.cell? ⟨w6.heap.size, 1, none⟩ = some (.int .i64 m0.d) ∧ w8.cell? ⟨w6.heap.size, 2, none⟩ = some (.int .i64 m0.s) ∧ w8.cell? ⟨w6.heap.size, 3, none⟩ = some (.int .i64 m0.a) ∧ w8.cell? ⟨w6.heap.size, 4, none⟩ = some (.int .i64 m0.l) ∧ w8.cell? ⟨w6.heap.size, 5, none⟩ = some (.slice A0_6 xs0.length c0_6) ∧ True := bq9
  go_wp2_with fail
  clear q0 q1
  have D6_8 := b7.trans (b8.mono b7.size)
  refine (implNextCandidates_any m0 A0_6 c0_6 xs0 A1_8 c1_8 xs1 n2 _ (rA0_6.below D6_8) rA1_8 g2).mono ?_
  rintro e w9 ⟨Ag0, cg0, rfl, hcg0, rg0, og0, b9⟩
  have bq10 := BoxC.below bq8 b9
  have q0 : w9.cell? ⟨w.heap.size, 0, none⟩ = some (.int .i64 m0.c) ∧ w9.cell? ⟨w.heap.size, 1, none⟩ = some (.int .i64 m0.d) ∧ w9.cell? ⟨w.heap.size, 2, none⟩ = some (.int .i64 m0.s) ∧ w9.cell? ⟨w.heap.size, 3, none⟩ = some (.int .i64 m0.a) ∧ w9.cell? ⟨w.heap.size, 4, none⟩ = some (.int .i64 m0.l) ∧ w9.cell? ⟨w.heap.size, 5, none⟩ = some (.slice A0 xs0.length c0) ∧ True := bq10
  have bq11 := BoxC.below bq9 b9
  have q1 : w9.cell? ⟨w6.heap.size, 0, none⟩ = some (.int .i64 m0.c) ∧ w9.cell? ⟨w6.heap.size, 1, none⟩ = some (.int .i64 m0.d) ∧ w9.cell? ⟨w6.heap.size, 2, none⟩ = some (.int .i64 m0.s) ∧ w9.cell? ⟨w6.heap.size, 3, none⟩ = some (.int .i64 m0.a) ∧ w9.cell? ⟨w6.heap.size, 4, none⟩ = some (.int .i64 m0.l) ∧ w9.cell? ⟨w6.heap.size, 5, none⟩ = some (.slice A0_6 xs0.length c0_6) ∧ True := bq11
  go_wp2_with fail
  clear q0 q1
  have D5_8 := D5_7.trans (b8.mono D5_7.size)
  have D5_9 := D5_8.trans (b9.mono D5_8.size)
  refine (eqII_t Ag0 As0 cg0 cs0 (nextCandR m0 xs0 xs1 n2).1 _ rg0 (rs0.below D5_9)).mono ?_
  rintro e w10 ⟨rfl, b10⟩
  have bq12 := BoxC.below bq10 b10
  have q0 : w10.cell? ⟨w.heap.size, 0, none⟩ = some (.int .i64 m0.c) ∧ w10.cell? ⟨w.heap.size, 1, none⟩ = some (.int .i64 m0.d) ∧ w10.cell? ⟨w.heap.size, 2, none⟩ = some (.int .i64 m0.s) ∧ w10.cell? ⟨w.heap.size, 3, none⟩ = some (.int .i64 m0.a) ∧ w10.cell? ⟨w.heap.size, 4, none⟩ = some (.int .i64 m0.l) ∧ w10.cell? ⟨w.heap.size, 5, none⟩ = some (.slice A0 xs0.length c0) ∧ True := bq12
  have bq13 := BoxC.below bq11 b10
  have q1 : w10.cell? ⟨w6.heap.size, 0, none⟩ = some (.int .i64 m0.c) ∧ w10.cell? ⟨w6.heap.size, 1, none⟩ = some (.int .i64 m0.d) ∧ w10.cell? ⟨w6.heap.size, 2, none⟩ = some (.int .i64 m0.s) ∧ w10.cell? ⟨w6.heap.size, 3, none⟩ = some (.int .i64 m0.a) ∧ w10.cell? ⟨w6.heap.size, 4, none⟩ = some (.int .i64 m0.l) ∧ w10.cell? ⟨w6.heap.size, 5, none⟩ = some (.slice A0_6 xs0.length c0_6) ∧ True := bq13
  go_wp2_with fail
  clear q0 q1
  have KS14 := Lib.hid (show ∀ w' : World, Below w10.heap.size w10 w' → ((w'.cell? ⟨w.heap.size, 0, none⟩ = some (.int .i64 m0.c) ∧ w'.cell? ⟨w.heap.size, 1, none⟩ = some (.int .i64 m0.d) ∧ w'.cell? ⟨w.heap.size, 2, none⟩ = some (.int .i64 m0.s) ∧ w'.cell? ⟨w.heap.size, 3, none⟩ = some (.int .i64 m0.a) ∧ w'.cell? ⟨w.heap.size, 4, none⟩ = some (.int .i64 m0.l) ∧ w'.cell? ⟨w.heap.size, 5, none⟩ = some (.slice A0 xs0.length c0) ∧ True) ∧ (w'.cell? ⟨w6.heap.size, 0, none⟩ = some (.int .i64 m0.c) ∧ w'.cell? ⟨w6.heap.size, 1, none⟩ = some (.int .i64 m0.d) ∧ w'.cell? ⟨w6.heap.size, 2, none⟩ = some (.int .i64 m0.s) ∧ w'.cell? ⟨w6.heap.size, 3, none⟩ = some (.int .i64 m0.a) ∧ w'.cell? ⟨w6.heap.size, 4, none⟩ = some (.int .i64 m0.l) ∧ w'.cell? ⟨w6.heap.size, 5, none⟩ = some (.slice A0_6 xs0.length c0_6) ∧ True)) from fun w' hb => ⟨BoxC.below bq12 hb, BoxC.below bq13 hb⟩)
  go_region_held3 (fun w' => (w'.cell? ⟨w.heap.size, 0, none⟩ = some (.int .i64 m0.c) ∧ w'.cell? ⟨w.heap.size, 1, none⟩ = some (.int .i64 m0.d) ∧ w'.cell? ⟨w.heap.size, 2, none⟩ = some (.int .i64 m0.s) ∧ w'.cell? ⟨w.heap.size, 3, none⟩ = some (.int .i64 m0.a) ∧ w'.cell? ⟨w.heap.size, 4, none⟩ = some (.int .i64 m0.l) ∧ w'.cell? ⟨w.heap.size, 5, none⟩ = some (.slice A0 xs0.length c0) ∧ True) ∧ (w'.cell? ⟨w6.heap.size, 0, none⟩ = some (.int .i64 m0.c) ∧ w'.cell? ⟨w6.heap.size, 1, none⟩ = some (.int .i64 m0.d) ∧ w'.cell? ⟨w6.heap.size, 2, none⟩ = some (.int .i64 m0.s) ∧ w'.cell? ⟨w6.heap.size, 3, none⟩ = some (.int .i64 m0.a) ∧ w'.cell? ⟨w6.heap.size, 4, none⟩ = some (.int .i64 m0.l) ∧ w'.cell? ⟨w6.heap.size, 5, none⟩ = some (.slice A0_6 xs0.length c0_6) ∧ True)) (first | (refine KS14.out _ ?_; first | assumption | exact belowDrew0 _ | exact Below.alloc (by assumption) (Below.size (by assumption)) _)) (first | (go_at_call 20; have D6_9 := D6_8.trans (b9.mono D6_8.size); have D6_10 := D6_9.trans (b10.mono D6_9.size); have D6_11 := D6_10.trans (b11.mono D6_10.size); refine (eqS_t m0 A0_6 A0_11 c0_6 c0_11 xs0 _ (rA0_6.below D6_11) rA0_11).mono ?_; rintro e w12 ⟨rfl, b12⟩; have BS12 := Below.trans b11 (b12.mono (Below.size b11))) | (go_at_call 17; have D0_8 := D0_7.trans (b8.mono D0_7.size); have D0_9 := D0_8.trans (b9.mono D0_8.size); have D0_10 := D0_9.trans (b10.mono D0_9.size); refine (toS m0 A0 c0 xs0 _ ((Rxs0.below D0_10).below (belowDrew0 _)) zxs0.1 zzxs0).mono ?_; rintro e w11 ⟨A0_11, c0_11, rfl, hc0_11, rA0_11, oA0_11, b11⟩; have b11 := belowDrew b11))
  have D10_12 := b11.trans (b12.mono b11.size)
  have bq15 := BoxC.below bq12 D10_12
  have q0 : w12.cell? ⟨w.heap.size, 0, none⟩ = some (.int .i64 m0.c) ∧ w12.cell? ⟨w.heap.size, 1, none⟩ = some (.int .i64 m0.d) ∧ w12.cell? ⟨w.heap.size, 2, none⟩ = some (.int .i64 m0.s) ∧ w12.cell? ⟨w.heap.size, 3, none⟩ = some (.int .i64 m0.a) ∧ w12.cell? ⟨w.heap.size, 4, none⟩ = some (.int .i64 m0.l) ∧ w12.cell? ⟨w.heap.size, 5, none⟩ = some (.slice A0 xs0.length c0) ∧ True := bq15
  have bq16 := BoxC.below bq13 D10_12
  have q1 : w12.cell? ⟨w6.heap.size, 0, none⟩ = some (.int .i64 m0.c) ∧ w12.cell? ⟨w6.heap.size, 1, none⟩ = some (.int .i64 m0.d) ∧ w12.cell? ⟨w6.heap.size, 2, none⟩ = some (.int .i64 m0.s) ∧ w12.cell? ⟨w6.heap.size, 3, none⟩ = some (.int .i64 m0.a) ∧ w12.cell? ⟨w6.heap.size, 4, none⟩ = some (.int .i64 m0.l) ∧ w12.cell? ⟨w6.heap.size, 5, none⟩ = some (.slice A0_6 xs0.length c0_6) ∧ True := bq16
  go_wp2_with fail
  clear q0 q1
  have D0_11 := D0_10.trans (b11.mono D0_10.size)
  have D0_12 := D0_11.trans (b12.mono D0_11.size)
  refine (toII A1 c1 xs1 _ (Rxs1.below D0_12) zxs1.1 zzxs1).mono ?_
  rintro e w13 ⟨A1_13, c1_13, rfl, hc1_13, rA1_13, oA1_13, b13⟩
  have bq17 := BoxC.below bq15 b13
  have q0 : w13.cell? ⟨w.heap.size, 0, none⟩ = some (.int .i64 m0.c) ∧ w13.cell? ⟨w.heap.size, 1, none⟩ = some (.int .i64 m0.d) ∧ w13.cell? ⟨w.heap.size, 2, none⟩ = some (.int .i64 m0.s) ∧ w13.cell? ⟨w.heap.size, 3, none⟩ = some (.int .i64 m0.a) ∧ w13.cell? ⟨w.heap.size, 4, none⟩ = some (.int .i64 m0.l) ∧ w13.cell? ⟨w.heap.size, 5, none⟩ = some (.slice A0 xs0.length c0) ∧ True := bq17
  have bq18 := BoxC.below bq16 b13
  have q1 : w13.cell? ⟨w6.heap.size, 0, none⟩ = some (.int .i64 m0.c) ∧ w13.cell? ⟨w6.heap.size, 1, none⟩ = some (.int .i64 m0.d) ∧ w13.cell? ⟨w6.heap.size, 2, none⟩ = some (.int .i64 m0.s) ∧ w13.cell? ⟨w6.heap.size, 3, none⟩ = some (.int .i64 m0.a) ∧ w13.cell? ⟨w6.heap.size, 4, none⟩ = some (.int .i64 m0.l) ∧ w13.cell? ⟨w6.heap.size, 5, none⟩ = some (.slice A0_6 xs0.length c0_6) ∧ True := bq18
  go_wp2_with fail
  clear q0 q1
  have D8_10 := b9.trans (b10.mono b9.size)
  have D8_11 := D8_10.trans (b11.mono D8_10.size)
  have D8_12 := D8_11.trans (b12.mono D8_11.size)
  have D8_13 := D8_12.trans (b13.mono D8_12.size)
  refine (eqII_t A1_8 A1_13 c1_8 c1_13 xs1 _ (rA1_8.below D8_13) rA1_13).mono ?_
  rintro e w14 ⟨rfl, b14⟩
  have bq19 := BoxC.below bq17 b14
  have q0 : w14.cell? ⟨w.heap.size, 0, none⟩ = some (.int .i64 m0.c) ∧ w14.cell? ⟨w.heap.size, 1, none⟩ = some (.int .i64 m0.d) ∧ w14.cell? ⟨w.heap.size, 2, none⟩ = some (.int .i64 m0.s) ∧ w14.cell? ⟨w.heap.size, 3, none⟩ = some (.int .i64 m0.a) ∧ w14.cell? ⟨w.heap.size, 4, none⟩ = some (.int .i64 m0.l) ∧ w14.cell? ⟨w.heap.size, 5, none⟩ = some (.slice A0 xs0.length c0) ∧ True := bq19
  have bq20 := BoxC.below bq18 b14
  have q1 : w14.cell? ⟨w6.heap.size, 0, none⟩ = some (.int .i64 m0.c) ∧ w14.cell? ⟨w6.heap.size, 1, none⟩ = some (.int .i64 m0.d) ∧ w14.cell? ⟨w6.heap.size, 2, none⟩ = some (.int .i64 m0.s) ∧ w14.cell? ⟨w6.heap.size, 3, none⟩ = some (.int .i64 m0.a) ∧ w14.cell? ⟨w6.heap.size, 4, none⟩ = some (.int .i64 m0.l) ∧ w14.cell? ⟨w6.heap.size, 5, none⟩ = some (.slice A0_6 xs0.length c0_6) ∧ True := bq20
  go_wp2_with fail
  clear q0 q1
  have D6_12 := D6_11.trans (b12.mono D6_11.size)
  have D6_13 := D6_12.trans (b13.mono D6_12.size)
  have D6_14 := D6_13.trans (b14.mono D6_13.size)
  have Y21 := oA0_6.below (D6_14.mono (Nat.le_refl _))
  have D8_14 := D8_13.trans (b14.mono D8_13.size)
  have Y22 := oA1_8.below (D8_14.mono (Nat.le_refl _))
  have D9_11 := b10.trans (b11.mono b10.size)
  have D9_12 := D9_11.trans (b12.mono D9_11.size)
  have D9_13 := D9_12.trans (b13.mono D9_12.size)
  have D9_14 := D9_13.trans (b14.mono D9_13.size)
  have Y23 := og0.below (D9_14.mono (Nat.le_refl _))
  have S6_8 := Nat.le_trans (b7.size) b8.size
  have S6_9 := Nat.le_trans (S6_8) b9.size
  have S6_10 := Nat.le_trans (S6_9) b10.size
  have S6_11 := Nat.le_trans (S6_10) b11.size
  have S6_12 := Nat.le_trans (S6_11) b12.size
  have S6_13 := Nat.le_trans (S6_12) b13.size
  have S6_14 := Nat.le_trans (S6_13) b14.size
  refine (markS_t m0 (.slice A0_6 xs0.length c0_6) xs0 _ _ _ _ Y21 (by omega) (by omega) (by omega) (by omega) (S6_14)).mono ?_
  rintro e w15 ⟨rfl, Y24, on15⟩
  have S0_2 := Nat.le_trans (b1.size) b2.size
  have S0_3 := Nat.le_trans (S0_2) b3.size
  have S0_4 := Nat.le_trans (S0_3) b4.size
  have S0_5 := Nat.le_trans (S0_4) b5.size
  have bq25 := BoxC.only bq19 on15 (Or.inl (Nat.lt_of_lt_of_le (by simp only [World.size_alloc]; omega) (S0_5)))
  have q0 : w15.cell? ⟨w.heap.size, 0, none⟩ = some (.int .i64 m0.c) ∧ w15.cell? ⟨w.heap.size, 1, none⟩ = some (.int .i64 m0.d) ∧ w15.cell? ⟨w.heap.size, 2, none⟩ = some (.int .i64 m0.s) ∧ w15.cell? ⟨w.heap.size, 3, none⟩ = some (.int .i64 m0.a) ∧ w15.cell? ⟨w.heap.size, 4, none⟩ = some (.int .i64 m0.l) ∧ w15.cell? ⟨w.heap.size, 5, none⟩ = some (.slice A0 xs0.length c0) ∧ True := bq25
  have bq26 := BoxC.only bq20 on15 (Or.inr (Nat.le_refl _))
  have q1 : w15.cell? ⟨w6.heap.size, 0, none⟩ = some (.int .i64 m0.c) ∧ w15.cell? ⟨w6.heap.size, 1, none⟩ = some (.int .i64 m0.d) ∧ w15.cell? ⟨w6.heap.size, 2, none⟩ = some (.int .i64 m0.s) ∧ w15.cell? ⟨w6.heap.size, 3, none⟩ = some (.int .i64 m0.a) ∧ w15.cell? ⟨w6.heap.size, 4, none⟩ = some (.int .i64 m0.l) ∧ w15.cell? ⟨w6.heap.size, 5, none⟩ = some (.slice A0_6 xs0.length c0_6) ∧ True := bq26
  go_wp2_with fail
  clear q0 q1
  have Y27 := Y22.only on15 (Or.inr (b7.size))
  have Y28 := Y23.only on15 (Or.inr (S6_8))
  refine (markII_t (.slice A1_8 xs1.length c1_8) xs1 _ _ _ _ Y27 (by omega) (by omega) (by omega) (by omega)).mono ?_
  rintro e w16 ⟨rfl, Y29, on16⟩
  have S0_6 := Nat.le_trans (S0_5) b6.size
  have S0_7 := Nat.le_trans (S0_6) b7.size
  have bq30 := BoxC.only bq25 on16 (Or.inl (Nat.lt_of_lt_of_le (by simp only [World.size_alloc]; omega) (S0_7)))
  have q0 : w16.cell? ⟨w.heap.size, 0, none⟩ = some (.int .i64 m0.c) ∧ w16.cell? ⟨w.heap.size, 1, none⟩ = some (.int .i64 m0.d) ∧ w16.cell? ⟨w.heap.size, 2, none⟩ = some (.int .i64 m0.s) ∧ w16.cell? ⟨w.heap.size, 3, none⟩ = some (.int .i64 m0.a) ∧ w16.cell? ⟨w.heap.size, 4, none⟩ = some (.int .i64 m0.l) ∧ w16.cell? ⟨w.heap.size, 5, none⟩ = some (.slice A0 xs0.length c0) ∧ True := bq30
  have bq31 := BoxC.only bq26 on16 (Or.inl (Nat.lt_of_lt_of_le (by first | exact Nat.lt_succ_self _ | simp) (Nat.le_refl _)))
  have q1 : w16.cell? ⟨w6.heap.size, 0, none⟩ = some (.int .i64 m0.c) ∧ w16.cell? ⟨w6.heap.size, 1, none⟩ = some (.int .i64 m0.d) ∧ w16.cell? ⟨w6.heap.size, 2, none⟩ = some (.int .i64 m0.s) ∧ w16.cell? ⟨w6.heap.size, 3, none⟩ = some (.int .i64 m0.a) ∧ w16.cell? ⟨w6.heap.size, 4, none⟩ = some (.int .i64 m0.l) ∧ w16.cell? ⟨w6.heap.size, 5, none⟩ = some (.slice A0_6 xs0.length c0_6) ∧ True := bq31
  go_wp2_with fail
  clear q0 q1
  have Y32 := Y28.only on16 (Or.inr (Nat.le_refl _))
  have S7_9 := Nat.le_trans (b8.size) b9.size
  have S7_10 := Nat.le_trans (S7_9) b10.size
  have S7_11 := Nat.le_trans (S7_10) b11.size
  have S7_12 := Nat.le_trans (S7_11) b12.size
  have S7_13 := Nat.le_trans (S7_12) b13.size
  have S7_14 := Nat.le_trans (S7_13) b14.size
  have S7_15 := Nat.le_trans (S7_14) on15.size
  have S5_7 := Nat.le_trans (b6.size) b7.size
  have S5_8 := Nat.le_trans (S5_7) b8.size
  have S5_9 := Nat.le_trans (S5_8) b9.size
  have S5_10 := Nat.le_trans (S5_9) b10.size
  have S5_11 := Nat.le_trans (S5_10) b11.size
  have S5_12 := Nat.le_trans (S5_11) b12.size
  have S5_13 := Nat.le_trans (S5_12) b13.size
  have S5_14 := Nat.le_trans (S5_13) b14.size
  have D5_10 := D5_9.trans (b10.mono D5_9.size)
  have D5_11 := D5_10.trans (b11.mono D5_10.size)
  have D5_12 := D5_11.trans (b12.mono D5_11.size)
  have D5_13 := D5_12.trans (b13.mono D5_12.size)
  have D5_14 := D5_13.trans (b14.mono D5_13.size)
  have D5_15 := D5_14.trans (on15.below (S5_14))
  have D5_16 := D5_15.trans ((on16.below (S7_15)).mono (S5_7))
  refine (eqII_t Ag0 As0 cg0 cs0 (nextCandR m0 xs0 xs1 n2).1 _ (OII.rii Y32) (rs0.below D5_16)).mono ?_
  rintro e w17 ⟨rfl, b17⟩
  have bq33 := BoxC.below bq30 b17
  have q0 : w17.cell? ⟨w.heap.size, 0, none⟩ = some (.int .i64 m0.c) ∧ w17.cell? ⟨w.heap.size, 1, none⟩ = some (.int .i64 m0.d) ∧ w17.cell? ⟨w.heap.size, 2, none⟩ = some (.int .i64 m0.s) ∧ w17.cell? ⟨w.heap.size, 3, none⟩ = some (.int .i64 m0.a) ∧ w17.cell? ⟨w.heap.size, 4, none⟩ = some (.int .i64 m0.l) ∧ w17.cell? ⟨w.heap.size, 5, none⟩ = some (.slice A0 xs0.length c0) ∧ True := bq33
  have bq34 := BoxC.below bq31 b17
  have q1 : w17.cell? ⟨w6.heap.size, 0, none⟩ = some (.int .i64 m0.c) ∧ w17.cell? ⟨w6.heap.size, 1, none⟩ = some (.int .i64 m0.d) ∧ w17.cell? ⟨w6.heap.size, 2, none⟩ = some (.int .i64 m0.s) ∧ w17.cell? ⟨w6.heap.size, 3, none⟩ = some (.int .i64 m0.a) ∧ w17.cell? ⟨w6.heap.size, 4, none⟩ = some (.int .i64 m0.l) ∧ w17.cell? ⟨w6.heap.size, 5, none⟩ = some (.slice A0_6 xs0.length c0_6) ∧ True := bq34
  go_wp2_with fail
  clear q0 q1
  have S9_11 := Nat.le_trans (b10.size) b11.size
  have S9_12 := Nat.le_trans (S9_11) b12.size
  have S9_13 := Nat.le_trans (S9_12) b13.size
  have S9_14 := Nat.le_trans (S9_13) b14.size
  have S9_15 := Nat.le_trans (S9_14) on15.size
  have S9_16 := Nat.le_trans (S9_15) on16.size
  have Y35 := Y32.below (b17.mono (S9_16))
  refine (markII_t (.slice Ag0 (nextCandR m0 xs0 xs1 n2).1.length cg0) (nextCandR m0 xs0 xs1 n2).1 _ _ _ _ Y35 (by omega) (by omega) (by omega) (by omega)).mono ?_
  rintro e w18 ⟨rfl, Y36, on18⟩
  have S0_8 := Nat.le_trans (S0_7) b8.size
  have bq37 := BoxC.only bq33 on18 (Or.inl (Nat.lt_of_lt_of_le (by simp only [World.size_alloc]; omega) (S0_8)))
  have q0 : w18.cell? ⟨w.heap.size, 0, none⟩ = some (.int .i64 m0.c) ∧ w18.cell? ⟨w.heap.size, 1, none⟩ = some (.int .i64 m0.d) ∧ w18.cell? ⟨w.heap.size, 2, none⟩ = some (.int .i64 m0.s) ∧ w18.cell? ⟨w.heap.size, 3, none⟩ = some (.int .i64 m0.a) ∧ w18.cell? ⟨w.heap.size, 4, none⟩ = some (.int .i64 m0.l) ∧ w18.cell? ⟨w.heap.size, 5, none⟩ = some (.slice A0 xs0.length c0) ∧ True := bq37
  have bq38 := BoxC.only bq34 on18 (Or.inl (Nat.lt_of_lt_of_le (by first | exact Nat.lt_succ_self _ | simp) (b8.size)))
  have q1 : w18.cell? ⟨w6.heap.size, 0, none⟩ = some (.int .i64 m0.c) ∧ w18.cell? ⟨w6.heap.size, 1, none⟩ = some (.int .i64 m0.d) ∧ w18.cell? ⟨w6.heap.size, 2, none⟩ = some (.int .i64 m0.s) ∧ w18.cell? ⟨w6.heap.size, 3, none⟩ = some (.int .i64 m0.a) ∧ w18.cell? ⟨w6.heap.size, 4, none⟩ = some (.int .i64 m0.l) ∧ w18.cell? ⟨w6.heap.size, 5, none⟩ = some (.slice A0_6 xs0.length c0_6) ∧ True := bq38
  go_wp2_with fail
  clear q0 q1
  refine (heldII_t Ag0 cg0 (nextCandR m0 xs0 xs1 n2).1 _ _ (OII.rii Y36) (by omega) (by omega) (by omega) (by omega)).mono ?_
  rintro e w19 ⟨rfl, b19⟩
  have bq39 := BoxC.below bq37 b19
  have q0 : w19.cell? ⟨w.heap.size, 0, none⟩ = some (.int .i64 m0.c) ∧ w19.cell? ⟨w.heap.size, 1, none⟩ = some (.int .i64 m0.d) ∧ w19.cell? ⟨w.heap.size, 2, none⟩ = some (.int .i64 m0.s) ∧ w19.cell? ⟨w.heap.size, 3, none⟩ = some (.int .i64 m0.a) ∧ w19.cell? ⟨w.heap.size, 4, none⟩ = some (.int .i64 m0.l) ∧ w19.cell? ⟨w.heap.size, 5, none⟩ = some (.slice A0 xs0.length c0) ∧ True := bq39
  have bq40 := BoxC.below bq38 b19
  have q1 : w19.cell? ⟨w6.heap.size, 0, none⟩ = some (.int .i64 m0.c) ∧ w19.cell? ⟨w6.heap.size, 1, none⟩ = some (.int .i64 m0.d) ∧ w19.cell? ⟨w6.heap.size, 2, none⟩ = some (.int .i64 m0.s) ∧ w19.cell? ⟨w6.heap.size, 3, none⟩ = some (.int .i64 m0.a) ∧ w19.cell? ⟨w6.heap.size, 4, none⟩ = some (.int .i64 m0.l) ∧ w19.cell? ⟨w6.heap.size, 5, none⟩ = some (.slice A0_6 xs0.length c0_6) ∧ True := bq40
  go_wp2_with fail
  clear q0 q1
  have S8_10 := Nat.le_trans (b9.size) b10.size
  have S8_11 := Nat.le_trans (S8_10) b11.size
  have S8_12 := Nat.le_trans (S8_11) b12.size
  have S8_13 := Nat.le_trans (S8_12) b13.size
  have S8_14 := Nat.le_trans (S8_13) b14.size
  have S8_15 := Nat.le_trans (S8_14) on15.size
  have S8_16 := Nat.le_trans (S8_15) on16.size
  have S8_17 := Nat.le_trans (S8_16) b17.size
  have D0_13 := D0_12.trans (b13.mono D0_12.size)
  have D0_14 := D0_13.trans (b14.mono D0_13.size)
  have D0_15 := D0_14.trans ((on15.below (S5_14)).mono (S0_5))
  have D0_16 := D0_15.trans ((on16.below (S7_15)).mono (S0_7))
  have D0_17 := D0_16.trans (b17.mono D0_16.size)
  have D0_18 := D0_17.trans ((on18.below (S8_17)).mono (S0_8))
  have D0_19 := D0_18.trans (b19.mono D0_18.size)
  refine (toS m0 A0 c0 xs0 _ (Rxs0.below D0_19) zxs0.1 zzxs0).mono ?_
  rintro e w20 ⟨A0_20, c0_20, rfl, hc0_20, rA0_20, oA0_20, b20⟩
  have bq41 := BoxC.below bq39 b20
  have q0 : w20.cell? ⟨w.heap.size, 0, none⟩ = some (.int .i64 m0.c) ∧ w20.cell? ⟨w.heap.size, 1, none⟩ = some (.int .i64 m0.d) ∧ w20.cell? ⟨w.heap.size, 2, none⟩ = some (.int .i64 m0.s) ∧ w20.cell? ⟨w.heap.size, 3, none⟩ = some (.int .i64 m0.a) ∧ w20.cell? ⟨w.heap.size, 4, none⟩ = some (.int .i64 m0.l) ∧ w20.cell? ⟨w.heap.size, 5, none⟩ = some (.slice A0 xs0.length c0) ∧ True := bq41
  have bq42 := BoxC.below bq40 b20
  have q1 : w20.cell? ⟨w6.heap.size, 0, none⟩ = some (.int .i64 m0.c) ∧ w20.cell? ⟨w6.heap.size, 1, none⟩ = some (.int .i64 m0.d) ∧ w20.cell? ⟨w6.heap.size, 2, none⟩ = some (.int .i64 m0.s) ∧ w20.cell? ⟨w6.heap.size, 3, none⟩ = some (.int .i64 m0.a) ∧ w20.cell? ⟨w6.heap.size, 4, none⟩ = some (.int .i64 m0.l) ∧ w20.cell? ⟨w6.heap.size, 5, none⟩ = some (.slice A0_6 xs0.length c0_6) ∧ True := bq42
  go_wp2_with fail
  clear q0 q1
  have D0_20 := D0_19.trans (b20.mono D0_19.size)
  refine (toII A1 c1 xs1 _ (Rxs1.below D0_20) zxs1.1 zzxs1).mono ?_
  rintro e w21 ⟨A1_21, c1_21, rfl, hc1_21, rA1_21, oA1_21, b21⟩
  have bq43 := BoxC.below bq41 b21
  have q0 : w21.cell? ⟨w.heap.size, 0, none⟩ = some (.int .i64 m0.c) ∧ w21.cell? ⟨w.heap.size, 1, none⟩ = some (.int .i64 m0.d) ∧ w21.cell? ⟨w.heap.size, 2, none⟩ = some (.int .i64 m0.s) ∧ w21.cell? ⟨w.heap.size, 3, none⟩ = some (.int .i64 m0.a) ∧ w21.cell? ⟨w.heap.size, 4, none⟩ = some (.int .i64 m0.l) ∧ w21.cell? ⟨w.heap.size, 5, none⟩ = some (.slice A0 xs0.length c0) ∧ True := bq43
  have bq44 := BoxC.below bq42 b21
  have q1 : w21.cell? ⟨w6.heap.size, 0, none⟩ = some (.int .i64 m0.c) ∧ w21.cell? ⟨w6.heap.size, 1, none⟩ = some (.int .i64 m0.d) ∧ w21.cell? ⟨w6.heap.size, 2, none⟩ = some (.int .i64 m0.s) ∧ w21.cell? ⟨w6.heap.size, 3, none⟩ = some (.int .i64 m0.a) ∧ w21.cell? ⟨w6.heap.size, 4, none⟩ = some (.int .i64 m0.l) ∧ w21.cell? ⟨w6.heap.size, 5, none⟩ = some (.slice A0_6 xs0.length c0_6) ∧ True := bq44
  go_wp2_with fail
  clear q0 q1
  refine (implNextCandidates_any m0 A0_20 c0_20 xs0 A1_21 c1_21 xs1 n2 _ (rA0_20.below b21) rA1_21 g2).mono ?_
  rintro e w22 ⟨Ah0, ch0, rfl, hch0, rh0, oh0, b22⟩
  have bq45 := BoxC.below bq43 b22
  have q0 : w22.cell? ⟨w.heap.size, 0, none⟩ = some (.int .i64 m0.c) ∧ w22.cell? ⟨w.heap.size, 1, none⟩ = some (.int .i64 m0.d) ∧ w22.cell? ⟨w.heap.size, 2, none⟩ = some (.int .i64 m0.s) ∧ w22.cell? ⟨w.heap.size, 3, none⟩ = some (.int .i64 m0.a) ∧ w22.cell? ⟨w.heap.size, 4, none⟩ = some (.int .i64 m0.l) ∧ w22.cell? ⟨w.heap.size, 5, none⟩ = some (.slice A0 xs0.length c0) ∧ True := bq45
  have bq46 := BoxC.below bq44 b22
  have q1 : w22.cell? ⟨w6.heap.size, 0, none⟩ = some (.int .i64 m0.c) ∧ w22.cell? ⟨w6.heap.size, 1, none⟩ = some (.int .i64 m0.d) ∧ w22.cell? ⟨w6.heap.size, 2, none⟩ = some (.int .i64 m0.s) ∧ w22.cell? ⟨w6.heap.size, 3, none⟩ = some (.int .i64 m0.a) ∧ w22.cell? ⟨w6.heap.size, 4, none⟩ = some (.int .i64 m0.l) ∧ w22.cell? ⟨w6.heap.size, 5, none⟩ = some (.slice A0_6 xs0.length c0_6) ∧ True := bq46
  go_wp2_with fail
  clear q0 q1
  have D5_17 := D5_16.trans (b17.mono D5_16.size)
  have D5_18 := D5_17.trans ((on18.below (S8_17)).mono (S5_8))
  have D5_19 := D5_18.trans (b19.mono D5_18.size)
  have D5_20 := D5_19.trans (b20.mono D5_19.size)
  have D5_21 := D5_20.trans (b21.mono D5_20.size)
  have D5_22 := D5_21.trans (b22.mono D5_21.size)
  refine (eqII_t Ah0 As0 ch0 cs0 (nextCandR m0 xs0 xs1 n2).1 _ rh0 (rs0.below D5_22)).mono ?_
  rintro e w23 ⟨rfl, b23⟩
  have bq47 := BoxC.below bq45 b23
  have q0 : w23.cell? ⟨w.heap.size, 0, none⟩ = some (.int .i64 m0.c) ∧ w23.cell? ⟨w.heap.size, 1, none⟩ = some (.int .i64 m0.d) ∧ w23.cell? ⟨w.heap.size, 2, none⟩ = some (.int .i64 m0.s) ∧ w23.cell? ⟨w.heap.size, 3, none⟩ = some (.int .i64 m0.a) ∧ w23.cell? ⟨w.heap.size, 4, none⟩ = some (.int .i64 m0.l) ∧ w23.cell? ⟨w.heap.size, 5, none⟩ = some (.slice A0 xs0.length c0) ∧ True := bq47
  have bq48 := BoxC.below bq46 b23
  have q1 : w23.cell? ⟨w6.heap.size, 0, none⟩ = some (.int .i64 m0.c) ∧ w23.cell? ⟨w6.heap.size, 1, none⟩ = some (.int .i64 m0.d) ∧ w23.cell? ⟨w6.heap.size, 2, none⟩ = some (.int .i64 m0.s) ∧ w23.cell? ⟨w6.heap.size, 3, none⟩ = some (.int .i64 m0.a) ∧ w23.cell? ⟨w6.heap.size, 4, none⟩ = some (.int .i64 m0.l) ∧ w23.cell? ⟨w6.heap.size, 5, none⟩ = some (.slice A0_6 xs0.length c0_6) ∧ True := bq48
  go_wp2_with fail
  clear q0 q1
  have D18_20 := b19.trans (b20.mono b19.size)
  have D18_21 := D18_20.trans (b21.mono D18_20.size)
  have D18_22 := D18_21.trans (b22.mono D18_21.size)
  have D18_23 := D18_22.trans (b23.mono D18_22.size)
  have S9_17 := Nat.le_trans (S9_16) b17.size
  have S9_18 := Nat.le_trans (S9_17) on18.size
  have Y49 := Y36.below (D18_23.mono (S9_18))
  refine (heldII_t Ag0 cg0 (nextCandR m0 xs0 xs1 n2).1 _ _ (OII.rii Y49) (by omega) (by omega) (by omega) (by omega)).mono ?_
  rintro e w24 ⟨rfl, b24⟩
  have D0_21 := D0_20.trans (b21.mono D0_20.size)
  have D0_22 := D0_21.trans (b22.mono D0_21.size)
  have D0_23 := D0_22.trans (b23.mono D0_22.size)
  have D0_24 := D0_23.trans (b24.mono D0_23.size)
  have DD := D0_24
  have bq50 := BoxC.below bq47 b24
  have q0 : w24.cell? ⟨w.heap.size, 0, none⟩ = some (.int .i64 m0.c) ∧ w24.cell? ⟨w.heap.size, 1, none⟩ = some (.int .i64 m0.d) ∧ w24.cell? ⟨w.heap.size, 2, none⟩ = some (.int .i64 m0.s) ∧ w24.cell? ⟨w.heap.size, 3, none⟩ = some (.int .i64 m0.a) ∧ w24.cell? ⟨w.heap.size, 4, none⟩ = some (.int .i64 m0.l) ∧ w24.cell? ⟨w.heap.size, 5, none⟩ = some (.slice A0 xs0.length c0) ∧ True := bq50
  have bq51 := BoxC.below bq48 b24
  have q1 : w24.cell? ⟨w6.heap.size, 0, none⟩ = some (.int .i64 m0.c) ∧ w24.cell? ⟨w6.heap.size, 1, none⟩ = some (.int .i64 m0.d) ∧ w24.cell? ⟨w6.heap.size, 2, none⟩ = some (.int .i64 m0.s) ∧ w24.cell? ⟨w6.heap.size, 3, none⟩ = some (.int .i64 m0.a) ∧ w24.cell? ⟨w6.heap.size, 4, none⟩ = some (.int .i64 m0.l) ∧ w24.cell? ⟨w6.heap.size, 5, none⟩ = some (.slice A0_6 xs0.length c0_6) ∧ True := bq51
  go_wp2_with fail
  go_ret
  exact ⟨rfl, HB0.trans (DD.mono HB0.size)⟩
end Go.Proofs.Ytapocenhmdcfoaa.fnExactNextCandidates
