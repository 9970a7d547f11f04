/- The walk of the law FnExactFindDesign. -/
import Derived.Test.YtapocenhmdcfoaaGreatFFindAll
import Derived.Test.YtapocenhmdcfoaaGreatHelpS
namespace Go.Proofs.YtapocenhmdcfoaaGreat.fnExactFindDesign
set_option linter.unusedVariables false
open Go.RowKit
theorem few_lens : ∀ (ls : List (List Int)) (b : Nat), (∀ x, x ∈ ls → x.length ≤ b) → sumLen ls ≤ b * ls.length
  | [], _, _ => by simp [sumLen]
  | x :: r, b, h => by
    have := few_lens r b (fun y hy => h y (by simp [hy])); have := h x (by simp)
    unfold sumLen at *; rw [List.map_cons, List.sum_cons, List.length_cons, Nat.mul_succ]; omega
theorem lens (m : Mk) (t : List (List Int)) (lim : Int) : (findR m t lim).1.length ≤ 4194304 ∧ sumLen (findR m t lim).1 ≤ 1048576 := by
  rcases find_ok (m := m) (t := t) (lim := lim) with h | h
  · rw [h]; simp [sumLen]
  · have h1 := h.le
    have h2 := h.t10
    have h3 := few_lens (findR m t lim).1 6 (fun x hx => by
      obtain ⟨i, hi, rfl⟩ := List.getElem_of_mem hx
      have := h.len hi; have := mk_bounds h.mak; omega)
    omega
set_option maxRecDepth 100000 in
set_option maxHeartbeats 8000000 in
theorem walk (m0 : Mk) (A0 : Option Addr) (c0 : Nat) (xs0 : List (List Int)) (n1 : Int) (w : World) (hc0 : xs0.length ≤ c0) (h0 : RII w A0 xs0) (g1 : (Lit.int .i64 n1).wf = true) :
    Calls Tryz.prog 3 #[.agg #[.int .i64 m0.c, .int .i64 m0.d, .int .i64 m0.s, .int .i64 m0.a, .int .i64 m0.l, .slice A0 xs0.length c0], .int .i64 n1] w fun e w' => e = .returned (.bool true) ∧ Below w.heap.size w w' := by
  have lens0 := lens m0 xs0 n1
  have HB0 : Below w.heap.size w (w.alloc (.cells #[.int .i64 m0.c, .int .i64 m0.d, .int .i64 m0.s, .int .i64 m0.a, .int .i64 m0.l, .slice A0 xs0.length c0] 26)) := (Below.refl w.heap.size w).alloc (by exact Nat.le_refl _) _
  have bx0 : BoxC (w.alloc (.cells #[.int .i64 m0.c, .int .i64 m0.d, .int .i64 m0.s, .int .i64 m0.a, .int .i64 m0.l, .slice A0 xs0.length c0] 26)) (w.heap.size) 0 [.int .i64 m0.c, .int .i64 m0.d, .int .i64 m0.s, .int .i64 m0.a, .int .i64 m0.l, .slice A0 xs0.length c0] := by simp [BoxC, Go.World.cell?_alloc_at]
  have Rxs0 := (h0).alloc (.cells #[.int .i64 m0.c, .int .i64 m0.d, .int .i64 m0.s, .int .i64 m0.a, .int .i64 m0.l, .slice A0 xs0.length c0] 26)
  go_enter Tryz.func3, Tryz.ntmps3
  have q0 : (w.alloc (.cells #[.int .i64 m0.c, .int .i64 m0.d, .int .i64 m0.s, .int .i64 m0.a, .int .i64 m0.l, .slice A0 xs0.length c0] 26)).cell? ⟨w.heap.size, 0, none⟩ = some (.int .i64 m0.c) ∧ (w.alloc (.cells #[.int .i64 m0.c, .int .i64 m0.d, .int .i64 m0.s, .int .i64 m0.a, .int .i64 m0.l, .slice A0 xs0.length c0] 26)).cell? ⟨w.heap.size, 1, none⟩ = some (.int .i64 m0.d) ∧ (w.alloc (.cells #[.int .i64 m0.c, .int .i64 m0.d, .int .i64 m0.s, .int .i64 m0.a, .int .i64 m0.l, .slice A0 xs0.length c0] 26)).cell? ⟨w.heap.size, 2, none⟩ = some (.int .i64 m0.s) ∧ (w.alloc (.cells #[.int .i64 m0.c, .int .i64 m0.d, .int .i64 m0.s, .int .i64 m0.a, .int .i64 m0.l, .slice A0 xs0.length c0] 26)).cell? ⟨w.heap.size, 3, none⟩ = some (.int .i64 m0.a) ∧ (w.alloc (.cells #[.int .i64 m0.c, .int .i64 m0.d, .int .i64 m0.s, .int .i64 m0.a, .int .i64 m0.l, .slice A0 xs0.length c0] 26)).cell? ⟨w.heap.size, 4, none⟩ = some (.int .i64 m0.l) ∧ (w.alloc (.cells #[.int .i64 m0.c, .int .i64 m0.d, .int .i64 m0.s, .int .i64 m0.a, .int .i64 m0.l, .slice A0 xs0.length c0] 26)).cell? ⟨w.heap.size, 5, none⟩ = some (.slice A0 xs0.length c0) ∧ True := bx0
  go_wp2_with fail
  clear q0
  refine (szS m0 A0 c0 xs0 _ _ Rxs0 (by omega) (by omega)).mono ?_
  rintro e w1 ⟨r0, rfl, hL0, b1, hm0⟩
  by_cases hz0 : r0 < 0
  case pos =>
    go_wp2_with fail
    go_ret
    exact ⟨rfl, HB0.trans (b1.mono HB0.size)⟩
  have hL02 := hL0.2 (by omega)
  have hL01 := hL0.1
  have zxs0 : xs0.length ≤ 1048576 ∧ sumLen xs0 ≤ 1048576 := by omega
  have zzxs0 : ∀ k (hk : k < xs0.length), xs0[k].length ≤ 1048576 := fun k hk => by have := mem_sumLen hk; omega
  have zt0 : (xs0.length + sumLen xs0 : Nat) + r0 ≤ 1048576 := by omega
  have Hz0 := Lib.hid hL02; clear hL02 hL0
  have bq1 := BoxC.below bx0 b1
  have q0 : w1.cell? ⟨w.heap.size, 0, none⟩ = some (.int .i64 m0.c) ∧ w1.cell? ⟨w.heap.size, 1, none⟩ = some (.int .i64 m0.d) ∧ w1.cell? ⟨w.heap.size, 2, none⟩ = some (.int .i64 m0.s) ∧ w1.cell? ⟨w.heap.size, 3, none⟩ = some (.int .i64 m0.a) ∧ w1.cell? ⟨w.heap.size, 4, none⟩ = some (.int .i64 m0.l) ∧ w1.cell? ⟨w.heap.size, 5, none⟩ = some (.slice A0 xs0.length c0) ∧ True := bq1
  go_wp2_with fail
  clear q0
  refine (toS m0 A0 c0 xs0 _ (Rxs0.below b1) zxs0.1 zzxs0).mono ?_
  rintro e w2 ⟨A0_2, c0_2, rfl, hc0_2, rA0_2, oA0_2, b2⟩
  have bq2 := BoxC.below bq1 b2
  have q0 : w2.cell? ⟨w.heap.size, 0, none⟩ = some (.int .i64 m0.c) ∧ w2.cell? ⟨w.heap.size, 1, none⟩ = some (.int .i64 m0.d) ∧ w2.cell? ⟨w.heap.size, 2, none⟩ = some (.int .i64 m0.s) ∧ w2.cell? ⟨w.heap.size, 3, none⟩ = some (.int .i64 m0.a) ∧ w2.cell? ⟨w.heap.size, 4, none⟩ = some (.int .i64 m0.l) ∧ w2.cell? ⟨w.heap.size, 5, none⟩ = some (.slice A0 xs0.length c0) ∧ True := bq2
  go_wp2_with fail
  clear q0
  refine (specFindDesign_any m0 A0_2 c0_2 xs0 n1 _ rA0_2 g1).mono ?_
  rintro e w3 ⟨As0, cs0, rfl, hcs0, rs0, os0, b3⟩
  have bq3 := BoxC.below bq2 b3
  have q0 : w3.cell? ⟨w.heap.size, 0, none⟩ = some (.int .i64 m0.c) ∧ w3.cell? ⟨w.heap.size, 1, none⟩ = some (.int .i64 m0.d) ∧ w3.cell? ⟨w.heap.size, 2, none⟩ = some (.int .i64 m0.s) ∧ w3.cell? ⟨w.heap.size, 3, none⟩ = some (.int .i64 m0.a) ∧ w3.cell? ⟨w.heap.size, 4, none⟩ = some (.int .i64 m0.l) ∧ w3.cell? ⟨w.heap.size, 5, none⟩ = some (.slice A0 xs0.length c0) ∧ True := bq3
  go_wp2_with fail
  clear q0
  have D0_2 := b1.trans (b2.mono b1.size)
  have D0_3 := D0_2.trans (b3.mono D0_2.size)
  refine (toS m0 A0 c0 xs0 _ (Rxs0.below D0_3) zxs0.1 zzxs0).mono ?_
  rintro e w4 ⟨A0_4, c0_4, rfl, hc0_4, rA0_4, oA0_4, b4⟩
  have b5 : Below w4.heap.size w4 (w4.alloc (.cells #[.int .i64 m0.c, .int .i64 m0.d, .int .i64 m0.s, .int .i64 m0.a, .int .i64 m0.l, .slice A0_4 xs0.length c0_4] 32)) := (Below.refl _ _).alloc (Nat.le_refl _) _
  have bq4 : BoxC (w4.alloc (.cells #[.int .i64 m0.c, .int .i64 m0.d, .int .i64 m0.s, .int .i64 m0.a, .int .i64 m0.l, .slice A0_4 xs0.length c0_4] 32)) (w4.heap.size) 0 [.int .i64 m0.c, .int .i64 m0.d, .int .i64 m0.s, .int .i64 m0.a, .int .i64 m0.l, .slice A0_4 xs0.length c0_4] := by simp [BoxC, Go.World.cell?_alloc_at]
  have D3_5 := b4.trans (b5.mono b4.size)
  have bq5 := BoxC.below bq3 D3_5
  have q0 : (w4.alloc (.cells #[.int .i64 m0.c, .int .i64 m0.d, .int .i64 m0.s, .int .i64 m0.a, .int .i64 m0.l, .slice A0_4 xs0.length c0_4] 32)).cell? ⟨w.heap.size, 0, none⟩ = some (.int .i64 m0.c) ∧ (w4.alloc (.cells #[.int .i64 m0.c, .int .i64 m0.d, .int .i64 m0.s, .int .i64 m0.a, .int .i64 m0.l, .slice A0_4 xs0.length c0_4] 32)).cell? ⟨w.heap.size, 1, none⟩ = some (.int .i64 m0.d) ∧ (w4.alloc (.cells #[.int .i64 m0.c, .int .i64 m0.d, .int .i64 m0.s, .int .i64 m0.a, .int .i64 m0.l, .slice A0_4 xs0.length c0_4] 32)).cell? ⟨w.heap.size, 2, none⟩ = some (.int .i64 m0.s) ∧ (w4.alloc (.cells #[.int .i64 m0.c, .int .i64 m0.d, .int .i64 m0.s, .int .i64 m0.a, .int .i64 m0.l, .slice A0_4 xs0.length c0_4] 32)).cell? ⟨w.heap.size, 3, none⟩ = some (.int .i64 m0.a) ∧ (w4.alloc (.cells #[.int .i64 m0.c, .int .i64 m0.d, .int .i64 m0.s, .int .i64 m0.a, .int .i64 m0.l, .slice A0_4 xs0.length c0_4] 32)).cell? ⟨w.heap.size, 4, none⟩ = some (.int .i64 m0.l) ∧ (w4.alloc (.cells #[.int .i64 m0.c, .int .i64 m0.d, .int .i64 m0.s, .int .i64 m0.a, .int .i64 m0.l, .slice A0_4 xs0.length c0_4] 32)).cell? ⟨w.heap.size, 5, none⟩ = some (.slice A0 xs0.length c0) ∧ True := bq5
  have q1 : (w4.alloc (.cells #[.int .i64 m0.c, .int .i64 m0.d, .int .i64 m0.s, .int .i64 m0.a, .int .i64 m0.l, .slice A0_4 xs0.length c0_4] 32)).cell? ⟨w4.heap.size, 0, none⟩ = some (.int .i64 m0.c) ∧ (w4.alloc (.cells #[.int .i64 m0.c, .int .i64 m0.d, .int .i64 m0.s, .int .i64 m0.a, .int .i64 m0.l, .slice A0_4 xs0.length c0_4] 32)).cell? ⟨w4.heap.size, 1, none⟩ = some (.int .i64 m0.d) ∧ (w4.alloc (.cells #[.int .i64 m0.c, .int .i64 m0.d, .int .i64 m0.s, .int .i64 m0.a, .int .i64 m0.l, .slice A0_4 xs0.length c0_4] 32)).cell? ⟨w4.heap.size, 2, none⟩ = some (.int .i64 m0.s) ∧ (w4.alloc (.cells #[.int .i64 m0.c, .int .i64 m0.d, .int .i64 m0.s, .int .i64 m0.a, .int .i64 m0.l, .slice A0_4 xs0.length c0_4] 32)).cell? ⟨w4.heap.size, 3, none⟩ = some (.int .i64 m0.a) ∧ (w4.alloc (.cells #[.int .i64 m0.c, .int .i64 m0.d, .int .i64 m0.s, .int .i64 m0.a, .int .i64 m0.l, .slice A0_4 xs0.length c0_4] 32)).cell? ⟨w4.heap.size, 4, none⟩ = some (.int .i64 m0.l) ∧ (w4.alloc (.cells #[.int .i64 m0.c, .int .i64 m0.d, .int .i64 m0.s, .int .i64 m0.a, .int .i64 m0.l, .slice A0_4 xs0.length c0_4] 32)).cell? ⟨w4.heap.size, 5, none⟩ = some (.slice A0_4 xs0.length c0_4) ∧ True := bq4
  go_wp2_with fail
  clear q0 q1
  refine (implFindDesign_any m0 A0_4 c0_4 xs0 n1 _ (rA0_4.below b5) g1).mono ?_
  rintro e w6 ⟨Ag0, cg0, rfl, hcg0, rg0, og0, b6⟩
  have bq6 := BoxC.below bq5 b6
  have q0 : w6.cell? ⟨w.heap.size, 0, none⟩ = some (.int .i64 m0.c) ∧ w6.cell? ⟨w.heap.size, 1, none⟩ = some (.int .i64 m0.d) ∧ w6.cell? ⟨w.heap.size, 2, none⟩ = some (.int .i64 m0.s) ∧ w6.cell? ⟨w.heap.size, 3, none⟩ = some (.int .i64 m0.a) ∧ w6.cell? ⟨w.heap.size, 4, none⟩ = some (.int .i64 m0.l) ∧ w6.cell? ⟨w.heap.size, 5, none⟩ = some (.slice A0 xs0.length c0) ∧ True := bq6
  have bq7 := BoxC.below bq4 b6
  have q1 : w6.cell? ⟨w4.heap.size, 0, none⟩ = some (.int .i64 m0.c) ∧ w6.cell? ⟨w4.heap.size, 1, none⟩ = some (.int .i64 m0.d) ∧ w6.cell? ⟨w4.heap.size, 2, none⟩ = some (.int .i64 m0.s) ∧ w6.cell? ⟨w4.heap.size, 3, none⟩ = some (.int .i64 m0.a) ∧ w6.cell? ⟨w4.heap.size, 4, none⟩ = some (.int .i64 m0.l) ∧ w6.cell? ⟨w4.heap.size, 5, none⟩ = some (.slice A0_4 xs0.length c0_4) ∧ True := bq7
  go_wp2_with fail
  clear q0 q1
  have D3_6 := D3_5.trans (b6.mono D3_5.size)
  refine (eqII_t Ag0 As0 cg0 cs0 (findR m0 xs0 n1).1 _ rg0 (rs0.below D3_6)).mono ?_
  rintro e w7 ⟨rfl, b7⟩
  have bq8 := BoxC.below bq6 b7
  have q0 : w7.cell? ⟨w.heap.size, 0, none⟩ = some (.int .i64 m0.c) ∧ w7.cell? ⟨w.heap.size, 1, none⟩ = some (.int .i64 m0.d) ∧ w7.cell? ⟨w.heap.size, 2, none⟩ = some (.int .i64 m0.s) ∧ w7.cell? ⟨w.heap.size, 3, none⟩ = some (.int .i64 m0.a) ∧ w7.cell? ⟨w.heap.size, 4, none⟩ = some (.int .i64 m0.l) ∧ w7.cell? ⟨w.heap.size, 5, none⟩ = some (.slice A0 xs0.length c0) ∧ True := bq8
  have bq9 := BoxC.below bq7 b7
  have q1 : w7.cell? ⟨w4.heap.size, 0, none⟩ = some (.int .i64 m0.c) ∧ w7.cell? ⟨w4.heap.size, 1, none⟩ = some (.int .i64 m0.d) ∧ w7.cell? ⟨w4.heap.size, 2, none⟩ = some (.int .i64 m0.s) ∧ w7.cell? ⟨w4.heap.size, 3, none⟩ = some (.int .i64 m0.a) ∧ w7.cell? ⟨w4.heap.size, 4, none⟩ = some (.int .i64 m0.l) ∧ w7.cell? ⟨w4.heap.size, 5, none⟩ = some (.slice A0_4 xs0.length c0_4) ∧ True := bq9
  go_wp2_with fail
  clear q0 q1
  have KS10 := Lib.hid (show ∀ w' : World, Below w7.heap.size w7 w' → ((w'.cell? ⟨w.heap.size, 0, none⟩ = some (.int .i64 m0.c) ∧ w'.cell? ⟨w.heap.size, 1, none⟩ = some (.int .i64 m0.d) ∧ w'.cell? ⟨w.heap.size, 2, none⟩ = some (.int .i64 m0.s) ∧ w'.cell? ⟨w.heap.size, 3, none⟩ = some (.int .i64 m0.a) ∧ w'.cell? ⟨w.heap.size, 4, none⟩ = some (.int .i64 m0.l) ∧ w'.cell? ⟨w.heap.size, 5, none⟩ = some (.slice A0 xs0.length c0) ∧ True) ∧ (w'.cell? ⟨w4.heap.size, 0, none⟩ = some (.int .i64 m0.c) ∧ w'.cell? ⟨w4.heap.size, 1, none⟩ = some (.int .i64 m0.d) ∧ w'.cell? ⟨w4.heap.size, 2, none⟩ = some (.int .i64 m0.s) ∧ w'.cell? ⟨w4.heap.size, 3, none⟩ = some (.int .i64 m0.a) ∧ w'.cell? ⟨w4.heap.size, 4, none⟩ = some (.int .i64 m0.l) ∧ w'.cell? ⟨w4.heap.size, 5, none⟩ = some (.slice A0_4 xs0.length c0_4) ∧ True)) from fun w' hb => ⟨BoxC.below bq8 hb, BoxC.below bq9 hb⟩)
  go_region_held3 (fun w' => (w'.cell? ⟨w.heap.size, 0, none⟩ = some (.int .i64 m0.c) ∧ w'.cell? ⟨w.heap.size, 1, none⟩ = some (.int .i64 m0.d) ∧ w'.cell? ⟨w.heap.size, 2, none⟩ = some (.int .i64 m0.s) ∧ w'.cell? ⟨w.heap.size, 3, none⟩ = some (.int .i64 m0.a) ∧ w'.cell? ⟨w.heap.size, 4, none⟩ = some (.int .i64 m0.l) ∧ w'.cell? ⟨w.heap.size, 5, none⟩ = some (.slice A0 xs0.length c0) ∧ True) ∧ (w'.cell? ⟨w4.heap.size, 0, none⟩ = some (.int .i64 m0.c) ∧ w'.cell? ⟨w4.heap.size, 1, none⟩ = some (.int .i64 m0.d) ∧ w'.cell? ⟨w4.heap.size, 2, none⟩ = some (.int .i64 m0.s) ∧ w'.cell? ⟨w4.heap.size, 3, none⟩ = some (.int .i64 m0.a) ∧ w'.cell? ⟨w4.heap.size, 4, none⟩ = some (.int .i64 m0.l) ∧ w'.cell? ⟨w4.heap.size, 5, none⟩ = some (.slice A0_4 xs0.length c0_4) ∧ True)) (first | (refine KS10.out _ ?_; first | assumption | exact belowDrew0 _ | exact Below.alloc (by assumption) (Below.size (by assumption)) _)) (first | (go_at_call 9; have D4_6 := b5.trans (b6.mono b5.size); have D4_7 := D4_6.trans (b7.mono D4_6.size); have D4_8 := D4_7.trans (b8.mono D4_7.size); refine (eqS_t m0 A0_4 A0_8 c0_4 c0_8 xs0 _ (rA0_4.below D4_8) rA0_8).mono ?_; rintro e w9 ⟨rfl, b9⟩; have BS9 := Below.trans b8 (b9.mono (Below.size b8))) | (go_at_call 6; have D0_4 := D0_3.trans (b4.mono D0_3.size); have D0_5 := D0_4.trans (b5.mono D0_4.size); have D0_6 := D0_5.trans (b6.mono D0_5.size); have D0_7 := D0_6.trans (b7.mono D0_6.size); refine (toS m0 A0 c0 xs0 _ ((Rxs0.below D0_7).below (belowDrew0 _)) zxs0.1 zzxs0).mono ?_; rintro e w8 ⟨A0_8, c0_8, rfl, hc0_8, rA0_8, oA0_8, b8⟩; have b8 := belowDrew b8))
  have D7_9 := b8.trans (b9.mono b8.size)
  have bq11 := BoxC.below bq8 D7_9
  have q0 : w9.cell? ⟨w.heap.size, 0, none⟩ = some (.int .i64 m0.c) ∧ w9.cell? ⟨w.heap.size, 1, none⟩ = some (.int .i64 m0.d) ∧ w9.cell? ⟨w.heap.size, 2, none⟩ = some (.int .i64 m0.s) ∧ w9.cell? ⟨w.heap.size, 3, none⟩ = some (.int .i64 m0.a) ∧ w9.cell? ⟨w.heap.size, 4, none⟩ = some (.int .i64 m0.l) ∧ w9.cell? ⟨w.heap.size, 5, none⟩ = some (.slice A0 xs0.length c0) ∧ True := bq11
  have bq12 := BoxC.below bq9 D7_9
  have q1 : w9.cell? ⟨w4.heap.size, 0, none⟩ = some (.int .i64 m0.c) ∧ w9.cell? ⟨w4.heap.size, 1, none⟩ = some (.int .i64 m0.d) ∧ w9.cell? ⟨w4.heap.size, 2, none⟩ = some (.int .i64 m0.s) ∧ w9.cell? ⟨w4.heap.size, 3, none⟩ = some (.int .i64 m0.a) ∧ w9.cell? ⟨w4.heap.size, 4, none⟩ = some (.int .i64 m0.l) ∧ w9.cell? ⟨w4.heap.size, 5, none⟩ = some (.slice A0_4 xs0.length c0_4) ∧ True := bq12
  go_wp2_with fail
  clear q0 q1
  have D4_9 := D4_8.trans (b9.mono D4_8.size)
  have Y13 := oA0_4.below (D4_9.mono (Nat.le_refl _))
  have D6_8 := b7.trans (b8.mono b7.size)
  have D6_9 := D6_8.trans (b9.mono D6_8.size)
  have Y14 := og0.below (D6_9.mono (Nat.le_refl _))
  have S4_6 := Nat.le_trans (b5.size) b6.size
  have S4_7 := Nat.le_trans (S4_6) b7.size
  have S4_8 := Nat.le_trans (S4_7) b8.size
  have S4_9 := Nat.le_trans (S4_8) b9.size
  refine (markS_t m0 (.slice A0_4 xs0.length c0_4) xs0 _ _ _ _ Y13 (by omega) (by omega) (by omega) (by omega) (S4_9)).mono ?_
  rintro e w10 ⟨rfl, Y15, on10⟩
  have S0_2 := Nat.le_trans (b1.size) b2.size
  have S0_3 := Nat.le_trans (S0_2) b3.size
  have bq16 := BoxC.only bq11 on10 (Or.inl (Nat.lt_of_lt_of_le (by simp only [World.size_alloc]; omega) (S0_3)))
  have q0 : w10.cell? ⟨w.heap.size, 0, none⟩ = some (.int .i64 m0.c) ∧ w10.cell? ⟨w.heap.size, 1, none⟩ = some (.int .i64 m0.d) ∧ w10.cell? ⟨w.heap.size, 2, none⟩ = some (.int .i64 m0.s) ∧ w10.cell? ⟨w.heap.size, 3, none⟩ = some (.int .i64 m0.a) ∧ w10.cell? ⟨w.heap.size, 4, none⟩ = some (.int .i64 m0.l) ∧ w10.cell? ⟨w.heap.size, 5, none⟩ = some (.slice A0 xs0.length c0) ∧ True := bq16
  have bq17 := BoxC.only bq12 on10 (Or.inr (Nat.le_refl _))
  have q1 : w10.cell? ⟨w4.heap.size, 0, none⟩ = some (.int .i64 m0.c) ∧ w10.cell? ⟨w4.heap.size, 1, none⟩ = some (.int .i64 m0.d) ∧ w10.cell? ⟨w4.heap.size, 2, none⟩ = some (.int .i64 m0.s) ∧ w10.cell? ⟨w4.heap.size, 3, none⟩ = some (.int .i64 m0.a) ∧ w10.cell? ⟨w4.heap.size, 4, none⟩ = some (.int .i64 m0.l) ∧ w10.cell? ⟨w4.heap.size, 5, none⟩ = some (.slice A0_4 xs0.length c0_4) ∧ True := bq17
  go_wp2_with fail
  clear q0 q1
  have Y18 := Y14.only on10 (Or.inr (b5.size))
  have S3_5 := Nat.le_trans (b4.size) b5.size
  have S3_6 := Nat.le_trans (S3_5) b6.size
  have S3_7 := Nat.le_trans (S3_6) b7.size
  have S3_8 := Nat.le_trans (S3_7) b8.size
  have S3_9 := Nat.le_trans (S3_8) b9.size
  have D3_7 := D3_6.trans (b7.mono D3_6.size)
  have D3_8 := D3_7.trans (b8.mono D3_7.size)
  have D3_9 := D3_8.trans (b9.mono D3_8.size)
  have D3_10 := D3_9.trans (on10.below (S3_9))
  refine (eqII_t Ag0 As0 cg0 cs0 (findR m0 xs0 n1).1 _ (OII.rii Y18) (rs0.below D3_10)).mono ?_
  rintro e w11 ⟨rfl, b11⟩
  have bq19 := BoxC.below bq16 b11
  have q0 : w11.cell? ⟨w.heap.size, 0, none⟩ = some (.int .i64 m0.c) ∧ w11.cell? ⟨w.heap.size, 1, none⟩ = some (.int .i64 m0.d) ∧ w11.cell? ⟨w.heap.size, 2, none⟩ = some (.int .i64 m0.s) ∧ w11.cell? ⟨w.heap.size, 3, none⟩ = some (.int .i64 m0.a) ∧ w11.cell? ⟨w.heap.size, 4, none⟩ = some (.int .i64 m0.l) ∧ w11.cell? ⟨w.heap.size, 5, none⟩ = some (.slice A0 xs0.length c0) ∧ True := bq19
  have bq20 := BoxC.below bq17 b11
  have q1 : w11.cell? ⟨w4.heap.size, 0, none⟩ = some (.int .i64 m0.c) ∧ w11.cell? ⟨w4.heap.size, 1, none⟩ = some (.int .i64 m0.d) ∧ w11.cell? ⟨w4.heap.size, 2, none⟩ = some (.int .i64 m0.s) ∧ w11.cell? ⟨w4.heap.size, 3, none⟩ = some (.int .i64 m0.a) ∧ w11.cell? ⟨w4.heap.size, 4, none⟩ = some (.int .i64 m0.l) ∧ w11.cell? ⟨w4.heap.size, 5, none⟩ = some (.slice A0_4 xs0.length c0_4) ∧ True := bq20
  go_wp2_with fail
  clear q0 q1
  have S6_8 := Nat.le_trans (b7.size) b8.size
  have S6_9 := Nat.le_trans (S6_8) b9.size
  have S6_10 := Nat.le_trans (S6_9) on10.size
  have Y21 := Y18.below (b11.mono (S6_10))
  refine (markII_t (.slice Ag0 (findR m0 xs0 n1).1.length cg0) (findR m0 xs0 n1).1 _ _ _ _ Y21 (by omega) (by omega) (by omega) (by omega)).mono ?_
  rintro e w12 ⟨rfl, Y22, on12⟩
  have S0_4 := Nat.le_trans (S0_3) b4.size
  have S0_5 := Nat.le_trans (S0_4) b5.size
  have bq23 := BoxC.only bq19 on12 (Or.inl (Nat.lt_of_lt_of_le (by simp only [World.size_alloc]; omega) (S0_5)))
  have q0 : w12.cell? ⟨w.heap.size, 0, none⟩ = some (.int .i64 m0.c) ∧ w12.cell? ⟨w.heap.size, 1, none⟩ = some (.int .i64 m0.d) ∧ w12.cell? ⟨w.heap.size, 2, none⟩ = some (.int .i64 m0.s) ∧ w12.cell? ⟨w.heap.size, 3, none⟩ = some (.int .i64 m0.a) ∧ w12.cell? ⟨w.heap.size, 4, none⟩ = some (.int .i64 m0.l) ∧ w12.cell? ⟨w.heap.size, 5, none⟩ = some (.slice A0 xs0.length c0) ∧ True := bq23
  have bq24 := BoxC.only bq20 on12 (Or.inl (Nat.lt_of_lt_of_le (by first | exact Nat.lt_succ_self _ | simp) (Nat.le_refl _)))
  have q1 : w12.cell? ⟨w4.heap.size, 0, none⟩ = some (.int .i64 m0.c) ∧ w12.cell? ⟨w4.heap.size, 1, none⟩ = some (.int .i64 m0.d) ∧ w12.cell? ⟨w4.heap.size, 2, none⟩ = some (.int .i64 m0.s) ∧ w12.cell? ⟨w4.heap.size, 3, none⟩ = some (.int .i64 m0.a) ∧ w12.cell? ⟨w4.heap.size, 4, none⟩ = some (.int .i64 m0.l) ∧ w12.cell? ⟨w4.heap.size, 5, none⟩ = some (.slice A0_4 xs0.length c0_4) ∧ True := bq24
  go_wp2_with fail
  clear q0 q1
  refine (heldII_t Ag0 cg0 (findR m0 xs0 n1).1 _ _ (OII.rii Y22) (by omega) (by omega) (by omega) (by omega)).mono ?_
  rintro e w13 ⟨rfl, b13⟩
  have bq25 := BoxC.below bq23 b13
  have q0 : w13.cell? ⟨w.heap.size, 0, none⟩ = some (.int .i64 m0.c) ∧ w13.cell? ⟨w.heap.size, 1, none⟩ = some (.int .i64 m0.d) ∧ w13.cell? ⟨w.heap.size, 2, none⟩ = some (.int .i64 m0.s) ∧ w13.cell? ⟨w.heap.size, 3, none⟩ = some (.int .i64 m0.a) ∧ w13.cell? ⟨w.heap.size, 4, none⟩ = some (.int .i64 m0.l) ∧ w13.cell? ⟨w.heap.size, 5, none⟩ = some (.slice A0 xs0.length c0) ∧ True := bq25
  have bq26 := BoxC.below bq24 b13
  have q1 : w13.cell? ⟨w4.heap.size, 0, none⟩ = some (.int .i64 m0.c) ∧ w13.cell? ⟨w4.heap.size, 1, none⟩ = some (.int .i64 m0.d) ∧ w13.cell? ⟨w4.heap.size, 2, none⟩ = some (.int .i64 m0.s) ∧ w13.cell? ⟨w4.heap.size, 3, none⟩ = some (.int .i64 m0.a) ∧ w13.cell? ⟨w4.heap.size, 4, none⟩ = some (.int .i64 m0.l) ∧ w13.cell? ⟨w4.heap.size, 5, none⟩ = some (.slice A0_4 xs0.length c0_4) ∧ True := bq26
  go_wp2_with fail
  clear q0 q1
  have S5_7 := Nat.le_trans (b6.size) b7.size
  have S5_8 := Nat.le_trans (S5_7) b8.size
  have S5_9 := Nat.le_trans (S5_8) b9.size
  have S5_10 := Nat.le_trans (S5_9) on10.size
  have S5_11 := Nat.le_trans (S5_10) b11.size
  have D0_8 := D0_7.trans (b8.mono D0_7.size)
  have D0_9 := D0_8.trans (b9.mono D0_8.size)
  have D0_10 := D0_9.trans ((on10.below (S3_9)).mono (S0_3))
  have D0_11 := D0_10.trans (b11.mono D0_10.size)
  have D0_12 := D0_11.trans ((on12.below (S5_11)).mono (S0_5))
  have D0_13 := D0_12.trans (b13.mono D0_12.size)
  refine (toS m0 A0 c0 xs0 _ (Rxs0.below D0_13) zxs0.1 zzxs0).mono ?_
  rintro e w14 ⟨A0_14, c0_14, rfl, hc0_14, rA0_14, oA0_14, b14⟩
  have bq27 := BoxC.below bq25 b14
  have q0 : w14.cell? ⟨w.heap.size, 0, none⟩ = some (.int .i64 m0.c) ∧ w14.cell? ⟨w.heap.size, 1, none⟩ = some (.int .i64 m0.d) ∧ w14.cell? ⟨w.heap.size, 2, none⟩ = some (.int .i64 m0.s) ∧ w14.cell? ⟨w.heap.size, 3, none⟩ = some (.int .i64 m0.a) ∧ w14.cell? ⟨w.heap.size, 4, none⟩ = some (.int .i64 m0.l) ∧ w14.cell? ⟨w.heap.size, 5, none⟩ = some (.slice A0 xs0.length c0) ∧ True := bq27
  have bq28 := BoxC.below bq26 b14
  have q1 : w14.cell? ⟨w4.heap.size, 0, none⟩ = some (.int .i64 m0.c) ∧ w14.cell? ⟨w4.heap.size, 1, none⟩ = some (.int .i64 m0.d) ∧ w14.cell? ⟨w4.heap.size, 2, none⟩ = some (.int .i64 m0.s) ∧ w14.cell? ⟨w4.heap.size, 3, none⟩ = some (.int .i64 m0.a) ∧ w14.cell? ⟨w4.heap.size, 4, none⟩ = some (.int .i64 m0.l) ∧ w14.cell? ⟨w4.heap.size, 5, none⟩ = some (.slice A0_4 xs0.length c0_4) ∧ True := bq28
  go_wp2_with fail
  clear q0 q1
  refine (implFindDesign_any m0 A0_14 c0_14 xs0 n1 _ rA0_14 g1).mono ?_
  rintro e w15 ⟨Ah0, ch0, rfl, hch0, rh0, oh0, b15⟩
  have bq29 := BoxC.below bq27 b15
  have q0 : w15.cell? ⟨w.heap.size, 0, none⟩ = some (.int .i64 m0.c) ∧ w15.cell? ⟨w.heap.size, 1, none⟩ = some (.int .i64 m0.d) ∧ w15.cell? ⟨w.heap.size, 2, none⟩ = some (.int .i64 m0.s) ∧ w15.cell? ⟨w.heap.size, 3, none⟩ = some (.int .i64 m0.a) ∧ w15.cell? ⟨w.heap.size, 4, none⟩ = some (.int .i64 m0.l) ∧ w15.cell? ⟨w.heap.size, 5, none⟩ = some (.slice A0 xs0.length c0) ∧ True := bq29
  have bq30 := BoxC.below bq28 b15
  have q1 : w15.cell? ⟨w4.heap.size, 0, none⟩ = some (.int .i64 m0.c) ∧ w15.cell? ⟨w4.heap.size, 1, none⟩ = some (.int .i64 m0.d) ∧ w15.cell? ⟨w4.heap.size, 2, none⟩ = some (.int .i64 m0.s) ∧ w15.cell? ⟨w4.heap.size, 3, none⟩ = some (.int .i64 m0.a) ∧ w15.cell? ⟨w4.heap.size, 4, none⟩ = some (.int .i64 m0.l) ∧ w15.cell? ⟨w4.heap.size, 5, none⟩ = some (.slice A0_4 xs0.length c0_4) ∧ True := bq30
  go_wp2_with fail
  clear q0 q1
  have D3_11 := D3_10.trans (b11.mono D3_10.size)
  have D3_12 := D3_11.trans ((on12.below (S5_11)).mono (S3_5))
  have D3_13 := D3_12.trans (b13.mono D3_12.size)
  have D3_14 := D3_13.trans (b14.mono D3_13.size)
  have D3_15 := D3_14.trans (b15.mono D3_14.size)
  refine (eqII_t Ah0 As0 ch0 cs0 (findR m0 xs0 n1).1 _ rh0 (rs0.below D3_15)).mono ?_
  rintro e w16 ⟨rfl, b16⟩
  have bq31 := BoxC.below bq29 b16
  have q0 : w16.cell? ⟨w.heap.size, 0, none⟩ = some (.int .i64 m0.c) ∧ w16.cell? ⟨w.heap.size, 1, none⟩ = some (.int .i64 m0.d) ∧ w16.cell? ⟨w.heap.size, 2, none⟩ = some (.int .i64 m0.s) ∧ w16.cell? ⟨w.heap.size, 3, none⟩ = some (.int .i64 m0.a) ∧ w16.cell? ⟨w.heap.size, 4, none⟩ = some (.int .i64 m0.l) ∧ w16.cell? ⟨w.heap.size, 5, none⟩ = some (.slice A0 xs0.length c0) ∧ True := bq31
  have bq32 := BoxC.below bq30 b16
  have q1 : w16.cell? ⟨w4.heap.size, 0, none⟩ = some (.int .i64 m0.c) ∧ w16.cell? ⟨w4.heap.size, 1, none⟩ = some (.int .i64 m0.d) ∧ w16.cell? ⟨w4.heap.size, 2, none⟩ = some (.int .i64 m0.s) ∧ w16.cell? ⟨w4.heap.size, 3, none⟩ = some (.int .i64 m0.a) ∧ w16.cell? ⟨w4.heap.size, 4, none⟩ = some (.int .i64 m0.l) ∧ w16.cell? ⟨w4.heap.size, 5, none⟩ = some (.slice A0_4 xs0.length c0_4) ∧ True := bq32
  go_wp2_with fail
  clear q0 q1
  have D12_14 := b13.trans (b14.mono b13.size)
  have D12_15 := D12_14.trans (b15.mono D12_14.size)
  have D12_16 := D12_15.trans (b16.mono D12_15.size)
  have S6_11 := Nat.le_trans (S6_10) b11.size
  have S6_12 := Nat.le_trans (S6_11) on12.size
  have Y33 := Y22.below (D12_16.mono (S6_12))
  refine (heldII_t Ag0 cg0 (findR m0 xs0 n1).1 _ _ (OII.rii Y33) (by omega) (by omega) (by omega) (by omega)).mono ?_
  rintro e w17 ⟨rfl, b17⟩
  have D0_14 := D0_13.trans (b14.mono D0_13.size)
  have D0_15 := D0_14.trans (b15.mono D0_14.size)
  have D0_16 := D0_15.trans (b16.mono D0_15.size)
  have D0_17 := D0_16.trans (b17.mono D0_16.size)
  have DD := D0_17
  have bq34 := BoxC.below bq31 b17
  have q0 : w17.cell? ⟨w.heap.size, 0, none⟩ = some (.int .i64 m0.c) ∧ w17.cell? ⟨w.heap.size, 1, none⟩ = some (.int .i64 m0.d) ∧ w17.cell? ⟨w.heap.size, 2, none⟩ = some (.int .i64 m0.s) ∧ w17.cell? ⟨w.heap.size, 3, none⟩ = some (.int .i64 m0.a) ∧ w17.cell? ⟨w.heap.size, 4, none⟩ = some (.int .i64 m0.l) ∧ w17.cell? ⟨w.heap.size, 5, none⟩ = some (.slice A0 xs0.length c0) ∧ True := bq34
  have bq35 := BoxC.below bq32 b17
  have q1 : w17.cell? ⟨w4.heap.size, 0, none⟩ = some (.int .i64 m0.c) ∧ w17.cell? ⟨w4.heap.size, 1, none⟩ = some (.int .i64 m0.d) ∧ w17.cell? ⟨w4.heap.size, 2, none⟩ = some (.int .i64 m0.s) ∧ w17.cell? ⟨w4.heap.size, 3, none⟩ = some (.int .i64 m0.a) ∧ w17.cell? ⟨w4.heap.size, 4, none⟩ = some (.int .i64 m0.l) ∧ w17.cell? ⟨w4.heap.size, 5, none⟩ = some (.slice A0_4 xs0.length c0_4) ∧ True := bq35
  go_wp2_with fail
  go_ret
  exact ⟨rfl, HB0.trans (DD.mono HB0.size)⟩
end Go.Proofs.YtapocenhmdcfoaaGreat.fnExactFindDesign
