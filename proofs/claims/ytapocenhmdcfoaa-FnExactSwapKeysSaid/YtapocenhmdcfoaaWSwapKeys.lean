/- The walk of the law FnExactSwapKeys. -/
import Derived.Test.YtapocenhmdcfoaaFSwapKeysI
import Derived.Test.YtapocenhmdcfoaaHelpS
namespace Go.Proofs.Ytapocenhmdcfoaa.fnExactSwapKeys
set_option linter.unusedVariables false
open Go.RowKit
theorem few_lens : ∀ (ls : List (List Int)) (b : Nat), (∀ x, x ∈ ls → x.length ≤ b) → sumLen ls ≤ b * ls.length
  | [], _, _ => by simp [sumLen]
  | x :: r, b, h => by
    have := few_lens r b (fun y hy => h y (by simp [hy])); have := h x (by simp)
    unfold sumLen at *; rw [List.map_cons, List.sum_cons, List.length_cons, Nat.mul_succ]; omega
theorem getD_lens {xs : List (List Int)} {b k : Nat} (h : ∀ x ∈ xs, x.length ≤ b) : (xs.getD k []).length ≤ b := by
  by_cases hk : k < xs.length
  · rw [getD_row hk]; exact h _ (List.getElem_mem hk)
  · simp [List.getD, List.getElem?_eq_none (show xs.length ≤ k by omega)]
theorem swap_lens {xs : List (List Int)} {b : Nat} (h : ∀ x ∈ xs, x.length ≤ b) (i j : Nat) : sumLen (swapL xs i j []) ≤ b * xs.length := by
  have := few_lens (swapL xs i j []) b (fun x hx => by
    unfold swapL at hx
    rcases List.mem_or_eq_of_mem_set hx with hx | rfl
    · rcases List.mem_or_eq_of_mem_set hx with hx | rfl
      · exact h x hx
      · exact getD_lens h
    · exact getD_lens h)
  rw [swapL_length] at this; exact this
def swapQ (m : Mk) (t cuts : List (List Int)) (a b : Int) : (Mk × List (List Int)) × List (List Int) × Int := (((swapR m t cuts a b).1, (swapR m t cuts a b).2.1), (swapR m t cuts a b).2.2.1, (swapR m t cuts a b).2.2.2)
def ResQ (w : World) (q : (Mk × List (List Int)) × List (List Int) × Int) (e : Ending) (w' : World) : Prop :=
  ∃ A c B d mid, e = .returned (.tuple #[.agg #[.int .i64 q.1.1.c, .int .i64 q.1.1.d, .int .i64 q.1.1.s, .int .i64 q.1.1.a, .int .i64 q.1.1.l, .slice A q.1.2.length c], .slice B q.2.1.length d, .int .i64 q.2.2]) ∧ q.1.2.length ≤ c ∧ q.2.1.length ≤ d ∧
    OII w' w.heap.size mid (.slice A q.1.2.length c) q.1.2 ∧ OII w' mid w'.heap.size (.slice B q.2.1.length d) q.2.1 ∧ w.heap.size ≤ mid ∧ mid ≤ w'.heap.size ∧ Below w.heap.size w w'
theorem specSwap_q (m : Mk) (A : Option Addr) (c : Nat) (t : List (List Int)) (B : Option Addr) (d : Nat) (cuts : List (List Int)) (a b : Int) (w : World) (h : RII w A t) (g : RII w B cuts)
    (hwk : (Lit.int .i64 a).wf = true) (hwd : (Lit.int .i64 b).wf = true) :
    Calls Try.prog 16 #[.agg #[.int .i64 m.c, .int .i64 m.d, .int .i64 m.s, .int .i64 m.a, .int .i64 m.l, .slice A t.length c], .slice B cuts.length d, .int .i64 a, .int .i64 b] w (ResQ w (swapQ m t cuts a b)) := (specSwapKeys_any m A c t B d cuts a b w h g hwk hwd).mono fun e w' hr => hr
theorem implSwap_q (m : Mk) (A : Option Addr) (c : Nat) (t : List (List Int)) (B : Option Addr) (d : Nat) (cuts : List (List Int)) (a b : Int) (w : World) (h : RII w A t) (g : RII w B cuts)
    (hwk : (Lit.int .i64 a).wf = true) (hwd : (Lit.int .i64 b).wf = true) :
    Calls Try.prog 19 #[.agg #[.int .i64 m.c, .int .i64 m.d, .int .i64 m.s, .int .i64 m.a, .int .i64 m.l, .slice A t.length c], .slice B cuts.length d, .int .i64 a, .int .i64 b] w (ResQ w (swapQ m t cuts a b)) := (implSwapKeys_any m A c t B d cuts a b w h g hwk hwd).mono fun e w' hr => hr
theorem lens (m : Mk) (t cuts : List (List Int)) (a b : Int) : (swapQ m t cuts a b).1.2.length ≤ 4194304 ∧ sumLen (swapQ m t cuts a b).1.2 ≤ 524288 ∧ (swapQ m t cuts a b).2.1.length ≤ 4194304 ∧ sumLen (swapQ m t cuts a b).2.1 ≤ 524288 := by
  unfold swapQ swapR swapC
  by_cases h1 : cutsC m t cuts = 0
  · rw [if_pos h1]
    have hok := cutsC_ok h1
    have h10 := hok.t10
    have hle := hok.le
    have hx : ∀ x ∈ t, x.length ≤ 12 := fun x hx => by obtain ⟨i, hi, rfl⟩ := List.getElem_of_mem hx; exact (hok.row i hi).2.2
    have hy : ∀ x ∈ cuts, x.length ≤ 6 := fun x hx => by obtain ⟨i, hi, rfl⟩ := List.getElem_of_mem hx; have := hok.len hi; have := mk_bounds hok.mak; omega
    have h3 := swap_lens hx a.toNat b.toNat
    have h4 := swap_lens hy a.toNat b.toNat
    split
    · simp only [if_true]
      rw [swapL_length, swapL_length]
      omega
    · simp [sumLen]
  · rw [if_neg h1]; simp [sumLen, h1]
set_option maxRecDepth 100000 in
set_option maxHeartbeats 8000000 in
theorem walk (m0 : Mk) (A0 : Option Addr) (c0 : Nat) (xs0 : List (List Int)) (A1 : Option Addr) (c1 : Nat) (xs1 : List (List Int)) (n2 : Int) (n3 : Int) (w : World) (hc0 : xs0.length ≤ c0) (h0 : RII w A0 xs0) (hc1 : xs1.length ≤ c1) (h1 : RII w A1 xs1) (g2 : (Lit.int .i64 n2).wf = true) (g3 : (Lit.int .i64 n3).wf = true) :
    Calls Try.prog 3 #[.agg #[.int .i64 m0.c, .int .i64 m0.d, .int .i64 m0.s, .int .i64 m0.a, .int .i64 m0.l, .slice A0 xs0.length c0], .slice A1 xs1.length c1, .int .i64 n2, .int .i64 n3] w fun e w' => e = .returned (.bool true) ∧ Below w.heap.size w w' := by
  have lens0 := lens m0 xs0 xs1 n2 n3
  have HB0 : Below w.heap.size w (w.alloc (.cells #[.int .i64 m0.c, .int .i64 m0.d, .int .i64 m0.s, .int .i64 m0.a, .int .i64 m0.l, .slice A0 xs0.length c0] 26)) := (Below.refl w.heap.size w).alloc (by exact Nat.le_refl _) _
  have bx0 : BoxC (w.alloc (.cells #[.int .i64 m0.c, .int .i64 m0.d, .int .i64 m0.s, .int .i64 m0.a, .int .i64 m0.l, .slice A0 xs0.length c0] 26)) (w.heap.size) 0 [.int .i64 m0.c, .int .i64 m0.d, .int .i64 m0.s, .int .i64 m0.a, .int .i64 m0.l, .slice A0 xs0.length c0] := by simp [BoxC, Go.World.cell?_alloc_at]
  have Rxs0 := (h0).alloc (.cells #[.int .i64 m0.c, .int .i64 m0.d, .int .i64 m0.s, .int .i64 m0.a, .int .i64 m0.l, .slice A0 xs0.length c0] 26)
  have Rxs1 := (h1).alloc (.cells #[.int .i64 m0.c, .int .i64 m0.d, .int .i64 m0.s, .int .i64 m0.a, .int .i64 m0.l, .slice A0 xs0.length c0] 26)
  go_enter Try.func3, Try.ntmps3
  have q0 : (w.alloc (.cells #[.int .i64 m0.c, .int .i64 m0.d, .int .i64 m0.s, .int .i64 m0.a, .int .i64 m0.l, .slice A0 xs0.length c0] 26)).cell? ⟨w.heap.size, 0, none⟩ = some (.int .i64 m0.c) ∧ (w.alloc (.cells #[.int .i64 m0.c, .int .i64 m0.d, .int .i64 m0.s, .int .i64 m0.a, .int .i64 m0.l, .slice A0 xs0.length c0] 26)).cell? ⟨w.heap.size, 1, none⟩ = some (.int .i64 m0.d) ∧ (w.alloc (.cells #[.int .i64 m0.c, .int .i64 m0.d, .int .i64 m0.s, .int .i64 m0.a, .int .i64 m0.l, .slice A0 xs0.length c0] 26)).cell? ⟨w.heap.size, 2, none⟩ = some (.int .i64 m0.s) ∧ (w.alloc (.cells #[.int .i64 m0.c, .int .i64 m0.d, .int .i64 m0.s, .int .i64 m0.a, .int .i64 m0.l, .slice A0 xs0.length c0] 26)).cell? ⟨w.heap.size, 3, none⟩ = some (.int .i64 m0.a) ∧ (w.alloc (.cells #[.int .i64 m0.c, .int .i64 m0.d, .int .i64 m0.s, .int .i64 m0.a, .int .i64 m0.l, .slice A0 xs0.length c0] 26)).cell? ⟨w.heap.size, 4, none⟩ = some (.int .i64 m0.l) ∧ (w.alloc (.cells #[.int .i64 m0.c, .int .i64 m0.d, .int .i64 m0.s, .int .i64 m0.a, .int .i64 m0.l, .slice A0 xs0.length c0] 26)).cell? ⟨w.heap.size, 5, none⟩ = some (.slice A0 xs0.length c0) ∧ True := bx0
  go_wp2_with fail
  clear q0
  refine (szS m0 A0 c0 xs0 _ _ Rxs0 (by omega) (by omega)).mono ?_
  rintro e w1 ⟨r0, rfl, hL0, b1, hm0⟩
  by_cases hz0 : r0 < 0
  case pos =>
    go_wp2_with fail
    go_ret
    exact ⟨rfl, HB0.trans (b1.mono HB0.size)⟩
  have hL02 := hL0.2 (by omega)
  have hL01 := hL0.1
  have zxs0 : xs0.length ≤ 1048576 ∧ sumLen xs0 ≤ 1048576 := by omega
  have zzxs0 : ∀ k (hk : k < xs0.length), xs0[k].length ≤ 1048576 := fun k hk => by have := mem_sumLen hk; omega
  have zt0 : (xs0.length + sumLen xs0 : Nat) + r0 ≤ 1048576 := by omega
  have Hz0 := Lib.hid hL02; clear hL02 hL0
  have bq1 := BoxC.below bx0 b1
  have q0 : w1.cell? ⟨w.heap.size, 0, none⟩ = some (.int .i64 m0.c) ∧ w1.cell? ⟨w.heap.size, 1, none⟩ = some (.int .i64 m0.d) ∧ w1.cell? ⟨w.heap.size, 2, none⟩ = some (.int .i64 m0.s) ∧ w1.cell? ⟨w.heap.size, 3, none⟩ = some (.int .i64 m0.a) ∧ w1.cell? ⟨w.heap.size, 4, none⟩ = some (.int .i64 m0.l) ∧ w1.cell? ⟨w.heap.size, 5, none⟩ = some (.slice A0 xs0.length c0) ∧ True := bq1
  go_wp2_with fail
  clear q0
  refine (szII_b A1 c1 xs1 _ _ (Rxs1.below b1) (by omega) (by omega)).mono ?_
  rintro e w2 ⟨r1, rfl, hL1, b2, hm1⟩
  have D0_2 := b1.trans (b2.mono b1.size)
  by_cases hz1 : r1 < 0
  case pos =>
    go_wp2_with fail
    go_ret
    exact ⟨rfl, HB0.trans (D0_2.mono HB0.size)⟩
  have hL12 := hL1.2 (by omega)
  have hL11 := hL1.1
  have zxs1 : xs1.length ≤ 1048576 ∧ sumLen xs1 ≤ 1048576 := by omega
  have zzxs1 : ∀ k (hk : k < xs1.length), xs1[k].length ≤ 1048576 := fun k hk => by have := mem_sumLen hk; omega
  have zt1 : (xs0.length + sumLen xs0 : Nat) + (xs1.length + sumLen xs1 : Nat) + r1 ≤ 1048576 := by omega
  have Hz1 := Lib.hid hL12; clear hL12 hL1
  have bq2 := BoxC.below bq1 b2
  have q0 : w2.cell? ⟨w.heap.size, 0, none⟩ = some (.int .i64 m0.c) ∧ w2.cell? ⟨w.heap.size, 1, none⟩ = some (.int .i64 m0.d) ∧ w2.cell? ⟨w.heap.size, 2, none⟩ = some (.int .i64 m0.s) ∧ w2.cell? ⟨w.heap.size, 3, none⟩ = some (.int .i64 m0.a) ∧ w2.cell? ⟨w.heap.size, 4, none⟩ = some (.int .i64 m0.l) ∧ w2.cell? ⟨w.heap.size, 5, none⟩ = some (.slice A0 xs0.length c0) ∧ True := bq2
  go_wp2_with fail
  clear q0
  refine (toS m0 A0 c0 xs0 _ (Rxs0.below D0_2) zxs0.1 zzxs0).mono ?_
  rintro e w3 ⟨A0_3, c0_3, rfl, hc0_3, rA0_3, oA0_3, b3⟩
  have bq3 := BoxC.below bq2 b3
  have q0 : w3.cell? ⟨w.heap.size, 0, none⟩ = some (.int .i64 m0.c) ∧ w3.cell? ⟨w.heap.size, 1, none⟩ = some (.int .i64 m0.d) ∧ w3.cell? ⟨w.heap.size, 2, none⟩ = some (.int .i64 m0.s) ∧ w3.cell? ⟨w.heap.size, 3, none⟩ = some (.int .i64 m0.a) ∧ w3.cell? ⟨w.heap.size, 4, none⟩ = some (.int .i64 m0.l) ∧ w3.cell? ⟨w.heap.size, 5, none⟩ = some (.slice A0 xs0.length c0) ∧ True := bq3
  go_wp2_with fail
  clear q0
  have D0_3 := D0_2.trans (b3.mono D0_2.size)
  refine (toII A1 c1 xs1 _ (Rxs1.below D0_3) zxs1.1 zzxs1).mono ?_
  rintro e w4 ⟨A1_4, c1_4, rfl, hc1_4, rA1_4, oA1_4, b4⟩
  have bq4 := BoxC.below bq3 b4
  have q0 : w4.cell? ⟨w.heap.size, 0, none⟩ = some (.int .i64 m0.c) ∧ w4.cell? ⟨w.heap.size, 1, none⟩ = some (.int .i64 m0.d) ∧ w4.cell? ⟨w.heap.size, 2, none⟩ = some (.int .i64 m0.s) ∧ w4.cell? ⟨w.heap.size, 3, none⟩ = some (.int .i64 m0.a) ∧ w4.cell? ⟨w.heap.size, 4, none⟩ = some (.int .i64 m0.l) ∧ w4.cell? ⟨w.heap.size, 5, none⟩ = some (.slice A0 xs0.length c0) ∧ True := bq4
  go_wp2_with fail
  clear q0
  refine (specSwap_q m0 A0_3 c0_3 xs0 A1_4 c1_4 xs1 n2 n3 _ (rA0_3.below b4) rA1_4 g2 g3).mono ?_
  rintro e w6 ⟨As0, cs0, As1, cs1, mids, rfl, hcs0, hcs1, os0, os1, hm1s, hm2s, b6⟩
  have rs0 := OII.rii os0
  have rs1 := OII.rii os1
  have b7 : Below w6.heap.size w6 (w6.alloc (.cells #[.int .i64 (swapQ m0 xs0 xs1 n2 n3).1.1.c, .int .i64 (swapQ m0 xs0 xs1 n2 n3).1.1.d, .int .i64 (swapQ m0 xs0 xs1 n2 n3).1.1.s, .int .i64 (swapQ m0 xs0 xs1 n2 n3).1.1.a, .int .i64 (swapQ m0 xs0 xs1 n2 n3).1.1.l, .slice As0 (swapQ m0 xs0 xs1 n2 n3).1.2.length cs0] 31)) := (Below.refl _ _).alloc (Nat.le_refl _) _
  have bq5 : BoxC (w6.alloc (.cells #[.int .i64 (swapQ m0 xs0 xs1 n2 n3).1.1.c, .int .i64 (swapQ m0 xs0 xs1 n2 n3).1.1.d, .int .i64 (swapQ m0 xs0 xs1 n2 n3).1.1.s, .int .i64 (swapQ m0 xs0 xs1 n2 n3).1.1.a, .int .i64 (swapQ m0 xs0 xs1 n2 n3).1.1.l, .slice As0 (swapQ m0 xs0 xs1 n2 n3).1.2.length cs0] 31)) (w6.heap.size) 0 [.int .i64 (swapQ m0 xs0 xs1 n2 n3).1.1.c, .int .i64 (swapQ m0 xs0 xs1 n2 n3).1.1.d, .int .i64 (swapQ m0 xs0 xs1 n2 n3).1.1.s, .int .i64 (swapQ m0 xs0 xs1 n2 n3).1.1.a, .int .i64 (swapQ m0 xs0 xs1 n2 n3).1.1.l, .slice As0 (swapQ m0 xs0 xs1 n2 n3).1.2.length cs0] := by simp [BoxC, Go.World.cell?_alloc_at]
  have D4_7 := b6.trans (b7.mono b6.size)
  have bq6 := BoxC.below bq4 D4_7
  have q0 : (w6.alloc (.cells #[.int .i64 (swapQ m0 xs0 xs1 n2 n3).1.1.c, .int .i64 (swapQ m0 xs0 xs1 n2 n3).1.1.d, .int .i64 (swapQ m0 xs0 xs1 n2 n3).1.1.s, .int .i64 (swapQ m0 xs0 xs1 n2 n3).1.1.a, .int .i64 (swapQ m0 xs0 xs1 n2 n3).1.1.l, .slice As0 (swapQ m0 xs0 xs1 n2 n3).1.2.length cs0] 31)).cell? ⟨w.heap.size, 0, none⟩ = some (.int .i64 m0.c) ∧ (w6.alloc (.cells #[.int .i64 (swapQ m0 xs0 xs1 n2 n3).1.1.c, .int .i64 (swapQ m0 xs0 xs1 n2 n3).1.1.d, .int .i64 (swapQ m0 xs0 xs1 n2 n3).1.1.s, .int .i64 (swapQ m0 xs0 xs1 n2 n3).1.1.a, .int .i64 (swapQ m0 xs0 xs1 n2 n3).1.1.l, .slice As0 (swapQ m0 xs0 xs1 n2 n3).1.2.length cs0] 31)).cell? ⟨w.heap.size, 1, none⟩ = some (.int .i64 m0.d) ∧ (w6.alloc (.cells #[.int .i64 (swapQ m0 xs0 xs1 n2 n3).1.1.c, .int .i64 (swapQ m0 xs0 xs1 n2 n3).1.1.d, .int .i64 (swapQ m0 xs0 xs1 n2 n3).1.1.s, .int .i64 (swapQ m0 xs0 xs1 n2 n3).1.1.a, .int .i64 (swapQ m0 xs0 xs1 n2 n3).1.1.l, .slice As0 (swapQ m0 xs0 xs1 n2 n3).1.2.length cs0] 31)).cell? ⟨w.heap.size, 2, none⟩ = some (.int .i64 m0.s) ∧ (w6.alloc (.cells #[.int .i64 (swapQ m0 xs0 xs1 n2 n3).1.1.c, .int .i64 (swapQ m0 xs0 xs1 n2 n3).1.1.d, .int .i64 (swapQ m0 xs0 xs1 n2 n3).1.1.s, .int .i64 (swapQ m0 xs0 xs1 n2 n3).1.1.a, .int .i64 (swapQ m0 xs0 xs1 n2 n3).1.1.l, .slice As0 (swapQ m0 xs0 xs1 n2 n3).1.2.length cs0] 31)).cell? ⟨w.heap.size, 3, none⟩ = some (.int .i64 m0.a) ∧ (w6.alloc (.cells #[.int .i64 (swapQ m0 xs0 xs1 n2 n3).1.1.c, .int .i64 (swapQ m0 xs0 xs1 n2 n3).1.1.d, .int .i64 (swapQ m0 xs0 xs1 n2 n3).1.1.s, .int .i64 (swapQ m0 xs0 xs1 n2 n3).1.1.a, .int .i64 (swapQ m0 xs0 xs1 n2 n3).1.1.l, .slice As0 (swapQ m0 xs0 xs1 n2 n3).1.2.length cs0] 31)).cell? ⟨w.heap.size, 4, none⟩ = some (.int .i64 m0.l) ∧ (w6.alloc (.cells #[.int .i64 (swapQ m0 xs0 xs1 n2 n3).1.1.c, .int .i64 (swapQ m0 xs0 xs1 n2 n3).1.1.d, .int .i64 (swapQ m0 xs0 xs1 n2 n3).1.1.s, .int .i64 (swapQ m0 xs0 xs1 n2 n3).1.1.a, .int .i64 (swapQ m0 xs0 xs1 n2 n3).1.1.l, .slice As0 (swapQ m0 xs0 xs1 n2 n3).1.2.length cs0] 31)).cell? ⟨w.heap.size, 5, none⟩ = some (.slice A0 xs0.length c0) ∧ True := bq6
  have q1 : (w6.alloc (.cells #[.int .i64 (swapQ m0 xs0 xs1 n2 n3).1.1.c, .int .i64 (swapQ m0 xs0 xs1 n2 n3).1.1.d, .int .i64 (swapQ m0 xs0 xs1 n2 n3).1.1.s, .int .i64 (swapQ m0 xs0 xs1 n2 n3).1.1.a, .int .i64 (swapQ m0 xs0 xs1 n2 n3).1.1.l, .slice As0 (swapQ m0 xs0 xs1 n2 n3).1.2.length cs0] 31)).cell? ⟨w6.heap.size, 0, none⟩ = some (.int .i64 (swapQ m0 xs0 xs1 n2 n3).1.1.c) ∧ (w6.alloc (.cells #[.int .i64 (swapQ m0 xs0 xs1 n2 n3).1.1.c, .int .i64 (swapQ m0 xs0 xs1 n2 n3).1.1.d, .int .i64 (swapQ m0 xs0 xs1 n2 n3).1.1.s, .int .i64 (swapQ m0 xs0 xs1 n2 n3).1.1.a, .int .i64 (swapQ m0 xs0 xs1 n2 n3).1.1.l, .slice As0 (swapQ m0 xs0 xs1 n2 n3).1.2.length cs0] 31)).cell? ⟨w6.heap.size, 1, none⟩ = some (.int .i64 (swapQ m0 xs0 xs1 n2 n3).1.1.d) ∧ (w6.alloc (.cells #[.int .i64 (swapQ m0 xs0 xs1 n2 n3).1.1.c, .int .i64 (swapQ m0 xs0 xs1 n2 n3).1.1.d, .int .i64 (swapQ m0 xs0 xs1 n2 n3).1.1.s, .int .i64 (swapQ m0 xs0 xs1 n2 n3).1.1.a, .int .i64 (swapQ m0 xs0 xs1 n2 n3).1.1.l, .slice As0 (swapQ m0 xs0 xs1 n2 n3).1.2.length cs0] 31)).cell? ⟨w6.heap.size, 2, none⟩ = some (.int .i64 (swapQ m0 xs0 xs1 n2 n3).1.1.s) ∧ (w6.alloc (.cells #[.int .i64 (swapQ m0 xs0 xs1 n2 n3).1.1.c, .int .i64 (swapQ m0 xs0 xs1 n2 n3).1.1.d, .int .i64 (swapQ m0 xs0 xs1 n2 n3).1.1.s, .int .i64 (swapQ m0 xs0 xs1 n2 n3).1.1.a, .int .i64 (swapQ m0 xs0 xs1 n2 n3).1.1.l, .slice As0 (swapQ m0 xs0 xs1 n2 n3).1.2.length cs0] 31)).cell? ⟨w6.heap.size, 3, none⟩ = some (.int .i64 (swapQ m0 xs0 xs1 n2 n3).1.1.a) ∧ (w6.alloc (.cells #[.int .i64 (swapQ m0 xs0 xs1 n2 n3).1.1.c, .int .i64 (swapQ m0 xs0 xs1 n2 n3).1.1.d, .int .i64 (swapQ m0 xs0 xs1 n2 n3).1.1.s, .int .i64 (swapQ m0 xs0 xs1 n2 n3).1.1.a, .int .i64 (swapQ m0 xs0 xs1 n2 n3).1.1.l, .slice As0 (swapQ m0 xs0 xs1 n2 n3).1.2.length cs0] 31)).cell? ⟨w6.heap.size, 4, none⟩ = some (.int .i64 (swapQ m0 xs0 xs1 n2 n3).1.1.l) ∧ (w6.alloc (.cells #[.int .i64 (swapQ m0 xs0 xs1 n2 n3).1.1.c, .int .i64 (swapQ m0 xs0 xs1 n2 n3).1.1.d, .int .i64 (swapQ m0 xs0 xs1 n2 n3).1.1.s, .int .i64 (swapQ m0 xs0 xs1 n2 n3).1.1.a, .int .i64 (swapQ m0 xs0 xs1 n2 n3).1.1.l, .slice As0 (swapQ m0 xs0 xs1 n2 n3).1.2.length cs0] 31)).cell? ⟨w6.heap.size, 5, none⟩ = some (.slice As0 (swapQ m0 xs0 xs1 n2 n3).1.2.length cs0) ∧ True := bq5
  go_wp2_with fail
  clear q0 q1
  have D0_4 := D0_3.trans (b4.mono D0_3.size)
  have D0_6 := D0_4.trans (b6.mono D0_4.size)
  have D0_7 := D0_6.trans (b7.mono D0_6.size)
  refine (toS m0 A0 c0 xs0 _ (Rxs0.below D0_7) zxs0.1 zzxs0).mono ?_
  rintro e w8 ⟨A0_8, c0_8, rfl, hc0_8, rA0_8, oA0_8, b8⟩
  have b9 : Below w8.heap.size w8 (w8.alloc (.cells #[.int .i64 m0.c, .int .i64 m0.d, .int .i64 m0.s, .int .i64 m0.a, .int .i64 m0.l, .slice A0_8 xs0.length c0_8] 31)) := (Below.refl _ _).alloc (Nat.le_refl _) _
  have bq7 : BoxC (w8.alloc (.cells #[.int .i64 m0.c, .int .i64 m0.d, .int .i64 m0.s, .int .i64 m0.a, .int .i64 m0.l, .slice A0_8 xs0.length c0_8] 31)) (w8.heap.size) 0 [.int .i64 m0.c, .int .i64 m0.d, .int .i64 m0.s, .int .i64 m0.a, .int .i64 m0.l, .slice A0_8 xs0.length c0_8] := by simp [BoxC, Go.World.cell?_alloc_at]
  have D7_9 := b8.trans (b9.mono b8.size)
  have bq8 := BoxC.below bq6 D7_9
  have q0 : (w8.alloc (.cells #[.int .i64 m0.c, .int .i64 m0.d, .int .i64 m0.s, .int .i64 m0.a, .int .i64 m0.l, .slice A0_8 xs0.length c0_8] 31)).cell? ⟨w.heap.size, 0, none⟩ = some (.int .i64 m0.c) ∧ (w8.alloc (.cells #[.int .i64 m0.c, .int .i64 m0.d, .int .i64 m0.s, .int .i64 m0.a, .int .i64 m0.l, .slice A0_8 xs0.length c0_8] 31)).cell? ⟨w.heap.size, 1, none⟩ = some (.int .i64 m0.d) ∧ (w8.alloc (.cells #[.int .i64 m0.c, .int .i64 m0.d, .int .i64 m0.s, .int .i64 m0.a, .int .i64 m0.l, .slice A0_8 xs0.length c0_8] 31)).cell? ⟨w.heap.size, 2, none⟩ = some (.int .i64 m0.s) ∧ (w8.alloc (.cells #[.int .i64 m0.c, .int .i64 m0.d, .int .i64 m0.s, .int .i64 m0.a, .int .i64 m0.l, .slice A0_8 xs0.length c0_8] 31)).cell? ⟨w.heap.size, 3, none⟩ = some (.int .i64 m0.a) ∧ (w8.alloc (.cells #[.int .i64 m0.c, .int .i64 m0.d, .int .i64 m0.s, .int .i64 m0.a, .int .i64 m0.l, .slice A0_8 xs0.length c0_8] 31)).cell? ⟨w.heap.size, 4, none⟩ = some (.int .i64 m0.l) ∧ (w8.alloc (.cells #[.int .i64 m0.c, .int .i64 m0.d, .int .i64 m0.s, .int .i64 m0.a, .int .i64 m0.l, .slice A0_8 xs0.length c0_8] 31)).cell? ⟨w.heap.size, 5, none⟩ = some (.slice A0 xs0.length c0) ∧ True := bq8
  have bq9 := BoxC.below bq5 D7_9
  have q1 : (w8.alloc (.cells #[.int .i64 m0.c, .int .i64 m0.d, .int .i64 m0.s, .int .i64 m0.a, .int .i64 m0.l, .slice A0_8 xs0.length c0_8] 31)).cell? ⟨w6.heap.size, 0, none⟩ = some (.int .i64 (swapQ m0 xs0 xs1 n2 n3).1.1.c) ∧ (w8.alloc (.cells #[.int .i64 m0.c, .int .i64 m0.d, .int .i64 m0.s, .int .i64 m0.a, .int .i64 m0.l, .slice A0_8 xs0.length c0_8] 31)).cell? ⟨w6.heap.size, 1, none⟩ = some (.int .i64 (swapQ m0 xs0 xs1 n2 n3).1.1.d) ∧ (w8.alloc (.cells #[.int .i64 m0.c, .int .i64 m0.d, .int .i64 m0.s, .int .i64 m0.a, .int .i64 m0.l, .slice A0_8 xs0.length c0_8] 31)).cell? ⟨w6.heap.size, 2, none⟩ = some (.int .i64 (swapQ m0 xs0 xs1 n2 n3).1.1.s) ∧ (w8.alloc (.cells #[.int .i64 m0.c, .int .i64 m0.d, .int .i64 m0.s, .int .i64 m0.a, .int .i64 m0.l, .slice A0_8 xs0.length c0_8] 31)).cell? ⟨w6.heap.size, 3, none⟩ = some (.int .i64 (swapQ m0 xs0 xs1 n2 n3).1.1.a) ∧ (w8.alloc (.cells #[.int .i64 m0.c, .int .i64 m0.d, .int .i64 m0.s, .int .i64 m0.a, .int .i64 m0.l, .slice A0_8 xs0.length c0_8] 31)).cell? ⟨w6.heap.size, 4, none⟩ = some (.int .i64 (swapQ m0 xs0 xs1 n2 n3).1.1.l) ∧ (w8.alloc (.cells #[.int .i64 m0.c, .int .i64 m0.d, .int .i64 m0.s, .int .i64 m0.a, .int .i64 m0.l, .slice A0_8 xs0.length c0_8] 31)).cell? ⟨w6.heap.size, 5, none⟩ = some (.slice As0 (swapQ m0 xs0 xs1 n2 n3).1.2.length cs0) ∧ True := bq9
  have q2 : (w8.alloc (.cells #[.int .i64 m0.c, .int .i64 m0.d, .int .i64 m0.s, .int .i64 m0.a, .int .i64 m0.l, .slice A0_8 xs0.length c0_8] 31)).cell? ⟨w8.heap.size, 0, none⟩ = some (.int .i64 m0.c) ∧ (w8.alloc (.cells #[.int .i64 m0.c, .int .i64 m0.d, .int .i64 m0.s, .int .i64 m0.a, .int .i64 m0.l, .slice A0_8 xs0.length c0_8] 31)).cell? ⟨w8.heap.size, 1, none⟩ = some (.int .i64 m0.d) ∧ (w8.alloc (.cells #[.int .i64 m0.c, .int .i64 m0.d, .int .i64 m0.s, .int .i64 m0.a, .int .i64 m0.l, .slice A0_8 xs0.length c0_8] 31)).cell? ⟨w8.heap.size, 2, none⟩ = some (.int .i64 m0.s) ∧ (w8.alloc (.cells #[.int .i64 m0.c, .int .i64 m0.d, .int .i64 m0.s, .int .i64 m0.a, .int .i64 m0.l, .slice A0_8 xs0.length c0_8] 31)).cell? ⟨w8.heap.size, 3, none⟩ = some (.int .i64 m0.a) ∧ (w8.alloc (.cells #[.int .i64 m0.c, .int .i64 m0.d, .int .i64 m0.s, .int .i64 m0.a, .int .i64 m0.l, .slice A0_8 xs0.length c0_8] 31)).cell? ⟨w8.heap.size, 4, none⟩ = some (.int .i64 m0.l) ∧ (w8.alloc (.cells #[.int .i64 m0.c, .int .i64 m0.d, .int .i64 m0.s, .int .i64 m0.a, .int .i64 m0.l, .slice A0_8 xs0.length c0_8] 31)).cell? ⟨w8.heap.size, 5, none⟩ = some (.slice A0_8 xs0.length c0_8) ∧ True := bq7
  go_wp2_with fail
  clear q0 q1 q2
  have D0_8 := D0_7.trans (b8.mono D0_7.size)
  have D0_9 := D0_8.trans (b9.mono D0_8.size)
  refine (toII A1 c1 xs1 _ (Rxs1.below D0_9) zxs1.1 zzxs1).mono ?_
  rintro e w10 ⟨A1_10, c1_10, rfl, hc1_10, rA1_10, oA1_10, b10⟩
  have bq10 := BoxC.below bq8 b10
  have q0 : w10.cell? ⟨w.heap.size, 0, none⟩ = some (.int .i64 m0.c) ∧ w10.cell? ⟨w.heap.size, 1, none⟩ = some (.int .i64 m0.d) ∧ w10.cell? ⟨w.heap.size, 2, none⟩ = some (.int .i64 m0.s) ∧ w10.cell? ⟨w.heap.size, 3, none⟩ = some (.int .i64 m0.a) ∧ w10.cell? ⟨w.heap.size, 4, none⟩ = some (.int .i64 m0.l) ∧ w10.cell? ⟨w.heap.size, 5, none⟩ = some (.slice A0 xs0.length c0) ∧ True := bq10
  have bq11 := BoxC.below bq9 b10
  have q1 : w10.cell? ⟨w6.heap.size, 0, none⟩ = some (.int .i64 (swapQ m0 xs0 xs1 n2 n3).1.1.c) ∧ w10.cell? ⟨w6.heap.size, 1, none⟩ = some (.int .i64 (swapQ m0 xs0 xs1 n2 n3).1.1.d) ∧ w10.cell? ⟨w6.heap.size, 2, none⟩ = some (.int .i64 (swapQ m0 xs0 xs1 n2 n3).1.1.s) ∧ w10.cell? ⟨w6.heap.size, 3, none⟩ = some (.int .i64 (swapQ m0 xs0 xs1 n2 n3).1.1.a) ∧ w10.cell? ⟨w6.heap.size, 4, none⟩ = some (.int .i64 (swapQ m0 xs0 xs1 n2 n3).1.1.l) ∧ w10.cell? ⟨w6.heap.size, 5, none⟩ = some (.slice As0 (swapQ m0 xs0 xs1 n2 n3).1.2.length cs0) ∧ True := bq11
  have bq12 := BoxC.below bq7 b10
  have q2 : w10.cell? ⟨w8.heap.size, 0, none⟩ = some (.int .i64 m0.c) ∧ w10.cell? ⟨w8.heap.size, 1, none⟩ = some (.int .i64 m0.d) ∧ w10.cell? ⟨w8.heap.size, 2, none⟩ = some (.int .i64 m0.s) ∧ w10.cell? ⟨w8.heap.size, 3, none⟩ = some (.int .i64 m0.a) ∧ w10.cell? ⟨w8.heap.size, 4, none⟩ = some (.int .i64 m0.l) ∧ w10.cell? ⟨w8.heap.size, 5, none⟩ = some (.slice A0_8 xs0.length c0_8) ∧ True := bq12
  go_wp2_with fail
  clear q0 q1 q2
  have D8_10 := b9.trans (b10.mono b9.size)
  refine (implSwap_q m0 A0_8 c0_8 xs0 A1_10 c1_10 xs1 n2 n3 _ (rA0_8.below D8_10) rA1_10 g2 g3).mono ?_
  rintro e w12 ⟨Ag0, cg0, Ag1, cg1, midg, rfl, hcg0, hcg1, og0, og1, hm1g, hm2g, b12⟩
  have rg0 := OII.rii og0
  have rg1 := OII.rii og1
  have b13 : Below w12.heap.size w12 (w12.alloc (.cells #[.int .i64 (swapQ m0 xs0 xs1 n2 n3).1.1.c, .int .i64 (swapQ m0 xs0 xs1 n2 n3).1.1.d, .int .i64 (swapQ m0 xs0 xs1 n2 n3).1.1.s, .int .i64 (swapQ m0 xs0 xs1 n2 n3).1.1.a, .int .i64 (swapQ m0 xs0 xs1 n2 n3).1.1.l, .slice Ag0 (swapQ m0 xs0 xs1 n2 n3).1.2.length cg0] 31)) := (Below.refl _ _).alloc (Nat.le_refl _) _
  have bq13 : BoxC (w12.alloc (.cells #[.int .i64 (swapQ m0 xs0 xs1 n2 n3).1.1.c, .int .i64 (swapQ m0 xs0 xs1 n2 n3).1.1.d, .int .i64 (swapQ m0 xs0 xs1 n2 n3).1.1.s, .int .i64 (swapQ m0 xs0 xs1 n2 n3).1.1.a, .int .i64 (swapQ m0 xs0 xs1 n2 n3).1.1.l, .slice Ag0 (swapQ m0 xs0 xs1 n2 n3).1.2.length cg0] 31)) (w12.heap.size) 0 [.int .i64 (swapQ m0 xs0 xs1 n2 n3).1.1.c, .int .i64 (swapQ m0 xs0 xs1 n2 n3).1.1.d, .int .i64 (swapQ m0 xs0 xs1 n2 n3).1.1.s, .int .i64 (swapQ m0 xs0 xs1 n2 n3).1.1.a, .int .i64 (swapQ m0 xs0 xs1 n2 n3).1.1.l, .slice Ag0 (swapQ m0 xs0 xs1 n2 n3).1.2.length cg0] := by simp [BoxC, Go.World.cell?_alloc_at]
  have D10_13 := b12.trans (b13.mono b12.size)
  have bq14 := BoxC.below bq10 D10_13
  have q0 : (w12.alloc (.cells #[.int .i64 (swapQ m0 xs0 xs1 n2 n3).1.1.c, .int .i64 (swapQ m0 xs0 xs1 n2 n3).1.1.d, .int .i64 (swapQ m0 xs0 xs1 n2 n3).1.1.s, .int .i64 (swapQ m0 xs0 xs1 n2 n3).1.1.a, .int .i64 (swapQ m0 xs0 xs1 n2 n3).1.1.l, .slice Ag0 (swapQ m0 xs0 xs1 n2 n3).1.2.length cg0] 31)).cell? ⟨w.heap.size, 0, none⟩ = some (.int .i64 m0.c) ∧ (w12.alloc (.cells #[.int .i64 (swapQ m0 xs0 xs1 n2 n3).1.1.c, .int .i64 (swapQ m0 xs0 xs1 n2 n3).1.1.d, .int .i64 (swapQ m0 xs0 xs1 n2 n3).1.1.s, .int .i64 (swapQ m0 xs0 xs1 n2 n3).1.1.a, .int .i64 (swapQ m0 xs0 xs1 n2 n3).1.1.l, .slice Ag0 (swapQ m0 xs0 xs1 n2 n3).1.2.length cg0] 31)).cell? ⟨w.heap.size, 1, none⟩ = some (.int .i64 m0.d) ∧ (w12.alloc (.cells #[.int .i64 (swapQ m0 xs0 xs1 n2 n3).1.1.c, .int .i64 (swapQ m0 xs0 xs1 n2 n3).1.1.d, .int .i64 (swapQ m0 xs0 xs1 n2 n3).1.1.s, .int .i64 (swapQ m0 xs0 xs1 n2 n3).1.1.a, .int .i64 (swapQ m0 xs0 xs1 n2 n3).1.1.l, .slice Ag0 (swapQ m0 xs0 xs1 n2 n3).1.2.length cg0] 31)).cell? ⟨w.heap.size, 2, none⟩ = some (.int .i64 m0.s) ∧ (w12.alloc (.cells #[.int .i64 (swapQ m0 xs0 xs1 n2 n3).1.1.c, .int .i64 (swapQ m0 xs0 xs1 n2 n3).1.1.d, .int .i64 (swapQ m0 xs0 xs1 n2 n3).1.1.s, .int .i64 (swapQ m0 xs0 xs1 n2 n3).1.1.a, .int .i64 (swapQ m0 xs0 xs1 n2 n3).1.1.l, .slice Ag0 (swapQ m0 xs0 xs1 n2 n3).1.2.length cg0] 31)).cell? ⟨w.heap.size, 3, none⟩ = some (.int .i64 m0.a) ∧ (w12.alloc (.cells #[.int .i64 (swapQ m0 xs0 xs1 n2 n3).1.1.c, .int .i64 (swapQ m0 xs0 xs1 n2 n3).1.1.d, .int .i64 (swapQ m0 xs0 xs1 n2 n3).1.1.s, .int .i64 (swapQ m0 xs0 xs1 n2 n3).1.1.a, .int .i64 (swapQ m0 xs0 xs1 n2 n3).1.1.l, .slice Ag0 (swapQ m0 xs0 xs1 n2 n3).1.2.length cg0] 31)).cell? ⟨w.heap.size, 4, none⟩ = some (.int .i64 m0.l) ∧ (w12.alloc (.cells #[.int .i64 (swapQ m0 xs0 xs1 n2 n3).1.1.c, .int .i64 (swapQ m0 xs0 xs1 n2 n3).1.1.d, .int .i64 (swapQ m0 xs0 xs1 n2 n3).1.1.s, .int .i64 (swapQ m0 xs0 xs1 n2 n3).1.1.a, .int .i64 (swapQ m0 xs0 xs1 n2 n3).1.1.l, .slice Ag0 (swapQ m0 xs0 xs1 n2 n3).1.2.length cg0] 31)).cell? ⟨w.heap.size, 5, none⟩ = some (.slice A0 xs0.length c0) ∧ True := bq14
  have bq15 := BoxC.below bq11 D10_13
  have q1 : (w12.alloc (.cells #[.int .i64 (swapQ m0 xs0 xs1 n2 n3).1.1.c, .int .i64 (swapQ m0 xs0 xs1 n2 n3).1.1.d, .int .i64 (swapQ m0 xs0 xs1 n2 n3).1.1.s, .int .i64 (swapQ m0 xs0 xs1 n2 n3).1.1.a, .int .i64 (swapQ m0 xs0 xs1 n2 n3).1.1.l, .slice Ag0 (swapQ m0 xs0 xs1 n2 n3).1.2.length cg0] 31)).cell? ⟨w6.heap.size, 0, none⟩ = some (.int .i64 (swapQ m0 xs0 xs1 n2 n3).1.1.c) ∧ (w12.alloc (.cells #[.int .i64 (swapQ m0 xs0 xs1 n2 n3).1.1.c, .int .i64 (swapQ m0 xs0 xs1 n2 n3).1.1.d, .int .i64 (swapQ m0 xs0 xs1 n2 n3).1.1.s, .int .i64 (swapQ m0 xs0 xs1 n2 n3).1.1.a, .int .i64 (swapQ m0 xs0 xs1 n2 n3).1.1.l, .slice Ag0 (swapQ m0 xs0 xs1 n2 n3).1.2.length cg0] 31)).cell? ⟨w6.heap.size, 1, none⟩ = some (.int .i64 (swapQ m0 xs0 xs1 n2 n3).1.1.d) ∧ (w12.alloc (.cells #[.int .i64 (swapQ m0 xs0 xs1 n2 n3).1.1.c, .int .i64 (swapQ m0 xs0 xs1 n2 n3).1.1.d, .int .i64 (swapQ m0 xs0 xs1 n2 n3).1.1.s, .int .i64 (swapQ m0 xs0 xs1 n2 n3).1.1.a, .int .i64 (swapQ m0 xs0 xs1 n2 n3).1.1.l, .slice Ag0 (swapQ m0 xs0 xs1 n2 n3).1.2.length cg0] 31)).cell? ⟨w6.heap.size, 2, none⟩ = some (.int .i64 (swapQ m0 xs0 xs1 n2 n3).1.1.s) ∧ (w12.alloc (.cells #[.int .i64 (swapQ m0 xs0 xs1 n2 n3).1.1.c, .int .i64 (swapQ m0 xs0 xs1 n2 n3).1.1.d, .int .i64 (swapQ m0 xs0 xs1 n2 n3).1.1.s, .int .i64 (swapQ m0 xs0 xs1 n2 n3).1.1.a, .int .i64 (swapQ m0 xs0 xs1 n2 n3).1.1.l, .slice Ag0 (swapQ m0 xs0 xs1 n2 n3).1.2.length cg0] 31)).cell? ⟨w6.heap.size, 3, none⟩ = some (.int .i64 (swapQ m0 xs0 xs1 n2 n3).1.1.a) ∧ (w12.alloc (.cells #[.int .i64 (swapQ m0 xs0 xs1 n2 n3).1.1.c, .int .i64 (swapQ m0 xs0 xs1 n2 n3).1.1.d, .int .i64 (swapQ m0 xs0 xs1 n2 n3).1.1.s, .int .i64 (swapQ m0 xs0 xs1 n2 n3).1.1.a, .int .i64 (swapQ m0 xs0 xs1 n2 n3).1.1.l, .slice Ag0 (swapQ m0 xs0 xs1 n2 n3).1.2.length cg0] 31)).cell? ⟨w6.heap.size, 4, none⟩ = some (.int .i64 (swapQ m0 xs0 xs1 n2 n3).1.1.l) ∧ (w12.alloc (.cells #[.int .i64 (swapQ m0 xs0 xs1 n2 n3).1.1.c, .int .i64 (swapQ m0 xs0 xs1 n2 n3).1.1.d, .int .i64 (swapQ m0 xs0 xs1 n2 n3).1.1.s, .int .i64 (swapQ m0 xs0 xs1 n2 n3).1.1.a, .int .i64 (swapQ m0 xs0 xs1 n2 n3).1.1.l, .slice Ag0 (swapQ m0 xs0 xs1 n2 n3).1.2.length cg0] 31)).cell? ⟨w6.heap.size, 5, none⟩ = some (.slice As0 (swapQ m0 xs0 xs1 n2 n3).1.2.length cs0) ∧ True := bq15
  have bq16 := BoxC.below bq12 D10_13
  have q2 : (w12.alloc (.cells #[.int .i64 (swapQ m0 xs0 xs1 n2 n3).1.1.c, .int .i64 (swapQ m0 xs0 xs1 n2 n3).1.1.d, .int .i64 (swapQ m0 xs0 xs1 n2 n3).1.1.s, .int .i64 (swapQ m0 xs0 xs1 n2 n3).1.1.a, .int .i64 (swapQ m0 xs0 xs1 n2 n3).1.1.l, .slice Ag0 (swapQ m0 xs0 xs1 n2 n3).1.2.length cg0] 31)).cell? ⟨w8.heap.size, 0, none⟩ = some (.int .i64 m0.c) ∧ (w12.alloc (.cells #[.int .i64 (swapQ m0 xs0 xs1 n2 n3).1.1.c, .int .i64 (swapQ m0 xs0 xs1 n2 n3).1.1.d, .int .i64 (swapQ m0 xs0 xs1 n2 n3).1.1.s, .int .i64 (swapQ m0 xs0 xs1 n2 n3).1.1.a, .int .i64 (swapQ m0 xs0 xs1 n2 n3).1.1.l, .slice Ag0 (swapQ m0 xs0 xs1 n2 n3).1.2.length cg0] 31)).cell? ⟨w8.heap.size, 1, none⟩ = some (.int .i64 m0.d) ∧ (w12.alloc (.cells #[.int .i64 (swapQ m0 xs0 xs1 n2 n3).1.1.c, .int .i64 (swapQ m0 xs0 xs1 n2 n3).1.1.d, .int .i64 (swapQ m0 xs0 xs1 n2 n3).1.1.s, .int .i64 (swapQ m0 xs0 xs1 n2 n3).1.1.a, .int .i64 (swapQ m0 xs0 xs1 n2 n3).1.1.l, .slice Ag0 (swapQ m0 xs0 xs1 n2 n3).1.2.length cg0] 31)).cell? ⟨w8.heap.size, 2, none⟩ = some (.int .i64 m0.s) ∧ (w12.alloc (.cells #[.int .i64 (swapQ m0 xs0 xs1 n2 n3).1.1.c, .int .i64 (swapQ m0 xs0 xs1 n2 n3).1.1.d, .int .i64 (swapQ m0 xs0 xs1 n2 n3).1.1.s, .int .i64 (swapQ m0 xs0 xs1 n2 n3).1.1.a, .int .i64 (swapQ m0 xs0 xs1 n2 n3).1.1.l, .slice Ag0 (swapQ m0 xs0 xs1 n2 n3).1.2.length cg0] 31)).cell? ⟨w8.heap.size, 3, none⟩ = some (.int .i64 m0.a) ∧ (w12.alloc (.cells #[.int .i64 (swapQ m0 xs0 xs1 n2 n3).1.1.c, .int .i64 (swapQ m0 xs0 xs1 n2 n3).1.1.d, .int .i64 (swapQ m0 xs0 xs1 n2 n3).1.1.s, .int .i64 (swapQ m0 xs0 xs1 n2 n3).1.1.a, .int .i64 (swapQ m0 xs0 xs1 n2 n3).1.1.l, .slice Ag0 (swapQ m0 xs0 xs1 n2 n3).1.2.length cg0] 31)).cell? ⟨w8.heap.size, 4, none⟩ = some (.int .i64 m0.l) ∧ (w12.alloc (.cells #[.int .i64 (swapQ m0 xs0 xs1 n2 n3).1.1.c, .int .i64 (swapQ m0 xs0 xs1 n2 n3).1.1.d, .int .i64 (swapQ m0 xs0 xs1 n2 n3).1.1.s, .int .i64 (swapQ m0 xs0 xs1 n2 n3).1.1.a, .int .i64 (swapQ m0 xs0 xs1 n2 n3).1.1.l, .slice Ag0 (swapQ m0 xs0 xs1 n2 n3).1.2.length cg0] 31)).cell? ⟨w8.heap.size, 5, none⟩ = some (.slice A0_8 xs0.length c0_8) ∧ True := bq16
  have q3 : (w12.alloc (.cells #[.int .i64 (swapQ m0 xs0 xs1 n2 n3).1.1.c, .int .i64 (swapQ m0 xs0 xs1 n2 n3).1.1.d, .int .i64 (swapQ m0 xs0 xs1 n2 n3).1.1.s, .int .i64 (swapQ m0 xs0 xs1 n2 n3).1.1.a, .int .i64 (swapQ m0 xs0 xs1 n2 n3).1.1.l, .slice Ag0 (swapQ m0 xs0 xs1 n2 n3).1.2.length cg0] 31)).cell? ⟨w12.heap.size, 0, none⟩ = some (.int .i64 (swapQ m0 xs0 xs1 n2 n3).1.1.c) ∧ (w12.alloc (.cells #[.int .i64 (swapQ m0 xs0 xs1 n2 n3).1.1.c, .int .i64 (swapQ m0 xs0 xs1 n2 n3).1.1.d, .int .i64 (swapQ m0 xs0 xs1 n2 n3).1.1.s, .int .i64 (swapQ m0 xs0 xs1 n2 n3).1.1.a, .int .i64 (swapQ m0 xs0 xs1 n2 n3).1.1.l, .slice Ag0 (swapQ m0 xs0 xs1 n2 n3).1.2.length cg0] 31)).cell? ⟨w12.heap.size, 1, none⟩ = some (.int .i64 (swapQ m0 xs0 xs1 n2 n3).1.1.d) ∧ (w12.alloc (.cells #[.int .i64 (swapQ m0 xs0 xs1 n2 n3).1.1.c, .int .i64 (swapQ m0 xs0 xs1 n2 n3).1.1.d, .int .i64 (swapQ m0 xs0 xs1 n2 n3).1.1.s, .int .i64 (swapQ m0 xs0 xs1 n2 n3).1.1.a, .int .i64 (swapQ m0 xs0 xs1 n2 n3).1.1.l, .slice Ag0 (swapQ m0 xs0 xs1 n2 n3).1.2.length cg0] 31)).cell? ⟨w12.heap.size, 2, none⟩ = some (.int .i64 (swapQ m0 xs0 xs1 n2 n3).1.1.s) ∧ (w12.alloc (.cells #[.int .i64 (swapQ m0 xs0 xs1 n2 n3).1.1.c, .int .i64 (swapQ m0 xs0 xs1 n2 n3).1.1.d, .int .i64 (swapQ m0 xs0 xs1 n2 n3).1.1.s, .int .i64 (swapQ m0 xs0 xs1 n2 n3).1.1.a, .int .i64 (swapQ m0 xs0 xs1 n2 n3).1.1.l, .slice Ag0 (swapQ m0 xs0 xs1 n2 n3).1.2.length cg0] 31)).cell? ⟨w12.heap.size, 3, none⟩ = some (.int .i64 (swapQ m0 xs0 xs1 n2 n3).1.1.a) ∧ (w12.alloc (.cells #[.int .i64 (swapQ m0 xs0 xs1 n2 n3).1.1.c, .int .i64 (swapQ m0 xs0 xs1 n2 n3).1.1.d, .int .i64 (swapQ m0 xs0 xs1 n2 n3).1.1.s, .int .i64 (swapQ m0 xs0 xs1 n2 n3).1.1.a, .int .i64 (swapQ m0 xs0 xs1 n2 n3).1.1.l, .slice Ag0 (swapQ m0 xs0 xs1 n2 n3).1.2.length cg0] 31)).cell? ⟨w12.heap.size, 4, none⟩ = some (.int .i64 (swapQ m0 xs0 xs1 n2 n3).1.1.l) ∧ (w12.alloc (.cells #[.int .i64 (swapQ m0 xs0 xs1 n2 n3).1.1.c, .int .i64 (swapQ m0 xs0 xs1 n2 n3).1.1.d, .int .i64 (swapQ m0 xs0 xs1 n2 n3).1.1.s, .int .i64 (swapQ m0 xs0 xs1 n2 n3).1.1.a, .int .i64 (swapQ m0 xs0 xs1 n2 n3).1.1.l, .slice Ag0 (swapQ m0 xs0 xs1 n2 n3).1.2.length cg0] 31)).cell? ⟨w12.heap.size, 5, none⟩ = some (.slice Ag0 (swapQ m0 xs0 xs1 n2 n3).1.2.length cg0) ∧ True := bq13
  go_wp2_with fail
  clear q0 q1 q2 q3
  have D6_8 := b7.trans (b8.mono b7.size)
  have D6_9 := D6_8.trans (b9.mono D6_8.size)
  have D6_10 := D6_9.trans (b10.mono D6_9.size)
  have D6_12 := D6_10.trans (b12.mono D6_10.size)
  have D6_13 := D6_12.trans (b13.mono D6_12.size)
  refine (eqS_t (swapQ m0 xs0 xs1 n2 n3).1.1 Ag0 As0 cg0 cs0 (swapQ m0 xs0 xs1 n2 n3).1.2 _ (rg0.below b13) (rs0.below D6_13)).mono ?_
  rintro e w14 ⟨rfl, b14⟩
  have bq17 := BoxC.below bq14 b14
  have q0 : w14.cell? ⟨w.heap.size, 0, none⟩ = some (.int .i64 m0.c) ∧ w14.cell? ⟨w.heap.size, 1, none⟩ = some (.int .i64 m0.d) ∧ w14.cell? ⟨w.heap.size, 2, none⟩ = some (.int .i64 m0.s) ∧ w14.cell? ⟨w.heap.size, 3, none⟩ = some (.int .i64 m0.a) ∧ w14.cell? ⟨w.heap.size, 4, none⟩ = some (.int .i64 m0.l) ∧ w14.cell? ⟨w.heap.size, 5, none⟩ = some (.slice A0 xs0.length c0) ∧ True := bq17
  have bq18 := BoxC.below bq15 b14
  have q1 : w14.cell? ⟨w6.heap.size, 0, none⟩ = some (.int .i64 (swapQ m0 xs0 xs1 n2 n3).1.1.c) ∧ w14.cell? ⟨w6.heap.size, 1, none⟩ = some (.int .i64 (swapQ m0 xs0 xs1 n2 n3).1.1.d) ∧ w14.cell? ⟨w6.heap.size, 2, none⟩ = some (.int .i64 (swapQ m0 xs0 xs1 n2 n3).1.1.s) ∧ w14.cell? ⟨w6.heap.size, 3, none⟩ = some (.int .i64 (swapQ m0 xs0 xs1 n2 n3).1.1.a) ∧ w14.cell? ⟨w6.heap.size, 4, none⟩ = some (.int .i64 (swapQ m0 xs0 xs1 n2 n3).1.1.l) ∧ w14.cell? ⟨w6.heap.size, 5, none⟩ = some (.slice As0 (swapQ m0 xs0 xs1 n2 n3).1.2.length cs0) ∧ True := bq18
  have bq19 := BoxC.below bq16 b14
  have q2 : w14.cell? ⟨w8.heap.size, 0, none⟩ = some (.int .i64 m0.c) ∧ w14.cell? ⟨w8.heap.size, 1, none⟩ = some (.int .i64 m0.d) ∧ w14.cell? ⟨w8.heap.size, 2, none⟩ = some (.int .i64 m0.s) ∧ w14.cell? ⟨w8.heap.size, 3, none⟩ = some (.int .i64 m0.a) ∧ w14.cell? ⟨w8.heap.size, 4, none⟩ = some (.int .i64 m0.l) ∧ w14.cell? ⟨w8.heap.size, 5, none⟩ = some (.slice A0_8 xs0.length c0_8) ∧ True := bq19
  have bq20 := BoxC.below bq13 b14
  have q3 : w14.cell? ⟨w12.heap.size, 0, none⟩ = some (.int .i64 (swapQ m0 xs0 xs1 n2 n3).1.1.c) ∧ w14.cell? ⟨w12.heap.size, 1, none⟩ = some (.int .i64 (swapQ m0 xs0 xs1 n2 n3).1.1.d) ∧ w14.cell? ⟨w12.heap.size, 2, none⟩ = some (.int .i64 (swapQ m0 xs0 xs1 n2 n3).1.1.s) ∧ w14.cell? ⟨w12.heap.size, 3, none⟩ = some (.int .i64 (swapQ m0 xs0 xs1 n2 n3).1.1.a) ∧ w14.cell? ⟨w12.heap.size, 4, none⟩ = some (.int .i64 (swapQ m0 xs0 xs1 n2 n3).1.1.l) ∧ w14.cell? ⟨w12.heap.size, 5, none⟩ = some (.slice Ag0 (swapQ m0 xs0 xs1 n2 n3).1.2.length cg0) ∧ True := bq20
  go_wp2_with fail
  clear q0 q1 q2 q3
  have D12_14 := b13.trans (b14.mono b13.size)
  have D6_14 := D6_13.trans (b14.mono D6_13.size)
  refine (eqII_t Ag1 As1 cg1 cs1 (swapQ m0 xs0 xs1 n2 n3).2.1 _ (rg1.below D12_14) (rs1.below D6_14)).mono ?_
  rintro e w15 ⟨rfl, b15⟩
  have bq21 := BoxC.below bq17 b15
  have q0 : w15.cell? ⟨w.heap.size, 0, none⟩ = some (.int .i64 m0.c) ∧ w15.cell? ⟨w.heap.size, 1, none⟩ = some (.int .i64 m0.d) ∧ w15.cell? ⟨w.heap.size, 2, none⟩ = some (.int .i64 m0.s) ∧ w15.cell? ⟨w.heap.size, 3, none⟩ = some (.int .i64 m0.a) ∧ w15.cell? ⟨w.heap.size, 4, none⟩ = some (.int .i64 m0.l) ∧ w15.cell? ⟨w.heap.size, 5, none⟩ = some (.slice A0 xs0.length c0) ∧ True := bq21
  have bq22 := BoxC.below bq18 b15
  have q1 : w15.cell? ⟨w6.heap.size, 0, none⟩ = some (.int .i64 (swapQ m0 xs0 xs1 n2 n3).1.1.c) ∧ w15.cell? ⟨w6.heap.size, 1, none⟩ = some (.int .i64 (swapQ m0 xs0 xs1 n2 n3).1.1.d) ∧ w15.cell? ⟨w6.heap.size, 2, none⟩ = some (.int .i64 (swapQ m0 xs0 xs1 n2 n3).1.1.s) ∧ w15.cell? ⟨w6.heap.size, 3, none⟩ = some (.int .i64 (swapQ m0 xs0 xs1 n2 n3).1.1.a) ∧ w15.cell? ⟨w6.heap.size, 4, none⟩ = some (.int .i64 (swapQ m0 xs0 xs1 n2 n3).1.1.l) ∧ w15.cell? ⟨w6.heap.size, 5, none⟩ = some (.slice As0 (swapQ m0 xs0 xs1 n2 n3).1.2.length cs0) ∧ True := bq22
  have bq23 := BoxC.below bq19 b15
  have q2 : w15.cell? ⟨w8.heap.size, 0, none⟩ = some (.int .i64 m0.c) ∧ w15.cell? ⟨w8.heap.size, 1, none⟩ = some (.int .i64 m0.d) ∧ w15.cell? ⟨w8.heap.size, 2, none⟩ = some (.int .i64 m0.s) ∧ w15.cell? ⟨w8.heap.size, 3, none⟩ = some (.int .i64 m0.a) ∧ w15.cell? ⟨w8.heap.size, 4, none⟩ = some (.int .i64 m0.l) ∧ w15.cell? ⟨w8.heap.size, 5, none⟩ = some (.slice A0_8 xs0.length c0_8) ∧ True := bq23
  have bq24 := BoxC.below bq20 b15
  have q3 : w15.cell? ⟨w12.heap.size, 0, none⟩ = some (.int .i64 (swapQ m0 xs0 xs1 n2 n3).1.1.c) ∧ w15.cell? ⟨w12.heap.size, 1, none⟩ = some (.int .i64 (swapQ m0 xs0 xs1 n2 n3).1.1.d) ∧ w15.cell? ⟨w12.heap.size, 2, none⟩ = some (.int .i64 (swapQ m0 xs0 xs1 n2 n3).1.1.s) ∧ w15.cell? ⟨w12.heap.size, 3, none⟩ = some (.int .i64 (swapQ m0 xs0 xs1 n2 n3).1.1.a) ∧ w15.cell? ⟨w12.heap.size, 4, none⟩ = some (.int .i64 (swapQ m0 xs0 xs1 n2 n3).1.1.l) ∧ w15.cell? ⟨w12.heap.size, 5, none⟩ = some (.slice Ag0 (swapQ m0 xs0 xs1 n2 n3).1.2.length cg0) ∧ True := bq24
  go_wp2_with fail
  clear q0 q1 q2 q3
  have KS25 := Lib.hid (show ∀ w' : World, Below w15.heap.size w15 w' → ((w'.cell? ⟨w.heap.size, 0, none⟩ = some (.int .i64 m0.c) ∧ w'.cell? ⟨w.heap.size, 1, none⟩ = some (.int .i64 m0.d) ∧ w'.cell? ⟨w.heap.size, 2, none⟩ = some (.int .i64 m0.s) ∧ w'.cell? ⟨w.heap.size, 3, none⟩ = some (.int .i64 m0.a) ∧ w'.cell? ⟨w.heap.size, 4, none⟩ = some (.int .i64 m0.l) ∧ w'.cell? ⟨w.heap.size, 5, none⟩ = some (.slice A0 xs0.length c0) ∧ True) ∧ (w'.cell? ⟨w8.heap.size, 0, none⟩ = some (.int .i64 m0.c) ∧ w'.cell? ⟨w8.heap.size, 1, none⟩ = some (.int .i64 m0.d) ∧ w'.cell? ⟨w8.heap.size, 2, none⟩ = some (.int .i64 m0.s) ∧ w'.cell? ⟨w8.heap.size, 3, none⟩ = some (.int .i64 m0.a) ∧ w'.cell? ⟨w8.heap.size, 4, none⟩ = some (.int .i64 m0.l) ∧ w'.cell? ⟨w8.heap.size, 5, none⟩ = some (.slice A0_8 xs0.length c0_8) ∧ True)) from fun w' hb => ⟨BoxC.below bq21 hb, BoxC.below bq23 hb⟩)
  go_region_held3 (fun w' => (w'.cell? ⟨w.heap.size, 0, none⟩ = some (.int .i64 m0.c) ∧ w'.cell? ⟨w.heap.size, 1, none⟩ = some (.int .i64 m0.d) ∧ w'.cell? ⟨w.heap.size, 2, none⟩ = some (.int .i64 m0.s) ∧ w'.cell? ⟨w.heap.size, 3, none⟩ = some (.int .i64 m0.a) ∧ w'.cell? ⟨w.heap.size, 4, none⟩ = some (.int .i64 m0.l) ∧ w'.cell? ⟨w.heap.size, 5, none⟩ = some (.slice A0 xs0.length c0) ∧ True) ∧ (w'.cell? ⟨w8.heap.size, 0, none⟩ = some (.int .i64 m0.c) ∧ w'.cell? ⟨w8.heap.size, 1, none⟩ = some (.int .i64 m0.d) ∧ w'.cell? ⟨w8.heap.size, 2, none⟩ = some (.int .i64 m0.s) ∧ w'.cell? ⟨w8.heap.size, 3, none⟩ = some (.int .i64 m0.a) ∧ w'.cell? ⟨w8.heap.size, 4, none⟩ = some (.int .i64 m0.l) ∧ w'.cell? ⟨w8.heap.size, 5, none⟩ = some (.slice A0_8 xs0.length c0_8) ∧ True)) (first | (refine KS25.out _ ?_; first | assumption | exact belowDrew0 _ | exact Below.alloc (by assumption) (Below.size (by assumption)) _)) (first | (go_at_call 20; have D8_12 := D8_10.trans (b12.mono D8_10.size); have D8_13 := D8_12.trans (b13.mono D8_12.size); have D8_14 := D8_13.trans (b14.mono D8_13.size); have D8_15 := D8_14.trans (b15.mono D8_14.size); have D8_16 := D8_15.trans (b16.mono D8_15.size); refine (eqS_t m0 A0_8 A0_16 c0_8 c0_16 xs0 _ (rA0_8.below D8_16) rA0_16).mono ?_; rintro e w17 ⟨rfl, b17⟩; have BS17 := Below.trans b16 (b17.mono (Below.size b16))) | (go_at_call 17; have D0_10 := D0_9.trans (b10.mono D0_9.size); have D0_12 := D0_10.trans (b12.mono D0_10.size); have D0_13 := D0_12.trans (b13.mono D0_12.size); have D0_14 := D0_13.trans (b14.mono D0_13.size); have D0_15 := D0_14.trans (b15.mono D0_14.size); refine (toS m0 A0 c0 xs0 _ ((Rxs0.below D0_15).below (belowDrew0 _)) zxs0.1 zzxs0).mono ?_; rintro e w16 ⟨A0_16, c0_16, rfl, hc0_16, rA0_16, oA0_16, b16⟩; have b16 := belowDrew b16))
  have D15_17 := b16.trans (b17.mono b16.size)
  have bq26 := BoxC.below bq21 D15_17
  have q0 : w17.cell? ⟨w.heap.size, 0, none⟩ = some (.int .i64 m0.c) ∧ w17.cell? ⟨w.heap.size, 1, none⟩ = some (.int .i64 m0.d) ∧ w17.cell? ⟨w.heap.size, 2, none⟩ = some (.int .i64 m0.s) ∧ w17.cell? ⟨w.heap.size, 3, none⟩ = some (.int .i64 m0.a) ∧ w17.cell? ⟨w.heap.size, 4, none⟩ = some (.int .i64 m0.l) ∧ w17.cell? ⟨w.heap.size, 5, none⟩ = some (.slice A0 xs0.length c0) ∧ True := bq26
  have bq27 := BoxC.below bq22 D15_17
  have q1 : w17.cell? ⟨w6.heap.size, 0, none⟩ = some (.int .i64 (swapQ m0 xs0 xs1 n2 n3).1.1.c) ∧ w17.cell? ⟨w6.heap.size, 1, none⟩ = some (.int .i64 (swapQ m0 xs0 xs1 n2 n3).1.1.d) ∧ w17.cell? ⟨w6.heap.size, 2, none⟩ = some (.int .i64 (swapQ m0 xs0 xs1 n2 n3).1.1.s) ∧ w17.cell? ⟨w6.heap.size, 3, none⟩ = some (.int .i64 (swapQ m0 xs0 xs1 n2 n3).1.1.a) ∧ w17.cell? ⟨w6.heap.size, 4, none⟩ = some (.int .i64 (swapQ m0 xs0 xs1 n2 n3).1.1.l) ∧ w17.cell? ⟨w6.heap.size, 5, none⟩ = some (.slice As0 (swapQ m0 xs0 xs1 n2 n3).1.2.length cs0) ∧ True := bq27
  have bq28 := BoxC.below bq23 D15_17
  have q2 : w17.cell? ⟨w8.heap.size, 0, none⟩ = some (.int .i64 m0.c) ∧ w17.cell? ⟨w8.heap.size, 1, none⟩ = some (.int .i64 m0.d) ∧ w17.cell? ⟨w8.heap.size, 2, none⟩ = some (.int .i64 m0.s) ∧ w17.cell? ⟨w8.heap.size, 3, none⟩ = some (.int .i64 m0.a) ∧ w17.cell? ⟨w8.heap.size, 4, none⟩ = some (.int .i64 m0.l) ∧ w17.cell? ⟨w8.heap.size, 5, none⟩ = some (.slice A0_8 xs0.length c0_8) ∧ True := bq28
  have bq29 := BoxC.below bq24 D15_17
  have q3 : w17.cell? ⟨w12.heap.size, 0, none⟩ = some (.int .i64 (swapQ m0 xs0 xs1 n2 n3).1.1.c) ∧ w17.cell? ⟨w12.heap.size, 1, none⟩ = some (.int .i64 (swapQ m0 xs0 xs1 n2 n3).1.1.d) ∧ w17.cell? ⟨w12.heap.size, 2, none⟩ = some (.int .i64 (swapQ m0 xs0 xs1 n2 n3).1.1.s) ∧ w17.cell? ⟨w12.heap.size, 3, none⟩ = some (.int .i64 (swapQ m0 xs0 xs1 n2 n3).1.1.a) ∧ w17.cell? ⟨w12.heap.size, 4, none⟩ = some (.int .i64 (swapQ m0 xs0 xs1 n2 n3).1.1.l) ∧ w17.cell? ⟨w12.heap.size, 5, none⟩ = some (.slice Ag0 (swapQ m0 xs0 xs1 n2 n3).1.2.length cg0) ∧ True := bq29
  go_wp2_with fail
  clear q0 q1 q2 q3
  have D0_16 := D0_15.trans (b16.mono D0_15.size)
  have D0_17 := D0_16.trans (b17.mono D0_16.size)
  refine (toII A1 c1 xs1 _ (Rxs1.below D0_17) zxs1.1 zzxs1).mono ?_
  rintro e w18 ⟨A1_18, c1_18, rfl, hc1_18, rA1_18, oA1_18, b18⟩
  have bq30 := BoxC.below bq26 b18
  have q0 : w18.cell? ⟨w.heap.size, 0, none⟩ = some (.int .i64 m0.c) ∧ w18.cell? ⟨w.heap.size, 1, none⟩ = some (.int .i64 m0.d) ∧ w18.cell? ⟨w.heap.size, 2, none⟩ = some (.int .i64 m0.s) ∧ w18.cell? ⟨w.heap.size, 3, none⟩ = some (.int .i64 m0.a) ∧ w18.cell? ⟨w.heap.size, 4, none⟩ = some (.int .i64 m0.l) ∧ w18.cell? ⟨w.heap.size, 5, none⟩ = some (.slice A0 xs0.length c0) ∧ True := bq30
  have bq31 := BoxC.below bq27 b18
  have q1 : w18.cell? ⟨w6.heap.size, 0, none⟩ = some (.int .i64 (swapQ m0 xs0 xs1 n2 n3).1.1.c) ∧ w18.cell? ⟨w6.heap.size, 1, none⟩ = some (.int .i64 (swapQ m0 xs0 xs1 n2 n3).1.1.d) ∧ w18.cell? ⟨w6.heap.size, 2, none⟩ = some (.int .i64 (swapQ m0 xs0 xs1 n2 n3).1.1.s) ∧ w18.cell? ⟨w6.heap.size, 3, none⟩ = some (.int .i64 (swapQ m0 xs0 xs1 n2 n3).1.1.a) ∧ w18.cell? ⟨w6.heap.size, 4, none⟩ = some (.int .i64 (swapQ m0 xs0 xs1 n2 n3).1.1.l) ∧ w18.cell? ⟨w6.heap.size, 5, none⟩ = some (.slice As0 (swapQ m0 xs0 xs1 n2 n3).1.2.length cs0) ∧ True := bq31
  have bq32 := BoxC.below bq28 b18
  have q2 : w18.cell? ⟨w8.heap.size, 0, none⟩ = some (.int .i64 m0.c) ∧ w18.cell? ⟨w8.heap.size, 1, none⟩ = some (.int .i64 m0.d) ∧ w18.cell? ⟨w8.heap.size, 2, none⟩ = some (.int .i64 m0.s) ∧ w18.cell? ⟨w8.heap.size, 3, none⟩ = some (.int .i64 m0.a) ∧ w18.cell? ⟨w8.heap.size, 4, none⟩ = some (.int .i64 m0.l) ∧ w18.cell? ⟨w8.heap.size, 5, none⟩ = some (.slice A0_8 xs0.length c0_8) ∧ True := bq32
  have bq33 := BoxC.below bq29 b18
  have q3 : w18.cell? ⟨w12.heap.size, 0, none⟩ = some (.int .i64 (swapQ m0 xs0 xs1 n2 n3).1.1.c) ∧ w18.cell? ⟨w12.heap.size, 1, none⟩ = some (.int .i64 (swapQ m0 xs0 xs1 n2 n3).1.1.d) ∧ w18.cell? ⟨w12.heap.size, 2, none⟩ = some (.int .i64 (swapQ m0 xs0 xs1 n2 n3).1.1.s) ∧ w18.cell? ⟨w12.heap.size, 3, none⟩ = some (.int .i64 (swapQ m0 xs0 xs1 n2 n3).1.1.a) ∧ w18.cell? ⟨w12.heap.size, 4, none⟩ = some (.int .i64 (swapQ m0 xs0 xs1 n2 n3).1.1.l) ∧ w18.cell? ⟨w12.heap.size, 5, none⟩ = some (.slice Ag0 (swapQ m0 xs0 xs1 n2 n3).1.2.length cg0) ∧ True := bq33
  go_wp2_with fail
  clear q0 q1 q2 q3
  have D10_14 := D10_13.trans (b14.mono D10_13.size)
  have D10_15 := D10_14.trans (b15.mono D10_14.size)
  have D10_16 := D10_15.trans (b16.mono D10_15.size)
  have D10_17 := D10_16.trans (b17.mono D10_16.size)
  have D10_18 := D10_17.trans (b18.mono D10_17.size)
  refine (eqII_t A1_10 A1_18 c1_10 c1_18 xs1 _ (rA1_10.below D10_18) rA1_18).mono ?_
  rintro e w19 ⟨rfl, b19⟩
  have bq34 := BoxC.below bq30 b19
  have q0 : w19.cell? ⟨w.heap.size, 0, none⟩ = some (.int .i64 m0.c) ∧ w19.cell? ⟨w.heap.size, 1, none⟩ = some (.int .i64 m0.d) ∧ w19.cell? ⟨w.heap.size, 2, none⟩ = some (.int .i64 m0.s) ∧ w19.cell? ⟨w.heap.size, 3, none⟩ = some (.int .i64 m0.a) ∧ w19.cell? ⟨w.heap.size, 4, none⟩ = some (.int .i64 m0.l) ∧ w19.cell? ⟨w.heap.size, 5, none⟩ = some (.slice A0 xs0.length c0) ∧ True := bq34
  have bq35 := BoxC.below bq31 b19
  have q1 : w19.cell? ⟨w6.heap.size, 0, none⟩ = some (.int .i64 (swapQ m0 xs0 xs1 n2 n3).1.1.c) ∧ w19.cell? ⟨w6.heap.size, 1, none⟩ = some (.int .i64 (swapQ m0 xs0 xs1 n2 n3).1.1.d) ∧ w19.cell? ⟨w6.heap.size, 2, none⟩ = some (.int .i64 (swapQ m0 xs0 xs1 n2 n3).1.1.s) ∧ w19.cell? ⟨w6.heap.size, 3, none⟩ = some (.int .i64 (swapQ m0 xs0 xs1 n2 n3).1.1.a) ∧ w19.cell? ⟨w6.heap.size, 4, none⟩ = some (.int .i64 (swapQ m0 xs0 xs1 n2 n3).1.1.l) ∧ w19.cell? ⟨w6.heap.size, 5, none⟩ = some (.slice As0 (swapQ m0 xs0 xs1 n2 n3).1.2.length cs0) ∧ True := bq35
  have bq36 := BoxC.below bq32 b19
  have q2 : w19.cell? ⟨w8.heap.size, 0, none⟩ = some (.int .i64 m0.c) ∧ w19.cell? ⟨w8.heap.size, 1, none⟩ = some (.int .i64 m0.d) ∧ w19.cell? ⟨w8.heap.size, 2, none⟩ = some (.int .i64 m0.s) ∧ w19.cell? ⟨w8.heap.size, 3, none⟩ = some (.int .i64 m0.a) ∧ w19.cell? ⟨w8.heap.size, 4, none⟩ = some (.int .i64 m0.l) ∧ w19.cell? ⟨w8.heap.size, 5, none⟩ = some (.slice A0_8 xs0.length c0_8) ∧ True := bq36
  have bq37 := BoxC.below bq33 b19
  have q3 : w19.cell? ⟨w12.heap.size, 0, none⟩ = some (.int .i64 (swapQ m0 xs0 xs1 n2 n3).1.1.c) ∧ w19.cell? ⟨w12.heap.size, 1, none⟩ = some (.int .i64 (swapQ m0 xs0 xs1 n2 n3).1.1.d) ∧ w19.cell? ⟨w12.heap.size, 2, none⟩ = some (.int .i64 (swapQ m0 xs0 xs1 n2 n3).1.1.s) ∧ w19.cell? ⟨w12.heap.size, 3, none⟩ = some (.int .i64 (swapQ m0 xs0 xs1 n2 n3).1.1.a) ∧ w19.cell? ⟨w12.heap.size, 4, none⟩ = some (.int .i64 (swapQ m0 xs0 xs1 n2 n3).1.1.l) ∧ w19.cell? ⟨w12.heap.size, 5, none⟩ = some (.slice Ag0 (swapQ m0 xs0 xs1 n2 n3).1.2.length cg0) ∧ True := bq37
  go_wp2_with fail
  clear q0 q1 q2 q3
  have D8_17 := D8_16.trans (b17.mono D8_16.size)
  have D8_18 := D8_17.trans (b18.mono D8_17.size)
  have D8_19 := D8_18.trans (b19.mono D8_18.size)
  have Y38 := oA0_8.below (D8_19.mono (Nat.le_refl _))
  have D10_19 := D10_18.trans (b19.mono D10_18.size)
  have Y39 := oA1_10.below (D10_19.mono (Nat.le_refl _))
  have D12_15 := D12_14.trans (b15.mono D12_14.size)
  have D12_16 := D12_15.trans (b16.mono D12_15.size)
  have D12_17 := D12_16.trans (b17.mono D12_16.size)
  have D12_18 := D12_17.trans (b18.mono D12_17.size)
  have D12_19 := D12_18.trans (b19.mono D12_18.size)
  have Y40 := og0.below (D12_19.mono (hm2g))
  have Y41 := og1.below (D12_19.mono (Nat.le_refl _))
  have S8_10 := Nat.le_trans (b9.size) b10.size
  have S8_11 := Nat.le_trans (S8_10) hm1g
  have S8_12 := Nat.le_trans (S8_11) hm2g
  have S8_13 := Nat.le_trans (S8_12) b13.size
  have S8_14 := Nat.le_trans (S8_13) b14.size
  have S8_15 := Nat.le_trans (S8_14) b15.size
  have S8_16 := Nat.le_trans (S8_15) b16.size
  have S8_17 := Nat.le_trans (S8_16) b17.size
  have S8_18 := Nat.le_trans (S8_17) b18.size
  have S8_19 := Nat.le_trans (S8_18) b19.size
  refine (markS_t m0 (.slice A0_8 xs0.length c0_8) xs0 _ _ _ _ Y38 (by omega) (by omega) (by omega) (by omega) (S8_19)).mono ?_
  rintro e w20 ⟨rfl, Y42, on20⟩
  have S0_2 := Nat.le_trans (b1.size) b2.size
  have S0_3 := Nat.le_trans (S0_2) b3.size
  have S0_4 := Nat.le_trans (S0_3) b4.size
  have S0_5 := Nat.le_trans (S0_4) hm1s
  have S0_6 := Nat.le_trans (S0_5) hm2s
  have S0_7 := Nat.le_trans (S0_6) b7.size
  have bq43 := BoxC.only bq34 on20 (Or.inl (Nat.lt_of_lt_of_le (by simp only [World.size_alloc]; omega) (S0_7)))
  have q0 : w20.cell? ⟨w.heap.size, 0, none⟩ = some (.int .i64 m0.c) ∧ w20.cell? ⟨w.heap.size, 1, none⟩ = some (.int .i64 m0.d) ∧ w20.cell? ⟨w.heap.size, 2, none⟩ = some (.int .i64 m0.s) ∧ w20.cell? ⟨w.heap.size, 3, none⟩ = some (.int .i64 m0.a) ∧ w20.cell? ⟨w.heap.size, 4, none⟩ = some (.int .i64 m0.l) ∧ w20.cell? ⟨w.heap.size, 5, none⟩ = some (.slice A0 xs0.length c0) ∧ True := bq43
  have bq44 := BoxC.only bq35 on20 (Or.inl (Nat.lt_of_lt_of_le (by first | exact Nat.lt_succ_self _ | simp) (Nat.le_refl _)))
  have q1 : w20.cell? ⟨w6.heap.size, 0, none⟩ = some (.int .i64 (swapQ m0 xs0 xs1 n2 n3).1.1.c) ∧ w20.cell? ⟨w6.heap.size, 1, none⟩ = some (.int .i64 (swapQ m0 xs0 xs1 n2 n3).1.1.d) ∧ w20.cell? ⟨w6.heap.size, 2, none⟩ = some (.int .i64 (swapQ m0 xs0 xs1 n2 n3).1.1.s) ∧ w20.cell? ⟨w6.heap.size, 3, none⟩ = some (.int .i64 (swapQ m0 xs0 xs1 n2 n3).1.1.a) ∧ w20.cell? ⟨w6.heap.size, 4, none⟩ = some (.int .i64 (swapQ m0 xs0 xs1 n2 n3).1.1.l) ∧ w20.cell? ⟨w6.heap.size, 5, none⟩ = some (.slice As0 (swapQ m0 xs0 xs1 n2 n3).1.2.length cs0) ∧ True := bq44
  have bq45 := BoxC.only bq36 on20 (Or.inr (Nat.le_refl _))
  have q2 : w20.cell? ⟨w8.heap.size, 0, none⟩ = some (.int .i64 m0.c) ∧ w20.cell? ⟨w8.heap.size, 1, none⟩ = some (.int .i64 m0.d) ∧ w20.cell? ⟨w8.heap.size, 2, none⟩ = some (.int .i64 m0.s) ∧ w20.cell? ⟨w8.heap.size, 3, none⟩ = some (.int .i64 m0.a) ∧ w20.cell? ⟨w8.heap.size, 4, none⟩ = some (.int .i64 m0.l) ∧ w20.cell? ⟨w8.heap.size, 5, none⟩ = some (.slice A0_8 xs0.length c0_8) ∧ True := bq45
  have bq46 := BoxC.only bq37 on20 (Or.inr (S8_12))
  have q3 : w20.cell? ⟨w12.heap.size, 0, none⟩ = some (.int .i64 (swapQ m0 xs0 xs1 n2 n3).1.1.c) ∧ w20.cell? ⟨w12.heap.size, 1, none⟩ = some (.int .i64 (swapQ m0 xs0 xs1 n2 n3).1.1.d) ∧ w20.cell? ⟨w12.heap.size, 2, none⟩ = some (.int .i64 (swapQ m0 xs0 xs1 n2 n3).1.1.s) ∧ w20.cell? ⟨w12.heap.size, 3, none⟩ = some (.int .i64 (swapQ m0 xs0 xs1 n2 n3).1.1.a) ∧ w20.cell? ⟨w12.heap.size, 4, none⟩ = some (.int .i64 (swapQ m0 xs0 xs1 n2 n3).1.1.l) ∧ w20.cell? ⟨w12.heap.size, 5, none⟩ = some (.slice Ag0 (swapQ m0 xs0 xs1 n2 n3).1.2.length cg0) ∧ True := bq46
  go_wp2_with fail
  clear q0 q1 q2 q3
  have Y47 := Y39.only on20 (Or.inr (b9.size))
  have Y48 := Y40.only on20 (Or.inr (S8_10))
  have Y49 := Y41.only on20 (Or.inr (S8_11))
  refine (markII_t (.slice A1_10 xs1.length c1_10) xs1 _ _ _ _ Y47 (by omega) (by omega) (by omega) (by omega)).mono ?_
  rintro e w21 ⟨rfl, Y50, on21⟩
  have S0_8 := Nat.le_trans (S0_7) b8.size
  have S0_9 := Nat.le_trans (S0_8) b9.size
  have bq51 := BoxC.only bq43 on21 (Or.inl (Nat.lt_of_lt_of_le (by simp only [World.size_alloc]; omega) (S0_9)))
  have q0 : w21.cell? ⟨w.heap.size, 0, none⟩ = some (.int .i64 m0.c) ∧ w21.cell? ⟨w.heap.size, 1, none⟩ = some (.int .i64 m0.d) ∧ w21.cell? ⟨w.heap.size, 2, none⟩ = some (.int .i64 m0.s) ∧ w21.cell? ⟨w.heap.size, 3, none⟩ = some (.int .i64 m0.a) ∧ w21.cell? ⟨w.heap.size, 4, none⟩ = some (.int .i64 m0.l) ∧ w21.cell? ⟨w.heap.size, 5, none⟩ = some (.slice A0 xs0.length c0) ∧ True := bq51
  have S7_9 := Nat.le_trans (b8.size) b9.size
  have bq52 := BoxC.only bq44 on21 (Or.inl (Nat.lt_of_lt_of_le (by first | exact Nat.lt_succ_self _ | simp) (S7_9)))
  have q1 : w21.cell? ⟨w6.heap.size, 0, none⟩ = some (.int .i64 (swapQ m0 xs0 xs1 n2 n3).1.1.c) ∧ w21.cell? ⟨w6.heap.size, 1, none⟩ = some (.int .i64 (swapQ m0 xs0 xs1 n2 n3).1.1.d) ∧ w21.cell? ⟨w6.heap.size, 2, none⟩ = some (.int .i64 (swapQ m0 xs0 xs1 n2 n3).1.1.s) ∧ w21.cell? ⟨w6.heap.size, 3, none⟩ = some (.int .i64 (swapQ m0 xs0 xs1 n2 n3).1.1.a) ∧ w21.cell? ⟨w6.heap.size, 4, none⟩ = some (.int .i64 (swapQ m0 xs0 xs1 n2 n3).1.1.l) ∧ w21.cell? ⟨w6.heap.size, 5, none⟩ = some (.slice As0 (swapQ m0 xs0 xs1 n2 n3).1.2.length cs0) ∧ True := bq52
  have bq53 := BoxC.only bq45 on21 (Or.inl (Nat.lt_of_lt_of_le (by first | exact Nat.lt_succ_self _ | simp) (Nat.le_refl _)))
  have q2 : w21.cell? ⟨w8.heap.size, 0, none⟩ = some (.int .i64 m0.c) ∧ w21.cell? ⟨w8.heap.size, 1, none⟩ = some (.int .i64 m0.d) ∧ w21.cell? ⟨w8.heap.size, 2, none⟩ = some (.int .i64 m0.s) ∧ w21.cell? ⟨w8.heap.size, 3, none⟩ = some (.int .i64 m0.a) ∧ w21.cell? ⟨w8.heap.size, 4, none⟩ = some (.int .i64 m0.l) ∧ w21.cell? ⟨w8.heap.size, 5, none⟩ = some (.slice A0_8 xs0.length c0_8) ∧ True := bq53
  have bq54 := BoxC.only bq46 on21 (Or.inr (b12.size))
  have q3 : w21.cell? ⟨w12.heap.size, 0, none⟩ = some (.int .i64 (swapQ m0 xs0 xs1 n2 n3).1.1.c) ∧ w21.cell? ⟨w12.heap.size, 1, none⟩ = some (.int .i64 (swapQ m0 xs0 xs1 n2 n3).1.1.d) ∧ w21.cell? ⟨w12.heap.size, 2, none⟩ = some (.int .i64 (swapQ m0 xs0 xs1 n2 n3).1.1.s) ∧ w21.cell? ⟨w12.heap.size, 3, none⟩ = some (.int .i64 (swapQ m0 xs0 xs1 n2 n3).1.1.a) ∧ w21.cell? ⟨w12.heap.size, 4, none⟩ = some (.int .i64 (swapQ m0 xs0 xs1 n2 n3).1.1.l) ∧ w21.cell? ⟨w12.heap.size, 5, none⟩ = some (.slice Ag0 (swapQ m0 xs0 xs1 n2 n3).1.2.length cg0) ∧ True := bq54
  go_wp2_with fail
  clear q0 q1 q2 q3
  have Y55 := Y48.only on21 (Or.inr (Nat.le_refl _))
  have S9_11 := Nat.le_trans (b10.size) hm1g
  have S9_12 := Nat.le_trans (S9_11) hm2g
  have S9_13 := Nat.le_trans (S9_12) b13.size
  have S9_14 := Nat.le_trans (S9_13) b14.size
  have S9_15 := Nat.le_trans (S9_14) b15.size
  have S9_16 := Nat.le_trans (S9_15) b16.size
  have S9_17 := Nat.le_trans (S9_16) b17.size
  have S9_18 := Nat.le_trans (S9_17) b18.size
  have S9_19 := Nat.le_trans (S9_18) b19.size
  have S9_20 := Nat.le_trans (S9_19) on20.size
  have S6_8 := Nat.le_trans (b7.size) b8.size
  have S6_9 := Nat.le_trans (S6_8) b9.size
  have S7_10 := Nat.le_trans (S7_9) b10.size
  have S7_11 := Nat.le_trans (S7_10) hm1g
  have S7_12 := Nat.le_trans (S7_11) hm2g
  have S7_13 := Nat.le_trans (S7_12) b13.size
  have S7_14 := Nat.le_trans (S7_13) b14.size
  have S7_15 := Nat.le_trans (S7_14) b15.size
  have S7_16 := Nat.le_trans (S7_15) b16.size
  have S7_17 := Nat.le_trans (S7_16) b17.size
  have S7_18 := Nat.le_trans (S7_17) b18.size
  have S7_19 := Nat.le_trans (S7_18) b19.size
  have D6_15 := D6_14.trans (b15.mono D6_14.size)
  have D6_16 := D6_15.trans (b16.mono D6_15.size)
  have D6_17 := D6_16.trans (b17.mono D6_16.size)
  have D6_18 := D6_17.trans (b18.mono D6_17.size)
  have D6_19 := D6_18.trans (b19.mono D6_18.size)
  have D6_20 := D6_19.trans ((on20.below (S7_19)).mono (b7.size))
  have D6_21 := D6_20.trans ((on21.below (S9_20)).mono (S6_9))
  refine (eqS_t (swapQ m0 xs0 xs1 n2 n3).1.1 Ag0 As0 cg0 cs0 (swapQ m0 xs0 xs1 n2 n3).1.2 _ (OII.rii Y55) (rs0.below D6_21)).mono ?_
  rintro e w22 ⟨rfl, b22⟩
  have bq56 := BoxC.below bq51 b22
  have q0 : w22.cell? ⟨w.heap.size, 0, none⟩ = some (.int .i64 m0.c) ∧ w22.cell? ⟨w.heap.size, 1, none⟩ = some (.int .i64 m0.d) ∧ w22.cell? ⟨w.heap.size, 2, none⟩ = some (.int .i64 m0.s) ∧ w22.cell? ⟨w.heap.size, 3, none⟩ = some (.int .i64 m0.a) ∧ w22.cell? ⟨w.heap.size, 4, none⟩ = some (.int .i64 m0.l) ∧ w22.cell? ⟨w.heap.size, 5, none⟩ = some (.slice A0 xs0.length c0) ∧ True := bq56
  have bq57 := BoxC.below bq52 b22
  have q1 : w22.cell? ⟨w6.heap.size, 0, none⟩ = some (.int .i64 (swapQ m0 xs0 xs1 n2 n3).1.1.c) ∧ w22.cell? ⟨w6.heap.size, 1, none⟩ = some (.int .i64 (swapQ m0 xs0 xs1 n2 n3).1.1.d) ∧ w22.cell? ⟨w6.heap.size, 2, none⟩ = some (.int .i64 (swapQ m0 xs0 xs1 n2 n3).1.1.s) ∧ w22.cell? ⟨w6.heap.size, 3, none⟩ = some (.int .i64 (swapQ m0 xs0 xs1 n2 n3).1.1.a) ∧ w22.cell? ⟨w6.heap.size, 4, none⟩ = some (.int .i64 (swapQ m0 xs0 xs1 n2 n3).1.1.l) ∧ w22.cell? ⟨w6.heap.size, 5, none⟩ = some (.slice As0 (swapQ m0 xs0 xs1 n2 n3).1.2.length cs0) ∧ True := bq57
  have bq58 := BoxC.below bq53 b22
  have q2 : w22.cell? ⟨w8.heap.size, 0, none⟩ = some (.int .i64 m0.c) ∧ w22.cell? ⟨w8.heap.size, 1, none⟩ = some (.int .i64 m0.d) ∧ w22.cell? ⟨w8.heap.size, 2, none⟩ = some (.int .i64 m0.s) ∧ w22.cell? ⟨w8.heap.size, 3, none⟩ = some (.int .i64 m0.a) ∧ w22.cell? ⟨w8.heap.size, 4, none⟩ = some (.int .i64 m0.l) ∧ w22.cell? ⟨w8.heap.size, 5, none⟩ = some (.slice A0_8 xs0.length c0_8) ∧ True := bq58
  have bq59 := BoxC.below bq54 b22
  have q3 : w22.cell? ⟨w12.heap.size, 0, none⟩ = some (.int .i64 (swapQ m0 xs0 xs1 n2 n3).1.1.c) ∧ w22.cell? ⟨w12.heap.size, 1, none⟩ = some (.int .i64 (swapQ m0 xs0 xs1 n2 n3).1.1.d) ∧ w22.cell? ⟨w12.heap.size, 2, none⟩ = some (.int .i64 (swapQ m0 xs0 xs1 n2 n3).1.1.s) ∧ w22.cell? ⟨w12.heap.size, 3, none⟩ = some (.int .i64 (swapQ m0 xs0 xs1 n2 n3).1.1.a) ∧ w22.cell? ⟨w12.heap.size, 4, none⟩ = some (.int .i64 (swapQ m0 xs0 xs1 n2 n3).1.1.l) ∧ w22.cell? ⟨w12.heap.size, 5, none⟩ = some (.slice Ag0 (swapQ m0 xs0 xs1 n2 n3).1.2.length cg0) ∧ True := bq59
  go_wp2_with fail
  clear q0 q1 q2 q3
  have Y60 := Y49.only on21 (Or.inr (hm1g))
  have S12_14 := Nat.le_trans (b13.size) b14.size
  have S12_15 := Nat.le_trans (S12_14) b15.size
  have S12_16 := Nat.le_trans (S12_15) b16.size
  have S12_17 := Nat.le_trans (S12_16) b17.size
  have S12_18 := Nat.le_trans (S12_17) b18.size
  have S12_19 := Nat.le_trans (S12_18) b19.size
  have S12_20 := Nat.le_trans (S12_19) on20.size
  have S12_21 := Nat.le_trans (S12_20) on21.size
  have Y61 := Y60.below (b22.mono (S12_21))
  have D6_22 := D6_21.trans (b22.mono D6_21.size)
  refine (eqII_t Ag1 As1 cg1 cs1 (swapQ m0 xs0 xs1 n2 n3).2.1 _ (OII.rii Y61) (rs1.below D6_22)).mono ?_
  rintro e w23 ⟨rfl, b23⟩
  have bq62 := BoxC.below bq56 b23
  have q0 : w23.cell? ⟨w.heap.size, 0, none⟩ = some (.int .i64 m0.c) ∧ w23.cell? ⟨w.heap.size, 1, none⟩ = some (.int .i64 m0.d) ∧ w23.cell? ⟨w.heap.size, 2, none⟩ = some (.int .i64 m0.s) ∧ w23.cell? ⟨w.heap.size, 3, none⟩ = some (.int .i64 m0.a) ∧ w23.cell? ⟨w.heap.size, 4, none⟩ = some (.int .i64 m0.l) ∧ w23.cell? ⟨w.heap.size, 5, none⟩ = some (.slice A0 xs0.length c0) ∧ True := bq62
  have bq63 := BoxC.below bq57 b23
  have q1 : w23.cell? ⟨w6.heap.size, 0, none⟩ = some (.int .i64 (swapQ m0 xs0 xs1 n2 n3).1.1.c) ∧ w23.cell? ⟨w6.heap.size, 1, none⟩ = some (.int .i64 (swapQ m0 xs0 xs1 n2 n3).1.1.d) ∧ w23.cell? ⟨w6.heap.size, 2, none⟩ = some (.int .i64 (swapQ m0 xs0 xs1 n2 n3).1.1.s) ∧ w23.cell? ⟨w6.heap.size, 3, none⟩ = some (.int .i64 (swapQ m0 xs0 xs1 n2 n3).1.1.a) ∧ w23.cell? ⟨w6.heap.size, 4, none⟩ = some (.int .i64 (swapQ m0 xs0 xs1 n2 n3).1.1.l) ∧ w23.cell? ⟨w6.heap.size, 5, none⟩ = some (.slice As0 (swapQ m0 xs0 xs1 n2 n3).1.2.length cs0) ∧ True := bq63
  have bq64 := BoxC.below bq58 b23
  have q2 : w23.cell? ⟨w8.heap.size, 0, none⟩ = some (.int .i64 m0.c) ∧ w23.cell? ⟨w8.heap.size, 1, none⟩ = some (.int .i64 m0.d) ∧ w23.cell? ⟨w8.heap.size, 2, none⟩ = some (.int .i64 m0.s) ∧ w23.cell? ⟨w8.heap.size, 3, none⟩ = some (.int .i64 m0.a) ∧ w23.cell? ⟨w8.heap.size, 4, none⟩ = some (.int .i64 m0.l) ∧ w23.cell? ⟨w8.heap.size, 5, none⟩ = some (.slice A0_8 xs0.length c0_8) ∧ True := bq64
  have bq65 := BoxC.below bq59 b23
  have q3 : w23.cell? ⟨w12.heap.size, 0, none⟩ = some (.int .i64 (swapQ m0 xs0 xs1 n2 n3).1.1.c) ∧ w23.cell? ⟨w12.heap.size, 1, none⟩ = some (.int .i64 (swapQ m0 xs0 xs1 n2 n3).1.1.d) ∧ w23.cell? ⟨w12.heap.size, 2, none⟩ = some (.int .i64 (swapQ m0 xs0 xs1 n2 n3).1.1.s) ∧ w23.cell? ⟨w12.heap.size, 3, none⟩ = some (.int .i64 (swapQ m0 xs0 xs1 n2 n3).1.1.a) ∧ w23.cell? ⟨w12.heap.size, 4, none⟩ = some (.int .i64 (swapQ m0 xs0 xs1 n2 n3).1.1.l) ∧ w23.cell? ⟨w12.heap.size, 5, none⟩ = some (.slice Ag0 (swapQ m0 xs0 xs1 n2 n3).1.2.length cg0) ∧ True := bq65
  go_wp2_with fail
  clear q0 q1 q2 q3
  have D21_23 := b22.trans (b23.mono b22.size)
  have S11_13 := Nat.le_trans (hm2g) b13.size
  have S11_14 := Nat.le_trans (S11_13) b14.size
  have S11_15 := Nat.le_trans (S11_14) b15.size
  have S11_16 := Nat.le_trans (S11_15) b16.size
  have S11_17 := Nat.le_trans (S11_16) b17.size
  have S11_18 := Nat.le_trans (S11_17) b18.size
  have S11_19 := Nat.le_trans (S11_18) b19.size
  have S11_20 := Nat.le_trans (S11_19) on20.size
  have S11_21 := Nat.le_trans (S11_20) on21.size
  have Y66 := Y55.below (D21_23.mono (S11_21))
  have S12_22 := Nat.le_trans (S12_21) b22.size
  have Y67 := Y61.below (b23.mono (S12_22))
  have S11_22 := Nat.le_trans (S11_21) b22.size
  have S11_23 := Nat.le_trans (S11_22) b23.size
  refine (markS_t (swapQ m0 xs0 xs1 n2 n3).1.1 (.slice Ag0 (swapQ m0 xs0 xs1 n2 n3).1.2.length cg0) (swapQ m0 xs0 xs1 n2 n3).1.2 _ _ _ _ Y66 (by omega) (by omega) (by omega) (by omega) (S11_23)).mono ?_
  rintro e w24 ⟨rfl, Y68, on24⟩
  have S0_10 := Nat.le_trans (S0_9) b10.size
  have bq69 := BoxC.only bq62 on24 (Or.inl (Nat.lt_of_lt_of_le (by simp only [World.size_alloc]; omega) (S0_10)))
  have q0 : w24.cell? ⟨w.heap.size, 0, none⟩ = some (.int .i64 m0.c) ∧ w24.cell? ⟨w.heap.size, 1, none⟩ = some (.int .i64 m0.d) ∧ w24.cell? ⟨w.heap.size, 2, none⟩ = some (.int .i64 m0.s) ∧ w24.cell? ⟨w.heap.size, 3, none⟩ = some (.int .i64 m0.a) ∧ w24.cell? ⟨w.heap.size, 4, none⟩ = some (.int .i64 m0.l) ∧ w24.cell? ⟨w.heap.size, 5, none⟩ = some (.slice A0 xs0.length c0) ∧ True := bq69
  have bq70 := BoxC.only bq63 on24 (Or.inl (Nat.lt_of_lt_of_le (by first | exact Nat.lt_succ_self _ | simp) (S7_10)))
  have q1 : w24.cell? ⟨w6.heap.size, 0, none⟩ = some (.int .i64 (swapQ m0 xs0 xs1 n2 n3).1.1.c) ∧ w24.cell? ⟨w6.heap.size, 1, none⟩ = some (.int .i64 (swapQ m0 xs0 xs1 n2 n3).1.1.d) ∧ w24.cell? ⟨w6.heap.size, 2, none⟩ = some (.int .i64 (swapQ m0 xs0 xs1 n2 n3).1.1.s) ∧ w24.cell? ⟨w6.heap.size, 3, none⟩ = some (.int .i64 (swapQ m0 xs0 xs1 n2 n3).1.1.a) ∧ w24.cell? ⟨w6.heap.size, 4, none⟩ = some (.int .i64 (swapQ m0 xs0 xs1 n2 n3).1.1.l) ∧ w24.cell? ⟨w6.heap.size, 5, none⟩ = some (.slice As0 (swapQ m0 xs0 xs1 n2 n3).1.2.length cs0) ∧ True := bq70
  have bq71 := BoxC.only bq64 on24 (Or.inl (Nat.lt_of_lt_of_le (by first | exact Nat.lt_succ_self _ | simp) (b10.size)))
  have q2 : w24.cell? ⟨w8.heap.size, 0, none⟩ = some (.int .i64 m0.c) ∧ w24.cell? ⟨w8.heap.size, 1, none⟩ = some (.int .i64 m0.d) ∧ w24.cell? ⟨w8.heap.size, 2, none⟩ = some (.int .i64 m0.s) ∧ w24.cell? ⟨w8.heap.size, 3, none⟩ = some (.int .i64 m0.a) ∧ w24.cell? ⟨w8.heap.size, 4, none⟩ = some (.int .i64 m0.l) ∧ w24.cell? ⟨w8.heap.size, 5, none⟩ = some (.slice A0_8 xs0.length c0_8) ∧ True := bq71
  have bq72 := BoxC.only bq65 on24 (Or.inr (hm2g))
  have q3 : w24.cell? ⟨w12.heap.size, 0, none⟩ = some (.int .i64 (swapQ m0 xs0 xs1 n2 n3).1.1.c) ∧ w24.cell? ⟨w12.heap.size, 1, none⟩ = some (.int .i64 (swapQ m0 xs0 xs1 n2 n3).1.1.d) ∧ w24.cell? ⟨w12.heap.size, 2, none⟩ = some (.int .i64 (swapQ m0 xs0 xs1 n2 n3).1.1.s) ∧ w24.cell? ⟨w12.heap.size, 3, none⟩ = some (.int .i64 (swapQ m0 xs0 xs1 n2 n3).1.1.a) ∧ w24.cell? ⟨w12.heap.size, 4, none⟩ = some (.int .i64 (swapQ m0 xs0 xs1 n2 n3).1.1.l) ∧ w24.cell? ⟨w12.heap.size, 5, none⟩ = some (.slice Ag0 (swapQ m0 xs0 xs1 n2 n3).1.2.length cg0) ∧ True := bq72
  go_wp2_with fail
  clear q0 q1 q2 q3
  have Y73 := Y67.only on24 (Or.inr (Nat.le_refl _))
  refine (markII_t (.slice Ag1 (swapQ m0 xs0 xs1 n2 n3).2.1.length cg1) (swapQ m0 xs0 xs1 n2 n3).2.1 _ _ _ _ Y73 (by omega) (by omega) (by omega) (by omega)).mono ?_
  rintro e w25 ⟨rfl, Y74, on25⟩
  have S0_11 := Nat.le_trans (S0_10) hm1g
  have bq75 := BoxC.only bq69 on25 (Or.inl (Nat.lt_of_lt_of_le (by simp only [World.size_alloc]; omega) (S0_11)))
  have q0 : w25.cell? ⟨w.heap.size, 0, none⟩ = some (.int .i64 m0.c) ∧ w25.cell? ⟨w.heap.size, 1, none⟩ = some (.int .i64 m0.d) ∧ w25.cell? ⟨w.heap.size, 2, none⟩ = some (.int .i64 m0.s) ∧ w25.cell? ⟨w.heap.size, 3, none⟩ = some (.int .i64 m0.a) ∧ w25.cell? ⟨w.heap.size, 4, none⟩ = some (.int .i64 m0.l) ∧ w25.cell? ⟨w.heap.size, 5, none⟩ = some (.slice A0 xs0.length c0) ∧ True := bq75
  have bq76 := BoxC.only bq70 on25 (Or.inl (Nat.lt_of_lt_of_le (by first | exact Nat.lt_succ_self _ | simp) (S7_11)))
  have q1 : w25.cell? ⟨w6.heap.size, 0, none⟩ = some (.int .i64 (swapQ m0 xs0 xs1 n2 n3).1.1.c) ∧ w25.cell? ⟨w6.heap.size, 1, none⟩ = some (.int .i64 (swapQ m0 xs0 xs1 n2 n3).1.1.d) ∧ w25.cell? ⟨w6.heap.size, 2, none⟩ = some (.int .i64 (swapQ m0 xs0 xs1 n2 n3).1.1.s) ∧ w25.cell? ⟨w6.heap.size, 3, none⟩ = some (.int .i64 (swapQ m0 xs0 xs1 n2 n3).1.1.a) ∧ w25.cell? ⟨w6.heap.size, 4, none⟩ = some (.int .i64 (swapQ m0 xs0 xs1 n2 n3).1.1.l) ∧ w25.cell? ⟨w6.heap.size, 5, none⟩ = some (.slice As0 (swapQ m0 xs0 xs1 n2 n3).1.2.length cs0) ∧ True := bq76
  have bq77 := BoxC.only bq71 on25 (Or.inl (Nat.lt_of_lt_of_le (by first | exact Nat.lt_succ_self _ | simp) (S9_11)))
  have q2 : w25.cell? ⟨w8.heap.size, 0, none⟩ = some (.int .i64 m0.c) ∧ w25.cell? ⟨w8.heap.size, 1, none⟩ = some (.int .i64 m0.d) ∧ w25.cell? ⟨w8.heap.size, 2, none⟩ = some (.int .i64 m0.s) ∧ w25.cell? ⟨w8.heap.size, 3, none⟩ = some (.int .i64 m0.a) ∧ w25.cell? ⟨w8.heap.size, 4, none⟩ = some (.int .i64 m0.l) ∧ w25.cell? ⟨w8.heap.size, 5, none⟩ = some (.slice A0_8 xs0.length c0_8) ∧ True := bq77
  have bq78 := BoxC.only bq72 on25 (Or.inr (Nat.le_refl _))
  have q3 : w25.cell? ⟨w12.heap.size, 0, none⟩ = some (.int .i64 (swapQ m0 xs0 xs1 n2 n3).1.1.c) ∧ w25.cell? ⟨w12.heap.size, 1, none⟩ = some (.int .i64 (swapQ m0 xs0 xs1 n2 n3).1.1.d) ∧ w25.cell? ⟨w12.heap.size, 2, none⟩ = some (.int .i64 (swapQ m0 xs0 xs1 n2 n3).1.1.s) ∧ w25.cell? ⟨w12.heap.size, 3, none⟩ = some (.int .i64 (swapQ m0 xs0 xs1 n2 n3).1.1.a) ∧ w25.cell? ⟨w12.heap.size, 4, none⟩ = some (.int .i64 (swapQ m0 xs0 xs1 n2 n3).1.1.l) ∧ w25.cell? ⟨w12.heap.size, 5, none⟩ = some (.slice Ag0 (swapQ m0 xs0 xs1 n2 n3).1.2.length cg0) ∧ True := bq78
  go_wp2_with fail
  clear q0 q1 q2 q3
  have Y79 := Y68.only on25 (Or.inl (Nat.le_refl _))
  refine (heldS_t (swapQ m0 xs0 xs1 n2 n3).1.1 Ag0 cg0 (swapQ m0 xs0 xs1 n2 n3).1.2 _ _ (OII.rii Y79) (by omega) (by omega) (by omega) (by omega)).mono ?_
  rintro e w26 ⟨rfl, b26⟩
  have bq80 := BoxC.below bq75 b26
  have q0 : w26.cell? ⟨w.heap.size, 0, none⟩ = some (.int .i64 m0.c) ∧ w26.cell? ⟨w.heap.size, 1, none⟩ = some (.int .i64 m0.d) ∧ w26.cell? ⟨w.heap.size, 2, none⟩ = some (.int .i64 m0.s) ∧ w26.cell? ⟨w.heap.size, 3, none⟩ = some (.int .i64 m0.a) ∧ w26.cell? ⟨w.heap.size, 4, none⟩ = some (.int .i64 m0.l) ∧ w26.cell? ⟨w.heap.size, 5, none⟩ = some (.slice A0 xs0.length c0) ∧ True := bq80
  have bq81 := BoxC.below bq76 b26
  have q1 : w26.cell? ⟨w6.heap.size, 0, none⟩ = some (.int .i64 (swapQ m0 xs0 xs1 n2 n3).1.1.c) ∧ w26.cell? ⟨w6.heap.size, 1, none⟩ = some (.int .i64 (swapQ m0 xs0 xs1 n2 n3).1.1.d) ∧ w26.cell? ⟨w6.heap.size, 2, none⟩ = some (.int .i64 (swapQ m0 xs0 xs1 n2 n3).1.1.s) ∧ w26.cell? ⟨w6.heap.size, 3, none⟩ = some (.int .i64 (swapQ m0 xs0 xs1 n2 n3).1.1.a) ∧ w26.cell? ⟨w6.heap.size, 4, none⟩ = some (.int .i64 (swapQ m0 xs0 xs1 n2 n3).1.1.l) ∧ w26.cell? ⟨w6.heap.size, 5, none⟩ = some (.slice As0 (swapQ m0 xs0 xs1 n2 n3).1.2.length cs0) ∧ True := bq81
  have bq82 := BoxC.below bq77 b26
  have q2 : w26.cell? ⟨w8.heap.size, 0, none⟩ = some (.int .i64 m0.c) ∧ w26.cell? ⟨w8.heap.size, 1, none⟩ = some (.int .i64 m0.d) ∧ w26.cell? ⟨w8.heap.size, 2, none⟩ = some (.int .i64 m0.s) ∧ w26.cell? ⟨w8.heap.size, 3, none⟩ = some (.int .i64 m0.a) ∧ w26.cell? ⟨w8.heap.size, 4, none⟩ = some (.int .i64 m0.l) ∧ w26.cell? ⟨w8.heap.size, 5, none⟩ = some (.slice A0_8 xs0.length c0_8) ∧ True := bq82
  have bq83 := BoxC.below bq78 b26
  have q3 : w26.cell? ⟨w12.heap.size, 0, none⟩ = some (.int .i64 (swapQ m0 xs0 xs1 n2 n3).1.1.c) ∧ w26.cell? ⟨w12.heap.size, 1, none⟩ = some (.int .i64 (swapQ m0 xs0 xs1 n2 n3).1.1.d) ∧ w26.cell? ⟨w12.heap.size, 2, none⟩ = some (.int .i64 (swapQ m0 xs0 xs1 n2 n3).1.1.s) ∧ w26.cell? ⟨w12.heap.size, 3, none⟩ = some (.int .i64 (swapQ m0 xs0 xs1 n2 n3).1.1.a) ∧ w26.cell? ⟨w12.heap.size, 4, none⟩ = some (.int .i64 (swapQ m0 xs0 xs1 n2 n3).1.1.l) ∧ w26.cell? ⟨w12.heap.size, 5, none⟩ = some (.slice Ag0 (swapQ m0 xs0 xs1 n2 n3).1.2.length cg0) ∧ True := bq83
  go_wp2_with fail
  clear q0 q1 q2 q3
  have S12_23 := Nat.le_trans (S12_22) b23.size
  have S12_24 := Nat.le_trans (S12_23) on24.size
  have S12_25 := Nat.le_trans (S12_24) on25.size
  have Y84 := Y74.below (b26.mono (S12_25))
  refine (heldII_t Ag1 cg1 (swapQ m0 xs0 xs1 n2 n3).2.1 _ _ (OII.rii Y84) (by omega) (by omega) (by omega) (by omega)).mono ?_
  rintro e w27 ⟨rfl, b27⟩
  have bq85 := BoxC.below bq80 b27
  have q0 : w27.cell? ⟨w.heap.size, 0, none⟩ = some (.int .i64 m0.c) ∧ w27.cell? ⟨w.heap.size, 1, none⟩ = some (.int .i64 m0.d) ∧ w27.cell? ⟨w.heap.size, 2, none⟩ = some (.int .i64 m0.s) ∧ w27.cell? ⟨w.heap.size, 3, none⟩ = some (.int .i64 m0.a) ∧ w27.cell? ⟨w.heap.size, 4, none⟩ = some (.int .i64 m0.l) ∧ w27.cell? ⟨w.heap.size, 5, none⟩ = some (.slice A0 xs0.length c0) ∧ True := bq85
  have bq86 := BoxC.below bq81 b27
  have q1 : w27.cell? ⟨w6.heap.size, 0, none⟩ = some (.int .i64 (swapQ m0 xs0 xs1 n2 n3).1.1.c) ∧ w27.cell? ⟨w6.heap.size, 1, none⟩ = some (.int .i64 (swapQ m0 xs0 xs1 n2 n3).1.1.d) ∧ w27.cell? ⟨w6.heap.size, 2, none⟩ = some (.int .i64 (swapQ m0 xs0 xs1 n2 n3).1.1.s) ∧ w27.cell? ⟨w6.heap.size, 3, none⟩ = some (.int .i64 (swapQ m0 xs0 xs1 n2 n3).1.1.a) ∧ w27.cell? ⟨w6.heap.size, 4, none⟩ = some (.int .i64 (swapQ m0 xs0 xs1 n2 n3).1.1.l) ∧ w27.cell? ⟨w6.heap.size, 5, none⟩ = some (.slice As0 (swapQ m0 xs0 xs1 n2 n3).1.2.length cs0) ∧ True := bq86
  have bq87 := BoxC.below bq82 b27
  have q2 : w27.cell? ⟨w8.heap.size, 0, none⟩ = some (.int .i64 m0.c) ∧ w27.cell? ⟨w8.heap.size, 1, none⟩ = some (.int .i64 m0.d) ∧ w27.cell? ⟨w8.heap.size, 2, none⟩ = some (.int .i64 m0.s) ∧ w27.cell? ⟨w8.heap.size, 3, none⟩ = some (.int .i64 m0.a) ∧ w27.cell? ⟨w8.heap.size, 4, none⟩ = some (.int .i64 m0.l) ∧ w27.cell? ⟨w8.heap.size, 5, none⟩ = some (.slice A0_8 xs0.length c0_8) ∧ True := bq87
  have bq88 := BoxC.below bq83 b27
  have q3 : w27.cell? ⟨w12.heap.size, 0, none⟩ = some (.int .i64 (swapQ m0 xs0 xs1 n2 n3).1.1.c) ∧ w27.cell? ⟨w12.heap.size, 1, none⟩ = some (.int .i64 (swapQ m0 xs0 xs1 n2 n3).1.1.d) ∧ w27.cell? ⟨w12.heap.size, 2, none⟩ = some (.int .i64 (swapQ m0 xs0 xs1 n2 n3).1.1.s) ∧ w27.cell? ⟨w12.heap.size, 3, none⟩ = some (.int .i64 (swapQ m0 xs0 xs1 n2 n3).1.1.a) ∧ w27.cell? ⟨w12.heap.size, 4, none⟩ = some (.int .i64 (swapQ m0 xs0 xs1 n2 n3).1.1.l) ∧ w27.cell? ⟨w12.heap.size, 5, none⟩ = some (.slice Ag0 (swapQ m0 xs0 xs1 n2 n3).1.2.length cg0) ∧ True := bq88
  go_wp2_with fail
  clear q0 q1 q2 q3
  have S11_24 := Nat.le_trans (S11_23) on24.size
  have S10_13 := Nat.le_trans (b12.size) b13.size
  have S10_14 := Nat.le_trans (S10_13) b14.size
  have S10_15 := Nat.le_trans (S10_14) b15.size
  have S10_16 := Nat.le_trans (S10_15) b16.size
  have S10_17 := Nat.le_trans (S10_16) b17.size
  have S10_18 := Nat.le_trans (S10_17) b18.size
  have S10_19 := Nat.le_trans (S10_18) b19.size
  have S10_20 := Nat.le_trans (S10_19) on20.size
  have S10_21 := Nat.le_trans (S10_20) on21.size
  have S10_22 := Nat.le_trans (S10_21) b22.size
  have S10_23 := Nat.le_trans (S10_22) b23.size
  have D0_18 := D0_17.trans (b18.mono D0_17.size)
  have D0_19 := D0_18.trans (b19.mono D0_18.size)
  have D0_20 := D0_19.trans ((on20.below (S7_19)).mono (S0_7))
  have D0_21 := D0_20.trans ((on21.below (S9_20)).mono (S0_9))
  have D0_22 := D0_21.trans (b22.mono D0_21.size)
  have D0_23 := D0_22.trans (b23.mono D0_22.size)
  have D0_24 := D0_23.trans ((on24.below (S10_23)).mono (S0_10))
  have D0_25 := D0_24.trans ((on25.below (S11_24)).mono (S0_11))
  have D0_26 := D0_25.trans (b26.mono D0_25.size)
  have D0_27 := D0_26.trans (b27.mono D0_26.size)
  refine (toS m0 A0 c0 xs0 _ (Rxs0.below D0_27) zxs0.1 zzxs0).mono ?_
  rintro e w28 ⟨A0_28, c0_28, rfl, hc0_28, rA0_28, oA0_28, b28⟩
  have bq89 := BoxC.below bq85 b28
  have q0 : w28.cell? ⟨w.heap.size, 0, none⟩ = some (.int .i64 m0.c) ∧ w28.cell? ⟨w.heap.size, 1, none⟩ = some (.int .i64 m0.d) ∧ w28.cell? ⟨w.heap.size, 2, none⟩ = some (.int .i64 m0.s) ∧ w28.cell? ⟨w.heap.size, 3, none⟩ = some (.int .i64 m0.a) ∧ w28.cell? ⟨w.heap.size, 4, none⟩ = some (.int .i64 m0.l) ∧ w28.cell? ⟨w.heap.size, 5, none⟩ = some (.slice A0 xs0.length c0) ∧ True := bq89
  have bq90 := BoxC.below bq86 b28
  have q1 : w28.cell? ⟨w6.heap.size, 0, none⟩ = some (.int .i64 (swapQ m0 xs0 xs1 n2 n3).1.1.c) ∧ w28.cell? ⟨w6.heap.size, 1, none⟩ = some (.int .i64 (swapQ m0 xs0 xs1 n2 n3).1.1.d) ∧ w28.cell? ⟨w6.heap.size, 2, none⟩ = some (.int .i64 (swapQ m0 xs0 xs1 n2 n3).1.1.s) ∧ w28.cell? ⟨w6.heap.size, 3, none⟩ = some (.int .i64 (swapQ m0 xs0 xs1 n2 n3).1.1.a) ∧ w28.cell? ⟨w6.heap.size, 4, none⟩ = some (.int .i64 (swapQ m0 xs0 xs1 n2 n3).1.1.l) ∧ w28.cell? ⟨w6.heap.size, 5, none⟩ = some (.slice As0 (swapQ m0 xs0 xs1 n2 n3).1.2.length cs0) ∧ True := bq90
  have bq91 := BoxC.below bq87 b28
  have q2 : w28.cell? ⟨w8.heap.size, 0, none⟩ = some (.int .i64 m0.c) ∧ w28.cell? ⟨w8.heap.size, 1, none⟩ = some (.int .i64 m0.d) ∧ w28.cell? ⟨w8.heap.size, 2, none⟩ = some (.int .i64 m0.s) ∧ w28.cell? ⟨w8.heap.size, 3, none⟩ = some (.int .i64 m0.a) ∧ w28.cell? ⟨w8.heap.size, 4, none⟩ = some (.int .i64 m0.l) ∧ w28.cell? ⟨w8.heap.size, 5, none⟩ = some (.slice A0_8 xs0.length c0_8) ∧ True := bq91
  have bq92 := BoxC.below bq88 b28
  have q3 : w28.cell? ⟨w12.heap.size, 0, none⟩ = some (.int .i64 (swapQ m0 xs0 xs1 n2 n3).1.1.c) ∧ w28.cell? ⟨w12.heap.size, 1, none⟩ = some (.int .i64 (swapQ m0 xs0 xs1 n2 n3).1.1.d) ∧ w28.cell? ⟨w12.heap.size, 2, none⟩ = some (.int .i64 (swapQ m0 xs0 xs1 n2 n3).1.1.s) ∧ w28.cell? ⟨w12.heap.size, 3, none⟩ = some (.int .i64 (swapQ m0 xs0 xs1 n2 n3).1.1.a) ∧ w28.cell? ⟨w12.heap.size, 4, none⟩ = some (.int .i64 (swapQ m0 xs0 xs1 n2 n3).1.1.l) ∧ w28.cell? ⟨w12.heap.size, 5, none⟩ = some (.slice Ag0 (swapQ m0 xs0 xs1 n2 n3).1.2.length cg0) ∧ True := bq92
  go_wp2_with fail
  clear q0 q1 q2 q3
  have D0_28 := D0_27.trans (b28.mono D0_27.size)
  refine (toII A1 c1 xs1 _ (Rxs1.below D0_28) zxs1.1 zzxs1).mono ?_
  rintro e w29 ⟨A1_29, c1_29, rfl, hc1_29, rA1_29, oA1_29, b29⟩
  have bq93 := BoxC.below bq89 b29
  have q0 : w29.cell? ⟨w.heap.size, 0, none⟩ = some (.int .i64 m0.c) ∧ w29.cell? ⟨w.heap.size, 1, none⟩ = some (.int .i64 m0.d) ∧ w29.cell? ⟨w.heap.size, 2, none⟩ = some (.int .i64 m0.s) ∧ w29.cell? ⟨w.heap.size, 3, none⟩ = some (.int .i64 m0.a) ∧ w29.cell? ⟨w.heap.size, 4, none⟩ = some (.int .i64 m0.l) ∧ w29.cell? ⟨w.heap.size, 5, none⟩ = some (.slice A0 xs0.length c0) ∧ True := bq93
  have bq94 := BoxC.below bq90 b29
  have q1 : w29.cell? ⟨w6.heap.size, 0, none⟩ = some (.int .i64 (swapQ m0 xs0 xs1 n2 n3).1.1.c) ∧ w29.cell? ⟨w6.heap.size, 1, none⟩ = some (.int .i64 (swapQ m0 xs0 xs1 n2 n3).1.1.d) ∧ w29.cell? ⟨w6.heap.size, 2, none⟩ = some (.int .i64 (swapQ m0 xs0 xs1 n2 n3).1.1.s) ∧ w29.cell? ⟨w6.heap.size, 3, none⟩ = some (.int .i64 (swapQ m0 xs0 xs1 n2 n3).1.1.a) ∧ w29.cell? ⟨w6.heap.size, 4, none⟩ = some (.int .i64 (swapQ m0 xs0 xs1 n2 n3).1.1.l) ∧ w29.cell? ⟨w6.heap.size, 5, none⟩ = some (.slice As0 (swapQ m0 xs0 xs1 n2 n3).1.2.length cs0) ∧ True := bq94
  have bq95 := BoxC.below bq91 b29
  have q2 : w29.cell? ⟨w8.heap.size, 0, none⟩ = some (.int .i64 m0.c) ∧ w29.cell? ⟨w8.heap.size, 1, none⟩ = some (.int .i64 m0.d) ∧ w29.cell? ⟨w8.heap.size, 2, none⟩ = some (.int .i64 m0.s) ∧ w29.cell? ⟨w8.heap.size, 3, none⟩ = some (.int .i64 m0.a) ∧ w29.cell? ⟨w8.heap.size, 4, none⟩ = some (.int .i64 m0.l) ∧ w29.cell? ⟨w8.heap.size, 5, none⟩ = some (.slice A0_8 xs0.length c0_8) ∧ True := bq95
  have bq96 := BoxC.below bq92 b29
  have q3 : w29.cell? ⟨w12.heap.size, 0, none⟩ = some (.int .i64 (swapQ m0 xs0 xs1 n2 n3).1.1.c) ∧ w29.cell? ⟨w12.heap.size, 1, none⟩ = some (.int .i64 (swapQ m0 xs0 xs1 n2 n3).1.1.d) ∧ w29.cell? ⟨w12.heap.size, 2, none⟩ = some (.int .i64 (swapQ m0 xs0 xs1 n2 n3).1.1.s) ∧ w29.cell? ⟨w12.heap.size, 3, none⟩ = some (.int .i64 (swapQ m0 xs0 xs1 n2 n3).1.1.a) ∧ w29.cell? ⟨w12.heap.size, 4, none⟩ = some (.int .i64 (swapQ m0 xs0 xs1 n2 n3).1.1.l) ∧ w29.cell? ⟨w12.heap.size, 5, none⟩ = some (.slice Ag0 (swapQ m0 xs0 xs1 n2 n3).1.2.length cg0) ∧ True := bq96
  go_wp2_with fail
  clear q0 q1 q2 q3
  refine (implSwap_q m0 A0_28 c0_28 xs0 A1_29 c1_29 xs1 n2 n3 _ (rA0_28.below b29) rA1_29 g2 g3).mono ?_
  rintro e w31 ⟨Ah0, ch0, Ah1, ch1, midh, rfl, hch0, hch1, oh0, oh1, hm1h, hm2h, b31⟩
  have rh0 := OII.rii oh0
  have rh1 := OII.rii oh1
  have b32 : Below w31.heap.size w31 (w31.alloc (.cells #[.int .i64 (swapQ m0 xs0 xs1 n2 n3).1.1.c, .int .i64 (swapQ m0 xs0 xs1 n2 n3).1.1.d, .int .i64 (swapQ m0 xs0 xs1 n2 n3).1.1.s, .int .i64 (swapQ m0 xs0 xs1 n2 n3).1.1.a, .int .i64 (swapQ m0 xs0 xs1 n2 n3).1.1.l, .slice Ah0 (swapQ m0 xs0 xs1 n2 n3).1.2.length ch0] 31)) := (Below.refl _ _).alloc (Nat.le_refl _) _
  have bq97 : BoxC (w31.alloc (.cells #[.int .i64 (swapQ m0 xs0 xs1 n2 n3).1.1.c, .int .i64 (swapQ m0 xs0 xs1 n2 n3).1.1.d, .int .i64 (swapQ m0 xs0 xs1 n2 n3).1.1.s, .int .i64 (swapQ m0 xs0 xs1 n2 n3).1.1.a, .int .i64 (swapQ m0 xs0 xs1 n2 n3).1.1.l, .slice Ah0 (swapQ m0 xs0 xs1 n2 n3).1.2.length ch0] 31)) (w31.heap.size) 0 [.int .i64 (swapQ m0 xs0 xs1 n2 n3).1.1.c, .int .i64 (swapQ m0 xs0 xs1 n2 n3).1.1.d, .int .i64 (swapQ m0 xs0 xs1 n2 n3).1.1.s, .int .i64 (swapQ m0 xs0 xs1 n2 n3).1.1.a, .int .i64 (swapQ m0 xs0 xs1 n2 n3).1.1.l, .slice Ah0 (swapQ m0 xs0 xs1 n2 n3).1.2.length ch0] := by simp [BoxC, Go.World.cell?_alloc_at]
  have D29_32 := b31.trans (b32.mono b31.size)
  have bq98 := BoxC.below bq93 D29_32
  have q0 : (w31.alloc (.cells #[.int .i64 (swapQ m0 xs0 xs1 n2 n3).1.1.c, .int .i64 (swapQ m0 xs0 xs1 n2 n3).1.1.d, .int .i64 (swapQ m0 xs0 xs1 n2 n3).1.1.s, .int .i64 (swapQ m0 xs0 xs1 n2 n3).1.1.a, .int .i64 (swapQ m0 xs0 xs1 n2 n3).1.1.l, .slice Ah0 (swapQ m0 xs0 xs1 n2 n3).1.2.length ch0] 31)).cell? ⟨w.heap.size, 0, none⟩ = some (.int .i64 m0.c) ∧ (w31.alloc (.cells #[.int .i64 (swapQ m0 xs0 xs1 n2 n3).1.1.c, .int .i64 (swapQ m0 xs0 xs1 n2 n3).1.1.d, .int .i64 (swapQ m0 xs0 xs1 n2 n3).1.1.s, .int .i64 (swapQ m0 xs0 xs1 n2 n3).1.1.a, .int .i64 (swapQ m0 xs0 xs1 n2 n3).1.1.l, .slice Ah0 (swapQ m0 xs0 xs1 n2 n3).1.2.length ch0] 31)).cell? ⟨w.heap.size, 1, none⟩ = some (.int .i64 m0.d) ∧ (w31.alloc (.cells #[.int .i64 (swapQ m0 xs0 xs1 n2 n3).1.1.c, .int .i64 (swapQ m0 xs0 xs1 n2 n3).1.1.d, .int .i64 (swapQ m0 xs0 xs1 n2 n3).1.1.s, .int .i64 (swapQ m0 xs0 xs1 n2 n3).1.1.a, .int .i64 (swapQ m0 xs0 xs1 n2 n3).1.1.l, .slice Ah0 (swapQ m0 xs0 xs1 n2 n3).1.2.length ch0] 31)).cell? ⟨w.heap.size, 2, none⟩ = some (.int .i64 m0.s) ∧ (w31.alloc (.cells #[.int .i64 (swapQ m0 xs0 xs1 n2 n3).1.1.c, .int .i64 (swapQ m0 xs0 xs1 n2 n3).1.1.d, .int .i64 (swapQ m0 xs0 xs1 n2 n3).1.1.s, .int .i64 (swapQ m0 xs0 xs1 n2 n3).1.1.a, .int .i64 (swapQ m0 xs0 xs1 n2 n3).1.1.l, .slice Ah0 (swapQ m0 xs0 xs1 n2 n3).1.2.length ch0] 31)).cell? ⟨w.heap.size, 3, none⟩ = some (.int .i64 m0.a) ∧ (w31.alloc (.cells #[.int .i64 (swapQ m0 xs0 xs1 n2 n3).1.1.c, .int .i64 (swapQ m0 xs0 xs1 n2 n3).1.1.d, .int .i64 (swapQ m0 xs0 xs1 n2 n3).1.1.s, .int .i64 (swapQ m0 xs0 xs1 n2 n3).1.1.a, .int .i64 (swapQ m0 xs0 xs1 n2 n3).1.1.l, .slice Ah0 (swapQ m0 xs0 xs1 n2 n3).1.2.length ch0] 31)).cell? ⟨w.heap.size, 4, none⟩ = some (.int .i64 m0.l) ∧ (w31.alloc (.cells #[.int .i64 (swapQ m0 xs0 xs1 n2 n3).1.1.c, .int .i64 (swapQ m0 xs0 xs1 n2 n3).1.1.d, .int .i64 (swapQ m0 xs0 xs1 n2 n3).1.1.s, .int .i64 (swapQ m0 xs0 xs1 n2 n3).1.1.a, .int .i64 (swapQ m0 xs0 xs1 n2 n3).1.1.l, .slice Ah0 (swapQ m0 xs0 xs1 n2 n3).1.2.length ch0] 31)).cell? ⟨w.heap.size, 5, none⟩ = some (.slice A0 xs0.length c0) ∧ True := bq98
  have bq99 := BoxC.below bq94 D29_32
  have q1 : (w31.alloc (.cells #[.int .i64 (swapQ m0 xs0 xs1 n2 n3).1.1.c, .int .i64 (swapQ m0 xs0 xs1 n2 n3).1.1.d, .int .i64 (swapQ m0 xs0 xs1 n2 n3).1.1.s, .int .i64 (swapQ m0 xs0 xs1 n2 n3).1.1.a, .int .i64 (swapQ m0 xs0 xs1 n2 n3).1.1.l, .slice Ah0 (swapQ m0 xs0 xs1 n2 n3).1.2.length ch0] 31)).cell? ⟨w6.heap.size, 0, none⟩ = some (.int .i64 (swapQ m0 xs0 xs1 n2 n3).1.1.c) ∧ (w31.alloc (.cells #[.int .i64 (swapQ m0 xs0 xs1 n2 n3).1.1.c, .int .i64 (swapQ m0 xs0 xs1 n2 n3).1.1.d, .int .i64 (swapQ m0 xs0 xs1 n2 n3).1.1.s, .int .i64 (swapQ m0 xs0 xs1 n2 n3).1.1.a, .int .i64 (swapQ m0 xs0 xs1 n2 n3).1.1.l, .slice Ah0 (swapQ m0 xs0 xs1 n2 n3).1.2.length ch0] 31)).cell? ⟨w6.heap.size, 1, none⟩ = some (.int .i64 (swapQ m0 xs0 xs1 n2 n3).1.1.d) ∧ (w31.alloc (.cells #[.int .i64 (swapQ m0 xs0 xs1 n2 n3).1.1.c, .int .i64 (swapQ m0 xs0 xs1 n2 n3).1.1.d, .int .i64 (swapQ m0 xs0 xs1 n2 n3).1.1.s, .int .i64 (swapQ m0 xs0 xs1 n2 n3).1.1.a, .int .i64 (swapQ m0 xs0 xs1 n2 n3).1.1.l, .slice Ah0 (swapQ m0 xs0 xs1 n2 n3).1.2.length ch0] 31)).cell? ⟨w6.heap.size, 2, none⟩ = some (.int .i64 (swapQ m0 xs0 xs1 n2 n3).1.1.s) ∧ (w31.alloc (.cells #[.int .i64 (swapQ m0 xs0 xs1 n2 n3).1.1.c, .int .i64 (swapQ m0 xs0 xs1 n2 n3).1.1.d, .int .i64 (swapQ m0 xs0 xs1 n2 n3).1.1.s, .int .i64 (swapQ m0 xs0 xs1 n2 n3).1.1.a, .int .i64 (swapQ m0 xs0 xs1 n2 n3).1.1.l, .slice Ah0 (swapQ m0 xs0 xs1 n2 n3).1.2.length ch0] 31)).cell? ⟨w6.heap.size, 3, none⟩ = some (.int .i64 (swapQ m0 xs0 xs1 n2 n3).1.1.a) ∧ (w31.alloc (.cells #[.int .i64 (swapQ m0 xs0 xs1 n2 n3).1.1.c, .int .i64 (swapQ m0 xs0 xs1 n2 n3).1.1.d, .int .i64 (swapQ m0 xs0 xs1 n2 n3).1.1.s, .int .i64 (swapQ m0 xs0 xs1 n2 n3).1.1.a, .int .i64 (swapQ m0 xs0 xs1 n2 n3).1.1.l, .slice Ah0 (swapQ m0 xs0 xs1 n2 n3).1.2.length ch0] 31)).cell? ⟨w6.heap.size, 4, none⟩ = some (.int .i64 (swapQ m0 xs0 xs1 n2 n3).1.1.l) ∧ (w31.alloc (.cells #[.int .i64 (swapQ m0 xs0 xs1 n2 n3).1.1.c, .int .i64 (swapQ m0 xs0 xs1 n2 n3).1.1.d, .int .i64 (swapQ m0 xs0 xs1 n2 n3).1.1.s, .int .i64 (swapQ m0 xs0 xs1 n2 n3).1.1.a, .int .i64 (swapQ m0 xs0 xs1 n2 n3).1.1.l, .slice Ah0 (swapQ m0 xs0 xs1 n2 n3).1.2.length ch0] 31)).cell? ⟨w6.heap.size, 5, none⟩ = some (.slice As0 (swapQ m0 xs0 xs1 n2 n3).1.2.length cs0) ∧ True := bq99
  have bq100 := BoxC.below bq95 D29_32
  have q2 : (w31.alloc (.cells #[.int .i64 (swapQ m0 xs0 xs1 n2 n3).1.1.c, .int .i64 (swapQ m0 xs0 xs1 n2 n3).1.1.d, .int .i64 (swapQ m0 xs0 xs1 n2 n3).1.1.s, .int .i64 (swapQ m0 xs0 xs1 n2 n3).1.1.a, .int .i64 (swapQ m0 xs0 xs1 n2 n3).1.1.l, .slice Ah0 (swapQ m0 xs0 xs1 n2 n3).1.2.length ch0] 31)).cell? ⟨w8.heap.size, 0, none⟩ = some (.int .i64 m0.c) ∧ (w31.alloc (.cells #[.int .i64 (swapQ m0 xs0 xs1 n2 n3).1.1.c, .int .i64 (swapQ m0 xs0 xs1 n2 n3).1.1.d, .int .i64 (swapQ m0 xs0 xs1 n2 n3).1.1.s, .int .i64 (swapQ m0 xs0 xs1 n2 n3).1.1.a, .int .i64 (swapQ m0 xs0 xs1 n2 n3).1.1.l, .slice Ah0 (swapQ m0 xs0 xs1 n2 n3).1.2.length ch0] 31)).cell? ⟨w8.heap.size, 1, none⟩ = some (.int .i64 m0.d) ∧ (w31.alloc (.cells #[.int .i64 (swapQ m0 xs0 xs1 n2 n3).1.1.c, .int .i64 (swapQ m0 xs0 xs1 n2 n3).1.1.d, .int .i64 (swapQ m0 xs0 xs1 n2 n3).1.1.s, .int .i64 (swapQ m0 xs0 xs1 n2 n3).1.1.a, .int .i64 (swapQ m0 xs0 xs1 n2 n3).1.1.l, .slice Ah0 (swapQ m0 xs0 xs1 n2 n3).1.2.length ch0] 31)).cell? ⟨w8.heap.size, 2, none⟩ = some (.int .i64 m0.s) ∧ (w31.alloc (.cells #[.int .i64 (swapQ m0 xs0 xs1 n2 n3).1.1.c, .int .i64 (swapQ m0 xs0 xs1 n2 n3).1.1.d, .int .i64 (swapQ m0 xs0 xs1 n2 n3).1.1.s, .int .i64 (swapQ m0 xs0 xs1 n2 n3).1.1.a, .int .i64 (swapQ m0 xs0 xs1 n2 n3).1.1.l, .slice Ah0 (swapQ m0 xs0 xs1 n2 n3).1.2.length ch0] 31)).cell? ⟨w8.heap.size, 3, none⟩ = some (.int .i64 m0.a) ∧ (w31.alloc (.cells #[.int .i64 (swapQ m0 xs0 xs1 n2 n3).1.1.c, .int .i64 (swapQ m0 xs0 xs1 n2 n3).1.1.d, .int .i64 (swapQ m0 xs0 xs1 n2 n3).1.1.s, .int .i64 (swapQ m0 xs0 xs1 n2 n3).1.1.a, .int .i64 (swapQ m0 xs0 xs1 n2 n3).1.1.l, .slice Ah0 (swapQ m0 xs0 xs1 n2 n3).1.2.length ch0] 31)).cell? ⟨w8.heap.size, 4, none⟩ = some (.int .i64 m0.l) ∧ (w31.alloc (.cells #[.int .i64 (swapQ m0 xs0 xs1 n2 n3).1.1.c, .int .i64 (swapQ m0 xs0 xs1 n2 n3).1.1.d, .int .i64 (swapQ m0 xs0 xs1 n2 n3).1.1.s, .int .i64 (swapQ m0 xs0 xs1 n2 n3).1.1.a, .int .i64 (swapQ m0 xs0 xs1 n2 n3).1.1.l, .slice Ah0 (swapQ m0 xs0 xs1 n2 n3).1.2.length ch0] 31)).cell? ⟨w8.heap.size, 5, none⟩ = some (.slice A0_8 xs0.length c0_8) ∧ True := bq100
  have bq101 := BoxC.below bq96 D29_32
  have q3 : (w31.alloc (.cells #[.int .i64 (swapQ m0 xs0 xs1 n2 n3).1.1.c, .int .i64 (swapQ m0 xs0 xs1 n2 n3).1.1.d, .int .i64 (swapQ m0 xs0 xs1 n2 n3).1.1.s, .int .i64 (swapQ m0 xs0 xs1 n2 n3).1.1.a, .int .i64 (swapQ m0 xs0 xs1 n2 n3).1.1.l, .slice Ah0 (swapQ m0 xs0 xs1 n2 n3).1.2.length ch0] 31)).cell? ⟨w12.heap.size, 0, none⟩ = some (.int .i64 (swapQ m0 xs0 xs1 n2 n3).1.1.c) ∧ (w31.alloc (.cells #[.int .i64 (swapQ m0 xs0 xs1 n2 n3).1.1.c, .int .i64 (swapQ m0 xs0 xs1 n2 n3).1.1.d, .int .i64 (swapQ m0 xs0 xs1 n2 n3).1.1.s, .int .i64 (swapQ m0 xs0 xs1 n2 n3).1.1.a, .int .i64 (swapQ m0 xs0 xs1 n2 n3).1.1.l, .slice Ah0 (swapQ m0 xs0 xs1 n2 n3).1.2.length ch0] 31)).cell? ⟨w12.heap.size, 1, none⟩ = some (.int .i64 (swapQ m0 xs0 xs1 n2 n3).1.1.d) ∧ (w31.alloc (.cells #[.int .i64 (swapQ m0 xs0 xs1 n2 n3).1.1.c, .int .i64 (swapQ m0 xs0 xs1 n2 n3).1.1.d, .int .i64 (swapQ m0 xs0 xs1 n2 n3).1.1.s, .int .i64 (swapQ m0 xs0 xs1 n2 n3).1.1.a, .int .i64 (swapQ m0 xs0 xs1 n2 n3).1.1.l, .slice Ah0 (swapQ m0 xs0 xs1 n2 n3).1.2.length ch0] 31)).cell? ⟨w12.heap.size, 2, none⟩ = some (.int .i64 (swapQ m0 xs0 xs1 n2 n3).1.1.s) ∧ (w31.alloc (.cells #[.int .i64 (swapQ m0 xs0 xs1 n2 n3).1.1.c, .int .i64 (swapQ m0 xs0 xs1 n2 n3).1.1.d, .int .i64 (swapQ m0 xs0 xs1 n2 n3).1.1.s, .int .i64 (swapQ m0 xs0 xs1 n2 n3).1.1.a, .int .i64 (swapQ m0 xs0 xs1 n2 n3).1.1.l, .slice Ah0 (swapQ m0 xs0 xs1 n2 n3).1.2.length ch0] 31)).cell? ⟨w12.heap.size, 3, none⟩ = some (.int .i64 (swapQ m0 xs0 xs1 n2 n3).1.1.a) ∧ (w31.alloc (.cells #[.int .i64 (swapQ m0 xs0 xs1 n2 n3).1.1.c, .int .i64 (swapQ m0 xs0 xs1 n2 n3).1.1.d, .int .i64 (swapQ m0 xs0 xs1 n2 n3).1.1.s, .int .i64 (swapQ m0 xs0 xs1 n2 n3).1.1.a, .int .i64 (swapQ m0 xs0 xs1 n2 n3).1.1.l, .slice Ah0 (swapQ m0 xs0 xs1 n2 n3).1.2.length ch0] 31)).cell? ⟨w12.heap.size, 4, none⟩ = some (.int .i64 (swapQ m0 xs0 xs1 n2 n3).1.1.l) ∧ (w31.alloc (.cells #[.int .i64 (swapQ m0 xs0 xs1 n2 n3).1.1.c, .int .i64 (swapQ m0 xs0 xs1 n2 n3).1.1.d, .int .i64 (swapQ m0 xs0 xs1 n2 n3).1.1.s, .int .i64 (swapQ m0 xs0 xs1 n2 n3).1.1.a, .int .i64 (swapQ m0 xs0 xs1 n2 n3).1.1.l, .slice Ah0 (swapQ m0 xs0 xs1 n2 n3).1.2.length ch0] 31)).cell? ⟨w12.heap.size, 5, none⟩ = some (.slice Ag0 (swapQ m0 xs0 xs1 n2 n3).1.2.length cg0) ∧ True := bq101
  have q4 : (w31.alloc (.cells #[.int .i64 (swapQ m0 xs0 xs1 n2 n3).1.1.c, .int .i64 (swapQ m0 xs0 xs1 n2 n3).1.1.d, .int .i64 (swapQ m0 xs0 xs1 n2 n3).1.1.s, .int .i64 (swapQ m0 xs0 xs1 n2 n3).1.1.a, .int .i64 (swapQ m0 xs0 xs1 n2 n3).1.1.l, .slice Ah0 (swapQ m0 xs0 xs1 n2 n3).1.2.length ch0] 31)).cell? ⟨w31.heap.size, 0, none⟩ = some (.int .i64 (swapQ m0 xs0 xs1 n2 n3).1.1.c) ∧ (w31.alloc (.cells #[.int .i64 (swapQ m0 xs0 xs1 n2 n3).1.1.c, .int .i64 (swapQ m0 xs0 xs1 n2 n3).1.1.d, .int .i64 (swapQ m0 xs0 xs1 n2 n3).1.1.s, .int .i64 (swapQ m0 xs0 xs1 n2 n3).1.1.a, .int .i64 (swapQ m0 xs0 xs1 n2 n3).1.1.l, .slice Ah0 (swapQ m0 xs0 xs1 n2 n3).1.2.length ch0] 31)).cell? ⟨w31.heap.size, 1, none⟩ = some (.int .i64 (swapQ m0 xs0 xs1 n2 n3).1.1.d) ∧ (w31.alloc (.cells #[.int .i64 (swapQ m0 xs0 xs1 n2 n3).1.1.c, .int .i64 (swapQ m0 xs0 xs1 n2 n3).1.1.d, .int .i64 (swapQ m0 xs0 xs1 n2 n3).1.1.s, .int .i64 (swapQ m0 xs0 xs1 n2 n3).1.1.a, .int .i64 (swapQ m0 xs0 xs1 n2 n3).1.1.l, .slice Ah0 (swapQ m0 xs0 xs1 n2 n3).1.2.length ch0] 31)).cell? ⟨w31.heap.size, 2, none⟩ = some (.int .i64 (swapQ m0 xs0 xs1 n2 n3).1.1.s) ∧ (w31.alloc (.cells #[.int .i64 (swapQ m0 xs0 xs1 n2 n3).1.1.c, .int .i64 (swapQ m0 xs0 xs1 n2 n3).1.1.d, .int .i64 (swapQ m0 xs0 xs1 n2 n3).1.1.s, .int .i64 (swapQ m0 xs0 xs1 n2 n3).1.1.a, .int .i64 (swapQ m0 xs0 xs1 n2 n3).1.1.l, .slice Ah0 (swapQ m0 xs0 xs1 n2 n3).1.2.length ch0] 31)).cell? ⟨w31.heap.size, 3, none⟩ = some (.int .i64 (swapQ m0 xs0 xs1 n2 n3).1.1.a) ∧ (w31.alloc (.cells #[.int .i64 (swapQ m0 xs0 xs1 n2 n3).1.1.c, .int .i64 (swapQ m0 xs0 xs1 n2 n3).1.1.d, .int .i64 (swapQ m0 xs0 xs1 n2 n3).1.1.s, .int .i64 (swapQ m0 xs0 xs1 n2 n3).1.1.a, .int .i64 (swapQ m0 xs0 xs1 n2 n3).1.1.l, .slice Ah0 (swapQ m0 xs0 xs1 n2 n3).1.2.length ch0] 31)).cell? ⟨w31.heap.size, 4, none⟩ = some (.int .i64 (swapQ m0 xs0 xs1 n2 n3).1.1.l) ∧ (w31.alloc (.cells #[.int .i64 (swapQ m0 xs0 xs1 n2 n3).1.1.c, .int .i64 (swapQ m0 xs0 xs1 n2 n3).1.1.d, .int .i64 (swapQ m0 xs0 xs1 n2 n3).1.1.s, .int .i64 (swapQ m0 xs0 xs1 n2 n3).1.1.a, .int .i64 (swapQ m0 xs0 xs1 n2 n3).1.1.l, .slice Ah0 (swapQ m0 xs0 xs1 n2 n3).1.2.length ch0] 31)).cell? ⟨w31.heap.size, 5, none⟩ = some (.slice Ah0 (swapQ m0 xs0 xs1 n2 n3).1.2.length ch0) ∧ True := bq97
  go_wp2_with fail
  clear q0 q1 q2 q3 q4
  have S6_10 := Nat.le_trans (S6_9) b10.size
  have S6_11 := Nat.le_trans (S6_10) hm1g
  have D6_23 := D6_22.trans (b23.mono D6_22.size)
  have D6_24 := D6_23.trans ((on24.below (S10_23)).mono (S6_10))
  have D6_25 := D6_24.trans ((on25.below (S11_24)).mono (S6_11))
  have D6_26 := D6_25.trans (b26.mono D6_25.size)
  have D6_27 := D6_26.trans (b27.mono D6_26.size)
  have D6_28 := D6_27.trans (b28.mono D6_27.size)
  have D6_29 := D6_28.trans (b29.mono D6_28.size)
  have D6_31 := D6_29.trans (b31.mono D6_29.size)
  have D6_32 := D6_31.trans (b32.mono D6_31.size)
  refine (eqS_t (swapQ m0 xs0 xs1 n2 n3).1.1 Ah0 As0 ch0 cs0 (swapQ m0 xs0 xs1 n2 n3).1.2 _ (rh0.below b32) (rs0.below D6_32)).mono ?_
  rintro e w33 ⟨rfl, b33⟩
  have bq102 := BoxC.below bq98 b33
  have q0 : w33.cell? ⟨w.heap.size, 0, none⟩ = some (.int .i64 m0.c) ∧ w33.cell? ⟨w.heap.size, 1, none⟩ = some (.int .i64 m0.d) ∧ w33.cell? ⟨w.heap.size, 2, none⟩ = some (.int .i64 m0.s) ∧ w33.cell? ⟨w.heap.size, 3, none⟩ = some (.int .i64 m0.a) ∧ w33.cell? ⟨w.heap.size, 4, none⟩ = some (.int .i64 m0.l) ∧ w33.cell? ⟨w.heap.size, 5, none⟩ = some (.slice A0 xs0.length c0) ∧ True := bq102
  have bq103 := BoxC.below bq99 b33
  have q1 : w33.cell? ⟨w6.heap.size, 0, none⟩ = some (.int .i64 (swapQ m0 xs0 xs1 n2 n3).1.1.c) ∧ w33.cell? ⟨w6.heap.size, 1, none⟩ = some (.int .i64 (swapQ m0 xs0 xs1 n2 n3).1.1.d) ∧ w33.cell? ⟨w6.heap.size, 2, none⟩ = some (.int .i64 (swapQ m0 xs0 xs1 n2 n3).1.1.s) ∧ w33.cell? ⟨w6.heap.size, 3, none⟩ = some (.int .i64 (swapQ m0 xs0 xs1 n2 n3).1.1.a) ∧ w33.cell? ⟨w6.heap.size, 4, none⟩ = some (.int .i64 (swapQ m0 xs0 xs1 n2 n3).1.1.l) ∧ w33.cell? ⟨w6.heap.size, 5, none⟩ = some (.slice As0 (swapQ m0 xs0 xs1 n2 n3).1.2.length cs0) ∧ True := bq103
  have bq104 := BoxC.below bq100 b33
  have q2 : w33.cell? ⟨w8.heap.size, 0, none⟩ = some (.int .i64 m0.c) ∧ w33.cell? ⟨w8.heap.size, 1, none⟩ = some (.int .i64 m0.d) ∧ w33.cell? ⟨w8.heap.size, 2, none⟩ = some (.int .i64 m0.s) ∧ w33.cell? ⟨w8.heap.size, 3, none⟩ = some (.int .i64 m0.a) ∧ w33.cell? ⟨w8.heap.size, 4, none⟩ = some (.int .i64 m0.l) ∧ w33.cell? ⟨w8.heap.size, 5, none⟩ = some (.slice A0_8 xs0.length c0_8) ∧ True := bq104
  have bq105 := BoxC.below bq101 b33
  have q3 : w33.cell? ⟨w12.heap.size, 0, none⟩ = some (.int .i64 (swapQ m0 xs0 xs1 n2 n3).1.1.c) ∧ w33.cell? ⟨w12.heap.size, 1, none⟩ = some (.int .i64 (swapQ m0 xs0 xs1 n2 n3).1.1.d) ∧ w33.cell? ⟨w12.heap.size, 2, none⟩ = some (.int .i64 (swapQ m0 xs0 xs1 n2 n3).1.1.s) ∧ w33.cell? ⟨w12.heap.size, 3, none⟩ = some (.int .i64 (swapQ m0 xs0 xs1 n2 n3).1.1.a) ∧ w33.cell? ⟨w12.heap.size, 4, none⟩ = some (.int .i64 (swapQ m0 xs0 xs1 n2 n3).1.1.l) ∧ w33.cell? ⟨w12.heap.size, 5, none⟩ = some (.slice Ag0 (swapQ m0 xs0 xs1 n2 n3).1.2.length cg0) ∧ True := bq105
  have bq106 := BoxC.below bq97 b33
  have q4 : w33.cell? ⟨w31.heap.size, 0, none⟩ = some (.int .i64 (swapQ m0 xs0 xs1 n2 n3).1.1.c) ∧ w33.cell? ⟨w31.heap.size, 1, none⟩ = some (.int .i64 (swapQ m0 xs0 xs1 n2 n3).1.1.d) ∧ w33.cell? ⟨w31.heap.size, 2, none⟩ = some (.int .i64 (swapQ m0 xs0 xs1 n2 n3).1.1.s) ∧ w33.cell? ⟨w31.heap.size, 3, none⟩ = some (.int .i64 (swapQ m0 xs0 xs1 n2 n3).1.1.a) ∧ w33.cell? ⟨w31.heap.size, 4, none⟩ = some (.int .i64 (swapQ m0 xs0 xs1 n2 n3).1.1.l) ∧ w33.cell? ⟨w31.heap.size, 5, none⟩ = some (.slice Ah0 (swapQ m0 xs0 xs1 n2 n3).1.2.length ch0) ∧ True := bq106
  go_wp2_with fail
  clear q0 q1 q2 q3 q4
  have D31_33 := b32.trans (b33.mono b32.size)
  have D6_33 := D6_32.trans (b33.mono D6_32.size)
  refine (eqII_t Ah1 As1 ch1 cs1 (swapQ m0 xs0 xs1 n2 n3).2.1 _ (rh1.below D31_33) (rs1.below D6_33)).mono ?_
  rintro e w34 ⟨rfl, b34⟩
  have bq107 := BoxC.below bq102 b34
  have q0 : w34.cell? ⟨w.heap.size, 0, none⟩ = some (.int .i64 m0.c) ∧ w34.cell? ⟨w.heap.size, 1, none⟩ = some (.int .i64 m0.d) ∧ w34.cell? ⟨w.heap.size, 2, none⟩ = some (.int .i64 m0.s) ∧ w34.cell? ⟨w.heap.size, 3, none⟩ = some (.int .i64 m0.a) ∧ w34.cell? ⟨w.heap.size, 4, none⟩ = some (.int .i64 m0.l) ∧ w34.cell? ⟨w.heap.size, 5, none⟩ = some (.slice A0 xs0.length c0) ∧ True := bq107
  have bq108 := BoxC.below bq103 b34
  have q1 : w34.cell? ⟨w6.heap.size, 0, none⟩ = some (.int .i64 (swapQ m0 xs0 xs1 n2 n3).1.1.c) ∧ w34.cell? ⟨w6.heap.size, 1, none⟩ = some (.int .i64 (swapQ m0 xs0 xs1 n2 n3).1.1.d) ∧ w34.cell? ⟨w6.heap.size, 2, none⟩ = some (.int .i64 (swapQ m0 xs0 xs1 n2 n3).1.1.s) ∧ w34.cell? ⟨w6.heap.size, 3, none⟩ = some (.int .i64 (swapQ m0 xs0 xs1 n2 n3).1.1.a) ∧ w34.cell? ⟨w6.heap.size, 4, none⟩ = some (.int .i64 (swapQ m0 xs0 xs1 n2 n3).1.1.l) ∧ w34.cell? ⟨w6.heap.size, 5, none⟩ = some (.slice As0 (swapQ m0 xs0 xs1 n2 n3).1.2.length cs0) ∧ True := bq108
  have bq109 := BoxC.below bq104 b34
  have q2 : w34.cell? ⟨w8.heap.size, 0, none⟩ = some (.int .i64 m0.c) ∧ w34.cell? ⟨w8.heap.size, 1, none⟩ = some (.int .i64 m0.d) ∧ w34.cell? ⟨w8.heap.size, 2, none⟩ = some (.int .i64 m0.s) ∧ w34.cell? ⟨w8.heap.size, 3, none⟩ = some (.int .i64 m0.a) ∧ w34.cell? ⟨w8.heap.size, 4, none⟩ = some (.int .i64 m0.l) ∧ w34.cell? ⟨w8.heap.size, 5, none⟩ = some (.slice A0_8 xs0.length c0_8) ∧ True := bq109
  have bq110 := BoxC.below bq105 b34
  have q3 : w34.cell? ⟨w12.heap.size, 0, none⟩ = some (.int .i64 (swapQ m0 xs0 xs1 n2 n3).1.1.c) ∧ w34.cell? ⟨w12.heap.size, 1, none⟩ = some (.int .i64 (swapQ m0 xs0 xs1 n2 n3).1.1.d) ∧ w34.cell? ⟨w12.heap.size, 2, none⟩ = some (.int .i64 (swapQ m0 xs0 xs1 n2 n3).1.1.s) ∧ w34.cell? ⟨w12.heap.size, 3, none⟩ = some (.int .i64 (swapQ m0 xs0 xs1 n2 n3).1.1.a) ∧ w34.cell? ⟨w12.heap.size, 4, none⟩ = some (.int .i64 (swapQ m0 xs0 xs1 n2 n3).1.1.l) ∧ w34.cell? ⟨w12.heap.size, 5, none⟩ = some (.slice Ag0 (swapQ m0 xs0 xs1 n2 n3).1.2.length cg0) ∧ True := bq110
  have bq111 := BoxC.below bq106 b34
  have q4 : w34.cell? ⟨w31.heap.size, 0, none⟩ = some (.int .i64 (swapQ m0 xs0 xs1 n2 n3).1.1.c) ∧ w34.cell? ⟨w31.heap.size, 1, none⟩ = some (.int .i64 (swapQ m0 xs0 xs1 n2 n3).1.1.d) ∧ w34.cell? ⟨w31.heap.size, 2, none⟩ = some (.int .i64 (swapQ m0 xs0 xs1 n2 n3).1.1.s) ∧ w34.cell? ⟨w31.heap.size, 3, none⟩ = some (.int .i64 (swapQ m0 xs0 xs1 n2 n3).1.1.a) ∧ w34.cell? ⟨w31.heap.size, 4, none⟩ = some (.int .i64 (swapQ m0 xs0 xs1 n2 n3).1.1.l) ∧ w34.cell? ⟨w31.heap.size, 5, none⟩ = some (.slice Ah0 (swapQ m0 xs0 xs1 n2 n3).1.2.length ch0) ∧ True := bq111
  go_wp2_with fail
  clear q0 q1 q2 q3 q4
  have D25_27 := b26.trans (b27.mono b26.size)
  have D25_28 := D25_27.trans (b28.mono D25_27.size)
  have D25_29 := D25_28.trans (b29.mono D25_28.size)
  have D25_31 := D25_29.trans (b31.mono D25_29.size)
  have D25_32 := D25_31.trans (b32.mono D25_31.size)
  have D25_33 := D25_32.trans (b33.mono D25_32.size)
  have D25_34 := D25_33.trans (b34.mono D25_33.size)
  have S11_25 := Nat.le_trans (S11_24) on25.size
  have Y112 := Y79.below (D25_34.mono (S11_25))
  refine (heldS_t (swapQ m0 xs0 xs1 n2 n3).1.1 Ag0 cg0 (swapQ m0 xs0 xs1 n2 n3).1.2 _ _ (OII.rii Y112) (by omega) (by omega) (by omega) (by omega)).mono ?_
  rintro e w35 ⟨rfl, b35⟩
  have bq113 := BoxC.below bq107 b35
  have q0 : w35.cell? ⟨w.heap.size, 0, none⟩ = some (.int .i64 m0.c) ∧ w35.cell? ⟨w.heap.size, 1, none⟩ = some (.int .i64 m0.d) ∧ w35.cell? ⟨w.heap.size, 2, none⟩ = some (.int .i64 m0.s) ∧ w35.cell? ⟨w.heap.size, 3, none⟩ = some (.int .i64 m0.a) ∧ w35.cell? ⟨w.heap.size, 4, none⟩ = some (.int .i64 m0.l) ∧ w35.cell? ⟨w.heap.size, 5, none⟩ = some (.slice A0 xs0.length c0) ∧ True := bq113
  have bq114 := BoxC.below bq108 b35
  have q1 : w35.cell? ⟨w6.heap.size, 0, none⟩ = some (.int .i64 (swapQ m0 xs0 xs1 n2 n3).1.1.c) ∧ w35.cell? ⟨w6.heap.size, 1, none⟩ = some (.int .i64 (swapQ m0 xs0 xs1 n2 n3).1.1.d) ∧ w35.cell? ⟨w6.heap.size, 2, none⟩ = some (.int .i64 (swapQ m0 xs0 xs1 n2 n3).1.1.s) ∧ w35.cell? ⟨w6.heap.size, 3, none⟩ = some (.int .i64 (swapQ m0 xs0 xs1 n2 n3).1.1.a) ∧ w35.cell? ⟨w6.heap.size, 4, none⟩ = some (.int .i64 (swapQ m0 xs0 xs1 n2 n3).1.1.l) ∧ w35.cell? ⟨w6.heap.size, 5, none⟩ = some (.slice As0 (swapQ m0 xs0 xs1 n2 n3).1.2.length cs0) ∧ True := bq114
  have bq115 := BoxC.below bq109 b35
  have q2 : w35.cell? ⟨w8.heap.size, 0, none⟩ = some (.int .i64 m0.c) ∧ w35.cell? ⟨w8.heap.size, 1, none⟩ = some (.int .i64 m0.d) ∧ w35.cell? ⟨w8.heap.size, 2, none⟩ = some (.int .i64 m0.s) ∧ w35.cell? ⟨w8.heap.size, 3, none⟩ = some (.int .i64 m0.a) ∧ w35.cell? ⟨w8.heap.size, 4, none⟩ = some (.int .i64 m0.l) ∧ w35.cell? ⟨w8.heap.size, 5, none⟩ = some (.slice A0_8 xs0.length c0_8) ∧ True := bq115
  have bq116 := BoxC.below bq110 b35
  have q3 : w35.cell? ⟨w12.heap.size, 0, none⟩ = some (.int .i64 (swapQ m0 xs0 xs1 n2 n3).1.1.c) ∧ w35.cell? ⟨w12.heap.size, 1, none⟩ = some (.int .i64 (swapQ m0 xs0 xs1 n2 n3).1.1.d) ∧ w35.cell? ⟨w12.heap.size, 2, none⟩ = some (.int .i64 (swapQ m0 xs0 xs1 n2 n3).1.1.s) ∧ w35.cell? ⟨w12.heap.size, 3, none⟩ = some (.int .i64 (swapQ m0 xs0 xs1 n2 n3).1.1.a) ∧ w35.cell? ⟨w12.heap.size, 4, none⟩ = some (.int .i64 (swapQ m0 xs0 xs1 n2 n3).1.1.l) ∧ w35.cell? ⟨w12.heap.size, 5, none⟩ = some (.slice Ag0 (swapQ m0 xs0 xs1 n2 n3).1.2.length cg0) ∧ True := bq116
  have bq117 := BoxC.below bq111 b35
  have q4 : w35.cell? ⟨w31.heap.size, 0, none⟩ = some (.int .i64 (swapQ m0 xs0 xs1 n2 n3).1.1.c) ∧ w35.cell? ⟨w31.heap.size, 1, none⟩ = some (.int .i64 (swapQ m0 xs0 xs1 n2 n3).1.1.d) ∧ w35.cell? ⟨w31.heap.size, 2, none⟩ = some (.int .i64 (swapQ m0 xs0 xs1 n2 n3).1.1.s) ∧ w35.cell? ⟨w31.heap.size, 3, none⟩ = some (.int .i64 (swapQ m0 xs0 xs1 n2 n3).1.1.a) ∧ w35.cell? ⟨w31.heap.size, 4, none⟩ = some (.int .i64 (swapQ m0 xs0 xs1 n2 n3).1.1.l) ∧ w35.cell? ⟨w31.heap.size, 5, none⟩ = some (.slice Ah0 (swapQ m0 xs0 xs1 n2 n3).1.2.length ch0) ∧ True := bq117
  go_wp2_with fail
  clear q0 q1 q2 q3 q4
  have D26_28 := b27.trans (b28.mono b27.size)
  have D26_29 := D26_28.trans (b29.mono D26_28.size)
  have D26_31 := D26_29.trans (b31.mono D26_29.size)
  have D26_32 := D26_31.trans (b32.mono D26_31.size)
  have D26_33 := D26_32.trans (b33.mono D26_32.size)
  have D26_34 := D26_33.trans (b34.mono D26_33.size)
  have D26_35 := D26_34.trans (b35.mono D26_34.size)
  have S12_26 := Nat.le_trans (S12_25) b26.size
  have Y118 := Y84.below (D26_35.mono (S12_26))
  refine (heldII_t Ag1 cg1 (swapQ m0 xs0 xs1 n2 n3).2.1 _ _ (OII.rii Y118) (by omega) (by omega) (by omega) (by omega)).mono ?_
  rintro e w36 ⟨rfl, b36⟩
  have D0_29 := D0_28.trans (b29.mono D0_28.size)
  have D0_31 := D0_29.trans (b31.mono D0_29.size)
  have D0_32 := D0_31.trans (b32.mono D0_31.size)
  have D0_33 := D0_32.trans (b33.mono D0_32.size)
  have D0_34 := D0_33.trans (b34.mono D0_33.size)
  have D0_35 := D0_34.trans (b35.mono D0_34.size)
  have D0_36 := D0_35.trans (b36.mono D0_35.size)
  have DD := D0_36
  have bq119 := BoxC.below bq113 b36
  have q0 : w36.cell? ⟨w.heap.size, 0, none⟩ = some (.int .i64 m0.c) ∧ w36.cell? ⟨w.heap.size, 1, none⟩ = some (.int .i64 m0.d) ∧ w36.cell? ⟨w.heap.size, 2, none⟩ = some (.int .i64 m0.s) ∧ w36.cell? ⟨w.heap.size, 3, none⟩ = some (.int .i64 m0.a) ∧ w36.cell? ⟨w.heap.size, 4, none⟩ = some (.int .i64 m0.l) ∧ w36.cell? ⟨w.heap.size, 5, none⟩ = some (.slice A0 xs0.length c0) ∧ True := bq119
  have bq120 := BoxC.below bq114 b36
  have q1 : w36.cell? ⟨w6.heap.size, 0, none⟩ = some (.int .i64 (swapQ m0 xs0 xs1 n2 n3).1.1.c) ∧ w36.cell? ⟨w6.heap.size, 1, none⟩ = some (.int .i64 (swapQ m0 xs0 xs1 n2 n3).1.1.d) ∧ w36.cell? ⟨w6.heap.size, 2, none⟩ = some (.int .i64 (swapQ m0 xs0 xs1 n2 n3).1.1.s) ∧ w36.cell? ⟨w6.heap.size, 3, none⟩ = some (.int .i64 (swapQ m0 xs0 xs1 n2 n3).1.1.a) ∧ w36.cell? ⟨w6.heap.size, 4, none⟩ = some (.int .i64 (swapQ m0 xs0 xs1 n2 n3).1.1.l) ∧ w36.cell? ⟨w6.heap.size, 5, none⟩ = some (.slice As0 (swapQ m0 xs0 xs1 n2 n3).1.2.length cs0) ∧ True := bq120
  have bq121 := BoxC.below bq115 b36
  have q2 : w36.cell? ⟨w8.heap.size, 0, none⟩ = some (.int .i64 m0.c) ∧ w36.cell? ⟨w8.heap.size, 1, none⟩ = some (.int .i64 m0.d) ∧ w36.cell? ⟨w8.heap.size, 2, none⟩ = some (.int .i64 m0.s) ∧ w36.cell? ⟨w8.heap.size, 3, none⟩ = some (.int .i64 m0.a) ∧ w36.cell? ⟨w8.heap.size, 4, none⟩ = some (.int .i64 m0.l) ∧ w36.cell? ⟨w8.heap.size, 5, none⟩ = some (.slice A0_8 xs0.length c0_8) ∧ True := bq121
  have bq122 := BoxC.below bq116 b36
  have q3 : w36.cell? ⟨w12.heap.size, 0, none⟩ = some (.int .i64 (swapQ m0 xs0 xs1 n2 n3).1.1.c) ∧ w36.cell? ⟨w12.heap.size, 1, none⟩ = some (.int .i64 (swapQ m0 xs0 xs1 n2 n3).1.1.d) ∧ w36.cell? ⟨w12.heap.size, 2, none⟩ = some (.int .i64 (swapQ m0 xs0 xs1 n2 n3).1.1.s) ∧ w36.cell? ⟨w12.heap.size, 3, none⟩ = some (.int .i64 (swapQ m0 xs0 xs1 n2 n3).1.1.a) ∧ w36.cell? ⟨w12.heap.size, 4, none⟩ = some (.int .i64 (swapQ m0 xs0 xs1 n2 n3).1.1.l) ∧ w36.cell? ⟨w12.heap.size, 5, none⟩ = some (.slice Ag0 (swapQ m0 xs0 xs1 n2 n3).1.2.length cg0) ∧ True := bq122
  have bq123 := BoxC.below bq117 b36
  have q4 : w36.cell? ⟨w31.heap.size, 0, none⟩ = some (.int .i64 (swapQ m0 xs0 xs1 n2 n3).1.1.c) ∧ w36.cell? ⟨w31.heap.size, 1, none⟩ = some (.int .i64 (swapQ m0 xs0 xs1 n2 n3).1.1.d) ∧ w36.cell? ⟨w31.heap.size, 2, none⟩ = some (.int .i64 (swapQ m0 xs0 xs1 n2 n3).1.1.s) ∧ w36.cell? ⟨w31.heap.size, 3, none⟩ = some (.int .i64 (swapQ m0 xs0 xs1 n2 n3).1.1.a) ∧ w36.cell? ⟨w31.heap.size, 4, none⟩ = some (.int .i64 (swapQ m0 xs0 xs1 n2 n3).1.1.l) ∧ w36.cell? ⟨w31.heap.size, 5, none⟩ = some (.slice Ah0 (swapQ m0 xs0 xs1 n2 n3).1.2.length ch0) ∧ True := bq123
  go_wp2_with fail
  go_ret
  exact ⟨rfl, HB0.trans (DD.mono HB0.size)⟩
end Go.Proofs.Ytapocenhmdcfoaa.fnExactSwapKeys
