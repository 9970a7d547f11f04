/- The walk of the law FnExactChangeLock. -/
import Derived.Test.YtldlpkfjgackiaaFChLock
import Derived.Test.YtldlpkfjgackiaaHelpL
import Derived.Test.YtldlpkfjgackiaaHelpP
import Derived.Deep.DeepCutAuto
import Derived.Deep.Cut
import Derived.Deep.CutRange
namespace Go.Proofs.Ytldlpkfjgackiaa.fnExactChangeLock
set_option linter.unusedVariables false
open Go.RowKit
theorem few_lens : ∀ (ls : List (List Int)) (b : Nat), (∀ x, x ∈ ls → x.length ≤ b) → sumLen ls ≤ b * ls.length
  | [], _, _ => by simp [sumLen]
  | x :: r, b, h => by
    have := few_lens r b (fun y hy => h y (by simp [hy])); have := h x (by simp)
    unfold sumLen at *; rw [List.map_cons, List.sum_cons, List.length_cons, Nat.mul_succ]; omega
theorem hull_lens {m : Mk} (hm : isMaker m = true) (ks : List (List Int)) : (hullF m.c.toNat m.d.toNat ks).length ≤ 4194304 ∧ sumLen (hullF m.c.toNat m.d.toNat ks) ≤ 1048576 := by
  have hb := mk_bounds hm
  have h1 := few_lens (hullF m.c.toNat m.d.toNat ks) 8 (fun x hx => by
    obtain ⟨i, hi, rfl⟩ := List.getElem_of_mem hx
    have := hullF_row hi; omega)
  rw [hullF_length] at h1 ⊢
  omega
theorem lens (m : Mk) (xs ys : List Int) (s : Int) (key : List Int) : (changeLockR m xs ys s key).1.length ≤ 4194304 ∧ sumLen (changeLockR m xs ys s key).1 ≤ 1048576 := by
  unfold changeLockR
  split
  · rename_i h
    have hm : isMaker m = true := by
      unfold changeC at h
      by_cases h1 : isProgF m xs ys s = true
      · exact (prog_key h1).1
      · rw [if_neg h1] at h; cases h
    exact hull_lens hm _
  · simp [sumLen]
set_option maxRecDepth 100000 in
set_option maxHeartbeats 8000000 in
theorem walk (m0 : Mk) (A1 : Option Addr) (c1 : Nat) (xs1 : List Int) (B1 : Option Addr) (d1 : Nat) (ys1 : List Int) (s1 : Int) (A2 : Option Addr) (c2 : Nat) (xs2 : List Int) (w : World) (hc1 : xs1.length ≤ c1) (h1 : RI w A1 xs1) (hd1 : ys1.length ≤ d1) (k1 : RI w B1 ys1) (hc2 : xs2.length ≤ c2) (h2 : RI w A2 xs2) :
    Calls Try.prog 6 #[.agg #[.int .i64 m0.c, .int .i64 m0.d, .int .i64 m0.s, .int .i64 m0.a, .int .i64 m0.l], .agg #[.slice A1 xs1.length c1, .slice B1 ys1.length d1, .int .i64 s1], .slice A2 xs2.length c2] w fun e w' => e = .returned (.bool true) ∧ Below w.heap.size w w' := by
  have lens0 := lens m0 xs1 ys1 s1 xs2
  have HB0 : Below w.heap.size w ((w.alloc (.cells #[.int .i64 m0.c, .int .i64 m0.d, .int .i64 m0.s, .int .i64 m0.a, .int .i64 m0.l] 23)).alloc (.cells #[.slice A1 xs1.length c1, .slice B1 ys1.length d1, .int .i64 s1] 55)) := ((Below.refl w.heap.size w).alloc (by exact Nat.le_refl _) _).alloc (by simp only [World.size_alloc]; omega) _
  have bx0 : BoxC ((w.alloc (.cells #[.int .i64 m0.c, .int .i64 m0.d, .int .i64 m0.s, .int .i64 m0.a, .int .i64 m0.l] 23)).alloc (.cells #[.slice A1 xs1.length c1, .slice B1 ys1.length d1, .int .i64 s1] 55)) (w.heap.size) 0 [.int .i64 m0.c, .int .i64 m0.d, .int .i64 m0.s, .int .i64 m0.a, .int .i64 m0.l] := by simp [BoxC, Go.World.cell?_alloc_at, Go.World.cell?_alloc_past]
  have bx1 : BoxC ((w.alloc (.cells #[.int .i64 m0.c, .int .i64 m0.d, .int .i64 m0.s, .int .i64 m0.a, .int .i64 m0.l] 23)).alloc (.cells #[.slice A1 xs1.length c1, .slice B1 ys1.length d1, .int .i64 s1] 55)) (w.heap.size + 1) 0 [.slice A1 xs1.length c1, .slice B1 ys1.length d1, .int .i64 s1] := by simp [BoxC, Go.World.cell?_alloc_at]
  have Rxs1 := ((h1).alloc (.cells #[.int .i64 m0.c, .int .i64 m0.d, .int .i64 m0.s, .int .i64 m0.a, .int .i64 m0.l] 23)).alloc (.cells #[.slice A1 xs1.length c1, .slice B1 ys1.length d1, .int .i64 s1] 55)
  have Rys1 := ((k1).alloc (.cells #[.int .i64 m0.c, .int .i64 m0.d, .int .i64 m0.s, .int .i64 m0.a, .int .i64 m0.l] 23)).alloc (.cells #[.slice A1 xs1.length c1, .slice B1 ys1.length d1, .int .i64 s1] 55)
  have Rxs2 := ((h2).alloc (.cells #[.int .i64 m0.c, .int .i64 m0.d, .int .i64 m0.s, .int .i64 m0.a, .int .i64 m0.l] 23)).alloc (.cells #[.slice A1 xs1.length c1, .slice B1 ys1.length d1, .int .i64 s1] 55)
  by_cases z2 : xs2.length ≤ 1048576
  case neg =>
    have i2 : (1048576 : Int) < (xs2.length : Int) := by omega
    go_enter Try.func6, Try.ntmps6
    go_wp2_with fail
    go_ret
    exact ⟨rfl, HB0⟩
  have i2 : ¬ ((1048576 : Int) < (xs2.length : Int)) := by omega
  go_enter Try.func6, Try.ntmps6
  have q0 : ((w.alloc (.cells #[.int .i64 m0.c, .int .i64 m0.d, .int .i64 m0.s, .int .i64 m0.a, .int .i64 m0.l] 23)).alloc (.cells #[.slice A1 xs1.length c1, .slice B1 ys1.length d1, .int .i64 s1] 55)).cell? ⟨w.heap.size, 0, none⟩ = some (.int .i64 m0.c) ∧ ((w.alloc (.cells #[.int .i64 m0.c, .int .i64 m0.d, .int .i64 m0.s, .int .i64 m0.a, .int .i64 m0.l] 23)).alloc (.cells #[.slice A1 xs1.length c1, .slice B1 ys1.length d1, .int .i64 s1] 55)).cell? ⟨w.heap.size, 1, none⟩ = some (.int .i64 m0.d) ∧ ((w.alloc (.cells #[.int .i64 m0.c, .int .i64 m0.d, .int .i64 m0.s, .int .i64 m0.a, .int .i64 m0.l] 23)).alloc (.cells #[.slice A1 xs1.length c1, .slice B1 ys1.length d1, .int .i64 s1] 55)).cell? ⟨w.heap.size, 2, none⟩ = some (.int .i64 m0.s) ∧ ((w.alloc (.cells #[.int .i64 m0.c, .int .i64 m0.d, .int .i64 m0.s, .int .i64 m0.a, .int .i64 m0.l] 23)).alloc (.cells #[.slice A1 xs1.length c1, .slice B1 ys1.length d1, .int .i64 s1] 55)).cell? ⟨w.heap.size, 3, none⟩ = some (.int .i64 m0.a) ∧ ((w.alloc (.cells #[.int .i64 m0.c, .int .i64 m0.d, .int .i64 m0.s, .int .i64 m0.a, .int .i64 m0.l] 23)).alloc (.cells #[.slice A1 xs1.length c1, .slice B1 ys1.length d1, .int .i64 s1] 55)).cell? ⟨w.heap.size, 4, none⟩ = some (.int .i64 m0.l) ∧ True := bx0
  have q1 : ((w.alloc (.cells #[.int .i64 m0.c, .int .i64 m0.d, .int .i64 m0.s, .int .i64 m0.a, .int .i64 m0.l] 23)).alloc (.cells #[.slice A1 xs1.length c1, .slice B1 ys1.length d1, .int .i64 s1] 55)).cell? ⟨w.heap.size + 1, 0, none⟩ = some (.slice A1 xs1.length c1) ∧ ((w.alloc (.cells #[.int .i64 m0.c, .int .i64 m0.d, .int .i64 m0.s, .int .i64 m0.a, .int .i64 m0.l] 23)).alloc (.cells #[.slice A1 xs1.length c1, .slice B1 ys1.length d1, .int .i64 s1] 55)).cell? ⟨w.heap.size + 1, 1, none⟩ = some (.slice B1 ys1.length d1) ∧ ((w.alloc (.cells #[.int .i64 m0.c, .int .i64 m0.d, .int .i64 m0.s, .int .i64 m0.a, .int .i64 m0.l] 23)).alloc (.cells #[.slice A1 xs1.length c1, .slice B1 ys1.length d1, .int .i64 s1] 55)).cell? ⟨w.heap.size + 1, 2, none⟩ = some (.int .i64 s1) ∧ True := bx1
  go_wp2_with fail
  clear q0 q1
  refine (szP A1 c1 xs1 B1 d1 ys1 s1 _ _ Rxs1 Rys1 (by omega) (by omega)).mono ?_
  rintro e w1 ⟨r1, rfl, hL1, b1, hm1⟩
  by_cases hz1 : r1 < 0
  case pos =>
    go_wp2_with fail
    go_ret
    exact ⟨rfl, HB0.trans (b1.mono HB0.size)⟩
  have hL12 := hL1.2 (by omega)
  have hL11 := hL1.1
  have zxs1 : xs1.length ≤ 1048576 := by omega
  have zys1 : ys1.length ≤ 1048576 := by omega
  have zt1 : (xs1.length : Nat) + (ys1.length : Nat) + r1 ≤ 1048576 := by omega
  have Hz1 := Lib.hid hL12; clear hL12 hL1
  have bq1 := BoxC.below bx0 b1
  have q0 : w1.cell? ⟨w.heap.size, 0, none⟩ = some (.int .i64 m0.c) ∧ w1.cell? ⟨w.heap.size, 1, none⟩ = some (.int .i64 m0.d) ∧ w1.cell? ⟨w.heap.size, 2, none⟩ = some (.int .i64 m0.s) ∧ w1.cell? ⟨w.heap.size, 3, none⟩ = some (.int .i64 m0.a) ∧ w1.cell? ⟨w.heap.size, 4, none⟩ = some (.int .i64 m0.l) ∧ True := bq1
  have bq2 := BoxC.below bx1 b1
  have q1 : w1.cell? ⟨w.heap.size + 1, 0, none⟩ = some (.slice A1 xs1.length c1) ∧ w1.cell? ⟨w.heap.size + 1, 1, none⟩ = some (.slice B1 ys1.length d1) ∧ w1.cell? ⟨w.heap.size + 1, 2, none⟩ = some (.int .i64 s1) ∧ True := bq2
  go_wp2_with fail
  clear q0 q1
  have KS3 := Lib.hid (show ∀ w' : World, Below w1.heap.size w1 w' → ((w'.cell? ⟨w.heap.size, 0, none⟩ = some (.int .i64 m0.c) ∧ w'.cell? ⟨w.heap.size, 1, none⟩ = some (.int .i64 m0.d) ∧ w'.cell? ⟨w.heap.size, 2, none⟩ = some (.int .i64 m0.s) ∧ w'.cell? ⟨w.heap.size, 3, none⟩ = some (.int .i64 m0.a) ∧ w'.cell? ⟨w.heap.size, 4, none⟩ = some (.int .i64 m0.l) ∧ True) ∧ (w'.cell? ⟨w.heap.size + 1, 0, none⟩ = some (.slice A1 xs1.length c1) ∧ w'.cell? ⟨w.heap.size + 1, 1, none⟩ = some (.slice B1 ys1.length d1) ∧ w'.cell? ⟨w.heap.size + 1, 2, none⟩ = some (.int .i64 s1) ∧ True)) from fun w' hb => ⟨BoxC.below bq1 hb, BoxC.below bq2 hb⟩)
  go_cut [8, 9] (fun p0 p1 wx => ∃ (As0 : Option Addr) (cs0 los0 his0 : Nat) (bb : Nat), p0 = .pointer (some ⟨bb, 0, none⟩) ∧ p1 = .int .i64 (changeLockR m0 xs1 ys1 s1 xs2).2 ∧ (changeLockR m0 xs1 ys1 s1 xs2).1.length ≤ cs0 ∧ OII wx los0 his0 (.slice As0 (changeLockR m0 xs1 ys1 s1 xs2).1.length cs0) (changeLockR m0 xs1 ys1 s1 xs2).1 ∧ (bb < los0 ∨ his0 ≤ bb) ∧ w1.heap.size ≤ los0 ∧ los0 ≤ his0 ∧ his0 ≤ wx.heap.size ∧ w1.heap.size ≤ bb ∧ bb < wx.heap.size ∧ BoxC wx bb 0 [.slice As0 (changeLockR m0 xs1 ys1 s1 xs2).1.length cs0] ∧ Below w1.heap.size w1 wx)
  case first =>
    refine wp_region_held_drew (S := (fun w' => (w'.cell? ⟨w.heap.size, 0, none⟩ = some (.int .i64 m0.c) ∧ w'.cell? ⟨w.heap.size, 1, none⟩ = some (.int .i64 m0.d) ∧ w'.cell? ⟨w.heap.size, 2, none⟩ = some (.int .i64 m0.s) ∧ w'.cell? ⟨w.heap.size, 3, none⟩ = some (.int .i64 m0.a) ∧ w'.cell? ⟨w.heap.size, 4, none⟩ = some (.int .i64 m0.l) ∧ True) ∧ (w'.cell? ⟨w.heap.size + 1, 0, none⟩ = some (.slice A1 xs1.length c1) ∧ w'.cell? ⟨w.heap.size + 1, 1, none⟩ = some (.slice B1 ys1.length d1) ∧ w'.cell? ⟨w.heap.size + 1, 2, none⟩ = some (.int .i64 s1) ∧ True))) (by kernel_rfl) (KS3.out _ (belowDrew0 _)) (fun hHeld => ?_)
    refine takeD (i := 0) (some 28) (.agg #[.int .i64 m0.c, .int .i64 m0.d, .int .i64 m0.s, .int .i64 m0.a, .int .i64 m0.l]) rfl (by kernel_rfl) (by kernel_rfl) (by kernel_rfl) (by kernel_rfl) (fun _ _ _ h => h) (by assumption) (Or.inl ⟨by rfl, fun w hSw => by (try dsimp only at hSw); go_simp⟩) ?_
    simp only [Act.put, List.setIfInBounds_toArray, List.set_cons_zero, List.set_cons_succ]
    refine takeD (i := 2) (some 30) (.agg #[.slice A1 xs1.length c1, .slice B1 ys1.length d1, .int .i64 s1]) rfl (by kernel_rfl) (by kernel_rfl) (by kernel_rfl) (by kernel_rfl) (fun _ _ _ h => h) (by assumption) (Or.inl ⟨by rfl, fun w hSw => by (try dsimp only at hSw); go_simp⟩) ?_
    simp only [Act.put, List.setIfInBounds_toArray, List.set_cons_zero, List.set_cons_succ]
    refine takeD (i := 4) (some 32) (.slice A2 xs2.length c2) rfl (by kernel_rfl) (by kernel_rfl) (by kernel_rfl) (by kernel_rfl) (fun _ _ _ h => h) (by assumption) (Or.inl ⟨by rfl, fun w hSw => by (try dsimp only at hSw); go_simp⟩) ?_
    simp only [Act.put, List.setIfInBounds_toArray, List.set_cons_zero, List.set_cons_succ]
    have b2 := belowDrew0 w1
    refine wpAnyH_ready (rs := [1, 10]) (by kernel_rfl) (by simp) (AllReadyH.cons rfl (fun K hK => ?_) (AllReadyH.cons rfl (fun K hK => ?_) AllReadyH.nil))
    · go_simp
      refine (toM m0.c m0.d m0.s m0.a m0.l _).mono ?_
      rintro e w3 ⟨rfl, b3⟩
      have D1_3 := b2.trans (b3.mono b2.size)
      have HHeld := KS3.out _ D1_3
      refine hK.out _ _ HHeld (fun _ => ?_)
      clear hK K
      (try simp only [Act.put]); (try simp only [List.setIfInBounds_toArray]); (try simp only [List.set_cons_zero, List.set_cons_succ])
      refine wpAnyH_ready (rs := [3, 10]) (by kernel_rfl) (by simp) (AllReadyH.cons rfl (fun K hK => ?_) (AllReadyH.cons rfl (fun K hK => ?_) AllReadyH.nil))
      · go_simp
        have D0_2 := b1.trans (b2.mono b1.size)
        have D0_3 := D0_2.trans (b3.mono D0_2.size)
        refine (toP A1 c1 xs1 B1 d1 ys1 s1 _ (Rxs1.below D0_3) (Rys1.below D0_3) zxs1 zys1).mono ?_
        rintro e w4 ⟨A1_4, c1_4, B1_4, d1_4, rfl, hc1_4, rA1_4, hd1_4, rB1_4, oA1_4, b4⟩
        have D1_4 := D1_3.trans (b4.mono D1_3.size)
        have HHeld := KS3.out _ D1_4
        refine hK.out _ _ HHeld (fun _ => ?_)
        clear hK K
        (try simp only [Act.put]); (try simp only [List.setIfInBounds_toArray]); (try simp only [List.set_cons_zero, List.set_cons_succ])
        refine wpAnyH_ready (rs := [5, 10]) (by kernel_rfl) (by simp) (AllReadyH.cons rfl (fun K hK => ?_) (AllReadyH.cons rfl (fun K hK => ?_) AllReadyH.nil))
        · go_simp
          have D0_4 := D0_3.trans (b4.mono D0_3.size)
          refine (toI A2 c2 xs2 _ (Rxs2.below D0_4) z2).mono ?_
          rintro e w5 ⟨A2_5, c2_5, rfl, hc2_5, rA2_5, oA2_5, b5, -⟩
          have D1_5 := D1_4.trans (b5.mono D1_4.size)
          have HHeld := KS3.out _ D1_5
          refine hK.out _ _ HHeld (fun _ => ?_)
          clear hK K
          (try simp only [Act.put]); (try simp only [List.setIfInBounds_toArray]); (try simp only [List.set_cons_zero, List.set_cons_succ])
          refine wpAnyH_ready (rs := [6, 10]) (by kernel_rfl) (by simp) (AllReadyH.cons rfl (fun K hK => ?_) (AllReadyH.cons rfl (fun K hK => ?_) AllReadyH.nil))
          · go_simp
            refine (specChangeLock_any m0 A1_4 c1_4 xs1 B1_4 d1_4 ys1 s1 A2_5 c2_5 xs2 _ (rA1_4.below b5) (rB1_4.below b5) rA2_5 hc1_4 hc2_5).mono ?_
            rintro e w6 ⟨As0, cs0, rfl, hcs0, rs0, os0, b6⟩
            have D1_6 := D1_5.trans (b6.mono D1_5.size)
            have HHeld := KS3.out _ D1_6
            refine hK.out _ _ HHeld (fun _ => ?_)
            clear hK K
            (try simp only [Act.put]); (try simp only [List.setIfInBounds_toArray]); (try simp only [List.set_cons_zero, List.set_cons_succ])
            refine takeD (i := 7) (some 27) (.tuple #[.agg #[.slice As0 (changeLockR m0 xs1 ys1 s1 xs2).1.length cs0], .int .i64 (changeLockR m0 xs1 ys1 s1 xs2).2]) rfl (by kernel_rfl) (by kernel_rfl) (by kernel_rfl) (by kernel_rfl) (fun _ _ _ h => h) (by assumption) (Or.inl ⟨by rfl, fun w hSw => by (try dsimp only at hSw); go_simp⟩) ?_
            simp only [Act.put, List.setIfInBounds_toArray, List.set_cons_zero, List.set_cons_succ]
            refine takeD (i := 8) (some 35) (.agg #[.slice As0 (changeLockR m0 xs1 ys1 s1 xs2).1.length cs0]) rfl (by kernel_rfl) (by kernel_rfl) (by kernel_rfl) (by kernel_rfl) (fun _ _ _ h => h) (by assumption) (Or.inl ⟨by rfl, fun w hSw => by (try dsimp only at hSw); go_simp⟩) ?_
            simp only [Act.put, List.setIfInBounds_toArray, List.set_cons_zero, List.set_cons_succ]
            refine takeD (i := 9) (some 36) (.int .i64 (changeLockR m0 xs1 ys1 s1 xs2).2) rfl (by kernel_rfl) (by kernel_rfl) (by kernel_rfl) (by kernel_rfl) (fun _ _ _ h => h) (by assumption) (Or.inl ⟨by rfl, fun w hSw => by (try dsimp only at hSw); go_simp⟩) ?_
            simp only [Act.put, List.setIfInBounds_toArray, List.set_cons_zero, List.set_cons_succ]
            refine wpAnyH_ready (rs := [10]) (by kernel_rfl) (by simp) (AllReadyH.cons rfl (fun K hK => ?_) AllReadyH.nil)
            go_simp
            have b7 : Below w6.heap.size w6 (w6.alloc (.cells #[.slice none 0 0] 48)) := (Below.refl _ _).alloc (Nat.le_refl _) _
            have D1_7 := D1_6.trans (b7.mono D1_6.size)
            have HHeld := KS3.out _ D1_7
            refine hK.out _ _ HHeld (fun _ => ?_)
            clear hK K
            (try simp only [Act.put]); (try simp only [List.setIfInBounds_toArray]); (try simp only [List.set_cons_zero, List.set_cons_succ])
            have S1_3 := Nat.le_trans (b2.size) b3.size
            have S1_4 := Nat.le_trans (S1_3) b4.size
            have S1_5 := Nat.le_trans (S1_4) b5.size
            have S1_6 := Nat.le_trans (S1_5) b6.size
            refine wpAnyH_ready (rs := [11]) (by kernel_rfl) (by simp) (AllReadyH.cons rfl (fun K hK => ?_) AllReadyH.nil)
            go_simp
            have HHeld := KS3.out _ (Below.alloc D1_6 (S1_6) (.cells #[.slice As0 (changeLockR m0 xs1 ys1 s1 xs2).1.length cs0] 48))
            refine hK.out _ _ HHeld (fun _ => ?_)
            clear hK K
            (try simp only [Act.put]); (try simp only [List.setIfInBounds_toArray]); (try simp only [List.set_cons_zero, List.set_cons_succ])
            refine takeD (i := 12) (some 9) (.int .i64 (changeLockR m0 xs1 ys1 s1 xs2).2) rfl (by kernel_rfl) (by kernel_rfl) (by kernel_rfl) (by kernel_rfl) (fun _ _ _ h => h) (by assumption) (Or.inl ⟨by rfl, fun w hSw => by (try dsimp only at hSw); go_simp⟩) ?_
            (try simp only [Act.put]); (try simp only [List.setIfInBounds_toArray]); (try simp only [List.set_cons_zero, List.set_cons_succ])
            refine wpAnyH_done (by kernel_rfl) ?_ _
            go_wp2_with fail
            go_meet
            exact ⟨As0, cs0, w5.heap.size, w6.heap.size, w6.heap.size, rfl, rfl, hcs0, ((os0).below ((Below.refl _ _).alloc (Nat.le_refl _) _)), (Or.inr (Nat.le_refl _)), S1_5, b6.size, (by simp), S1_6, (by simp), (by simp [BoxC, Go.World.cell?_alloc_at]), (Below.alloc D1_6 (S1_6) (.cells #[.slice As0 (changeLockR m0 xs1 ys1 s1 xs2).1.length cs0] 48))⟩
          · go_simp
            have b6 : Below w5.heap.size w5 (w5.alloc (.cells #[.slice none 0 0] 48)) := (Below.refl _ _).alloc (Nat.le_refl _) _
            have D1_6 := D1_5.trans (b6.mono D1_5.size)
            have HHeld := KS3.out _ D1_6
            refine hK.out _ _ HHeld (fun _ => ?_)
            clear hK K
            (try simp only [Act.put]); (try simp only [List.setIfInBounds_toArray]); (try simp only [List.set_cons_zero, List.set_cons_succ])
            refine wpAnyH_ready (rs := [6]) (by kernel_rfl) (by simp) (AllReadyH.cons rfl (fun K hK => ?_) AllReadyH.nil)
            go_simp
            have D4_6 := b5.trans (b6.mono b5.size)
            refine (specChangeLock_any m0 A1_4 c1_4 xs1 B1_4 d1_4 ys1 s1 A2_5 c2_5 xs2 _ (rA1_4.below D4_6) (rB1_4.below D4_6) (rA2_5.below b6) hc1_4 hc2_5).mono ?_
            rintro e w7 ⟨As0, cs0, rfl, hcs0, rs0, os0, b7⟩
            have D1_7 := D1_6.trans (b7.mono D1_6.size)
            have HHeld := KS3.out _ D1_7
            refine hK.out _ _ HHeld (fun _ => ?_)
            clear hK K
            (try simp only [Act.put]); (try simp only [List.setIfInBounds_toArray]); (try simp only [List.set_cons_zero, List.set_cons_succ])
            refine takeD (i := 7) (some 27) (.tuple #[.agg #[.slice As0 (changeLockR m0 xs1 ys1 s1 xs2).1.length cs0], .int .i64 (changeLockR m0 xs1 ys1 s1 xs2).2]) rfl (by kernel_rfl) (by kernel_rfl) (by kernel_rfl) (by kernel_rfl) (fun _ _ _ h => h) (by assumption) (Or.inl ⟨by rfl, fun w hSw => by (try dsimp only at hSw); go_simp⟩) ?_
            simp only [Act.put, List.setIfInBounds_toArray, List.set_cons_zero, List.set_cons_succ]
            refine takeD (i := 8) (some 35) (.agg #[.slice As0 (changeLockR m0 xs1 ys1 s1 xs2).1.length cs0]) rfl (by kernel_rfl) (by kernel_rfl) (by kernel_rfl) (by kernel_rfl) (fun _ _ _ h => h) (by assumption) (Or.inl ⟨by rfl, fun w hSw => by (try dsimp only at hSw); go_simp⟩) ?_
            simp only [Act.put, List.setIfInBounds_toArray, List.set_cons_zero, List.set_cons_succ]
            refine takeD (i := 9) (some 36) (.int .i64 (changeLockR m0 xs1 ys1 s1 xs2).2) rfl (by kernel_rfl) (by kernel_rfl) (by kernel_rfl) (by kernel_rfl) (fun _ _ _ h => h) (by assumption) (Or.inl ⟨by rfl, fun w hSw => by (try dsimp only at hSw); go_simp⟩) ?_
            simp only [Act.put, List.setIfInBounds_toArray, List.set_cons_zero, List.set_cons_succ]
            have cz0 : w7.cell? ⟨w5.heap.size, 0, none⟩ = some (.slice none 0 0) := (b7.cell (p := ⟨w5.heap.size, 0, none⟩) (by simp)).trans (by simp)
            have fz0 : w7.frozen? ⟨w5.heap.size, 0, none⟩ = false := (b7.frozen (p := ⟨w5.heap.size, 0, none⟩) (by simp)).trans (by simp)
            have S1_3 := Nat.le_trans (b2.size) b3.size
            have S1_4 := Nat.le_trans (S1_3) b4.size
            have S1_5 := Nat.le_trans (S1_4) b5.size
            have hblo : w5.heap.size < (w5.alloc (.cells #[.slice none 0 0] 48)).heap.size := Nat.lt_of_lt_of_le (show w5.heap.size < (w5.alloc (.cells #[.slice none 0 0] 48)).heap.size by simp) (Nat.le_refl _)
            refine wpAnyH_ready (rs := [11]) (by kernel_rfl) (by simp) (AllReadyH.cons rfl (fun K hK => ?_) AllReadyH.nil)
            go_simp
            have HHeld := KS3.out _ (Below.setCell D1_7 (p := ⟨w5.heap.size, 0, none⟩) (S1_5) (.slice As0 (changeLockR m0 xs1 ys1 s1 xs2).1.length cs0))
            refine hK.out _ _ HHeld (fun _ => ?_)
            clear hK K
            (try simp only [Act.put]); (try simp only [List.setIfInBounds_toArray]); (try simp only [List.set_cons_zero, List.set_cons_succ])
            refine takeD (i := 12) (some 9) (.int .i64 (changeLockR m0 xs1 ys1 s1 xs2).2) rfl (by kernel_rfl) (by kernel_rfl) (by kernel_rfl) (by kernel_rfl) (fun _ _ _ h => h) (by assumption) (Or.inl ⟨by rfl, fun w hSw => by (try dsimp only at hSw); go_simp⟩) ?_
            (try simp only [Act.put]); (try simp only [List.setIfInBounds_toArray]); (try simp only [List.set_cons_zero, List.set_cons_succ])
            refine wpAnyH_done (by kernel_rfl) ?_ _
            have S1_6 := Nat.le_trans (S1_5) b6.size
            go_wp2_with fail
            go_meet
            exact ⟨As0, cs0, (w5.alloc (.cells #[.slice none 0 0] 48)).heap.size, w7.heap.size, w5.heap.size, rfl, rfl, hcs0, (OII.setLow (p := ⟨w5.heap.size, 0, none⟩) (by simp only; exact hblo) os0), (Or.inl (Nat.lt_of_lt_of_le hblo (Nat.le_refl _))), S1_6, b7.size, (by simp only [World.size_setCell]; exact Nat.le_refl _), S1_5, (by simp only [World.size_setCell]; exact Nat.lt_of_lt_of_le hblo (b7.size)), ⟨World.cell?_setCell_same _ _ _ cz0, trivial⟩, (Below.setCell D1_7 (p := ⟨w5.heap.size, 0, none⟩) (S1_5) (.slice As0 (changeLockR m0 xs1 ys1 s1 xs2).1.length cs0))⟩
        · go_simp
          have b5 : Below w4.heap.size w4 (w4.alloc (.cells #[.slice none 0 0] 48)) := (Below.refl _ _).alloc (Nat.le_refl _) _
          have D1_5 := D1_4.trans (b5.mono D1_4.size)
          have HHeld := KS3.out _ D1_5
          refine hK.out _ _ HHeld (fun _ => ?_)
          clear hK K
          (try simp only [Act.put]); (try simp only [List.setIfInBounds_toArray]); (try simp only [List.set_cons_zero, List.set_cons_succ])
          refine wpAnyH_ready (rs := [5]) (by kernel_rfl) (by simp) (AllReadyH.cons rfl (fun K hK => ?_) AllReadyH.nil)
          go_simp
          have D0_4 := D0_3.trans (b4.mono D0_3.size)
          have D0_5 := D0_4.trans (b5.mono D0_4.size)
          refine (toI A2 c2 xs2 _ (Rxs2.below D0_5) z2).mono ?_
          rintro e w6 ⟨A2_6, c2_6, rfl, hc2_6, rA2_6, oA2_6, b6, -⟩
          have D1_6 := D1_5.trans (b6.mono D1_5.size)
          have HHeld := KS3.out _ D1_6
          refine hK.out _ _ HHeld (fun _ => ?_)
          clear hK K
          (try simp only [Act.put]); (try simp only [List.setIfInBounds_toArray]); (try simp only [List.set_cons_zero, List.set_cons_succ])
          refine wpAnyH_ready (rs := [6]) (by kernel_rfl) (by simp) (AllReadyH.cons rfl (fun K hK => ?_) AllReadyH.nil)
          go_simp
          have D4_6 := b5.trans (b6.mono b5.size)
          refine (specChangeLock_any m0 A1_4 c1_4 xs1 B1_4 d1_4 ys1 s1 A2_6 c2_6 xs2 _ (rA1_4.below D4_6) (rB1_4.below D4_6) rA2_6 hc1_4 hc2_6).mono ?_
          rintro e w7 ⟨As0, cs0, rfl, hcs0, rs0, os0, b7⟩
          have D1_7 := D1_6.trans (b7.mono D1_6.size)
          have HHeld := KS3.out _ D1_7
          refine hK.out _ _ HHeld (fun _ => ?_)
          clear hK K
          (try simp only [Act.put]); (try simp only [List.setIfInBounds_toArray]); (try simp only [List.set_cons_zero, List.set_cons_succ])
          refine takeD (i := 7) (some 27) (.tuple #[.agg #[.slice As0 (changeLockR m0 xs1 ys1 s1 xs2).1.length cs0], .int .i64 (changeLockR m0 xs1 ys1 s1 xs2).2]) rfl (by kernel_rfl) (by kernel_rfl) (by kernel_rfl) (by kernel_rfl) (fun _ _ _ h => h) (by assumption) (Or.inl ⟨by rfl, fun w hSw => by (try dsimp only at hSw); go_simp⟩) ?_
          simp only [Act.put, List.setIfInBounds_toArray, List.set_cons_zero, List.set_cons_succ]
          refine takeD (i := 8) (some 35) (.agg #[.slice As0 (changeLockR m0 xs1 ys1 s1 xs2).1.length cs0]) rfl (by kernel_rfl) (by kernel_rfl) (by kernel_rfl) (by kernel_rfl) (fun _ _ _ h => h) (by assumption) (Or.inl ⟨by rfl, fun w hSw => by (try dsimp only at hSw); go_simp⟩) ?_
          simp only [Act.put, List.setIfInBounds_toArray, List.set_cons_zero, List.set_cons_succ]
          refine takeD (i := 9) (some 36) (.int .i64 (changeLockR m0 xs1 ys1 s1 xs2).2) rfl (by kernel_rfl) (by kernel_rfl) (by kernel_rfl) (by kernel_rfl) (fun _ _ _ h => h) (by assumption) (Or.inl ⟨by rfl, fun w hSw => by (try dsimp only at hSw); go_simp⟩) ?_
          simp only [Act.put, List.setIfInBounds_toArray, List.set_cons_zero, List.set_cons_succ]
          have D5_7 := b6.trans (b7.mono b6.size)
          have cz0 : w7.cell? ⟨w4.heap.size, 0, none⟩ = some (.slice none 0 0) := (D5_7.cell (p := ⟨w4.heap.size, 0, none⟩) (by simp)).trans (by simp)
          have fz0 : w7.frozen? ⟨w4.heap.size, 0, none⟩ = false := (D5_7.frozen (p := ⟨w4.heap.size, 0, none⟩) (by simp)).trans (by simp)
          have S1_3 := Nat.le_trans (b2.size) b3.size
          have S1_4 := Nat.le_trans (S1_3) b4.size
          have hblo : w4.heap.size < w6.heap.size := Nat.lt_of_lt_of_le (show w4.heap.size < (w4.alloc (.cells #[.slice none 0 0] 48)).heap.size by simp) (b6.size)
          refine wpAnyH_ready (rs := [11]) (by kernel_rfl) (by simp) (AllReadyH.cons rfl (fun K hK => ?_) AllReadyH.nil)
          go_simp
          have HHeld := KS3.out _ (Below.setCell D1_7 (p := ⟨w4.heap.size, 0, none⟩) (S1_4) (.slice As0 (changeLockR m0 xs1 ys1 s1 xs2).1.length cs0))
          refine hK.out _ _ HHeld (fun _ => ?_)
          clear hK K
          (try simp only [Act.put]); (try simp only [List.setIfInBounds_toArray]); (try simp only [List.set_cons_zero, List.set_cons_succ])
          refine takeD (i := 12) (some 9) (.int .i64 (changeLockR m0 xs1 ys1 s1 xs2).2) rfl (by kernel_rfl) (by kernel_rfl) (by kernel_rfl) (by kernel_rfl) (fun _ _ _ h => h) (by assumption) (Or.inl ⟨by rfl, fun w hSw => by (try dsimp only at hSw); go_simp⟩) ?_
          (try simp only [Act.put]); (try simp only [List.setIfInBounds_toArray]); (try simp only [List.set_cons_zero, List.set_cons_succ])
          refine wpAnyH_done (by kernel_rfl) ?_ _
          have S1_5 := Nat.le_trans (S1_4) b5.size
          have S1_6 := Nat.le_trans (S1_5) b6.size
          go_wp2_with fail
          go_meet
          exact ⟨As0, cs0, w6.heap.size, w7.heap.size, w4.heap.size, rfl, rfl, hcs0, (OII.setLow (p := ⟨w4.heap.size, 0, none⟩) (by simp only; exact hblo) os0), (Or.inl (Nat.lt_of_lt_of_le hblo (Nat.le_refl _))), S1_6, b7.size, (by simp only [World.size_setCell]; exact Nat.le_refl _), S1_4, (by simp only [World.size_setCell]; exact Nat.lt_of_lt_of_le hblo (b7.size)), ⟨World.cell?_setCell_same _ _ _ cz0, trivial⟩, (Below.setCell D1_7 (p := ⟨w4.heap.size, 0, none⟩) (S1_4) (.slice As0 (changeLockR m0 xs1 ys1 s1 xs2).1.length cs0))⟩
      · go_simp
        have b4 : Below w3.heap.size w3 (w3.alloc (.cells #[.slice none 0 0] 48)) := (Below.refl _ _).alloc (Nat.le_refl _) _
        have D1_4 := D1_3.trans (b4.mono D1_3.size)
        have HHeld := KS3.out _ D1_4
        refine hK.out _ _ HHeld (fun _ => ?_)
        clear hK K
        (try simp only [Act.put]); (try simp only [List.setIfInBounds_toArray]); (try simp only [List.set_cons_zero, List.set_cons_succ])
        refine wpAnyH_ready (rs := [3]) (by kernel_rfl) (by simp) (AllReadyH.cons rfl (fun K hK => ?_) AllReadyH.nil)
        go_simp
        have D0_2 := b1.trans (b2.mono b1.size)
        have D0_3 := D0_2.trans (b3.mono D0_2.size)
        have D0_4 := D0_3.trans (b4.mono D0_3.size)
        refine (toP A1 c1 xs1 B1 d1 ys1 s1 _ (Rxs1.below D0_4) (Rys1.below D0_4) zxs1 zys1).mono ?_
        rintro e w5 ⟨A1_5, c1_5, B1_5, d1_5, rfl, hc1_5, rA1_5, hd1_5, rB1_5, oA1_5, b5⟩
        have D1_5 := D1_4.trans (b5.mono D1_4.size)
        have HHeld := KS3.out _ D1_5
        refine hK.out _ _ HHeld (fun _ => ?_)
        clear hK K
        (try simp only [Act.put]); (try simp only [List.setIfInBounds_toArray]); (try simp only [List.set_cons_zero, List.set_cons_succ])
        refine wpAnyH_ready (rs := [5]) (by kernel_rfl) (by simp) (AllReadyH.cons rfl (fun K hK => ?_) AllReadyH.nil)
        go_simp
        have D0_5 := D0_4.trans (b5.mono D0_4.size)
        refine (toI A2 c2 xs2 _ (Rxs2.below D0_5) z2).mono ?_
        rintro e w6 ⟨A2_6, c2_6, rfl, hc2_6, rA2_6, oA2_6, b6, -⟩
        have D1_6 := D1_5.trans (b6.mono D1_5.size)
        have HHeld := KS3.out _ D1_6
        refine hK.out _ _ HHeld (fun _ => ?_)
        clear hK K
        (try simp only [Act.put]); (try simp only [List.setIfInBounds_toArray]); (try simp only [List.set_cons_zero, List.set_cons_succ])
        refine wpAnyH_ready (rs := [6]) (by kernel_rfl) (by simp) (AllReadyH.cons rfl (fun K hK => ?_) AllReadyH.nil)
        go_simp
        refine (specChangeLock_any m0 A1_5 c1_5 xs1 B1_5 d1_5 ys1 s1 A2_6 c2_6 xs2 _ (rA1_5.below b6) (rB1_5.below b6) rA2_6 hc1_5 hc2_6).mono ?_
        rintro e w7 ⟨As0, cs0, rfl, hcs0, rs0, os0, b7⟩
        have D1_7 := D1_6.trans (b7.mono D1_6.size)
        have HHeld := KS3.out _ D1_7
        refine hK.out _ _ HHeld (fun _ => ?_)
        clear hK K
        (try simp only [Act.put]); (try simp only [List.setIfInBounds_toArray]); (try simp only [List.set_cons_zero, List.set_cons_succ])
        refine takeD (i := 7) (some 27) (.tuple #[.agg #[.slice As0 (changeLockR m0 xs1 ys1 s1 xs2).1.length cs0], .int .i64 (changeLockR m0 xs1 ys1 s1 xs2).2]) rfl (by kernel_rfl) (by kernel_rfl) (by kernel_rfl) (by kernel_rfl) (fun _ _ _ h => h) (by assumption) (Or.inl ⟨by rfl, fun w hSw => by (try dsimp only at hSw); go_simp⟩) ?_
        simp only [Act.put, List.setIfInBounds_toArray, List.set_cons_zero, List.set_cons_succ]
        refine takeD (i := 8) (some 35) (.agg #[.slice As0 (changeLockR m0 xs1 ys1 s1 xs2).1.length cs0]) rfl (by kernel_rfl) (by kernel_rfl) (by kernel_rfl) (by kernel_rfl) (fun _ _ _ h => h) (by assumption) (Or.inl ⟨by rfl, fun w hSw => by (try dsimp only at hSw); go_simp⟩) ?_
        simp only [Act.put, List.setIfInBounds_toArray, List.set_cons_zero, List.set_cons_succ]
        refine takeD (i := 9) (some 36) (.int .i64 (changeLockR m0 xs1 ys1 s1 xs2).2) rfl (by kernel_rfl) (by kernel_rfl) (by kernel_rfl) (by kernel_rfl) (fun _ _ _ h => h) (by assumption) (Or.inl ⟨by rfl, fun w hSw => by (try dsimp only at hSw); go_simp⟩) ?_
        simp only [Act.put, List.setIfInBounds_toArray, List.set_cons_zero, List.set_cons_succ]
        have D4_6 := b5.trans (b6.mono b5.size)
        have D4_7 := D4_6.trans (b7.mono D4_6.size)
        have cz0 : w7.cell? ⟨w3.heap.size, 0, none⟩ = some (.slice none 0 0) := (D4_7.cell (p := ⟨w3.heap.size, 0, none⟩) (by simp)).trans (by simp)
        have fz0 : w7.frozen? ⟨w3.heap.size, 0, none⟩ = false := (D4_7.frozen (p := ⟨w3.heap.size, 0, none⟩) (by simp)).trans (by simp)
        have S1_3 := Nat.le_trans (b2.size) b3.size
        have S4_6 := Nat.le_trans (b5.size) b6.size
        have hblo : w3.heap.size < w6.heap.size := Nat.lt_of_lt_of_le (show w3.heap.size < (w3.alloc (.cells #[.slice none 0 0] 48)).heap.size by simp) (S4_6)
        refine wpAnyH_ready (rs := [11]) (by kernel_rfl) (by simp) (AllReadyH.cons rfl (fun K hK => ?_) AllReadyH.nil)
        go_simp
        have HHeld := KS3.out _ (Below.setCell D1_7 (p := ⟨w3.heap.size, 0, none⟩) (S1_3) (.slice As0 (changeLockR m0 xs1 ys1 s1 xs2).1.length cs0))
        refine hK.out _ _ HHeld (fun _ => ?_)
        clear hK K
        (try simp only [Act.put]); (try simp only [List.setIfInBounds_toArray]); (try simp only [List.set_cons_zero, List.set_cons_succ])
        refine takeD (i := 12) (some 9) (.int .i64 (changeLockR m0 xs1 ys1 s1 xs2).2) rfl (by kernel_rfl) (by kernel_rfl) (by kernel_rfl) (by kernel_rfl) (fun _ _ _ h => h) (by assumption) (Or.inl ⟨by rfl, fun w hSw => by (try dsimp only at hSw); go_simp⟩) ?_
        (try simp only [Act.put]); (try simp only [List.setIfInBounds_toArray]); (try simp only [List.set_cons_zero, List.set_cons_succ])
        refine wpAnyH_done (by kernel_rfl) ?_ _
        have S1_4 := Nat.le_trans (S1_3) b4.size
        have S1_5 := Nat.le_trans (S1_4) b5.size
        have S1_6 := Nat.le_trans (S1_5) b6.size
        go_wp2_with fail
        go_meet
        exact ⟨As0, cs0, w6.heap.size, w7.heap.size, w3.heap.size, rfl, rfl, hcs0, (OII.setLow (p := ⟨w3.heap.size, 0, none⟩) (by simp only; exact hblo) os0), (Or.inl (Nat.lt_of_lt_of_le hblo (Nat.le_refl _))), S1_6, b7.size, (by simp only [World.size_setCell]; exact Nat.le_refl _), S1_3, (by simp only [World.size_setCell]; exact Nat.lt_of_lt_of_le hblo (b7.size)), ⟨World.cell?_setCell_same _ _ _ cz0, trivial⟩, (Below.setCell D1_7 (p := ⟨w3.heap.size, 0, none⟩) (S1_3) (.slice As0 (changeLockR m0 xs1 ys1 s1 xs2).1.length cs0))⟩
    · go_simp
      have b3 : Below w1.drew.heap.size w1.drew (w1.drew.alloc (.cells #[.slice none 0 0] 48)) := (Below.refl _ _).alloc (Nat.le_refl _) _
      have D1_3 := b2.trans (b3.mono b2.size)
      have HHeld := KS3.out _ D1_3
      refine hK.out _ _ HHeld (fun _ => ?_)
      clear hK K
      (try simp only [Act.put]); (try simp only [List.setIfInBounds_toArray]); (try simp only [List.set_cons_zero, List.set_cons_succ])
      refine wpAnyH_ready (rs := [1]) (by kernel_rfl) (by simp) (AllReadyH.cons rfl (fun K hK => ?_) AllReadyH.nil)
      go_simp
      refine (toM m0.c m0.d m0.s m0.a m0.l _).mono ?_
      rintro e w4 ⟨rfl, b4⟩
      have D1_4 := D1_3.trans (b4.mono D1_3.size)
      have HHeld := KS3.out _ D1_4
      refine hK.out _ _ HHeld (fun _ => ?_)
      clear hK K
      (try simp only [Act.put]); (try simp only [List.setIfInBounds_toArray]); (try simp only [List.set_cons_zero, List.set_cons_succ])
      refine wpAnyH_ready (rs := [3]) (by kernel_rfl) (by simp) (AllReadyH.cons rfl (fun K hK => ?_) AllReadyH.nil)
      go_simp
      have D0_2 := b1.trans (b2.mono b1.size)
      have D0_3 := D0_2.trans (b3.mono D0_2.size)
      have D0_4 := D0_3.trans (b4.mono D0_3.size)
      refine (toP A1 c1 xs1 B1 d1 ys1 s1 _ (Rxs1.below D0_4) (Rys1.below D0_4) zxs1 zys1).mono ?_
      rintro e w5 ⟨A1_5, c1_5, B1_5, d1_5, rfl, hc1_5, rA1_5, hd1_5, rB1_5, oA1_5, b5⟩
      have D1_5 := D1_4.trans (b5.mono D1_4.size)
      have HHeld := KS3.out _ D1_5
      refine hK.out _ _ HHeld (fun _ => ?_)
      clear hK K
      (try simp only [Act.put]); (try simp only [List.setIfInBounds_toArray]); (try simp only [List.set_cons_zero, List.set_cons_succ])
      refine wpAnyH_ready (rs := [5]) (by kernel_rfl) (by simp) (AllReadyH.cons rfl (fun K hK => ?_) AllReadyH.nil)
      go_simp
      have D0_5 := D0_4.trans (b5.mono D0_4.size)
      refine (toI A2 c2 xs2 _ (Rxs2.below D0_5) z2).mono ?_
      rintro e w6 ⟨A2_6, c2_6, rfl, hc2_6, rA2_6, oA2_6, b6, -⟩
      have D1_6 := D1_5.trans (b6.mono D1_5.size)
      have HHeld := KS3.out _ D1_6
      refine hK.out _ _ HHeld (fun _ => ?_)
      clear hK K
      (try simp only [Act.put]); (try simp only [List.setIfInBounds_toArray]); (try simp only [List.set_cons_zero, List.set_cons_succ])
      refine wpAnyH_ready (rs := [6]) (by kernel_rfl) (by simp) (AllReadyH.cons rfl (fun K hK => ?_) AllReadyH.nil)
      go_simp
      refine (specChangeLock_any m0 A1_5 c1_5 xs1 B1_5 d1_5 ys1 s1 A2_6 c2_6 xs2 _ (rA1_5.below b6) (rB1_5.below b6) rA2_6 hc1_5 hc2_6).mono ?_
      rintro e w7 ⟨As0, cs0, rfl, hcs0, rs0, os0, b7⟩
      have D1_7 := D1_6.trans (b7.mono D1_6.size)
      have HHeld := KS3.out _ D1_7
      refine hK.out _ _ HHeld (fun _ => ?_)
      clear hK K
      (try simp only [Act.put]); (try simp only [List.setIfInBounds_toArray]); (try simp only [List.set_cons_zero, List.set_cons_succ])
      refine takeD (i := 7) (some 27) (.tuple #[.agg #[.slice As0 (changeLockR m0 xs1 ys1 s1 xs2).1.length cs0], .int .i64 (changeLockR m0 xs1 ys1 s1 xs2).2]) rfl (by kernel_rfl) (by kernel_rfl) (by kernel_rfl) (by kernel_rfl) (fun _ _ _ h => h) (by assumption) (Or.inl ⟨by rfl, fun w hSw => by (try dsimp only at hSw); go_simp⟩) ?_
      simp only [Act.put, List.setIfInBounds_toArray, List.set_cons_zero, List.set_cons_succ]
      refine takeD (i := 8) (some 35) (.agg #[.slice As0 (changeLockR m0 xs1 ys1 s1 xs2).1.length cs0]) rfl (by kernel_rfl) (by kernel_rfl) (by kernel_rfl) (by kernel_rfl) (fun _ _ _ h => h) (by assumption) (Or.inl ⟨by rfl, fun w hSw => by (try dsimp only at hSw); go_simp⟩) ?_
      simp only [Act.put, List.setIfInBounds_toArray, List.set_cons_zero, List.set_cons_succ]
      refine takeD (i := 9) (some 36) (.int .i64 (changeLockR m0 xs1 ys1 s1 xs2).2) rfl (by kernel_rfl) (by kernel_rfl) (by kernel_rfl) (by kernel_rfl) (fun _ _ _ h => h) (by assumption) (Or.inl ⟨by rfl, fun w hSw => by (try dsimp only at hSw); go_simp⟩) ?_
      simp only [Act.put, List.setIfInBounds_toArray, List.set_cons_zero, List.set_cons_succ]
      have D3_5 := b4.trans (b5.mono b4.size)
      have D3_6 := D3_5.trans (b6.mono D3_5.size)
      have D3_7 := D3_6.trans (b7.mono D3_6.size)
      have cz0 : w7.cell? ⟨w1.heap.size, 0, none⟩ = some (.slice none 0 0) := (D3_7.cell (p := ⟨w1.heap.size, 0, none⟩) (by simp)).trans (by simp)
      have fz0 : w7.frozen? ⟨w1.heap.size, 0, none⟩ = false := (D3_7.frozen (p := ⟨w1.heap.size, 0, none⟩) (by simp)).trans (by simp)
      have S3_5 := Nat.le_trans (b4.size) b5.size
      have S3_6 := Nat.le_trans (S3_5) b6.size
      have hblo : w1.heap.size < w6.heap.size := Nat.lt_of_lt_of_le (show w1.heap.size < (w1.drew.alloc (.cells #[.slice none 0 0] 48)).heap.size by simp) (S3_6)
      refine wpAnyH_ready (rs := [11]) (by kernel_rfl) (by simp) (AllReadyH.cons rfl (fun K hK => ?_) AllReadyH.nil)
      go_simp
      have HHeld := KS3.out _ (Below.setCell D1_7 (p := ⟨w1.heap.size, 0, none⟩) (b2.size) (.slice As0 (changeLockR m0 xs1 ys1 s1 xs2).1.length cs0))
      refine hK.out _ _ HHeld (fun _ => ?_)
      clear hK K
      (try simp only [Act.put]); (try simp only [List.setIfInBounds_toArray]); (try simp only [List.set_cons_zero, List.set_cons_succ])
      refine takeD (i := 12) (some 9) (.int .i64 (changeLockR m0 xs1 ys1 s1 xs2).2) rfl (by kernel_rfl) (by kernel_rfl) (by kernel_rfl) (by kernel_rfl) (fun _ _ _ h => h) (by assumption) (Or.inl ⟨by rfl, fun w hSw => by (try dsimp only at hSw); go_simp⟩) ?_
      (try simp only [Act.put]); (try simp only [List.setIfInBounds_toArray]); (try simp only [List.set_cons_zero, List.set_cons_succ])
      refine wpAnyH_done (by kernel_rfl) ?_ _
      have S1_3 := Nat.le_trans (b2.size) b3.size
      have S1_4 := Nat.le_trans (S1_3) b4.size
      have S1_5 := Nat.le_trans (S1_4) b5.size
      have S1_6 := Nat.le_trans (S1_5) b6.size
      go_wp2_with fail
      go_meet
      exact ⟨As0, cs0, w6.heap.size, w7.heap.size, w1.heap.size, rfl, rfl, hcs0, (OII.setLow (p := ⟨w1.heap.size, 0, none⟩) (by simp only; exact hblo) os0), (Or.inl (Nat.lt_of_lt_of_le hblo (Nat.le_refl _))), S1_6, b7.size, (by simp only [World.size_setCell]; exact Nat.le_refl _), b2.size, (by simp only [World.size_setCell]; exact Nat.lt_of_lt_of_le hblo (b7.size)), ⟨World.cell?_setCell_same _ _ _ cz0, trivial⟩, (Below.setCell D1_7 (p := ⟨w1.heap.size, 0, none⟩) (b2.size) (.slice As0 (changeLockR m0 xs1 ys1 s1 xs2).1.length cs0))⟩
  obtain ⟨As0, cs0, los0, his0, bbs, rfl, rfl, hcs0, os0, hds0, les0, lhs0, hles, bbgs, bbls, bxcs, b4⟩ := hcut
  rename World => w4
  have rs0 := OII.rii os0
  have bq4 := BoxC.below bq1 b4
  have q0 : w4.cell? ⟨w.heap.size, 0, none⟩ = some (.int .i64 m0.c) ∧ w4.cell? ⟨w.heap.size, 1, none⟩ = some (.int .i64 m0.d) ∧ w4.cell? ⟨w.heap.size, 2, none⟩ = some (.int .i64 m0.s) ∧ w4.cell? ⟨w.heap.size, 3, none⟩ = some (.int .i64 m0.a) ∧ w4.cell? ⟨w.heap.size, 4, none⟩ = some (.int .i64 m0.l) ∧ True := bq4
  have bq5 := BoxC.below bq2 b4
  have q1 : w4.cell? ⟨w.heap.size + 1, 0, none⟩ = some (.slice A1 xs1.length c1) ∧ w4.cell? ⟨w.heap.size + 1, 1, none⟩ = some (.slice B1 ys1.length d1) ∧ w4.cell? ⟨w.heap.size + 1, 2, none⟩ = some (.int .i64 s1) ∧ True := bq5
  have q2 : w4.cell? ⟨bbs, 0, none⟩ = some (.slice As0 (changeLockR m0 xs1 ys1 s1 xs2).1.length cs0) ∧ True := bxcs
  go_wp2_with fail
  clear q0 q1 q2
  have D0_4 := b1.trans (b4.mono b1.size)
  refine (toP A1 c1 xs1 B1 d1 ys1 s1 _ (Rxs1.below D0_4) (Rys1.below D0_4) zxs1 zys1).mono ?_
  rintro e w5 ⟨A1_5, c1_5, B1_5, d1_5, rfl, hc1_5, rA1_5, hd1_5, rB1_5, oA1_5, b5⟩
  have b6 : Below w5.heap.size w5 (w5.alloc (.cells #[.slice A1_5 xs1.length c1_5, .slice B1_5 ys1.length d1_5, .int .i64 s1] 58)) := (Below.refl _ _).alloc (Nat.le_refl _) _
  have bq6 : BoxC (w5.alloc (.cells #[.slice A1_5 xs1.length c1_5, .slice B1_5 ys1.length d1_5, .int .i64 s1] 58)) (w5.heap.size) 0 [.slice A1_5 xs1.length c1_5, .slice B1_5 ys1.length d1_5, .int .i64 s1] := by simp [BoxC, Go.World.cell?_alloc_at]
  have D4_6 := b5.trans (b6.mono b5.size)
  have bq7 := BoxC.below bq4 D4_6
  have q0 : (w5.alloc (.cells #[.slice A1_5 xs1.length c1_5, .slice B1_5 ys1.length d1_5, .int .i64 s1] 58)).cell? ⟨w.heap.size, 0, none⟩ = some (.int .i64 m0.c) ∧ (w5.alloc (.cells #[.slice A1_5 xs1.length c1_5, .slice B1_5 ys1.length d1_5, .int .i64 s1] 58)).cell? ⟨w.heap.size, 1, none⟩ = some (.int .i64 m0.d) ∧ (w5.alloc (.cells #[.slice A1_5 xs1.length c1_5, .slice B1_5 ys1.length d1_5, .int .i64 s1] 58)).cell? ⟨w.heap.size, 2, none⟩ = some (.int .i64 m0.s) ∧ (w5.alloc (.cells #[.slice A1_5 xs1.length c1_5, .slice B1_5 ys1.length d1_5, .int .i64 s1] 58)).cell? ⟨w.heap.size, 3, none⟩ = some (.int .i64 m0.a) ∧ (w5.alloc (.cells #[.slice A1_5 xs1.length c1_5, .slice B1_5 ys1.length d1_5, .int .i64 s1] 58)).cell? ⟨w.heap.size, 4, none⟩ = some (.int .i64 m0.l) ∧ True := bq7
  have bq8 := BoxC.below bq5 D4_6
  have q1 : (w5.alloc (.cells #[.slice A1_5 xs1.length c1_5, .slice B1_5 ys1.length d1_5, .int .i64 s1] 58)).cell? ⟨w.heap.size + 1, 0, none⟩ = some (.slice A1 xs1.length c1) ∧ (w5.alloc (.cells #[.slice A1_5 xs1.length c1_5, .slice B1_5 ys1.length d1_5, .int .i64 s1] 58)).cell? ⟨w.heap.size + 1, 1, none⟩ = some (.slice B1 ys1.length d1) ∧ (w5.alloc (.cells #[.slice A1_5 xs1.length c1_5, .slice B1_5 ys1.length d1_5, .int .i64 s1] 58)).cell? ⟨w.heap.size + 1, 2, none⟩ = some (.int .i64 s1) ∧ True := bq8
  have bq9 := BoxC.below bxcs D4_6
  have q2 : (w5.alloc (.cells #[.slice A1_5 xs1.length c1_5, .slice B1_5 ys1.length d1_5, .int .i64 s1] 58)).cell? ⟨bbs, 0, none⟩ = some (.slice As0 (changeLockR m0 xs1 ys1 s1 xs2).1.length cs0) ∧ True := bq9
  have q3 : (w5.alloc (.cells #[.slice A1_5 xs1.length c1_5, .slice B1_5 ys1.length d1_5, .int .i64 s1] 58)).cell? ⟨w5.heap.size, 0, none⟩ = some (.slice A1_5 xs1.length c1_5) ∧ (w5.alloc (.cells #[.slice A1_5 xs1.length c1_5, .slice B1_5 ys1.length d1_5, .int .i64 s1] 58)).cell? ⟨w5.heap.size, 1, none⟩ = some (.slice B1_5 ys1.length d1_5) ∧ (w5.alloc (.cells #[.slice A1_5 xs1.length c1_5, .slice B1_5 ys1.length d1_5, .int .i64 s1] 58)).cell? ⟨w5.heap.size, 2, none⟩ = some (.int .i64 s1) ∧ True := bq6
  go_wp2_with fail
  clear q0 q1 q2 q3
  have D0_5 := D0_4.trans (b5.mono D0_4.size)
  have D0_6 := D0_5.trans (b6.mono D0_5.size)
  refine (toI A2 c2 xs2 _ (Rxs2.below D0_6) z2).mono ?_
  rintro e w7 ⟨A2_7, c2_7, rfl, hc2_7, rA2_7, oA2_7, b7, -⟩
  have bq10 := BoxC.below bq7 b7
  have q0 : w7.cell? ⟨w.heap.size, 0, none⟩ = some (.int .i64 m0.c) ∧ w7.cell? ⟨w.heap.size, 1, none⟩ = some (.int .i64 m0.d) ∧ w7.cell? ⟨w.heap.size, 2, none⟩ = some (.int .i64 m0.s) ∧ w7.cell? ⟨w.heap.size, 3, none⟩ = some (.int .i64 m0.a) ∧ w7.cell? ⟨w.heap.size, 4, none⟩ = some (.int .i64 m0.l) ∧ True := bq10
  have bq11 := BoxC.below bq8 b7
  have q1 : w7.cell? ⟨w.heap.size + 1, 0, none⟩ = some (.slice A1 xs1.length c1) ∧ w7.cell? ⟨w.heap.size + 1, 1, none⟩ = some (.slice B1 ys1.length d1) ∧ w7.cell? ⟨w.heap.size + 1, 2, none⟩ = some (.int .i64 s1) ∧ True := bq11
  have bq12 := BoxC.below bq9 b7
  have q2 : w7.cell? ⟨bbs, 0, none⟩ = some (.slice As0 (changeLockR m0 xs1 ys1 s1 xs2).1.length cs0) ∧ True := bq12
  have bq13 := BoxC.below bq6 b7
  have q3 : w7.cell? ⟨w5.heap.size, 0, none⟩ = some (.slice A1_5 xs1.length c1_5) ∧ w7.cell? ⟨w5.heap.size, 1, none⟩ = some (.slice B1_5 ys1.length d1_5) ∧ w7.cell? ⟨w5.heap.size, 2, none⟩ = some (.int .i64 s1) ∧ True := bq13
  go_wp2_with fail
  clear q0 q1 q2 q3
  have KS14 := Lib.hid (show ∀ w' : World, Below w7.heap.size w7 w' → ((w'.cell? ⟨w.heap.size, 0, none⟩ = some (.int .i64 m0.c) ∧ w'.cell? ⟨w.heap.size, 1, none⟩ = some (.int .i64 m0.d) ∧ w'.cell? ⟨w.heap.size, 2, none⟩ = some (.int .i64 m0.s) ∧ w'.cell? ⟨w.heap.size, 3, none⟩ = some (.int .i64 m0.a) ∧ w'.cell? ⟨w.heap.size, 4, none⟩ = some (.int .i64 m0.l) ∧ True) ∧ (w'.cell? ⟨w5.heap.size, 0, none⟩ = some (.slice A1_5 xs1.length c1_5) ∧ w'.cell? ⟨w5.heap.size, 1, none⟩ = some (.slice B1_5 ys1.length d1_5) ∧ w'.cell? ⟨w5.heap.size, 2, none⟩ = some (.int .i64 s1) ∧ True)) from fun w' hb => ⟨BoxC.below bq10 hb, BoxC.below bq13 hb⟩)
  go_cut [12, 13] (fun p0 p1 wx => ∃ (Ag0 : Option Addr) (cg0 log0 hig0 : Nat) (bb : Nat), p0 = .pointer (some ⟨bb, 0, none⟩) ∧ p1 = .int .i64 (changeLockR m0 xs1 ys1 s1 xs2).2 ∧ (changeLockR m0 xs1 ys1 s1 xs2).1.length ≤ cg0 ∧ OII wx log0 hig0 (.slice Ag0 (changeLockR m0 xs1 ys1 s1 xs2).1.length cg0) (changeLockR m0 xs1 ys1 s1 xs2).1 ∧ (bb < log0 ∨ hig0 ≤ bb) ∧ w7.heap.size ≤ log0 ∧ log0 ≤ hig0 ∧ hig0 ≤ wx.heap.size ∧ w7.heap.size ≤ bb ∧ bb < wx.heap.size ∧ BoxC wx bb 0 [.slice Ag0 (changeLockR m0 xs1 ys1 s1 xs2).1.length cg0] ∧ Below w7.heap.size w7 wx)
  case first =>
    refine wp_region_held_drew (S := (fun w' => (w'.cell? ⟨w.heap.size, 0, none⟩ = some (.int .i64 m0.c) ∧ w'.cell? ⟨w.heap.size, 1, none⟩ = some (.int .i64 m0.d) ∧ w'.cell? ⟨w.heap.size, 2, none⟩ = some (.int .i64 m0.s) ∧ w'.cell? ⟨w.heap.size, 3, none⟩ = some (.int .i64 m0.a) ∧ w'.cell? ⟨w.heap.size, 4, none⟩ = some (.int .i64 m0.l) ∧ True) ∧ (w'.cell? ⟨w5.heap.size, 0, none⟩ = some (.slice A1_5 xs1.length c1_5) ∧ w'.cell? ⟨w5.heap.size, 1, none⟩ = some (.slice B1_5 ys1.length d1_5) ∧ w'.cell? ⟨w5.heap.size, 2, none⟩ = some (.int .i64 s1) ∧ True))) (by kernel_rfl) (KS14.out _ (belowDrew0 _)) (fun hHeld => ?_)
    refine takeD (i := 0) (some 42) (.agg #[.int .i64 m0.c, .int .i64 m0.d, .int .i64 m0.s, .int .i64 m0.a, .int .i64 m0.l]) rfl (by kernel_rfl) (by kernel_rfl) (by kernel_rfl) (by kernel_rfl) (fun _ _ _ h => h) (by assumption) (Or.inl ⟨by rfl, fun w hSw => by (try dsimp only at hSw); go_simp⟩) ?_
    simp only [Act.put, List.setIfInBounds_toArray, List.set_cons_zero, List.set_cons_succ]
    refine takeD (i := 2) (some 44) (.agg #[.slice A1_5 xs1.length c1_5, .slice B1_5 ys1.length d1_5, .int .i64 s1]) rfl (by kernel_rfl) (by kernel_rfl) (by kernel_rfl) (by kernel_rfl) (fun _ _ _ h => h) (by assumption) (Or.inl ⟨by rfl, fun w hSw => by (try dsimp only at hSw); go_simp⟩) ?_
    simp only [Act.put, List.setIfInBounds_toArray, List.set_cons_zero, List.set_cons_succ]
    refine takeD (i := 3) (some 45) (.slice A2_7 xs2.length c2_7) rfl (by kernel_rfl) (by kernel_rfl) (by kernel_rfl) (by kernel_rfl) (fun _ _ _ h => h) (by assumption) (Or.inl ⟨by rfl, fun w hSw => by (try dsimp only at hSw); go_simp⟩) ?_
    simp only [Act.put, List.setIfInBounds_toArray, List.set_cons_zero, List.set_cons_succ]
    have b8 := belowDrew0 w7
    refine wpAnyH_ready (rs := [1, 8]) (by kernel_rfl) (by simp) (AllReadyH.cons rfl (fun K hK => ?_) (AllReadyH.cons rfl (fun K hK => ?_) AllReadyH.nil))
    · go_simp
      refine (toM m0.c m0.d m0.s m0.a m0.l _).mono ?_
      rintro e w9 ⟨rfl, b9⟩
      have D7_9 := b8.trans (b9.mono b8.size)
      have HHeld := KS14.out _ D7_9
      refine hK.out _ _ HHeld (fun _ => ?_)
      clear hK K
      (try simp only [Act.put]); (try simp only [List.setIfInBounds_toArray]); (try simp only [List.set_cons_zero, List.set_cons_succ])
      refine wpAnyH_ready (rs := [4, 8]) (by kernel_rfl) (by simp) (AllReadyH.cons rfl (fun K hK => ?_) (AllReadyH.cons rfl (fun K hK => ?_) AllReadyH.nil))
      · go_simp
        have D5_7 := b6.trans (b7.mono b6.size)
        have D5_8 := D5_7.trans (b8.mono D5_7.size)
        have D5_9 := D5_8.trans (b9.mono D5_8.size)
        refine (implChangeLock_any m0 A1_5 c1_5 xs1 B1_5 d1_5 ys1 s1 A2_7 c2_7 xs2 _ (rA1_5.below D5_9) (rB1_5.below D5_9) (rA2_7.below D7_9) hc1_5 hc2_7).mono ?_
        rintro e w10 ⟨Ag0, cg0, rfl, hcg0, rg0, og0, b10⟩
        have D7_10 := D7_9.trans (b10.mono D7_9.size)
        have HHeld := KS14.out _ D7_10
        refine hK.out _ _ HHeld (fun _ => ?_)
        clear hK K
        (try simp only [Act.put]); (try simp only [List.setIfInBounds_toArray]); (try simp only [List.set_cons_zero, List.set_cons_succ])
        refine takeD (i := 5) (some 41) (.tuple #[.agg #[.slice Ag0 (changeLockR m0 xs1 ys1 s1 xs2).1.length cg0], .int .i64 (changeLockR m0 xs1 ys1 s1 xs2).2]) rfl (by kernel_rfl) (by kernel_rfl) (by kernel_rfl) (by kernel_rfl) (fun _ _ _ h => h) (by assumption) (Or.inl ⟨by rfl, fun w hSw => by (try dsimp only at hSw); go_simp⟩) ?_
        simp only [Act.put, List.setIfInBounds_toArray, List.set_cons_zero, List.set_cons_succ]
        refine takeD (i := 6) (some 47) (.agg #[.slice Ag0 (changeLockR m0 xs1 ys1 s1 xs2).1.length cg0]) rfl (by kernel_rfl) (by kernel_rfl) (by kernel_rfl) (by kernel_rfl) (fun _ _ _ h => h) (by assumption) (Or.inl ⟨by rfl, fun w hSw => by (try dsimp only at hSw); go_simp⟩) ?_
        simp only [Act.put, List.setIfInBounds_toArray, List.set_cons_zero, List.set_cons_succ]
        refine takeD (i := 7) (some 48) (.int .i64 (changeLockR m0 xs1 ys1 s1 xs2).2) rfl (by kernel_rfl) (by kernel_rfl) (by kernel_rfl) (by kernel_rfl) (fun _ _ _ h => h) (by assumption) (Or.inl ⟨by rfl, fun w hSw => by (try dsimp only at hSw); go_simp⟩) ?_
        simp only [Act.put, List.setIfInBounds_toArray, List.set_cons_zero, List.set_cons_succ]
        refine wpAnyH_ready (rs := [8]) (by kernel_rfl) (by simp) (AllReadyH.cons rfl (fun K hK => ?_) AllReadyH.nil)
        go_simp
        have b11 : Below w10.heap.size w10 (w10.alloc (.cells #[.slice none 0 0] 48)) := (Below.refl _ _).alloc (Nat.le_refl _) _
        have D7_11 := D7_10.trans (b11.mono D7_10.size)
        have HHeld := KS14.out _ D7_11
        refine hK.out _ _ HHeld (fun _ => ?_)
        clear hK K
        (try simp only [Act.put]); (try simp only [List.setIfInBounds_toArray]); (try simp only [List.set_cons_zero, List.set_cons_succ])
        have S7_9 := Nat.le_trans (b8.size) b9.size
        have S7_10 := Nat.le_trans (S7_9) b10.size
        refine wpAnyH_ready (rs := [9]) (by kernel_rfl) (by simp) (AllReadyH.cons rfl (fun K hK => ?_) AllReadyH.nil)
        go_simp
        have HHeld := KS14.out _ (Below.alloc D7_10 (S7_10) (.cells #[.slice Ag0 (changeLockR m0 xs1 ys1 s1 xs2).1.length cg0] 48))
        refine hK.out _ _ HHeld (fun _ => ?_)
        clear hK K
        (try simp only [Act.put]); (try simp only [List.setIfInBounds_toArray]); (try simp only [List.set_cons_zero, List.set_cons_succ])
        refine takeD (i := 10) (some 13) (.int .i64 (changeLockR m0 xs1 ys1 s1 xs2).2) rfl (by kernel_rfl) (by kernel_rfl) (by kernel_rfl) (by kernel_rfl) (fun _ _ _ h => h) (by assumption) (Or.inl ⟨by rfl, fun w hSw => by (try dsimp only at hSw); go_simp⟩) ?_
        (try simp only [Act.put]); (try simp only [List.setIfInBounds_toArray]); (try simp only [List.set_cons_zero, List.set_cons_succ])
        refine wpAnyH_done (by kernel_rfl) ?_ _
        go_wp2_with fail
        go_meet
        exact ⟨Ag0, cg0, w9.heap.size, w10.heap.size, w10.heap.size, rfl, rfl, hcg0, ((og0).below ((Below.refl _ _).alloc (Nat.le_refl _) _)), (Or.inr (Nat.le_refl _)), S7_9, b10.size, (by simp), S7_10, (by simp), (by simp [BoxC, Go.World.cell?_alloc_at]), (Below.alloc D7_10 (S7_10) (.cells #[.slice Ag0 (changeLockR m0 xs1 ys1 s1 xs2).1.length cg0] 48))⟩
      · go_simp
        have b10 : Below w9.heap.size w9 (w9.alloc (.cells #[.slice none 0 0] 48)) := (Below.refl _ _).alloc (Nat.le_refl _) _
        have D7_10 := D7_9.trans (b10.mono D7_9.size)
        have HHeld := KS14.out _ D7_10
        refine hK.out _ _ HHeld (fun _ => ?_)
        clear hK K
        (try simp only [Act.put]); (try simp only [List.setIfInBounds_toArray]); (try simp only [List.set_cons_zero, List.set_cons_succ])
        refine wpAnyH_ready (rs := [4]) (by kernel_rfl) (by simp) (AllReadyH.cons rfl (fun K hK => ?_) AllReadyH.nil)
        go_simp
        have D5_7 := b6.trans (b7.mono b6.size)
        have D5_8 := D5_7.trans (b8.mono D5_7.size)
        have D5_9 := D5_8.trans (b9.mono D5_8.size)
        have D5_10 := D5_9.trans (b10.mono D5_9.size)
        refine (implChangeLock_any m0 A1_5 c1_5 xs1 B1_5 d1_5 ys1 s1 A2_7 c2_7 xs2 _ (rA1_5.below D5_10) (rB1_5.below D5_10) (rA2_7.below D7_10) hc1_5 hc2_7).mono ?_
        rintro e w11 ⟨Ag0, cg0, rfl, hcg0, rg0, og0, b11⟩
        have D7_11 := D7_10.trans (b11.mono D7_10.size)
        have HHeld := KS14.out _ D7_11
        refine hK.out _ _ HHeld (fun _ => ?_)
        clear hK K
        (try simp only [Act.put]); (try simp only [List.setIfInBounds_toArray]); (try simp only [List.set_cons_zero, List.set_cons_succ])
        refine takeD (i := 5) (some 41) (.tuple #[.agg #[.slice Ag0 (changeLockR m0 xs1 ys1 s1 xs2).1.length cg0], .int .i64 (changeLockR m0 xs1 ys1 s1 xs2).2]) rfl (by kernel_rfl) (by kernel_rfl) (by kernel_rfl) (by kernel_rfl) (fun _ _ _ h => h) (by assumption) (Or.inl ⟨by rfl, fun w hSw => by (try dsimp only at hSw); go_simp⟩) ?_
        simp only [Act.put, List.setIfInBounds_toArray, List.set_cons_zero, List.set_cons_succ]
        refine takeD (i := 6) (some 47) (.agg #[.slice Ag0 (changeLockR m0 xs1 ys1 s1 xs2).1.length cg0]) rfl (by kernel_rfl) (by kernel_rfl) (by kernel_rfl) (by kernel_rfl) (fun _ _ _ h => h) (by assumption) (Or.inl ⟨by rfl, fun w hSw => by (try dsimp only at hSw); go_simp⟩) ?_
        simp only [Act.put, List.setIfInBounds_toArray, List.set_cons_zero, List.set_cons_succ]
        refine takeD (i := 7) (some 48) (.int .i64 (changeLockR m0 xs1 ys1 s1 xs2).2) rfl (by kernel_rfl) (by kernel_rfl) (by kernel_rfl) (by kernel_rfl) (fun _ _ _ h => h) (by assumption) (Or.inl ⟨by rfl, fun w hSw => by (try dsimp only at hSw); go_simp⟩) ?_
        simp only [Act.put, List.setIfInBounds_toArray, List.set_cons_zero, List.set_cons_succ]
        have cz0 : w11.cell? ⟨w9.heap.size, 0, none⟩ = some (.slice none 0 0) := (b11.cell (p := ⟨w9.heap.size, 0, none⟩) (by simp)).trans (by simp)
        have fz0 : w11.frozen? ⟨w9.heap.size, 0, none⟩ = false := (b11.frozen (p := ⟨w9.heap.size, 0, none⟩) (by simp)).trans (by simp)
        have S7_9 := Nat.le_trans (b8.size) b9.size
        have hblo : w9.heap.size < (w9.alloc (.cells #[.slice none 0 0] 48)).heap.size := Nat.lt_of_lt_of_le (show w9.heap.size < (w9.alloc (.cells #[.slice none 0 0] 48)).heap.size by simp) (Nat.le_refl _)
        refine wpAnyH_ready (rs := [9]) (by kernel_rfl) (by simp) (AllReadyH.cons rfl (fun K hK => ?_) AllReadyH.nil)
        go_simp
        have HHeld := KS14.out _ (Below.setCell D7_11 (p := ⟨w9.heap.size, 0, none⟩) (S7_9) (.slice Ag0 (changeLockR m0 xs1 ys1 s1 xs2).1.length cg0))
        refine hK.out _ _ HHeld (fun _ => ?_)
        clear hK K
        (try simp only [Act.put]); (try simp only [List.setIfInBounds_toArray]); (try simp only [List.set_cons_zero, List.set_cons_succ])
        refine takeD (i := 10) (some 13) (.int .i64 (changeLockR m0 xs1 ys1 s1 xs2).2) rfl (by kernel_rfl) (by kernel_rfl) (by kernel_rfl) (by kernel_rfl) (fun _ _ _ h => h) (by assumption) (Or.inl ⟨by rfl, fun w hSw => by (try dsimp only at hSw); go_simp⟩) ?_
        (try simp only [Act.put]); (try simp only [List.setIfInBounds_toArray]); (try simp only [List.set_cons_zero, List.set_cons_succ])
        refine wpAnyH_done (by kernel_rfl) ?_ _
        have S7_10 := Nat.le_trans (S7_9) b10.size
        go_wp2_with fail
        go_meet
        exact ⟨Ag0, cg0, (w9.alloc (.cells #[.slice none 0 0] 48)).heap.size, w11.heap.size, w9.heap.size, rfl, rfl, hcg0, (OII.setLow (p := ⟨w9.heap.size, 0, none⟩) (by simp only; exact hblo) og0), (Or.inl (Nat.lt_of_lt_of_le hblo (Nat.le_refl _))), S7_10, b11.size, (by simp only [World.size_setCell]; exact Nat.le_refl _), S7_9, (by simp only [World.size_setCell]; exact Nat.lt_of_lt_of_le hblo (b11.size)), ⟨World.cell?_setCell_same _ _ _ cz0, trivial⟩, (Below.setCell D7_11 (p := ⟨w9.heap.size, 0, none⟩) (S7_9) (.slice Ag0 (changeLockR m0 xs1 ys1 s1 xs2).1.length cg0))⟩
    · go_simp
      have b9 : Below w7.drew.heap.size w7.drew (w7.drew.alloc (.cells #[.slice none 0 0] 48)) := (Below.refl _ _).alloc (Nat.le_refl _) _
      have D7_9 := b8.trans (b9.mono b8.size)
      have HHeld := KS14.out _ D7_9
      refine hK.out _ _ HHeld (fun _ => ?_)
      clear hK K
      (try simp only [Act.put]); (try simp only [List.setIfInBounds_toArray]); (try simp only [List.set_cons_zero, List.set_cons_succ])
      refine wpAnyH_ready (rs := [1]) (by kernel_rfl) (by simp) (AllReadyH.cons rfl (fun K hK => ?_) AllReadyH.nil)
      go_simp
      refine (toM m0.c m0.d m0.s m0.a m0.l _).mono ?_
      rintro e w10 ⟨rfl, b10⟩
      have D7_10 := D7_9.trans (b10.mono D7_9.size)
      have HHeld := KS14.out _ D7_10
      refine hK.out _ _ HHeld (fun _ => ?_)
      clear hK K
      (try simp only [Act.put]); (try simp only [List.setIfInBounds_toArray]); (try simp only [List.set_cons_zero, List.set_cons_succ])
      refine wpAnyH_ready (rs := [4]) (by kernel_rfl) (by simp) (AllReadyH.cons rfl (fun K hK => ?_) AllReadyH.nil)
      go_simp
      have D5_7 := b6.trans (b7.mono b6.size)
      have D5_8 := D5_7.trans (b8.mono D5_7.size)
      have D5_9 := D5_8.trans (b9.mono D5_8.size)
      have D5_10 := D5_9.trans (b10.mono D5_9.size)
      refine (implChangeLock_any m0 A1_5 c1_5 xs1 B1_5 d1_5 ys1 s1 A2_7 c2_7 xs2 _ (rA1_5.below D5_10) (rB1_5.below D5_10) (rA2_7.below D7_10) hc1_5 hc2_7).mono ?_
      rintro e w11 ⟨Ag0, cg0, rfl, hcg0, rg0, og0, b11⟩
      have D7_11 := D7_10.trans (b11.mono D7_10.size)
      have HHeld := KS14.out _ D7_11
      refine hK.out _ _ HHeld (fun _ => ?_)
      clear hK K
      (try simp only [Act.put]); (try simp only [List.setIfInBounds_toArray]); (try simp only [List.set_cons_zero, List.set_cons_succ])
      refine takeD (i := 5) (some 41) (.tuple #[.agg #[.slice Ag0 (changeLockR m0 xs1 ys1 s1 xs2).1.length cg0], .int .i64 (changeLockR m0 xs1 ys1 s1 xs2).2]) rfl (by kernel_rfl) (by kernel_rfl) (by kernel_rfl) (by kernel_rfl) (fun _ _ _ h => h) (by assumption) (Or.inl ⟨by rfl, fun w hSw => by (try dsimp only at hSw); go_simp⟩) ?_
      simp only [Act.put, List.setIfInBounds_toArray, List.set_cons_zero, List.set_cons_succ]
      refine takeD (i := 6) (some 47) (.agg #[.slice Ag0 (changeLockR m0 xs1 ys1 s1 xs2).1.length cg0]) rfl (by kernel_rfl) (by kernel_rfl) (by kernel_rfl) (by kernel_rfl) (fun _ _ _ h => h) (by assumption) (Or.inl ⟨by rfl, fun w hSw => by (try dsimp only at hSw); go_simp⟩) ?_
      simp only [Act.put, List.setIfInBounds_toArray, List.set_cons_zero, List.set_cons_succ]
      refine takeD (i := 7) (some 48) (.int .i64 (changeLockR m0 xs1 ys1 s1 xs2).2) rfl (by kernel_rfl) (by kernel_rfl) (by kernel_rfl) (by kernel_rfl) (fun _ _ _ h => h) (by assumption) (Or.inl ⟨by rfl, fun w hSw => by (try dsimp only at hSw); go_simp⟩) ?_
      simp only [Act.put, List.setIfInBounds_toArray, List.set_cons_zero, List.set_cons_succ]
      have D9_11 := b10.trans (b11.mono b10.size)
      have cz0 : w11.cell? ⟨w7.heap.size, 0, none⟩ = some (.slice none 0 0) := (D9_11.cell (p := ⟨w7.heap.size, 0, none⟩) (by simp)).trans (by simp)
      have fz0 : w11.frozen? ⟨w7.heap.size, 0, none⟩ = false := (D9_11.frozen (p := ⟨w7.heap.size, 0, none⟩) (by simp)).trans (by simp)
      have hblo : w7.heap.size < w10.heap.size := Nat.lt_of_lt_of_le (show w7.heap.size < (w7.drew.alloc (.cells #[.slice none 0 0] 48)).heap.size by simp) (b10.size)
      refine wpAnyH_ready (rs := [9]) (by kernel_rfl) (by simp) (AllReadyH.cons rfl (fun K hK => ?_) AllReadyH.nil)
      go_simp
      have HHeld := KS14.out _ (Below.setCell D7_11 (p := ⟨w7.heap.size, 0, none⟩) (b8.size) (.slice Ag0 (changeLockR m0 xs1 ys1 s1 xs2).1.length cg0))
      refine hK.out _ _ HHeld (fun _ => ?_)
      clear hK K
      (try simp only [Act.put]); (try simp only [List.setIfInBounds_toArray]); (try simp only [List.set_cons_zero, List.set_cons_succ])
      refine takeD (i := 10) (some 13) (.int .i64 (changeLockR m0 xs1 ys1 s1 xs2).2) rfl (by kernel_rfl) (by kernel_rfl) (by kernel_rfl) (by kernel_rfl) (fun _ _ _ h => h) (by assumption) (Or.inl ⟨by rfl, fun w hSw => by (try dsimp only at hSw); go_simp⟩) ?_
      (try simp only [Act.put]); (try simp only [List.setIfInBounds_toArray]); (try simp only [List.set_cons_zero, List.set_cons_succ])
      refine wpAnyH_done (by kernel_rfl) ?_ _
      have S7_9 := Nat.le_trans (b8.size) b9.size
      have S7_10 := Nat.le_trans (S7_9) b10.size
      go_wp2_with fail
      go_meet
      exact ⟨Ag0, cg0, w10.heap.size, w11.heap.size, w7.heap.size, rfl, rfl, hcg0, (OII.setLow (p := ⟨w7.heap.size, 0, none⟩) (by simp only; exact hblo) og0), (Or.inl (Nat.lt_of_lt_of_le hblo (Nat.le_refl _))), S7_10, b11.size, (by simp only [World.size_setCell]; exact Nat.le_refl _), b8.size, (by simp only [World.size_setCell]; exact Nat.lt_of_lt_of_le hblo (b11.size)), ⟨World.cell?_setCell_same _ _ _ cz0, trivial⟩, (Below.setCell D7_11 (p := ⟨w7.heap.size, 0, none⟩) (b8.size) (.slice Ag0 (changeLockR m0 xs1 ys1 s1 xs2).1.length cg0))⟩
  obtain ⟨Ag0, cg0, log0, hig0, bbg, rfl, rfl, hcg0, og0, hdg0, leg0, lhg0, hleg, bbgg, bblg, bxcg, b10⟩ := hcut
  rename World => w10
  have rg0 := OII.rii og0
  have bq15 := BoxC.below bq10 b10
  have q0 : w10.cell? ⟨w.heap.size, 0, none⟩ = some (.int .i64 m0.c) ∧ w10.cell? ⟨w.heap.size, 1, none⟩ = some (.int .i64 m0.d) ∧ w10.cell? ⟨w.heap.size, 2, none⟩ = some (.int .i64 m0.s) ∧ w10.cell? ⟨w.heap.size, 3, none⟩ = some (.int .i64 m0.a) ∧ w10.cell? ⟨w.heap.size, 4, none⟩ = some (.int .i64 m0.l) ∧ True := bq15
  have bq16 := BoxC.below bq11 b10
  have q1 : w10.cell? ⟨w.heap.size + 1, 0, none⟩ = some (.slice A1 xs1.length c1) ∧ w10.cell? ⟨w.heap.size + 1, 1, none⟩ = some (.slice B1 ys1.length d1) ∧ w10.cell? ⟨w.heap.size + 1, 2, none⟩ = some (.int .i64 s1) ∧ True := bq16
  have bq17 := BoxC.below bq12 b10
  have q2 : w10.cell? ⟨bbs, 0, none⟩ = some (.slice As0 (changeLockR m0 xs1 ys1 s1 xs2).1.length cs0) ∧ True := bq17
  have bq18 := BoxC.below bq13 b10
  have q3 : w10.cell? ⟨w5.heap.size, 0, none⟩ = some (.slice A1_5 xs1.length c1_5) ∧ w10.cell? ⟨w5.heap.size, 1, none⟩ = some (.slice B1_5 ys1.length d1_5) ∧ w10.cell? ⟨w5.heap.size, 2, none⟩ = some (.int .i64 s1) ∧ True := bq18
  have q4 : w10.cell? ⟨bbg, 0, none⟩ = some (.slice Ag0 (changeLockR m0 xs1 ys1 s1 xs2).1.length cg0) ∧ True := bxcg
  go_wp2_with fail
  clear q0 q1 q2 q3 q4
  have D4_7 := D4_6.trans (b7.mono D4_6.size)
  have D4_10 := D4_7.trans (b10.mono D4_7.size)
  refine (eqL_t Ag0 As0 cg0 cs0 (changeLockR m0 xs1 ys1 s1 xs2).1 _ rg0 (rs0.below D4_10)).mono ?_
  rintro e w11 ⟨rfl, b11⟩
  have bq19 := BoxC.below bq15 b11
  have q0 : w11.cell? ⟨w.heap.size, 0, none⟩ = some (.int .i64 m0.c) ∧ w11.cell? ⟨w.heap.size, 1, none⟩ = some (.int .i64 m0.d) ∧ w11.cell? ⟨w.heap.size, 2, none⟩ = some (.int .i64 m0.s) ∧ w11.cell? ⟨w.heap.size, 3, none⟩ = some (.int .i64 m0.a) ∧ w11.cell? ⟨w.heap.size, 4, none⟩ = some (.int .i64 m0.l) ∧ True := bq19
  have bq20 := BoxC.below bq16 b11
  have q1 : w11.cell? ⟨w.heap.size + 1, 0, none⟩ = some (.slice A1 xs1.length c1) ∧ w11.cell? ⟨w.heap.size + 1, 1, none⟩ = some (.slice B1 ys1.length d1) ∧ w11.cell? ⟨w.heap.size + 1, 2, none⟩ = some (.int .i64 s1) ∧ True := bq20
  have bq21 := BoxC.below bq17 b11
  have q2 : w11.cell? ⟨bbs, 0, none⟩ = some (.slice As0 (changeLockR m0 xs1 ys1 s1 xs2).1.length cs0) ∧ True := bq21
  have bq22 := BoxC.below bq18 b11
  have q3 : w11.cell? ⟨w5.heap.size, 0, none⟩ = some (.slice A1_5 xs1.length c1_5) ∧ w11.cell? ⟨w5.heap.size, 1, none⟩ = some (.slice B1_5 ys1.length d1_5) ∧ w11.cell? ⟨w5.heap.size, 2, none⟩ = some (.int .i64 s1) ∧ True := bq22
  have bq23 := BoxC.below bxcg b11
  have q4 : w11.cell? ⟨bbg, 0, none⟩ = some (.slice Ag0 (changeLockR m0 xs1 ys1 s1 xs2).1.length cg0) ∧ True := bq23
  go_wp2_with fail
  clear q0 q1 q2 q3 q4
  have KS24 := Lib.hid (show ∀ w' : World, Below w11.heap.size w11 w' → ((w'.cell? ⟨w.heap.size + 1, 0, none⟩ = some (.slice A1 xs1.length c1) ∧ w'.cell? ⟨w.heap.size + 1, 1, none⟩ = some (.slice B1 ys1.length d1) ∧ w'.cell? ⟨w.heap.size + 1, 2, none⟩ = some (.int .i64 s1) ∧ True) ∧ (w'.cell? ⟨w5.heap.size, 0, none⟩ = some (.slice A1_5 xs1.length c1_5) ∧ w'.cell? ⟨w5.heap.size, 1, none⟩ = some (.slice B1_5 ys1.length d1_5) ∧ w'.cell? ⟨w5.heap.size, 2, none⟩ = some (.int .i64 s1) ∧ True)) from fun w' hb => ⟨BoxC.below bq20 hb, BoxC.below bq22 hb⟩)
  go_region_held3 (fun w' => (w'.cell? ⟨w.heap.size + 1, 0, none⟩ = some (.slice A1 xs1.length c1) ∧ w'.cell? ⟨w.heap.size + 1, 1, none⟩ = some (.slice B1 ys1.length d1) ∧ w'.cell? ⟨w.heap.size + 1, 2, none⟩ = some (.int .i64 s1) ∧ True) ∧ (w'.cell? ⟨w5.heap.size, 0, none⟩ = some (.slice A1_5 xs1.length c1_5) ∧ w'.cell? ⟨w5.heap.size, 1, none⟩ = some (.slice B1_5 ys1.length d1_5) ∧ w'.cell? ⟨w5.heap.size, 2, none⟩ = some (.int .i64 s1) ∧ True)) (first | (refine KS24.out _ ?_; first | assumption | exact belowDrew0 _ | exact Below.alloc (by assumption) (Below.size (by assumption)) _)) (first | (go_at_call 41; have D5_7 := b6.trans (b7.mono b6.size); have D5_10 := D5_7.trans (b10.mono D5_7.size); have D5_11 := D5_10.trans (b11.mono D5_10.size); have D5_12 := D5_11.trans (b12.mono D5_11.size); refine (eqP_t A1_5 A1_12 c1_5 c1_12 xs1 B1_5 B1_12 d1_5 d1_12 ys1 s1 _ (rA1_5.below D5_12) rA1_12 (rB1_5.below D5_12) rB1_12).mono ?_; rintro e w13 ⟨rfl, b13⟩; have BS13 := Below.trans b12 (b13.mono (Below.size b12))) | (go_at_call 39; have D0_7 := D0_6.trans (b7.mono D0_6.size); have D0_10 := D0_7.trans (b10.mono D0_7.size); have D0_11 := D0_10.trans (b11.mono D0_10.size); refine (toP A1 c1 xs1 B1 d1 ys1 s1 _ ((Rxs1.below D0_11).below (belowDrew0 _)) ((Rys1.below D0_11).below (belowDrew0 _)) zxs1 zys1).mono ?_; rintro e w12 ⟨A1_12, c1_12, B1_12, d1_12, rfl, hc1_12, rA1_12, hd1_12, rB1_12, oA1_12, b12⟩; have b12 := belowDrew b12))
  have D11_13 := b12.trans (b13.mono b12.size)
  have bq25 := BoxC.below bq19 D11_13
  have q0 : w13.cell? ⟨w.heap.size, 0, none⟩ = some (.int .i64 m0.c) ∧ w13.cell? ⟨w.heap.size, 1, none⟩ = some (.int .i64 m0.d) ∧ w13.cell? ⟨w.heap.size, 2, none⟩ = some (.int .i64 m0.s) ∧ w13.cell? ⟨w.heap.size, 3, none⟩ = some (.int .i64 m0.a) ∧ w13.cell? ⟨w.heap.size, 4, none⟩ = some (.int .i64 m0.l) ∧ True := bq25
  have bq26 := BoxC.below bq20 D11_13
  have q1 : w13.cell? ⟨w.heap.size + 1, 0, none⟩ = some (.slice A1 xs1.length c1) ∧ w13.cell? ⟨w.heap.size + 1, 1, none⟩ = some (.slice B1 ys1.length d1) ∧ w13.cell? ⟨w.heap.size + 1, 2, none⟩ = some (.int .i64 s1) ∧ True := bq26
  have bq27 := BoxC.below bq21 D11_13
  have q2 : w13.cell? ⟨bbs, 0, none⟩ = some (.slice As0 (changeLockR m0 xs1 ys1 s1 xs2).1.length cs0) ∧ True := bq27
  have bq28 := BoxC.below bq22 D11_13
  have q3 : w13.cell? ⟨w5.heap.size, 0, none⟩ = some (.slice A1_5 xs1.length c1_5) ∧ w13.cell? ⟨w5.heap.size, 1, none⟩ = some (.slice B1_5 ys1.length d1_5) ∧ w13.cell? ⟨w5.heap.size, 2, none⟩ = some (.int .i64 s1) ∧ True := bq28
  have bq29 := BoxC.below bq23 D11_13
  have q4 : w13.cell? ⟨bbg, 0, none⟩ = some (.slice Ag0 (changeLockR m0 xs1 ys1 s1 xs2).1.length cg0) ∧ True := bq29
  go_wp2_with fail
  clear q0 q1 q2 q3 q4
  have D0_12 := D0_11.trans (b12.mono D0_11.size)
  have D0_13 := D0_12.trans (b13.mono D0_12.size)
  refine (toI A2 c2 xs2 _ (Rxs2.below D0_13) z2).mono ?_
  rintro e w14 ⟨A2_14, c2_14, rfl, hc2_14, rA2_14, oA2_14, b14, -⟩
  have bq30 := BoxC.below bq25 b14
  have q0 : w14.cell? ⟨w.heap.size, 0, none⟩ = some (.int .i64 m0.c) ∧ w14.cell? ⟨w.heap.size, 1, none⟩ = some (.int .i64 m0.d) ∧ w14.cell? ⟨w.heap.size, 2, none⟩ = some (.int .i64 m0.s) ∧ w14.cell? ⟨w.heap.size, 3, none⟩ = some (.int .i64 m0.a) ∧ w14.cell? ⟨w.heap.size, 4, none⟩ = some (.int .i64 m0.l) ∧ True := bq30
  have bq31 := BoxC.below bq26 b14
  have q1 : w14.cell? ⟨w.heap.size + 1, 0, none⟩ = some (.slice A1 xs1.length c1) ∧ w14.cell? ⟨w.heap.size + 1, 1, none⟩ = some (.slice B1 ys1.length d1) ∧ w14.cell? ⟨w.heap.size + 1, 2, none⟩ = some (.int .i64 s1) ∧ True := bq31
  have bq32 := BoxC.below bq27 b14
  have q2 : w14.cell? ⟨bbs, 0, none⟩ = some (.slice As0 (changeLockR m0 xs1 ys1 s1 xs2).1.length cs0) ∧ True := bq32
  have bq33 := BoxC.below bq28 b14
  have q3 : w14.cell? ⟨w5.heap.size, 0, none⟩ = some (.slice A1_5 xs1.length c1_5) ∧ w14.cell? ⟨w5.heap.size, 1, none⟩ = some (.slice B1_5 ys1.length d1_5) ∧ w14.cell? ⟨w5.heap.size, 2, none⟩ = some (.int .i64 s1) ∧ True := bq33
  have bq34 := BoxC.below bq29 b14
  have q4 : w14.cell? ⟨bbg, 0, none⟩ = some (.slice Ag0 (changeLockR m0 xs1 ys1 s1 xs2).1.length cg0) ∧ True := bq34
  go_wp2_with fail
  clear q0 q1 q2 q3 q4
  have D7_11 := b10.trans (b11.mono b10.size)
  have D7_12 := D7_11.trans (b12.mono D7_11.size)
  have D7_13 := D7_12.trans (b13.mono D7_12.size)
  have D7_14 := D7_13.trans (b14.mono D7_13.size)
  refine (eqI_t A2_7 A2_14 c2_7 c2_14 xs2 _ (rA2_7.below D7_14) rA2_14).mono ?_
  rintro e w15 ⟨rfl, b15⟩
  have bq35 := BoxC.below bq30 b15
  have q0 : w15.cell? ⟨w.heap.size, 0, none⟩ = some (.int .i64 m0.c) ∧ w15.cell? ⟨w.heap.size, 1, none⟩ = some (.int .i64 m0.d) ∧ w15.cell? ⟨w.heap.size, 2, none⟩ = some (.int .i64 m0.s) ∧ w15.cell? ⟨w.heap.size, 3, none⟩ = some (.int .i64 m0.a) ∧ w15.cell? ⟨w.heap.size, 4, none⟩ = some (.int .i64 m0.l) ∧ True := bq35
  have bq36 := BoxC.below bq31 b15
  have q1 : w15.cell? ⟨w.heap.size + 1, 0, none⟩ = some (.slice A1 xs1.length c1) ∧ w15.cell? ⟨w.heap.size + 1, 1, none⟩ = some (.slice B1 ys1.length d1) ∧ w15.cell? ⟨w.heap.size + 1, 2, none⟩ = some (.int .i64 s1) ∧ True := bq36
  have bq37 := BoxC.below bq32 b15
  have q2 : w15.cell? ⟨bbs, 0, none⟩ = some (.slice As0 (changeLockR m0 xs1 ys1 s1 xs2).1.length cs0) ∧ True := bq37
  have bq38 := BoxC.below bq33 b15
  have q3 : w15.cell? ⟨w5.heap.size, 0, none⟩ = some (.slice A1_5 xs1.length c1_5) ∧ w15.cell? ⟨w5.heap.size, 1, none⟩ = some (.slice B1_5 ys1.length d1_5) ∧ w15.cell? ⟨w5.heap.size, 2, none⟩ = some (.int .i64 s1) ∧ True := bq38
  have bq39 := BoxC.below bq34 b15
  have q4 : w15.cell? ⟨bbg, 0, none⟩ = some (.slice Ag0 (changeLockR m0 xs1 ys1 s1 xs2).1.length cg0) ∧ True := bq39
  go_wp2_with fail
  clear q0 q1 q2 q3 q4
  have D5_13 := D5_12.trans (b13.mono D5_12.size)
  have D5_14 := D5_13.trans (b14.mono D5_13.size)
  have D5_15 := D5_14.trans (b15.mono D5_14.size)
  have Y40 := oA1_5.below (D5_15.mono (Nat.le_refl _))
  have D7_15 := D7_14.trans (b15.mono D7_14.size)
  have Y41 := oA2_7.below (D7_15.mono (Nat.le_refl _))
  have D10_12 := b11.trans (b12.mono b11.size)
  have D10_13 := D10_12.trans (b13.mono D10_12.size)
  have D10_14 := D10_13.trans (b14.mono D10_13.size)
  have D10_15 := D10_14.trans (b15.mono D10_14.size)
  have Y42 := og0.below (D10_15.mono (hleg))
  have S5_7 := Nat.le_trans (b6.size) b7.size
  have S5_8 := Nat.le_trans (S5_7) leg0
  have S5_9 := Nat.le_trans (S5_8) lhg0
  have S5_10 := Nat.le_trans (S5_9) hleg
  have S5_11 := Nat.le_trans (S5_10) b11.size
  have S5_12 := Nat.le_trans (S5_11) b12.size
  have S5_13 := Nat.le_trans (S5_12) b13.size
  have S5_14 := Nat.le_trans (S5_13) b14.size
  have S5_15 := Nat.le_trans (S5_14) b15.size
  refine (markP_t A1_5 c1_5 xs1 B1_5 d1_5 ys1 s1 _ _ _ _ Y40 (by omega) (by omega) (by omega) (by omega) (S5_15)).mono ?_
  rintro e w16 ⟨rfl, Y43, on16⟩
  have S0_2 := Nat.le_trans (b1.size) les0
  have S0_3 := Nat.le_trans (S0_2) lhs0
  have S0_4 := Nat.le_trans (S0_3) hles
  have bq44 := BoxC.only bq35 on16 (Or.inl (Nat.lt_of_lt_of_le (by simp only [World.size_alloc]; omega) (S0_4)))
  have q0 : w16.cell? ⟨w.heap.size, 0, none⟩ = some (.int .i64 m0.c) ∧ w16.cell? ⟨w.heap.size, 1, none⟩ = some (.int .i64 m0.d) ∧ w16.cell? ⟨w.heap.size, 2, none⟩ = some (.int .i64 m0.s) ∧ w16.cell? ⟨w.heap.size, 3, none⟩ = some (.int .i64 m0.a) ∧ w16.cell? ⟨w.heap.size, 4, none⟩ = some (.int .i64 m0.l) ∧ True := bq44
  have bq45 := BoxC.only bq36 on16 (Or.inl (Nat.lt_of_lt_of_le (by simp only [World.size_alloc]; omega) (S0_4)))
  have q1 : w16.cell? ⟨w.heap.size + 1, 0, none⟩ = some (.slice A1 xs1.length c1) ∧ w16.cell? ⟨w.heap.size + 1, 1, none⟩ = some (.slice B1 ys1.length d1) ∧ w16.cell? ⟨w.heap.size + 1, 2, none⟩ = some (.int .i64 s1) ∧ True := bq45
  have bq46 := BoxC.only bq37 on16 (Or.inl (Nat.lt_of_lt_of_le bbls (Nat.le_refl _)))
  have q2 : w16.cell? ⟨bbs, 0, none⟩ = some (.slice As0 (changeLockR m0 xs1 ys1 s1 xs2).1.length cs0) ∧ True := bq46
  have bq47 := BoxC.only bq38 on16 (Or.inr (Nat.le_refl _))
  have q3 : w16.cell? ⟨w5.heap.size, 0, none⟩ = some (.slice A1_5 xs1.length c1_5) ∧ w16.cell? ⟨w5.heap.size, 1, none⟩ = some (.slice B1_5 ys1.length d1_5) ∧ w16.cell? ⟨w5.heap.size, 2, none⟩ = some (.int .i64 s1) ∧ True := bq47
  have bq48 := BoxC.only bq39 on16 (Or.inr (Nat.le_trans (S5_7) bbgg))
  have q4 : w16.cell? ⟨bbg, 0, none⟩ = some (.slice Ag0 (changeLockR m0 xs1 ys1 s1 xs2).1.length cg0) ∧ True := bq48
  go_wp2_with fail
  clear q0 q1 q2 q3 q4
  have Y49 := Y41.only on16 (Or.inr (b6.size))
  have Y50 := Y42.only on16 (Or.inr (S5_8))
  refine (markI_t (.slice A2_7 xs2.length c2_7) xs2 _ _ _ _ Y49 (by omega) (by omega) (by omega)).mono ?_
  rintro e w17 ⟨rfl, Y51, on17⟩
  have S0_5 := Nat.le_trans (S0_4) b5.size
  have S0_6 := Nat.le_trans (S0_5) b6.size
  have bq52 := BoxC.only bq44 on17 (Or.inl (Nat.lt_of_lt_of_le (by simp only [World.size_alloc]; omega) (S0_6)))
  have q0 : w17.cell? ⟨w.heap.size, 0, none⟩ = some (.int .i64 m0.c) ∧ w17.cell? ⟨w.heap.size, 1, none⟩ = some (.int .i64 m0.d) ∧ w17.cell? ⟨w.heap.size, 2, none⟩ = some (.int .i64 m0.s) ∧ w17.cell? ⟨w.heap.size, 3, none⟩ = some (.int .i64 m0.a) ∧ w17.cell? ⟨w.heap.size, 4, none⟩ = some (.int .i64 m0.l) ∧ True := bq52
  have bq53 := BoxC.only bq45 on17 (Or.inl (Nat.lt_of_lt_of_le (by simp only [World.size_alloc]; omega) (S0_6)))
  have q1 : w17.cell? ⟨w.heap.size + 1, 0, none⟩ = some (.slice A1 xs1.length c1) ∧ w17.cell? ⟨w.heap.size + 1, 1, none⟩ = some (.slice B1 ys1.length d1) ∧ w17.cell? ⟨w.heap.size + 1, 2, none⟩ = some (.int .i64 s1) ∧ True := bq53
  have S4_6 := Nat.le_trans (b5.size) b6.size
  have bq54 := BoxC.only bq46 on17 (Or.inl (Nat.lt_of_lt_of_le bbls (S4_6)))
  have q2 : w17.cell? ⟨bbs, 0, none⟩ = some (.slice As0 (changeLockR m0 xs1 ys1 s1 xs2).1.length cs0) ∧ True := bq54
  have bq55 := BoxC.only bq47 on17 (Or.inl (Nat.lt_of_lt_of_le (by first | exact Nat.lt_succ_self _ | simp) (Nat.le_refl _)))
  have q3 : w17.cell? ⟨w5.heap.size, 0, none⟩ = some (.slice A1_5 xs1.length c1_5) ∧ w17.cell? ⟨w5.heap.size, 1, none⟩ = some (.slice B1_5 ys1.length d1_5) ∧ w17.cell? ⟨w5.heap.size, 2, none⟩ = some (.int .i64 s1) ∧ True := bq55
  have bq56 := BoxC.only bq48 on17 (Or.inr (Nat.le_trans (Nat.le_refl _) bbgg))
  have q4 : w17.cell? ⟨bbg, 0, none⟩ = some (.slice Ag0 (changeLockR m0 xs1 ys1 s1 xs2).1.length cg0) ∧ True := bq56
  go_wp2_with fail
  clear q0 q1 q2 q3 q4
  have Y57 := Y50.only on17 (Or.inr (leg0))
  have S6_8 := Nat.le_trans (b7.size) leg0
  have S6_9 := Nat.le_trans (S6_8) lhg0
  have S6_10 := Nat.le_trans (S6_9) hleg
  have S6_11 := Nat.le_trans (S6_10) b11.size
  have S6_12 := Nat.le_trans (S6_11) b12.size
  have S6_13 := Nat.le_trans (S6_12) b13.size
  have S6_14 := Nat.le_trans (S6_13) b14.size
  have S6_15 := Nat.le_trans (S6_14) b15.size
  have S6_16 := Nat.le_trans (S6_15) on16.size
  have S4_7 := Nat.le_trans (S4_6) b7.size
  have S4_8 := Nat.le_trans (S4_7) leg0
  have S4_9 := Nat.le_trans (S4_8) lhg0
  have S4_10 := Nat.le_trans (S4_9) hleg
  have S4_11 := Nat.le_trans (S4_10) b11.size
  have S4_12 := Nat.le_trans (S4_11) b12.size
  have S4_13 := Nat.le_trans (S4_12) b13.size
  have S4_14 := Nat.le_trans (S4_13) b14.size
  have S4_15 := Nat.le_trans (S4_14) b15.size
  have D4_11 := D4_10.trans (b11.mono D4_10.size)
  have D4_12 := D4_11.trans (b12.mono D4_11.size)
  have D4_13 := D4_12.trans (b13.mono D4_12.size)
  have D4_14 := D4_13.trans (b14.mono D4_13.size)
  have D4_15 := D4_14.trans (b15.mono D4_14.size)
  have D4_16 := D4_15.trans (on16.below (S4_15))
  have D4_17 := D4_16.trans ((on17.below (S6_16)).mono (S4_6))
  refine (eqL_t Ag0 As0 cg0 cs0 (changeLockR m0 xs1 ys1 s1 xs2).1 _ (OII.rii Y57) (rs0.below D4_17)).mono ?_
  rintro e w18 ⟨rfl, b18⟩
  have bq58 := BoxC.below bq52 b18
  have q0 : w18.cell? ⟨w.heap.size, 0, none⟩ = some (.int .i64 m0.c) ∧ w18.cell? ⟨w.heap.size, 1, none⟩ = some (.int .i64 m0.d) ∧ w18.cell? ⟨w.heap.size, 2, none⟩ = some (.int .i64 m0.s) ∧ w18.cell? ⟨w.heap.size, 3, none⟩ = some (.int .i64 m0.a) ∧ w18.cell? ⟨w.heap.size, 4, none⟩ = some (.int .i64 m0.l) ∧ True := bq58
  have bq59 := BoxC.below bq53 b18
  have q1 : w18.cell? ⟨w.heap.size + 1, 0, none⟩ = some (.slice A1 xs1.length c1) ∧ w18.cell? ⟨w.heap.size + 1, 1, none⟩ = some (.slice B1 ys1.length d1) ∧ w18.cell? ⟨w.heap.size + 1, 2, none⟩ = some (.int .i64 s1) ∧ True := bq59
  have bq60 := BoxC.below bq54 b18
  have q2 : w18.cell? ⟨bbs, 0, none⟩ = some (.slice As0 (changeLockR m0 xs1 ys1 s1 xs2).1.length cs0) ∧ True := bq60
  have bq61 := BoxC.below bq55 b18
  have q3 : w18.cell? ⟨w5.heap.size, 0, none⟩ = some (.slice A1_5 xs1.length c1_5) ∧ w18.cell? ⟨w5.heap.size, 1, none⟩ = some (.slice B1_5 ys1.length d1_5) ∧ w18.cell? ⟨w5.heap.size, 2, none⟩ = some (.int .i64 s1) ∧ True := bq61
  have bq62 := BoxC.below bq56 b18
  have q4 : w18.cell? ⟨bbg, 0, none⟩ = some (.slice Ag0 (changeLockR m0 xs1 ys1 s1 xs2).1.length cg0) ∧ True := bq62
  go_wp2_with fail
  clear q0 q1 q2 q3 q4
  have S9_11 := Nat.le_trans (hleg) b11.size
  have S9_12 := Nat.le_trans (S9_11) b12.size
  have S9_13 := Nat.le_trans (S9_12) b13.size
  have S9_14 := Nat.le_trans (S9_13) b14.size
  have S9_15 := Nat.le_trans (S9_14) b15.size
  have S9_16 := Nat.le_trans (S9_15) on16.size
  have S9_17 := Nat.le_trans (S9_16) on17.size
  have Y63 := Y57.below (b18.mono (S9_17))
  have S9_18 := Nat.le_trans (S9_17) b18.size
  refine (markL_t (.slice Ag0 (changeLockR m0 xs1 ys1 s1 xs2).1.length cg0) (changeLockR m0 xs1 ys1 s1 xs2).1 _ _ _ _ Y63 (by omega) (by omega) (by omega) (by omega) (S9_18)).mono ?_
  rintro e w19 ⟨rfl, Y64, on19⟩
  have S0_7 := Nat.le_trans (S0_6) b7.size
  have S0_8 := Nat.le_trans (S0_7) leg0
  have bq65 := BoxC.only bq58 on19 (Or.inl (Nat.lt_of_lt_of_le (by simp only [World.size_alloc]; omega) (S0_8)))
  have q0 : w19.cell? ⟨w.heap.size, 0, none⟩ = some (.int .i64 m0.c) ∧ w19.cell? ⟨w.heap.size, 1, none⟩ = some (.int .i64 m0.d) ∧ w19.cell? ⟨w.heap.size, 2, none⟩ = some (.int .i64 m0.s) ∧ w19.cell? ⟨w.heap.size, 3, none⟩ = some (.int .i64 m0.a) ∧ w19.cell? ⟨w.heap.size, 4, none⟩ = some (.int .i64 m0.l) ∧ True := bq65
  have bq66 := BoxC.only bq59 on19 (Or.inl (Nat.lt_of_lt_of_le (by simp only [World.size_alloc]; omega) (S0_8)))
  have q1 : w19.cell? ⟨w.heap.size + 1, 0, none⟩ = some (.slice A1 xs1.length c1) ∧ w19.cell? ⟨w.heap.size + 1, 1, none⟩ = some (.slice B1 ys1.length d1) ∧ w19.cell? ⟨w.heap.size + 1, 2, none⟩ = some (.int .i64 s1) ∧ True := bq66
  have bq67 := BoxC.only bq60 on19 (Or.inl (Nat.lt_of_lt_of_le bbls (S4_8)))
  have q2 : w19.cell? ⟨bbs, 0, none⟩ = some (.slice As0 (changeLockR m0 xs1 ys1 s1 xs2).1.length cs0) ∧ True := bq67
  have bq68 := BoxC.only bq61 on19 (Or.inl (Nat.lt_of_lt_of_le (by first | exact Nat.lt_succ_self _ | simp) (S6_8)))
  have q3 : w19.cell? ⟨w5.heap.size, 0, none⟩ = some (.slice A1_5 xs1.length c1_5) ∧ w19.cell? ⟨w5.heap.size, 1, none⟩ = some (.slice B1_5 ys1.length d1_5) ∧ w19.cell? ⟨w5.heap.size, 2, none⟩ = some (.int .i64 s1) ∧ True := bq68
  have bq69 := BoxC.only bq62 on19 (hdg0)
  have q4 : w19.cell? ⟨bbg, 0, none⟩ = some (.slice Ag0 (changeLockR m0 xs1 ys1 s1 xs2).1.length cg0) ∧ True := bq69
  go_wp2_with fail
  clear q0 q1 q2 q3 q4
  refine (heldL_t Ag0 cg0 (changeLockR m0 xs1 ys1 s1 xs2).1 _ _ (OII.rii Y64) (by omega) (by omega) (by omega) (by omega)).mono ?_
  rintro e w20 ⟨rfl, b20⟩
  have bq70 := BoxC.below bq65 b20
  have q0 : w20.cell? ⟨w.heap.size, 0, none⟩ = some (.int .i64 m0.c) ∧ w20.cell? ⟨w.heap.size, 1, none⟩ = some (.int .i64 m0.d) ∧ w20.cell? ⟨w.heap.size, 2, none⟩ = some (.int .i64 m0.s) ∧ w20.cell? ⟨w.heap.size, 3, none⟩ = some (.int .i64 m0.a) ∧ w20.cell? ⟨w.heap.size, 4, none⟩ = some (.int .i64 m0.l) ∧ True := bq70
  have bq71 := BoxC.below bq66 b20
  have q1 : w20.cell? ⟨w.heap.size + 1, 0, none⟩ = some (.slice A1 xs1.length c1) ∧ w20.cell? ⟨w.heap.size + 1, 1, none⟩ = some (.slice B1 ys1.length d1) ∧ w20.cell? ⟨w.heap.size + 1, 2, none⟩ = some (.int .i64 s1) ∧ True := bq71
  have bq72 := BoxC.below bq67 b20
  have q2 : w20.cell? ⟨bbs, 0, none⟩ = some (.slice As0 (changeLockR m0 xs1 ys1 s1 xs2).1.length cs0) ∧ True := bq72
  have bq73 := BoxC.below bq68 b20
  have q3 : w20.cell? ⟨w5.heap.size, 0, none⟩ = some (.slice A1_5 xs1.length c1_5) ∧ w20.cell? ⟨w5.heap.size, 1, none⟩ = some (.slice B1_5 ys1.length d1_5) ∧ w20.cell? ⟨w5.heap.size, 2, none⟩ = some (.int .i64 s1) ∧ True := bq73
  have bq74 := BoxC.below bq69 b20
  have q4 : w20.cell? ⟨bbg, 0, none⟩ = some (.slice Ag0 (changeLockR m0 xs1 ys1 s1 xs2).1.length cg0) ∧ True := bq74
  go_wp2_with fail
  clear q0 q1 q2 q3 q4
  have KS75 := Lib.hid (show ∀ w' : World, Below w20.heap.size w20 w' → ((w'.cell? ⟨w.heap.size, 0, none⟩ = some (.int .i64 m0.c) ∧ w'.cell? ⟨w.heap.size, 1, none⟩ = some (.int .i64 m0.d) ∧ w'.cell? ⟨w.heap.size, 2, none⟩ = some (.int .i64 m0.s) ∧ w'.cell? ⟨w.heap.size, 3, none⟩ = some (.int .i64 m0.a) ∧ w'.cell? ⟨w.heap.size, 4, none⟩ = some (.int .i64 m0.l) ∧ True) ∧ (w'.cell? ⟨w.heap.size + 1, 0, none⟩ = some (.slice A1 xs1.length c1) ∧ w'.cell? ⟨w.heap.size + 1, 1, none⟩ = some (.slice B1 ys1.length d1) ∧ w'.cell? ⟨w.heap.size + 1, 2, none⟩ = some (.int .i64 s1) ∧ True)) from fun w' hb => ⟨BoxC.below bq70 hb, BoxC.below bq71 hb⟩)
  go_cut [17, 18] (fun p0 p1 wx => ∃ (Ah0 : Option Addr) (ch0 loh0 hih0 : Nat) (bb : Nat), p0 = .pointer (some ⟨bb, 0, none⟩) ∧ p1 = .int .i64 (changeLockR m0 xs1 ys1 s1 xs2).2 ∧ (changeLockR m0 xs1 ys1 s1 xs2).1.length ≤ ch0 ∧ OII wx loh0 hih0 (.slice Ah0 (changeLockR m0 xs1 ys1 s1 xs2).1.length ch0) (changeLockR m0 xs1 ys1 s1 xs2).1 ∧ (bb < loh0 ∨ hih0 ≤ bb) ∧ w20.heap.size ≤ loh0 ∧ loh0 ≤ hih0 ∧ hih0 ≤ wx.heap.size ∧ w20.heap.size ≤ bb ∧ bb < wx.heap.size ∧ BoxC wx bb 0 [.slice Ah0 (changeLockR m0 xs1 ys1 s1 xs2).1.length ch0] ∧ Below w20.heap.size w20 wx)
  case first =>
    refine wp_region_held_drew (S := (fun w' => (w'.cell? ⟨w.heap.size, 0, none⟩ = some (.int .i64 m0.c) ∧ w'.cell? ⟨w.heap.size, 1, none⟩ = some (.int .i64 m0.d) ∧ w'.cell? ⟨w.heap.size, 2, none⟩ = some (.int .i64 m0.s) ∧ w'.cell? ⟨w.heap.size, 3, none⟩ = some (.int .i64 m0.a) ∧ w'.cell? ⟨w.heap.size, 4, none⟩ = some (.int .i64 m0.l) ∧ True) ∧ (w'.cell? ⟨w.heap.size + 1, 0, none⟩ = some (.slice A1 xs1.length c1) ∧ w'.cell? ⟨w.heap.size + 1, 1, none⟩ = some (.slice B1 ys1.length d1) ∧ w'.cell? ⟨w.heap.size + 1, 2, none⟩ = some (.int .i64 s1) ∧ True))) (by kernel_rfl) (KS75.out _ (belowDrew0 _)) (fun hHeld => ?_)
    refine takeD (i := 0) (some 99) (.agg #[.int .i64 m0.c, .int .i64 m0.d, .int .i64 m0.s, .int .i64 m0.a, .int .i64 m0.l]) rfl (by kernel_rfl) (by kernel_rfl) (by kernel_rfl) (by kernel_rfl) (fun _ _ _ h => h) (by assumption) (Or.inl ⟨by rfl, fun w hSw => by (try dsimp only at hSw); go_simp⟩) ?_
    simp only [Act.put, List.setIfInBounds_toArray, List.set_cons_zero, List.set_cons_succ]
    refine takeD (i := 2) (some 101) (.agg #[.slice A1 xs1.length c1, .slice B1 ys1.length d1, .int .i64 s1]) rfl (by kernel_rfl) (by kernel_rfl) (by kernel_rfl) (by kernel_rfl) (fun _ _ _ h => h) (by assumption) (Or.inl ⟨by rfl, fun w hSw => by (try dsimp only at hSw); go_simp⟩) ?_
    simp only [Act.put, List.setIfInBounds_toArray, List.set_cons_zero, List.set_cons_succ]
    refine takeD (i := 4) (some 103) (.slice A2 xs2.length c2) rfl (by kernel_rfl) (by kernel_rfl) (by kernel_rfl) (by kernel_rfl) (fun _ _ _ h => h) (by assumption) (Or.inl ⟨by rfl, fun w hSw => by (try dsimp only at hSw); go_simp⟩) ?_
    simp only [Act.put, List.setIfInBounds_toArray, List.set_cons_zero, List.set_cons_succ]
    have b21 := belowDrew0 w20
    refine wpAnyH_ready (rs := [1, 10]) (by kernel_rfl) (by simp) (AllReadyH.cons rfl (fun K hK => ?_) (AllReadyH.cons rfl (fun K hK => ?_) AllReadyH.nil))
    · go_simp
      refine (toM m0.c m0.d m0.s m0.a m0.l _).mono ?_
      rintro e w22 ⟨rfl, b22⟩
      have D20_22 := b21.trans (b22.mono b21.size)
      have HHeld := KS75.out _ D20_22
      refine hK.out _ _ HHeld (fun _ => ?_)
      clear hK K
      (try simp only [Act.put]); (try simp only [List.setIfInBounds_toArray]); (try simp only [List.set_cons_zero, List.set_cons_succ])
      refine wpAnyH_ready (rs := [3, 10]) (by kernel_rfl) (by simp) (AllReadyH.cons rfl (fun K hK => ?_) (AllReadyH.cons rfl (fun K hK => ?_) AllReadyH.nil))
      · go_simp
        have S8_10 := Nat.le_trans (lhg0) hleg
        have S8_11 := Nat.le_trans (S8_10) b11.size
        have S8_12 := Nat.le_trans (S8_11) b12.size
        have S8_13 := Nat.le_trans (S8_12) b13.size
        have S8_14 := Nat.le_trans (S8_13) b14.size
        have S8_15 := Nat.le_trans (S8_14) b15.size
        have S8_16 := Nat.le_trans (S8_15) on16.size
        have S8_17 := Nat.le_trans (S8_16) on17.size
        have S8_18 := Nat.le_trans (S8_17) b18.size
        have D0_14 := D0_13.trans (b14.mono D0_13.size)
        have D0_15 := D0_14.trans (b15.mono D0_14.size)
        have D0_16 := D0_15.trans ((on16.below (S4_15)).mono (S0_4))
        have D0_17 := D0_16.trans ((on17.below (S6_16)).mono (S0_6))
        have D0_18 := D0_17.trans (b18.mono D0_17.size)
        have D0_19 := D0_18.trans ((on19.below (S8_18)).mono (S0_8))
        have D0_20 := D0_19.trans (b20.mono D0_19.size)
        have D0_21 := D0_20.trans (b21.mono D0_20.size)
        have D0_22 := D0_21.trans (b22.mono D0_21.size)
        refine (toP A1 c1 xs1 B1 d1 ys1 s1 _ (Rxs1.below D0_22) (Rys1.below D0_22) zxs1 zys1).mono ?_
        rintro e w23 ⟨A1_23, c1_23, B1_23, d1_23, rfl, hc1_23, rA1_23, hd1_23, rB1_23, oA1_23, b23⟩
        have D20_23 := D20_22.trans (b23.mono D20_22.size)
        have HHeld := KS75.out _ D20_23
        refine hK.out _ _ HHeld (fun _ => ?_)
        clear hK K
        (try simp only [Act.put]); (try simp only [List.setIfInBounds_toArray]); (try simp only [List.set_cons_zero, List.set_cons_succ])
        refine wpAnyH_ready (rs := [5, 10]) (by kernel_rfl) (by simp) (AllReadyH.cons rfl (fun K hK => ?_) (AllReadyH.cons rfl (fun K hK => ?_) AllReadyH.nil))
        · go_simp
          have D0_23 := D0_22.trans (b23.mono D0_22.size)
          refine (toI A2 c2 xs2 _ (Rxs2.below D0_23) z2).mono ?_
          rintro e w24 ⟨A2_24, c2_24, rfl, hc2_24, rA2_24, oA2_24, b24, -⟩
          have D20_24 := D20_23.trans (b24.mono D20_23.size)
          have HHeld := KS75.out _ D20_24
          refine hK.out _ _ HHeld (fun _ => ?_)
          clear hK K
          (try simp only [Act.put]); (try simp only [List.setIfInBounds_toArray]); (try simp only [List.set_cons_zero, List.set_cons_succ])
          refine wpAnyH_ready (rs := [6, 10]) (by kernel_rfl) (by simp) (AllReadyH.cons rfl (fun K hK => ?_) (AllReadyH.cons rfl (fun K hK => ?_) AllReadyH.nil))
          · go_simp
            refine (implChangeLock_any m0 A1_23 c1_23 xs1 B1_23 d1_23 ys1 s1 A2_24 c2_24 xs2 _ (rA1_23.below b24) (rB1_23.below b24) rA2_24 hc1_23 hc2_24).mono ?_
            rintro e w25 ⟨Ah0, ch0, rfl, hch0, rh0, oh0, b25⟩
            have D20_25 := D20_24.trans (b25.mono D20_24.size)
            have HHeld := KS75.out _ D20_25
            refine hK.out _ _ HHeld (fun _ => ?_)
            clear hK K
            (try simp only [Act.put]); (try simp only [List.setIfInBounds_toArray]); (try simp only [List.set_cons_zero, List.set_cons_succ])
            refine takeD (i := 7) (some 98) (.tuple #[.agg #[.slice Ah0 (changeLockR m0 xs1 ys1 s1 xs2).1.length ch0], .int .i64 (changeLockR m0 xs1 ys1 s1 xs2).2]) rfl (by kernel_rfl) (by kernel_rfl) (by kernel_rfl) (by kernel_rfl) (fun _ _ _ h => h) (by assumption) (Or.inl ⟨by rfl, fun w hSw => by (try dsimp only at hSw); go_simp⟩) ?_
            simp only [Act.put, List.setIfInBounds_toArray, List.set_cons_zero, List.set_cons_succ]
            refine takeD (i := 8) (some 106) (.agg #[.slice Ah0 (changeLockR m0 xs1 ys1 s1 xs2).1.length ch0]) rfl (by kernel_rfl) (by kernel_rfl) (by kernel_rfl) (by kernel_rfl) (fun _ _ _ h => h) (by assumption) (Or.inl ⟨by rfl, fun w hSw => by (try dsimp only at hSw); go_simp⟩) ?_
            simp only [Act.put, List.setIfInBounds_toArray, List.set_cons_zero, List.set_cons_succ]
            refine takeD (i := 9) (some 107) (.int .i64 (changeLockR m0 xs1 ys1 s1 xs2).2) rfl (by kernel_rfl) (by kernel_rfl) (by kernel_rfl) (by kernel_rfl) (fun _ _ _ h => h) (by assumption) (Or.inl ⟨by rfl, fun w hSw => by (try dsimp only at hSw); go_simp⟩) ?_
            simp only [Act.put, List.setIfInBounds_toArray, List.set_cons_zero, List.set_cons_succ]
            refine wpAnyH_ready (rs := [10]) (by kernel_rfl) (by simp) (AllReadyH.cons rfl (fun K hK => ?_) AllReadyH.nil)
            go_simp
            have b26 : Below w25.heap.size w25 (w25.alloc (.cells #[.slice none 0 0] 48)) := (Below.refl _ _).alloc (Nat.le_refl _) _
            have D20_26 := D20_25.trans (b26.mono D20_25.size)
            have HHeld := KS75.out _ D20_26
            refine hK.out _ _ HHeld (fun _ => ?_)
            clear hK K
            (try simp only [Act.put]); (try simp only [List.setIfInBounds_toArray]); (try simp only [List.set_cons_zero, List.set_cons_succ])
            have S20_22 := Nat.le_trans (b21.size) b22.size
            have S20_23 := Nat.le_trans (S20_22) b23.size
            have S20_24 := Nat.le_trans (S20_23) b24.size
            have S20_25 := Nat.le_trans (S20_24) b25.size
            refine wpAnyH_ready (rs := [11]) (by kernel_rfl) (by simp) (AllReadyH.cons rfl (fun K hK => ?_) AllReadyH.nil)
            go_simp
            have HHeld := KS75.out _ (Below.alloc D20_25 (S20_25) (.cells #[.slice Ah0 (changeLockR m0 xs1 ys1 s1 xs2).1.length ch0] 48))
            refine hK.out _ _ HHeld (fun _ => ?_)
            clear hK K
            (try simp only [Act.put]); (try simp only [List.setIfInBounds_toArray]); (try simp only [List.set_cons_zero, List.set_cons_succ])
            refine takeD (i := 12) (some 18) (.int .i64 (changeLockR m0 xs1 ys1 s1 xs2).2) rfl (by kernel_rfl) (by kernel_rfl) (by kernel_rfl) (by kernel_rfl) (fun _ _ _ h => h) (by assumption) (Or.inl ⟨by rfl, fun w hSw => by (try dsimp only at hSw); go_simp⟩) ?_
            (try simp only [Act.put]); (try simp only [List.setIfInBounds_toArray]); (try simp only [List.set_cons_zero, List.set_cons_succ])
            refine wpAnyH_done (by kernel_rfl) ?_ _
            go_wp2_with fail
            go_meet
            exact ⟨Ah0, ch0, w24.heap.size, w25.heap.size, w25.heap.size, rfl, rfl, hch0, ((oh0).below ((Below.refl _ _).alloc (Nat.le_refl _) _)), (Or.inr (Nat.le_refl _)), S20_24, b25.size, (by simp), S20_25, (by simp), (by simp [BoxC, Go.World.cell?_alloc_at]), (Below.alloc D20_25 (S20_25) (.cells #[.slice Ah0 (changeLockR m0 xs1 ys1 s1 xs2).1.length ch0] 48))⟩
          · go_simp
            have b25 : Below w24.heap.size w24 (w24.alloc (.cells #[.slice none 0 0] 48)) := (Below.refl _ _).alloc (Nat.le_refl _) _
            have D20_25 := D20_24.trans (b25.mono D20_24.size)
            have HHeld := KS75.out _ D20_25
            refine hK.out _ _ HHeld (fun _ => ?_)
            clear hK K
            (try simp only [Act.put]); (try simp only [List.setIfInBounds_toArray]); (try simp only [List.set_cons_zero, List.set_cons_succ])
            refine wpAnyH_ready (rs := [6]) (by kernel_rfl) (by simp) (AllReadyH.cons rfl (fun K hK => ?_) AllReadyH.nil)
            go_simp
            have D23_25 := b24.trans (b25.mono b24.size)
            refine (implChangeLock_any m0 A1_23 c1_23 xs1 B1_23 d1_23 ys1 s1 A2_24 c2_24 xs2 _ (rA1_23.below D23_25) (rB1_23.below D23_25) (rA2_24.below b25) hc1_23 hc2_24).mono ?_
            rintro e w26 ⟨Ah0, ch0, rfl, hch0, rh0, oh0, b26⟩
            have D20_26 := D20_25.trans (b26.mono D20_25.size)
            have HHeld := KS75.out _ D20_26
            refine hK.out _ _ HHeld (fun _ => ?_)
            clear hK K
            (try simp only [Act.put]); (try simp only [List.setIfInBounds_toArray]); (try simp only [List.set_cons_zero, List.set_cons_succ])
            refine takeD (i := 7) (some 98) (.tuple #[.agg #[.slice Ah0 (changeLockR m0 xs1 ys1 s1 xs2).1.length ch0], .int .i64 (changeLockR m0 xs1 ys1 s1 xs2).2]) rfl (by kernel_rfl) (by kernel_rfl) (by kernel_rfl) (by kernel_rfl) (fun _ _ _ h => h) (by assumption) (Or.inl ⟨by rfl, fun w hSw => by (try dsimp only at hSw); go_simp⟩) ?_
            simp only [Act.put, List.setIfInBounds_toArray, List.set_cons_zero, List.set_cons_succ]
            refine takeD (i := 8) (some 106) (.agg #[.slice Ah0 (changeLockR m0 xs1 ys1 s1 xs2).1.length ch0]) rfl (by kernel_rfl) (by kernel_rfl) (by kernel_rfl) (by kernel_rfl) (fun _ _ _ h => h) (by assumption) (Or.inl ⟨by rfl, fun w hSw => by (try dsimp only at hSw); go_simp⟩) ?_
            simp only [Act.put, List.setIfInBounds_toArray, List.set_cons_zero, List.set_cons_succ]
            refine takeD (i := 9) (some 107) (.int .i64 (changeLockR m0 xs1 ys1 s1 xs2).2) rfl (by kernel_rfl) (by kernel_rfl) (by kernel_rfl) (by kernel_rfl) (fun _ _ _ h => h) (by assumption) (Or.inl ⟨by rfl, fun w hSw => by (try dsimp only at hSw); go_simp⟩) ?_
            simp only [Act.put, List.setIfInBounds_toArray, List.set_cons_zero, List.set_cons_succ]
            have cz0 : w26.cell? ⟨w24.heap.size, 0, none⟩ = some (.slice none 0 0) := (b26.cell (p := ⟨w24.heap.size, 0, none⟩) (by simp)).trans (by simp)
            have fz0 : w26.frozen? ⟨w24.heap.size, 0, none⟩ = false := (b26.frozen (p := ⟨w24.heap.size, 0, none⟩) (by simp)).trans (by simp)
            have S20_22 := Nat.le_trans (b21.size) b22.size
            have S20_23 := Nat.le_trans (S20_22) b23.size
            have S20_24 := Nat.le_trans (S20_23) b24.size
            have hblo : w24.heap.size < (w24.alloc (.cells #[.slice none 0 0] 48)).heap.size := Nat.lt_of_lt_of_le (show w24.heap.size < (w24.alloc (.cells #[.slice none 0 0] 48)).heap.size by simp) (Nat.le_refl _)
            refine wpAnyH_ready (rs := [11]) (by kernel_rfl) (by simp) (AllReadyH.cons rfl (fun K hK => ?_) AllReadyH.nil)
            go_simp
            have HHeld := KS75.out _ (Below.setCell D20_26 (p := ⟨w24.heap.size, 0, none⟩) (S20_24) (.slice Ah0 (changeLockR m0 xs1 ys1 s1 xs2).1.length ch0))
            refine hK.out _ _ HHeld (fun _ => ?_)
            clear hK K
            (try simp only [Act.put]); (try simp only [List.setIfInBounds_toArray]); (try simp only [List.set_cons_zero, List.set_cons_succ])
            refine takeD (i := 12) (some 18) (.int .i64 (changeLockR m0 xs1 ys1 s1 xs2).2) rfl (by kernel_rfl) (by kernel_rfl) (by kernel_rfl) (by kernel_rfl) (fun _ _ _ h => h) (by assumption) (Or.inl ⟨by rfl, fun w hSw => by (try dsimp only at hSw); go_simp⟩) ?_
            (try simp only [Act.put]); (try simp only [List.setIfInBounds_toArray]); (try simp only [List.set_cons_zero, List.set_cons_succ])
            refine wpAnyH_done (by kernel_rfl) ?_ _
            have S20_25 := Nat.le_trans (S20_24) b25.size
            go_wp2_with fail
            go_meet
            exact ⟨Ah0, ch0, (w24.alloc (.cells #[.slice none 0 0] 48)).heap.size, w26.heap.size, w24.heap.size, rfl, rfl, hch0, (OII.setLow (p := ⟨w24.heap.size, 0, none⟩) (by simp only; exact hblo) oh0), (Or.inl (Nat.lt_of_lt_of_le hblo (Nat.le_refl _))), S20_25, b26.size, (by simp only [World.size_setCell]; exact Nat.le_refl _), S20_24, (by simp only [World.size_setCell]; exact Nat.lt_of_lt_of_le hblo (b26.size)), ⟨World.cell?_setCell_same _ _ _ cz0, trivial⟩, (Below.setCell D20_26 (p := ⟨w24.heap.size, 0, none⟩) (S20_24) (.slice Ah0 (changeLockR m0 xs1 ys1 s1 xs2).1.length ch0))⟩
        · go_simp
          have b24 : Below w23.heap.size w23 (w23.alloc (.cells #[.slice none 0 0] 48)) := (Below.refl _ _).alloc (Nat.le_refl _) _
          have D20_24 := D20_23.trans (b24.mono D20_23.size)
          have HHeld := KS75.out _ D20_24
          refine hK.out _ _ HHeld (fun _ => ?_)
          clear hK K
          (try simp only [Act.put]); (try simp only [List.setIfInBounds_toArray]); (try simp only [List.set_cons_zero, List.set_cons_succ])
          refine wpAnyH_ready (rs := [5]) (by kernel_rfl) (by simp) (AllReadyH.cons rfl (fun K hK => ?_) AllReadyH.nil)
          go_simp
          have D0_23 := D0_22.trans (b23.mono D0_22.size)
          have D0_24 := D0_23.trans (b24.mono D0_23.size)
          refine (toI A2 c2 xs2 _ (Rxs2.below D0_24) z2).mono ?_
          rintro e w25 ⟨A2_25, c2_25, rfl, hc2_25, rA2_25, oA2_25, b25, -⟩
          have D20_25 := D20_24.trans (b25.mono D20_24.size)
          have HHeld := KS75.out _ D20_25
          refine hK.out _ _ HHeld (fun _ => ?_)
          clear hK K
          (try simp only [Act.put]); (try simp only [List.setIfInBounds_toArray]); (try simp only [List.set_cons_zero, List.set_cons_succ])
          refine wpAnyH_ready (rs := [6]) (by kernel_rfl) (by simp) (AllReadyH.cons rfl (fun K hK => ?_) AllReadyH.nil)
          go_simp
          have D23_25 := b24.trans (b25.mono b24.size)
          refine (implChangeLock_any m0 A1_23 c1_23 xs1 B1_23 d1_23 ys1 s1 A2_25 c2_25 xs2 _ (rA1_23.below D23_25) (rB1_23.below D23_25) rA2_25 hc1_23 hc2_25).mono ?_
          rintro e w26 ⟨Ah0, ch0, rfl, hch0, rh0, oh0, b26⟩
          have D20_26 := D20_25.trans (b26.mono D20_25.size)
          have HHeld := KS75.out _ D20_26
          refine hK.out _ _ HHeld (fun _ => ?_)
          clear hK K
          (try simp only [Act.put]); (try simp only [List.setIfInBounds_toArray]); (try simp only [List.set_cons_zero, List.set_cons_succ])
          refine takeD (i := 7) (some 98) (.tuple #[.agg #[.slice Ah0 (changeLockR m0 xs1 ys1 s1 xs2).1.length ch0], .int .i64 (changeLockR m0 xs1 ys1 s1 xs2).2]) rfl (by kernel_rfl) (by kernel_rfl) (by kernel_rfl) (by kernel_rfl) (fun _ _ _ h => h) (by assumption) (Or.inl ⟨by rfl, fun w hSw => by (try dsimp only at hSw); go_simp⟩) ?_
          simp only [Act.put, List.setIfInBounds_toArray, List.set_cons_zero, List.set_cons_succ]
          refine takeD (i := 8) (some 106) (.agg #[.slice Ah0 (changeLockR m0 xs1 ys1 s1 xs2).1.length ch0]) rfl (by kernel_rfl) (by kernel_rfl) (by kernel_rfl) (by kernel_rfl) (fun _ _ _ h => h) (by assumption) (Or.inl ⟨by rfl, fun w hSw => by (try dsimp only at hSw); go_simp⟩) ?_
          simp only [Act.put, List.setIfInBounds_toArray, List.set_cons_zero, List.set_cons_succ]
          refine takeD (i := 9) (some 107) (.int .i64 (changeLockR m0 xs1 ys1 s1 xs2).2) rfl (by kernel_rfl) (by kernel_rfl) (by kernel_rfl) (by kernel_rfl) (fun _ _ _ h => h) (by assumption) (Or.inl ⟨by rfl, fun w hSw => by (try dsimp only at hSw); go_simp⟩) ?_
          simp only [Act.put, List.setIfInBounds_toArray, List.set_cons_zero, List.set_cons_succ]
          have D24_26 := b25.trans (b26.mono b25.size)
          have cz0 : w26.cell? ⟨w23.heap.size, 0, none⟩ = some (.slice none 0 0) := (D24_26.cell (p := ⟨w23.heap.size, 0, none⟩) (by simp)).trans (by simp)
          have fz0 : w26.frozen? ⟨w23.heap.size, 0, none⟩ = false := (D24_26.frozen (p := ⟨w23.heap.size, 0, none⟩) (by simp)).trans (by simp)
          have S20_22 := Nat.le_trans (b21.size) b22.size
          have S20_23 := Nat.le_trans (S20_22) b23.size
          have hblo : w23.heap.size < w25.heap.size := Nat.lt_of_lt_of_le (show w23.heap.size < (w23.alloc (.cells #[.slice none 0 0] 48)).heap.size by simp) (b25.size)
          refine wpAnyH_ready (rs := [11]) (by kernel_rfl) (by simp) (AllReadyH.cons rfl (fun K hK => ?_) AllReadyH.nil)
          go_simp
          have HHeld := KS75.out _ (Below.setCell D20_26 (p := ⟨w23.heap.size, 0, none⟩) (S20_23) (.slice Ah0 (changeLockR m0 xs1 ys1 s1 xs2).1.length ch0))
          refine hK.out _ _ HHeld (fun _ => ?_)
          clear hK K
          (try simp only [Act.put]); (try simp only [List.setIfInBounds_toArray]); (try simp only [List.set_cons_zero, List.set_cons_succ])
          refine takeD (i := 12) (some 18) (.int .i64 (changeLockR m0 xs1 ys1 s1 xs2).2) rfl (by kernel_rfl) (by kernel_rfl) (by kernel_rfl) (by kernel_rfl) (fun _ _ _ h => h) (by assumption) (Or.inl ⟨by rfl, fun w hSw => by (try dsimp only at hSw); go_simp⟩) ?_
          (try simp only [Act.put]); (try simp only [List.setIfInBounds_toArray]); (try simp only [List.set_cons_zero, List.set_cons_succ])
          refine wpAnyH_done (by kernel_rfl) ?_ _
          have S20_24 := Nat.le_trans (S20_23) b24.size
          have S20_25 := Nat.le_trans (S20_24) b25.size
          go_wp2_with fail
          go_meet
          exact ⟨Ah0, ch0, w25.heap.size, w26.heap.size, w23.heap.size, rfl, rfl, hch0, (OII.setLow (p := ⟨w23.heap.size, 0, none⟩) (by simp only; exact hblo) oh0), (Or.inl (Nat.lt_of_lt_of_le hblo (Nat.le_refl _))), S20_25, b26.size, (by simp only [World.size_setCell]; exact Nat.le_refl _), S20_23, (by simp only [World.size_setCell]; exact Nat.lt_of_lt_of_le hblo (b26.size)), ⟨World.cell?_setCell_same _ _ _ cz0, trivial⟩, (Below.setCell D20_26 (p := ⟨w23.heap.size, 0, none⟩) (S20_23) (.slice Ah0 (changeLockR m0 xs1 ys1 s1 xs2).1.length ch0))⟩
      · go_simp
        have b23 : Below w22.heap.size w22 (w22.alloc (.cells #[.slice none 0 0] 48)) := (Below.refl _ _).alloc (Nat.le_refl _) _
        have D20_23 := D20_22.trans (b23.mono D20_22.size)
        have HHeld := KS75.out _ D20_23
        refine hK.out _ _ HHeld (fun _ => ?_)
        clear hK K
        (try simp only [Act.put]); (try simp only [List.setIfInBounds_toArray]); (try simp only [List.set_cons_zero, List.set_cons_succ])
        refine wpAnyH_ready (rs := [3]) (by kernel_rfl) (by simp) (AllReadyH.cons rfl (fun K hK => ?_) AllReadyH.nil)
        go_simp
        have S8_10 := Nat.le_trans (lhg0) hleg
        have S8_11 := Nat.le_trans (S8_10) b11.size
        have S8_12 := Nat.le_trans (S8_11) b12.size
        have S8_13 := Nat.le_trans (S8_12) b13.size
        have S8_14 := Nat.le_trans (S8_13) b14.size
        have S8_15 := Nat.le_trans (S8_14) b15.size
        have S8_16 := Nat.le_trans (S8_15) on16.size
        have S8_17 := Nat.le_trans (S8_16) on17.size
        have S8_18 := Nat.le_trans (S8_17) b18.size
        have D0_14 := D0_13.trans (b14.mono D0_13.size)
        have D0_15 := D0_14.trans (b15.mono D0_14.size)
        have D0_16 := D0_15.trans ((on16.below (S4_15)).mono (S0_4))
        have D0_17 := D0_16.trans ((on17.below (S6_16)).mono (S0_6))
        have D0_18 := D0_17.trans (b18.mono D0_17.size)
        have D0_19 := D0_18.trans ((on19.below (S8_18)).mono (S0_8))
        have D0_20 := D0_19.trans (b20.mono D0_19.size)
        have D0_21 := D0_20.trans (b21.mono D0_20.size)
        have D0_22 := D0_21.trans (b22.mono D0_21.size)
        have D0_23 := D0_22.trans (b23.mono D0_22.size)
        refine (toP A1 c1 xs1 B1 d1 ys1 s1 _ (Rxs1.below D0_23) (Rys1.below D0_23) zxs1 zys1).mono ?_
        rintro e w24 ⟨A1_24, c1_24, B1_24, d1_24, rfl, hc1_24, rA1_24, hd1_24, rB1_24, oA1_24, b24⟩
        have D20_24 := D20_23.trans (b24.mono D20_23.size)
        have HHeld := KS75.out _ D20_24
        refine hK.out _ _ HHeld (fun _ => ?_)
        clear hK K
        (try simp only [Act.put]); (try simp only [List.setIfInBounds_toArray]); (try simp only [List.set_cons_zero, List.set_cons_succ])
        refine wpAnyH_ready (rs := [5]) (by kernel_rfl) (by simp) (AllReadyH.cons rfl (fun K hK => ?_) AllReadyH.nil)
        go_simp
        have D0_24 := D0_23.trans (b24.mono D0_23.size)
        refine (toI A2 c2 xs2 _ (Rxs2.below D0_24) z2).mono ?_
        rintro e w25 ⟨A2_25, c2_25, rfl, hc2_25, rA2_25, oA2_25, b25, -⟩
        have D20_25 := D20_24.trans (b25.mono D20_24.size)
        have HHeld := KS75.out _ D20_25
        refine hK.out _ _ HHeld (fun _ => ?_)
        clear hK K
        (try simp only [Act.put]); (try simp only [List.setIfInBounds_toArray]); (try simp only [List.set_cons_zero, List.set_cons_succ])
        refine wpAnyH_ready (rs := [6]) (by kernel_rfl) (by simp) (AllReadyH.cons rfl (fun K hK => ?_) AllReadyH.nil)
        go_simp
        refine (implChangeLock_any m0 A1_24 c1_24 xs1 B1_24 d1_24 ys1 s1 A2_25 c2_25 xs2 _ (rA1_24.below b25) (rB1_24.below b25) rA2_25 hc1_24 hc2_25).mono ?_
        rintro e w26 ⟨Ah0, ch0, rfl, hch0, rh0, oh0, b26⟩
        have D20_26 := D20_25.trans (b26.mono D20_25.size)
        have HHeld := KS75.out _ D20_26
        refine hK.out _ _ HHeld (fun _ => ?_)
        clear hK K
        (try simp only [Act.put]); (try simp only [List.setIfInBounds_toArray]); (try simp only [List.set_cons_zero, List.set_cons_succ])
        refine takeD (i := 7) (some 98) (.tuple #[.agg #[.slice Ah0 (changeLockR m0 xs1 ys1 s1 xs2).1.length ch0], .int .i64 (changeLockR m0 xs1 ys1 s1 xs2).2]) rfl (by kernel_rfl) (by kernel_rfl) (by kernel_rfl) (by kernel_rfl) (fun _ _ _ h => h) (by assumption) (Or.inl ⟨by rfl, fun w hSw => by (try dsimp only at hSw); go_simp⟩) ?_
        simp only [Act.put, List.setIfInBounds_toArray, List.set_cons_zero, List.set_cons_succ]
        refine takeD (i := 8) (some 106) (.agg #[.slice Ah0 (changeLockR m0 xs1 ys1 s1 xs2).1.length ch0]) rfl (by kernel_rfl) (by kernel_rfl) (by kernel_rfl) (by kernel_rfl) (fun _ _ _ h => h) (by assumption) (Or.inl ⟨by rfl, fun w hSw => by (try dsimp only at hSw); go_simp⟩) ?_
        simp only [Act.put, List.setIfInBounds_toArray, List.set_cons_zero, List.set_cons_succ]
        refine takeD (i := 9) (some 107) (.int .i64 (changeLockR m0 xs1 ys1 s1 xs2).2) rfl (by kernel_rfl) (by kernel_rfl) (by kernel_rfl) (by kernel_rfl) (fun _ _ _ h => h) (by assumption) (Or.inl ⟨by rfl, fun w hSw => by (try dsimp only at hSw); go_simp⟩) ?_
        simp only [Act.put, List.setIfInBounds_toArray, List.set_cons_zero, List.set_cons_succ]
        have D23_25 := b24.trans (b25.mono b24.size)
        have D23_26 := D23_25.trans (b26.mono D23_25.size)
        have cz0 : w26.cell? ⟨w22.heap.size, 0, none⟩ = some (.slice none 0 0) := (D23_26.cell (p := ⟨w22.heap.size, 0, none⟩) (by simp)).trans (by simp)
        have fz0 : w26.frozen? ⟨w22.heap.size, 0, none⟩ = false := (D23_26.frozen (p := ⟨w22.heap.size, 0, none⟩) (by simp)).trans (by simp)
        have S20_22 := Nat.le_trans (b21.size) b22.size
        have S23_25 := Nat.le_trans (b24.size) b25.size
        have hblo : w22.heap.size < w25.heap.size := Nat.lt_of_lt_of_le (show w22.heap.size < (w22.alloc (.cells #[.slice none 0 0] 48)).heap.size by simp) (S23_25)
        refine wpAnyH_ready (rs := [11]) (by kernel_rfl) (by simp) (AllReadyH.cons rfl (fun K hK => ?_) AllReadyH.nil)
        go_simp
        have HHeld := KS75.out _ (Below.setCell D20_26 (p := ⟨w22.heap.size, 0, none⟩) (S20_22) (.slice Ah0 (changeLockR m0 xs1 ys1 s1 xs2).1.length ch0))
        refine hK.out _ _ HHeld (fun _ => ?_)
        clear hK K
        (try simp only [Act.put]); (try simp only [List.setIfInBounds_toArray]); (try simp only [List.set_cons_zero, List.set_cons_succ])
        refine takeD (i := 12) (some 18) (.int .i64 (changeLockR m0 xs1 ys1 s1 xs2).2) rfl (by kernel_rfl) (by kernel_rfl) (by kernel_rfl) (by kernel_rfl) (fun _ _ _ h => h) (by assumption) (Or.inl ⟨by rfl, fun w hSw => by (try dsimp only at hSw); go_simp⟩) ?_
        (try simp only [Act.put]); (try simp only [List.setIfInBounds_toArray]); (try simp only [List.set_cons_zero, List.set_cons_succ])
        refine wpAnyH_done (by kernel_rfl) ?_ _
        have S20_23 := Nat.le_trans (S20_22) b23.size
        have S20_24 := Nat.le_trans (S20_23) b24.size
        have S20_25 := Nat.le_trans (S20_24) b25.size
        go_wp2_with fail
        go_meet
        exact ⟨Ah0, ch0, w25.heap.size, w26.heap.size, w22.heap.size, rfl, rfl, hch0, (OII.setLow (p := ⟨w22.heap.size, 0, none⟩) (by simp only; exact hblo) oh0), (Or.inl (Nat.lt_of_lt_of_le hblo (Nat.le_refl _))), S20_25, b26.size, (by simp only [World.size_setCell]; exact Nat.le_refl _), S20_22, (by simp only [World.size_setCell]; exact Nat.lt_of_lt_of_le hblo (b26.size)), ⟨World.cell?_setCell_same _ _ _ cz0, trivial⟩, (Below.setCell D20_26 (p := ⟨w22.heap.size, 0, none⟩) (S20_22) (.slice Ah0 (changeLockR m0 xs1 ys1 s1 xs2).1.length ch0))⟩
    · go_simp
      have b22 : Below w20.drew.heap.size w20.drew (w20.drew.alloc (.cells #[.slice none 0 0] 48)) := (Below.refl _ _).alloc (Nat.le_refl _) _
      have D20_22 := b21.trans (b22.mono b21.size)
      have HHeld := KS75.out _ D20_22
      refine hK.out _ _ HHeld (fun _ => ?_)
      clear hK K
      (try simp only [Act.put]); (try simp only [List.setIfInBounds_toArray]); (try simp only [List.set_cons_zero, List.set_cons_succ])
      refine wpAnyH_ready (rs := [1]) (by kernel_rfl) (by simp) (AllReadyH.cons rfl (fun K hK => ?_) AllReadyH.nil)
      go_simp
      refine (toM m0.c m0.d m0.s m0.a m0.l _).mono ?_
      rintro e w23 ⟨rfl, b23⟩
      have D20_23 := D20_22.trans (b23.mono D20_22.size)
      have HHeld := KS75.out _ D20_23
      refine hK.out _ _ HHeld (fun _ => ?_)
      clear hK K
      (try simp only [Act.put]); (try simp only [List.setIfInBounds_toArray]); (try simp only [List.set_cons_zero, List.set_cons_succ])
      refine wpAnyH_ready (rs := [3]) (by kernel_rfl) (by simp) (AllReadyH.cons rfl (fun K hK => ?_) AllReadyH.nil)
      go_simp
      have S8_10 := Nat.le_trans (lhg0) hleg
      have S8_11 := Nat.le_trans (S8_10) b11.size
      have S8_12 := Nat.le_trans (S8_11) b12.size
      have S8_13 := Nat.le_trans (S8_12) b13.size
      have S8_14 := Nat.le_trans (S8_13) b14.size
      have S8_15 := Nat.le_trans (S8_14) b15.size
      have S8_16 := Nat.le_trans (S8_15) on16.size
      have S8_17 := Nat.le_trans (S8_16) on17.size
      have S8_18 := Nat.le_trans (S8_17) b18.size
      have D0_14 := D0_13.trans (b14.mono D0_13.size)
      have D0_15 := D0_14.trans (b15.mono D0_14.size)
      have D0_16 := D0_15.trans ((on16.below (S4_15)).mono (S0_4))
      have D0_17 := D0_16.trans ((on17.below (S6_16)).mono (S0_6))
      have D0_18 := D0_17.trans (b18.mono D0_17.size)
      have D0_19 := D0_18.trans ((on19.below (S8_18)).mono (S0_8))
      have D0_20 := D0_19.trans (b20.mono D0_19.size)
      have D0_21 := D0_20.trans (b21.mono D0_20.size)
      have D0_22 := D0_21.trans (b22.mono D0_21.size)
      have D0_23 := D0_22.trans (b23.mono D0_22.size)
      refine (toP A1 c1 xs1 B1 d1 ys1 s1 _ (Rxs1.below D0_23) (Rys1.below D0_23) zxs1 zys1).mono ?_
      rintro e w24 ⟨A1_24, c1_24, B1_24, d1_24, rfl, hc1_24, rA1_24, hd1_24, rB1_24, oA1_24, b24⟩
      have D20_24 := D20_23.trans (b24.mono D20_23.size)
      have HHeld := KS75.out _ D20_24
      refine hK.out _ _ HHeld (fun _ => ?_)
      clear hK K
      (try simp only [Act.put]); (try simp only [List.setIfInBounds_toArray]); (try simp only [List.set_cons_zero, List.set_cons_succ])
      refine wpAnyH_ready (rs := [5]) (by kernel_rfl) (by simp) (AllReadyH.cons rfl (fun K hK => ?_) AllReadyH.nil)
      go_simp
      have D0_24 := D0_23.trans (b24.mono D0_23.size)
      refine (toI A2 c2 xs2 _ (Rxs2.below D0_24) z2).mono ?_
      rintro e w25 ⟨A2_25, c2_25, rfl, hc2_25, rA2_25, oA2_25, b25, -⟩
      have D20_25 := D20_24.trans (b25.mono D20_24.size)
      have HHeld := KS75.out _ D20_25
      refine hK.out _ _ HHeld (fun _ => ?_)
      clear hK K
      (try simp only [Act.put]); (try simp only [List.setIfInBounds_toArray]); (try simp only [List.set_cons_zero, List.set_cons_succ])
      refine wpAnyH_ready (rs := [6]) (by kernel_rfl) (by simp) (AllReadyH.cons rfl (fun K hK => ?_) AllReadyH.nil)
      go_simp
      refine (implChangeLock_any m0 A1_24 c1_24 xs1 B1_24 d1_24 ys1 s1 A2_25 c2_25 xs2 _ (rA1_24.below b25) (rB1_24.below b25) rA2_25 hc1_24 hc2_25).mono ?_
      rintro e w26 ⟨Ah0, ch0, rfl, hch0, rh0, oh0, b26⟩
      have D20_26 := D20_25.trans (b26.mono D20_25.size)
      have HHeld := KS75.out _ D20_26
      refine hK.out _ _ HHeld (fun _ => ?_)
      clear hK K
      (try simp only [Act.put]); (try simp only [List.setIfInBounds_toArray]); (try simp only [List.set_cons_zero, List.set_cons_succ])
      refine takeD (i := 7) (some 98) (.tuple #[.agg #[.slice Ah0 (changeLockR m0 xs1 ys1 s1 xs2).1.length ch0], .int .i64 (changeLockR m0 xs1 ys1 s1 xs2).2]) rfl (by kernel_rfl) (by kernel_rfl) (by kernel_rfl) (by kernel_rfl) (fun _ _ _ h => h) (by assumption) (Or.inl ⟨by rfl, fun w hSw => by (try dsimp only at hSw); go_simp⟩) ?_
      simp only [Act.put, List.setIfInBounds_toArray, List.set_cons_zero, List.set_cons_succ]
      refine takeD (i := 8) (some 106) (.agg #[.slice Ah0 (changeLockR m0 xs1 ys1 s1 xs2).1.length ch0]) rfl (by kernel_rfl) (by kernel_rfl) (by kernel_rfl) (by kernel_rfl) (fun _ _ _ h => h) (by assumption) (Or.inl ⟨by rfl, fun w hSw => by (try dsimp only at hSw); go_simp⟩) ?_
      simp only [Act.put, List.setIfInBounds_toArray, List.set_cons_zero, List.set_cons_succ]
      refine takeD (i := 9) (some 107) (.int .i64 (changeLockR m0 xs1 ys1 s1 xs2).2) rfl (by kernel_rfl) (by kernel_rfl) (by kernel_rfl) (by kernel_rfl) (fun _ _ _ h => h) (by assumption) (Or.inl ⟨by rfl, fun w hSw => by (try dsimp only at hSw); go_simp⟩) ?_
      simp only [Act.put, List.setIfInBounds_toArray, List.set_cons_zero, List.set_cons_succ]
      have D22_24 := b23.trans (b24.mono b23.size)
      have D22_25 := D22_24.trans (b25.mono D22_24.size)
      have D22_26 := D22_25.trans (b26.mono D22_25.size)
      have cz0 : w26.cell? ⟨w20.heap.size, 0, none⟩ = some (.slice none 0 0) := (D22_26.cell (p := ⟨w20.heap.size, 0, none⟩) (by simp)).trans (by simp)
      have fz0 : w26.frozen? ⟨w20.heap.size, 0, none⟩ = false := (D22_26.frozen (p := ⟨w20.heap.size, 0, none⟩) (by simp)).trans (by simp)
      have S22_24 := Nat.le_trans (b23.size) b24.size
      have S22_25 := Nat.le_trans (S22_24) b25.size
      have hblo : w20.heap.size < w25.heap.size := Nat.lt_of_lt_of_le (show w20.heap.size < (w20.drew.alloc (.cells #[.slice none 0 0] 48)).heap.size by simp) (S22_25)
      refine wpAnyH_ready (rs := [11]) (by kernel_rfl) (by simp) (AllReadyH.cons rfl (fun K hK => ?_) AllReadyH.nil)
      go_simp
      have HHeld := KS75.out _ (Below.setCell D20_26 (p := ⟨w20.heap.size, 0, none⟩) (b21.size) (.slice Ah0 (changeLockR m0 xs1 ys1 s1 xs2).1.length ch0))
      refine hK.out _ _ HHeld (fun _ => ?_)
      clear hK K
      (try simp only [Act.put]); (try simp only [List.setIfInBounds_toArray]); (try simp only [List.set_cons_zero, List.set_cons_succ])
      refine takeD (i := 12) (some 18) (.int .i64 (changeLockR m0 xs1 ys1 s1 xs2).2) rfl (by kernel_rfl) (by kernel_rfl) (by kernel_rfl) (by kernel_rfl) (fun _ _ _ h => h) (by assumption) (Or.inl ⟨by rfl, fun w hSw => by (try dsimp only at hSw); go_simp⟩) ?_
      (try simp only [Act.put]); (try simp only [List.setIfInBounds_toArray]); (try simp only [List.set_cons_zero, List.set_cons_succ])
      refine wpAnyH_done (by kernel_rfl) ?_ _
      have S20_22 := Nat.le_trans (b21.size) b22.size
      have S20_23 := Nat.le_trans (S20_22) b23.size
      have S20_24 := Nat.le_trans (S20_23) b24.size
      have S20_25 := Nat.le_trans (S20_24) b25.size
      go_wp2_with fail
      go_meet
      exact ⟨Ah0, ch0, w25.heap.size, w26.heap.size, w20.heap.size, rfl, rfl, hch0, (OII.setLow (p := ⟨w20.heap.size, 0, none⟩) (by simp only; exact hblo) oh0), (Or.inl (Nat.lt_of_lt_of_le hblo (Nat.le_refl _))), S20_25, b26.size, (by simp only [World.size_setCell]; exact Nat.le_refl _), b21.size, (by simp only [World.size_setCell]; exact Nat.lt_of_lt_of_le hblo (b26.size)), ⟨World.cell?_setCell_same _ _ _ cz0, trivial⟩, (Below.setCell D20_26 (p := ⟨w20.heap.size, 0, none⟩) (b21.size) (.slice Ah0 (changeLockR m0 xs1 ys1 s1 xs2).1.length ch0))⟩
  obtain ⟨Ah0, ch0, loh0, hih0, bbh, rfl, rfl, hch0, oh0, hdh0, leh0, lhh0, hleh, bbgh, bblh, bxch, b23⟩ := hcut
  rename World => w23
  have rh0 := OII.rii oh0
  have bq76 := BoxC.below bq70 b23
  have q0 : w23.cell? ⟨w.heap.size, 0, none⟩ = some (.int .i64 m0.c) ∧ w23.cell? ⟨w.heap.size, 1, none⟩ = some (.int .i64 m0.d) ∧ w23.cell? ⟨w.heap.size, 2, none⟩ = some (.int .i64 m0.s) ∧ w23.cell? ⟨w.heap.size, 3, none⟩ = some (.int .i64 m0.a) ∧ w23.cell? ⟨w.heap.size, 4, none⟩ = some (.int .i64 m0.l) ∧ True := bq76
  have bq77 := BoxC.below bq71 b23
  have q1 : w23.cell? ⟨w.heap.size + 1, 0, none⟩ = some (.slice A1 xs1.length c1) ∧ w23.cell? ⟨w.heap.size + 1, 1, none⟩ = some (.slice B1 ys1.length d1) ∧ w23.cell? ⟨w.heap.size + 1, 2, none⟩ = some (.int .i64 s1) ∧ True := bq77
  have bq78 := BoxC.below bq72 b23
  have q2 : w23.cell? ⟨bbs, 0, none⟩ = some (.slice As0 (changeLockR m0 xs1 ys1 s1 xs2).1.length cs0) ∧ True := bq78
  have bq79 := BoxC.below bq73 b23
  have q3 : w23.cell? ⟨w5.heap.size, 0, none⟩ = some (.slice A1_5 xs1.length c1_5) ∧ w23.cell? ⟨w5.heap.size, 1, none⟩ = some (.slice B1_5 ys1.length d1_5) ∧ w23.cell? ⟨w5.heap.size, 2, none⟩ = some (.int .i64 s1) ∧ True := bq79
  have bq80 := BoxC.below bq74 b23
  have q4 : w23.cell? ⟨bbg, 0, none⟩ = some (.slice Ag0 (changeLockR m0 xs1 ys1 s1 xs2).1.length cg0) ∧ True := bq80
  have q5 : w23.cell? ⟨bbh, 0, none⟩ = some (.slice Ah0 (changeLockR m0 xs1 ys1 s1 xs2).1.length ch0) ∧ True := bxch
  go_wp2_with fail
  clear q0 q1 q2 q3 q4 q5
  have S8_10 := Nat.le_trans (lhg0) hleg
  have S8_11 := Nat.le_trans (S8_10) b11.size
  have S8_12 := Nat.le_trans (S8_11) b12.size
  have S8_13 := Nat.le_trans (S8_12) b13.size
  have S8_14 := Nat.le_trans (S8_13) b14.size
  have S8_15 := Nat.le_trans (S8_14) b15.size
  have S8_16 := Nat.le_trans (S8_15) on16.size
  have S8_17 := Nat.le_trans (S8_16) on17.size
  have S8_18 := Nat.le_trans (S8_17) b18.size
  have D4_18 := D4_17.trans (b18.mono D4_17.size)
  have D4_19 := D4_18.trans ((on19.below (S8_18)).mono (S4_8))
  have D4_20 := D4_19.trans (b20.mono D4_19.size)
  have D4_23 := D4_20.trans (b23.mono D4_20.size)
  refine (eqL_t Ah0 As0 ch0 cs0 (changeLockR m0 xs1 ys1 s1 xs2).1 _ rh0 (rs0.below D4_23)).mono ?_
  rintro e w24 ⟨rfl, b24⟩
  have bq81 := BoxC.below bq76 b24
  have q0 : w24.cell? ⟨w.heap.size, 0, none⟩ = some (.int .i64 m0.c) ∧ w24.cell? ⟨w.heap.size, 1, none⟩ = some (.int .i64 m0.d) ∧ w24.cell? ⟨w.heap.size, 2, none⟩ = some (.int .i64 m0.s) ∧ w24.cell? ⟨w.heap.size, 3, none⟩ = some (.int .i64 m0.a) ∧ w24.cell? ⟨w.heap.size, 4, none⟩ = some (.int .i64 m0.l) ∧ True := bq81
  have bq82 := BoxC.below bq77 b24
  have q1 : w24.cell? ⟨w.heap.size + 1, 0, none⟩ = some (.slice A1 xs1.length c1) ∧ w24.cell? ⟨w.heap.size + 1, 1, none⟩ = some (.slice B1 ys1.length d1) ∧ w24.cell? ⟨w.heap.size + 1, 2, none⟩ = some (.int .i64 s1) ∧ True := bq82
  have bq83 := BoxC.below bq78 b24
  have q2 : w24.cell? ⟨bbs, 0, none⟩ = some (.slice As0 (changeLockR m0 xs1 ys1 s1 xs2).1.length cs0) ∧ True := bq83
  have bq84 := BoxC.below bq79 b24
  have q3 : w24.cell? ⟨w5.heap.size, 0, none⟩ = some (.slice A1_5 xs1.length c1_5) ∧ w24.cell? ⟨w5.heap.size, 1, none⟩ = some (.slice B1_5 ys1.length d1_5) ∧ w24.cell? ⟨w5.heap.size, 2, none⟩ = some (.int .i64 s1) ∧ True := bq84
  have bq85 := BoxC.below bq80 b24
  have q4 : w24.cell? ⟨bbg, 0, none⟩ = some (.slice Ag0 (changeLockR m0 xs1 ys1 s1 xs2).1.length cg0) ∧ True := bq85
  have bq86 := BoxC.below bxch b24
  have q5 : w24.cell? ⟨bbh, 0, none⟩ = some (.slice Ah0 (changeLockR m0 xs1 ys1 s1 xs2).1.length ch0) ∧ True := bq86
  go_wp2_with fail
  clear q0 q1 q2 q3 q4 q5
  have D19_23 := b20.trans (b23.mono b20.size)
  have D19_24 := D19_23.trans (b24.mono D19_23.size)
  have S9_19 := Nat.le_trans (S9_18) on19.size
  have Y87 := Y64.below (D19_24.mono (S9_19))
  refine (heldL_t Ag0 cg0 (changeLockR m0 xs1 ys1 s1 xs2).1 _ _ (OII.rii Y87) (by omega) (by omega) (by omega) (by omega)).mono ?_
  rintro e w25 ⟨rfl, b25⟩
  have D0_14 := D0_13.trans (b14.mono D0_13.size)
  have D0_15 := D0_14.trans (b15.mono D0_14.size)
  have D0_16 := D0_15.trans ((on16.below (S4_15)).mono (S0_4))
  have D0_17 := D0_16.trans ((on17.below (S6_16)).mono (S0_6))
  have D0_18 := D0_17.trans (b18.mono D0_17.size)
  have D0_19 := D0_18.trans ((on19.below (S8_18)).mono (S0_8))
  have D0_20 := D0_19.trans (b20.mono D0_19.size)
  have D0_23 := D0_20.trans (b23.mono D0_20.size)
  have D0_24 := D0_23.trans (b24.mono D0_23.size)
  have D0_25 := D0_24.trans (b25.mono D0_24.size)
  have DD := D0_25
  have bq88 := BoxC.below bq81 b25
  have q0 : w25.cell? ⟨w.heap.size, 0, none⟩ = some (.int .i64 m0.c) ∧ w25.cell? ⟨w.heap.size, 1, none⟩ = some (.int .i64 m0.d) ∧ w25.cell? ⟨w.heap.size, 2, none⟩ = some (.int .i64 m0.s) ∧ w25.cell? ⟨w.heap.size, 3, none⟩ = some (.int .i64 m0.a) ∧ w25.cell? ⟨w.heap.size, 4, none⟩ = some (.int .i64 m0.l) ∧ True := bq88
  have bq89 := BoxC.below bq82 b25
  have q1 : w25.cell? ⟨w.heap.size + 1, 0, none⟩ = some (.slice A1 xs1.length c1) ∧ w25.cell? ⟨w.heap.size + 1, 1, none⟩ = some (.slice B1 ys1.length d1) ∧ w25.cell? ⟨w.heap.size + 1, 2, none⟩ = some (.int .i64 s1) ∧ True := bq89
  have bq90 := BoxC.below bq83 b25
  have q2 : w25.cell? ⟨bbs, 0, none⟩ = some (.slice As0 (changeLockR m0 xs1 ys1 s1 xs2).1.length cs0) ∧ True := bq90
  have bq91 := BoxC.below bq84 b25
  have q3 : w25.cell? ⟨w5.heap.size, 0, none⟩ = some (.slice A1_5 xs1.length c1_5) ∧ w25.cell? ⟨w5.heap.size, 1, none⟩ = some (.slice B1_5 ys1.length d1_5) ∧ w25.cell? ⟨w5.heap.size, 2, none⟩ = some (.int .i64 s1) ∧ True := bq91
  have bq92 := BoxC.below bq85 b25
  have q4 : w25.cell? ⟨bbg, 0, none⟩ = some (.slice Ag0 (changeLockR m0 xs1 ys1 s1 xs2).1.length cg0) ∧ True := bq92
  have bq93 := BoxC.below bq86 b25
  have q5 : w25.cell? ⟨bbh, 0, none⟩ = some (.slice Ah0 (changeLockR m0 xs1 ys1 s1 xs2).1.length ch0) ∧ True := bq93
  go_wp2_with fail
  go_ret
  exact ⟨rfl, HB0.trans (DD.mono HB0.size)⟩
end Go.Proofs.Ytldlpkfjgackiaa.fnExactChangeLock
