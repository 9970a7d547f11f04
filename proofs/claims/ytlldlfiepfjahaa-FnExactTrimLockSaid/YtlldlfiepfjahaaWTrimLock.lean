/- The walk of the law FnExactTrimLock. -/
import Derived.Test.YtlldlfiepfjahaaFTrim
import Derived.Test.YtlldlfiepfjahaaHelpL
import Derived.Test.YtlldlfiepfjahaaRegion
import Derived.Deep.DeepCutAuto
import Derived.Deep.Cut
import Derived.Deep.CutRange
namespace Go.Proofs.Ytlldlfiepfjahaa.fnExactTrimLock
set_option linter.unusedVariables false
open Go.RowKit
theorem few_lens : ∀ (ls : List (List Int)) (b : Nat), (∀ x, x ∈ ls → x.length ≤ b) → sumLen ls ≤ b * ls.length
  | [], _, _ => by simp [sumLen]
  | x :: r, b, h => by
    have := few_lens r b (fun y hy => h y (by simp [hy])); have := h x (by simp)
    unfold sumLen at *; rw [List.map_cons, List.sum_cons, List.length_cons, Nat.mul_succ]; omega
theorem hull_lens {m : Mk} (hm : isMaker m = true) (ks : List (List Int)) : (hullF m.c.toNat m.d.toNat ks).length ≤ 4194304 ∧ sumLen (hullF m.c.toNat m.d.toNat ks) ≤ 1048576 := by
  have hb := mk_bounds hm
  have h1 := few_lens (hullF m.c.toNat m.d.toNat ks) 8 (fun x hx => by
    obtain ⟨i, hi, rfl⟩ := List.getElem_of_mem hx
    have := hullF_row hi; omega)
  rw [hullF_length] at h1 ⊢
  omega
theorem lens (m : Mk) (l al : List (List Int)) : (trimR m l al).1.length ≤ 4194304 ∧ sumLen (trimR m l al).1 ≤ 1048576 := by
  unfold trimR
  split
  · rename_i h
    split
    · simp [sumLen]
    · exact hull_lens (allowed_trim h).1 _
  · simp [sumLen]
set_option maxRecDepth 100000 in
set_option maxHeartbeats 8000000 in
theorem walk (m0 : Mk) (A1 : Option Addr) (c1 : Nat) (xs1 : List (List Int)) (A2 : Option Addr) (c2 : Nat) (xs2 : List (List Int)) (w : World) (hc1 : xs1.length ≤ c1) (h1 : RII w A1 xs1) (hc2 : xs2.length ≤ c2) (h2 : RII w A2 xs2) :
    Calls Try.prog 6 #[.agg #[.int .i64 m0.c, .int .i64 m0.d, .int .i64 m0.s, .int .i64 m0.a, .int .i64 m0.l], .agg #[.slice A1 xs1.length c1], .slice A2 xs2.length c2] w fun e w' => e = .returned (.bool true) ∧ Below w.heap.size w w' := by
  have lens0 := lens m0 xs1 xs2
  have HB0 : Below w.heap.size w ((w.alloc (.cells #[.int .i64 m0.c, .int .i64 m0.d, .int .i64 m0.s, .int .i64 m0.a, .int .i64 m0.l] 23)).alloc (.cells #[.slice A1 xs1.length c1] 50)) := ((Below.refl w.heap.size w).alloc (by exact Nat.le_refl _) _).alloc (by simp only [World.size_alloc]; omega) _
  have bx0 : BoxC ((w.alloc (.cells #[.int .i64 m0.c, .int .i64 m0.d, .int .i64 m0.s, .int .i64 m0.a, .int .i64 m0.l] 23)).alloc (.cells #[.slice A1 xs1.length c1] 50)) (w.heap.size) 0 [.int .i64 m0.c, .int .i64 m0.d, .int .i64 m0.s, .int .i64 m0.a, .int .i64 m0.l] := by simp [BoxC, Go.World.cell?_alloc_at, Go.World.cell?_alloc_past]
  have bx1 : BoxC ((w.alloc (.cells #[.int .i64 m0.c, .int .i64 m0.d, .int .i64 m0.s, .int .i64 m0.a, .int .i64 m0.l] 23)).alloc (.cells #[.slice A1 xs1.length c1] 50)) (w.heap.size + 1) 0 [.slice A1 xs1.length c1] := by simp [BoxC, Go.World.cell?_alloc_at]
  have Rxs1 := ((h1).alloc (.cells #[.int .i64 m0.c, .int .i64 m0.d, .int .i64 m0.s, .int .i64 m0.a, .int .i64 m0.l] 23)).alloc (.cells #[.slice A1 xs1.length c1] 50)
  have Rxs2 := ((h2).alloc (.cells #[.int .i64 m0.c, .int .i64 m0.d, .int .i64 m0.s, .int .i64 m0.a, .int .i64 m0.l] 23)).alloc (.cells #[.slice A1 xs1.length c1] 50)
  go_enter Try.func6, Try.ntmps6
  have q0 : ((w.alloc (.cells #[.int .i64 m0.c, .int .i64 m0.d, .int .i64 m0.s, .int .i64 m0.a, .int .i64 m0.l] 23)).alloc (.cells #[.slice A1 xs1.length c1] 50)).cell? ⟨w.heap.size, 0, none⟩ = some (.int .i64 m0.c) ∧ ((w.alloc (.cells #[.int .i64 m0.c, .int .i64 m0.d, .int .i64 m0.s, .int .i64 m0.a, .int .i64 m0.l] 23)).alloc (.cells #[.slice A1 xs1.length c1] 50)).cell? ⟨w.heap.size, 1, none⟩ = some (.int .i64 m0.d) ∧ ((w.alloc (.cells #[.int .i64 m0.c, .int .i64 m0.d, .int .i64 m0.s, .int .i64 m0.a, .int .i64 m0.l] 23)).alloc (.cells #[.slice A1 xs1.length c1] 50)).cell? ⟨w.heap.size, 2, none⟩ = some (.int .i64 m0.s) ∧ ((w.alloc (.cells #[.int .i64 m0.c, .int .i64 m0.d, .int .i64 m0.s, .int .i64 m0.a, .int .i64 m0.l] 23)).alloc (.cells #[.slice A1 xs1.length c1] 50)).cell? ⟨w.heap.size, 3, none⟩ = some (.int .i64 m0.a) ∧ ((w.alloc (.cells #[.int .i64 m0.c, .int .i64 m0.d, .int .i64 m0.s, .int .i64 m0.a, .int .i64 m0.l] 23)).alloc (.cells #[.slice A1 xs1.length c1] 50)).cell? ⟨w.heap.size, 4, none⟩ = some (.int .i64 m0.l) ∧ True := bx0
  have q1 : ((w.alloc (.cells #[.int .i64 m0.c, .int .i64 m0.d, .int .i64 m0.s, .int .i64 m0.a, .int .i64 m0.l] 23)).alloc (.cells #[.slice A1 xs1.length c1] 50)).cell? ⟨w.heap.size + 1, 0, none⟩ = some (.slice A1 xs1.length c1) ∧ True := bx1
  go_wp2_with fail
  clear q0 q1
  refine (szL A1 c1 xs1 _ _ Rxs1 (by omega) (by omega)).mono ?_
  rintro e w1 ⟨r1, rfl, hL1, b1, hm1⟩
  by_cases hz1 : r1 < 0
  case pos =>
    go_wp2_with fail
    go_ret
    exact ⟨rfl, HB0.trans (b1.mono HB0.size)⟩
  have hL12 := hL1.2 (by omega)
  have hL11 := hL1.1
  have zxs1 : xs1.length ≤ 1048576 ∧ sumLen xs1 ≤ 1048576 := by omega
  have zzxs1 : ∀ k (hk : k < xs1.length), xs1[k].length ≤ 1048576 := fun k hk => by have := mem_sumLen hk; omega
  have zt1 : (xs1.length + sumLen xs1 : Nat) + r1 ≤ 1048576 := by omega
  have Hz1 := Lib.hid hL12; clear hL12 hL1
  have bq1 := BoxC.below bx0 b1
  have q0 : w1.cell? ⟨w.heap.size, 0, none⟩ = some (.int .i64 m0.c) ∧ w1.cell? ⟨w.heap.size, 1, none⟩ = some (.int .i64 m0.d) ∧ w1.cell? ⟨w.heap.size, 2, none⟩ = some (.int .i64 m0.s) ∧ w1.cell? ⟨w.heap.size, 3, none⟩ = some (.int .i64 m0.a) ∧ w1.cell? ⟨w.heap.size, 4, none⟩ = some (.int .i64 m0.l) ∧ True := bq1
  have bq2 := BoxC.below bx1 b1
  have q1 : w1.cell? ⟨w.heap.size + 1, 0, none⟩ = some (.slice A1 xs1.length c1) ∧ True := bq2
  go_wp2_with fail
  clear q0 q1
  refine (szII_b A2 c2 xs2 _ _ (Rxs2.below b1) (by omega) (by omega)).mono ?_
  rintro e w2 ⟨r2, rfl, hL2, b2, hm2⟩
  have D0_2 := b1.trans (b2.mono b1.size)
  by_cases hz2 : r2 < 0
  case pos =>
    go_wp2_with fail
    go_ret
    exact ⟨rfl, HB0.trans (D0_2.mono HB0.size)⟩
  have hL22 := hL2.2 (by omega)
  have hL21 := hL2.1
  have zxs2 : xs2.length ≤ 1048576 ∧ sumLen xs2 ≤ 1048576 := by omega
  have zzxs2 : ∀ k (hk : k < xs2.length), xs2[k].length ≤ 1048576 := fun k hk => by have := mem_sumLen hk; omega
  have zt2 : (xs1.length + sumLen xs1 : Nat) + (xs2.length + sumLen xs2 : Nat) + r2 ≤ 1048576 := by omega
  have Hz2 := Lib.hid hL22; clear hL22 hL2
  have bq3 := BoxC.below bq1 b2
  have q0 : w2.cell? ⟨w.heap.size, 0, none⟩ = some (.int .i64 m0.c) ∧ w2.cell? ⟨w.heap.size, 1, none⟩ = some (.int .i64 m0.d) ∧ w2.cell? ⟨w.heap.size, 2, none⟩ = some (.int .i64 m0.s) ∧ w2.cell? ⟨w.heap.size, 3, none⟩ = some (.int .i64 m0.a) ∧ w2.cell? ⟨w.heap.size, 4, none⟩ = some (.int .i64 m0.l) ∧ True := bq3
  have bq4 := BoxC.below bq2 b2
  have q1 : w2.cell? ⟨w.heap.size + 1, 0, none⟩ = some (.slice A1 xs1.length c1) ∧ True := bq4
  go_wp2_with fail
  clear q0 q1
  have KS5 := Lib.hid (show ∀ w' : World, Below w2.heap.size w2 w' → ((w'.cell? ⟨w.heap.size, 0, none⟩ = some (.int .i64 m0.c) ∧ w'.cell? ⟨w.heap.size, 1, none⟩ = some (.int .i64 m0.d) ∧ w'.cell? ⟨w.heap.size, 2, none⟩ = some (.int .i64 m0.s) ∧ w'.cell? ⟨w.heap.size, 3, none⟩ = some (.int .i64 m0.a) ∧ w'.cell? ⟨w.heap.size, 4, none⟩ = some (.int .i64 m0.l) ∧ True) ∧ (w'.cell? ⟨w.heap.size + 1, 0, none⟩ = some (.slice A1 xs1.length c1) ∧ True)) from fun w' hb => ⟨BoxC.below bq3 hb, BoxC.below bq4 hb⟩)
  go_cut [8, 9] (fun p0 p1 wx => ∃ (As0 : Option Addr) (cs0 los0 his0 : Nat) (bb : Nat), p0 = .pointer (some ⟨bb, 0, none⟩) ∧ p1 = .int .i64 (trimR m0 xs1 xs2).2 ∧ (trimR m0 xs1 xs2).1.length ≤ cs0 ∧ OII wx los0 his0 (.slice As0 (trimR m0 xs1 xs2).1.length cs0) (trimR m0 xs1 xs2).1 ∧ (bb < los0 ∨ his0 ≤ bb) ∧ w2.heap.size ≤ los0 ∧ los0 ≤ his0 ∧ his0 ≤ wx.heap.size ∧ w2.heap.size ≤ bb ∧ bb < wx.heap.size ∧ BoxC wx bb 0 [.slice As0 (trimR m0 xs1 xs2).1.length cs0] ∧ Below w2.heap.size w2 wx)
  case first =>
    refine wp_region_held_drew (S := (fun w' => (w'.cell? ⟨w.heap.size, 0, none⟩ = some (.int .i64 m0.c) ∧ w'.cell? ⟨w.heap.size, 1, none⟩ = some (.int .i64 m0.d) ∧ w'.cell? ⟨w.heap.size, 2, none⟩ = some (.int .i64 m0.s) ∧ w'.cell? ⟨w.heap.size, 3, none⟩ = some (.int .i64 m0.a) ∧ w'.cell? ⟨w.heap.size, 4, none⟩ = some (.int .i64 m0.l) ∧ True) ∧ (w'.cell? ⟨w.heap.size + 1, 0, none⟩ = some (.slice A1 xs1.length c1) ∧ True))) (by kernel_rfl) (KS5.out _ (belowDrew0 _)) (fun hHeld => ?_)
    refine takeD (i := 0) (some 30) (.agg #[.int .i64 m0.c, .int .i64 m0.d, .int .i64 m0.s, .int .i64 m0.a, .int .i64 m0.l]) rfl (by kernel_rfl) (by kernel_rfl) (by kernel_rfl) (by kernel_rfl) (fun _ _ _ h => h) (by assumption) (Or.inl ⟨by rfl, fun w hSw => by (try dsimp only at hSw); go_simp⟩) ?_
    simp only [Act.put, List.setIfInBounds_toArray, List.set_cons_zero, List.set_cons_succ]
    refine takeD (i := 2) (some 32) (.agg #[.slice A1 xs1.length c1]) rfl (by kernel_rfl) (by kernel_rfl) (by kernel_rfl) (by kernel_rfl) (fun _ _ _ h => h) (by assumption) (Or.inl ⟨by rfl, fun w hSw => by (try dsimp only at hSw); go_simp⟩) ?_
    simp only [Act.put, List.setIfInBounds_toArray, List.set_cons_zero, List.set_cons_succ]
    refine takeD (i := 4) (some 34) (.slice A2 xs2.length c2) rfl (by kernel_rfl) (by kernel_rfl) (by kernel_rfl) (by kernel_rfl) (fun _ _ _ h => h) (by assumption) (Or.inl ⟨by rfl, fun w hSw => by (try dsimp only at hSw); go_simp⟩) ?_
    simp only [Act.put, List.setIfInBounds_toArray, List.set_cons_zero, List.set_cons_succ]
    have b3 := belowDrew0 w2
    refine wpAnyH_ready (rs := [1, 10]) (by kernel_rfl) (by simp) (AllReadyH.cons rfl (fun K hK => ?_) (AllReadyH.cons rfl (fun K hK => ?_) AllReadyH.nil))
    · go_simp
      refine (toM m0.c m0.d m0.s m0.a m0.l _).mono ?_
      rintro e w4 ⟨rfl, b4⟩
      have D2_4 := b3.trans (b4.mono b3.size)
      have HHeld := KS5.out _ D2_4
      refine hK.out _ _ HHeld (fun _ => ?_)
      clear hK K
      (try simp only [Act.put]); (try simp only [List.setIfInBounds_toArray]); (try simp only [List.set_cons_zero, List.set_cons_succ])
      refine wpAnyH_ready (rs := [3, 10]) (by kernel_rfl) (by simp) (AllReadyH.cons rfl (fun K hK => ?_) (AllReadyH.cons rfl (fun K hK => ?_) AllReadyH.nil))
      · go_simp
        have D0_3 := D0_2.trans (b3.mono D0_2.size)
        have D0_4 := D0_3.trans (b4.mono D0_3.size)
        refine (toL A1 c1 xs1 _ (Rxs1.below D0_4) zxs1.1 zzxs1).mono ?_
        rintro e w5 ⟨A1_5, c1_5, rfl, hc1_5, rA1_5, oA1_5, b5⟩
        have D2_5 := D2_4.trans (b5.mono D2_4.size)
        have HHeld := KS5.out _ D2_5
        refine hK.out _ _ HHeld (fun _ => ?_)
        clear hK K
        (try simp only [Act.put]); (try simp only [List.setIfInBounds_toArray]); (try simp only [List.set_cons_zero, List.set_cons_succ])
        refine wpAnyH_ready (rs := [5, 10]) (by kernel_rfl) (by simp) (AllReadyH.cons rfl (fun K hK => ?_) (AllReadyH.cons rfl (fun K hK => ?_) AllReadyH.nil))
        · go_simp
          have D0_5 := D0_4.trans (b5.mono D0_4.size)
          refine (toII A2 c2 xs2 _ (Rxs2.below D0_5) zxs2.1 zzxs2).mono ?_
          rintro e w6 ⟨A2_6, c2_6, rfl, hc2_6, rA2_6, oA2_6, b6⟩
          have D2_6 := D2_5.trans (b6.mono D2_5.size)
          have HHeld := KS5.out _ D2_6
          refine hK.out _ _ HHeld (fun _ => ?_)
          clear hK K
          (try simp only [Act.put]); (try simp only [List.setIfInBounds_toArray]); (try simp only [List.set_cons_zero, List.set_cons_succ])
          refine wpAnyH_ready (rs := [6, 10]) (by kernel_rfl) (by simp) (AllReadyH.cons rfl (fun K hK => ?_) (AllReadyH.cons rfl (fun K hK => ?_) AllReadyH.nil))
          · go_simp
            refine (specTrimLock_any m0 A1_5 c1_5 xs1 A2_6 c2_6 xs2 _ (rA1_5.below b6) rA2_6).mono ?_
            rintro e w7 ⟨As0, cs0, rfl, hcs0, rs0, os0, b7⟩
            have D2_7 := D2_6.trans (b7.mono D2_6.size)
            have HHeld := KS5.out _ D2_7
            refine hK.out _ _ HHeld (fun _ => ?_)
            clear hK K
            (try simp only [Act.put]); (try simp only [List.setIfInBounds_toArray]); (try simp only [List.set_cons_zero, List.set_cons_succ])
            refine takeD (i := 7) (some 29) (.tuple #[.agg #[.slice As0 (trimR m0 xs1 xs2).1.length cs0], .int .i64 (trimR m0 xs1 xs2).2]) rfl (by kernel_rfl) (by kernel_rfl) (by kernel_rfl) (by kernel_rfl) (fun _ _ _ h => h) (by assumption) (Or.inl ⟨by rfl, fun w hSw => by (try dsimp only at hSw); go_simp⟩) ?_
            simp only [Act.put, List.setIfInBounds_toArray, List.set_cons_zero, List.set_cons_succ]
            refine takeD (i := 8) (some 37) (.agg #[.slice As0 (trimR m0 xs1 xs2).1.length cs0]) rfl (by kernel_rfl) (by kernel_rfl) (by kernel_rfl) (by kernel_rfl) (fun _ _ _ h => h) (by assumption) (Or.inl ⟨by rfl, fun w hSw => by (try dsimp only at hSw); go_simp⟩) ?_
            simp only [Act.put, List.setIfInBounds_toArray, List.set_cons_zero, List.set_cons_succ]
            refine takeD (i := 9) (some 38) (.int .i64 (trimR m0 xs1 xs2).2) rfl (by kernel_rfl) (by kernel_rfl) (by kernel_rfl) (by kernel_rfl) (fun _ _ _ h => h) (by assumption) (Or.inl ⟨by rfl, fun w hSw => by (try dsimp only at hSw); go_simp⟩) ?_
            simp only [Act.put, List.setIfInBounds_toArray, List.set_cons_zero, List.set_cons_succ]
            refine wpAnyH_ready (rs := [10]) (by kernel_rfl) (by simp) (AllReadyH.cons rfl (fun K hK => ?_) AllReadyH.nil)
            go_simp
            have b8 : Below w7.heap.size w7 (w7.alloc (.cells #[.slice none 0 0] 52)) := (Below.refl _ _).alloc (Nat.le_refl _) _
            have D2_8 := D2_7.trans (b8.mono D2_7.size)
            have HHeld := KS5.out _ D2_8
            refine hK.out _ _ HHeld (fun _ => ?_)
            clear hK K
            (try simp only [Act.put]); (try simp only [List.setIfInBounds_toArray]); (try simp only [List.set_cons_zero, List.set_cons_succ])
            have S2_4 := Nat.le_trans (b3.size) b4.size
            have S2_5 := Nat.le_trans (S2_4) b5.size
            have S2_6 := Nat.le_trans (S2_5) b6.size
            have S2_7 := Nat.le_trans (S2_6) b7.size
            refine wpAnyH_ready (rs := [11]) (by kernel_rfl) (by simp) (AllReadyH.cons rfl (fun K hK => ?_) AllReadyH.nil)
            go_simp
            have HHeld := KS5.out _ (Below.alloc D2_7 (S2_7) (.cells #[.slice As0 (trimR m0 xs1 xs2).1.length cs0] 52))
            refine hK.out _ _ HHeld (fun _ => ?_)
            clear hK K
            (try simp only [Act.put]); (try simp only [List.setIfInBounds_toArray]); (try simp only [List.set_cons_zero, List.set_cons_succ])
            refine takeD (i := 12) (some 9) (.int .i64 (trimR m0 xs1 xs2).2) rfl (by kernel_rfl) (by kernel_rfl) (by kernel_rfl) (by kernel_rfl) (fun _ _ _ h => h) (by assumption) (Or.inl ⟨by rfl, fun w hSw => by (try dsimp only at hSw); go_simp⟩) ?_
            (try simp only [Act.put]); (try simp only [List.setIfInBounds_toArray]); (try simp only [List.set_cons_zero, List.set_cons_succ])
            refine wpAnyH_done (by kernel_rfl) ?_ _
            go_wp2_with fail
            go_meet
            exact ⟨As0, cs0, w6.heap.size, w7.heap.size, w7.heap.size, rfl, rfl, hcs0, ((os0).below ((Below.refl _ _).alloc (Nat.le_refl _) _)), (Or.inr (Nat.le_refl _)), S2_6, b7.size, (by simp), S2_7, (by simp), (by simp [BoxC, Go.World.cell?_alloc_at]), (Below.alloc D2_7 (S2_7) (.cells #[.slice As0 (trimR m0 xs1 xs2).1.length cs0] 52))⟩
          · go_simp
            have b7 : Below w6.heap.size w6 (w6.alloc (.cells #[.slice none 0 0] 52)) := (Below.refl _ _).alloc (Nat.le_refl _) _
            have D2_7 := D2_6.trans (b7.mono D2_6.size)
            have HHeld := KS5.out _ D2_7
            refine hK.out _ _ HHeld (fun _ => ?_)
            clear hK K
            (try simp only [Act.put]); (try simp only [List.setIfInBounds_toArray]); (try simp only [List.set_cons_zero, List.set_cons_succ])
            refine wpAnyH_ready (rs := [6]) (by kernel_rfl) (by simp) (AllReadyH.cons rfl (fun K hK => ?_) AllReadyH.nil)
            go_simp
            have D5_7 := b6.trans (b7.mono b6.size)
            refine (specTrimLock_any m0 A1_5 c1_5 xs1 A2_6 c2_6 xs2 _ (rA1_5.below D5_7) (rA2_6.below b7)).mono ?_
            rintro e w8 ⟨As0, cs0, rfl, hcs0, rs0, os0, b8⟩
            have D2_8 := D2_7.trans (b8.mono D2_7.size)
            have HHeld := KS5.out _ D2_8
            refine hK.out _ _ HHeld (fun _ => ?_)
            clear hK K
            (try simp only [Act.put]); (try simp only [List.setIfInBounds_toArray]); (try simp only [List.set_cons_zero, List.set_cons_succ])
            refine takeD (i := 7) (some 29) (.tuple #[.agg #[.slice As0 (trimR m0 xs1 xs2).1.length cs0], .int .i64 (trimR m0 xs1 xs2).2]) rfl (by kernel_rfl) (by kernel_rfl) (by kernel_rfl) (by kernel_rfl) (fun _ _ _ h => h) (by assumption) (Or.inl ⟨by rfl, fun w hSw => by (try dsimp only at hSw); go_simp⟩) ?_
            simp only [Act.put, List.setIfInBounds_toArray, List.set_cons_zero, List.set_cons_succ]
            refine takeD (i := 8) (some 37) (.agg #[.slice As0 (trimR m0 xs1 xs2).1.length cs0]) rfl (by kernel_rfl) (by kernel_rfl) (by kernel_rfl) (by kernel_rfl) (fun _ _ _ h => h) (by assumption) (Or.inl ⟨by rfl, fun w hSw => by (try dsimp only at hSw); go_simp⟩) ?_
            simp only [Act.put, List.setIfInBounds_toArray, List.set_cons_zero, List.set_cons_succ]
            refine takeD (i := 9) (some 38) (.int .i64 (trimR m0 xs1 xs2).2) rfl (by kernel_rfl) (by kernel_rfl) (by kernel_rfl) (by kernel_rfl) (fun _ _ _ h => h) (by assumption) (Or.inl ⟨by rfl, fun w hSw => by (try dsimp only at hSw); go_simp⟩) ?_
            simp only [Act.put, List.setIfInBounds_toArray, List.set_cons_zero, List.set_cons_succ]
            have cz0 : w8.cell? ⟨w6.heap.size, 0, none⟩ = some (.slice none 0 0) := (b8.cell (p := ⟨w6.heap.size, 0, none⟩) (by simp)).trans (by simp)
            have fz0 : w8.frozen? ⟨w6.heap.size, 0, none⟩ = false := (b8.frozen (p := ⟨w6.heap.size, 0, none⟩) (by simp)).trans (by simp)
            have S2_4 := Nat.le_trans (b3.size) b4.size
            have S2_5 := Nat.le_trans (S2_4) b5.size
            have S2_6 := Nat.le_trans (S2_5) b6.size
            have hblo : w6.heap.size < (w6.alloc (.cells #[.slice none 0 0] 52)).heap.size := Nat.lt_of_lt_of_le (show w6.heap.size < (w6.alloc (.cells #[.slice none 0 0] 52)).heap.size by simp) (Nat.le_refl _)
            refine wpAnyH_ready (rs := [11]) (by kernel_rfl) (by simp) (AllReadyH.cons rfl (fun K hK => ?_) AllReadyH.nil)
            go_simp
            have HHeld := KS5.out _ (Below.setCell D2_8 (p := ⟨w6.heap.size, 0, none⟩) (S2_6) (.slice As0 (trimR m0 xs1 xs2).1.length cs0))
            refine hK.out _ _ HHeld (fun _ => ?_)
            clear hK K
            (try simp only [Act.put]); (try simp only [List.setIfInBounds_toArray]); (try simp only [List.set_cons_zero, List.set_cons_succ])
            refine takeD (i := 12) (some 9) (.int .i64 (trimR m0 xs1 xs2).2) rfl (by kernel_rfl) (by kernel_rfl) (by kernel_rfl) (by kernel_rfl) (fun _ _ _ h => h) (by assumption) (Or.inl ⟨by rfl, fun w hSw => by (try dsimp only at hSw); go_simp⟩) ?_
            (try simp only [Act.put]); (try simp only [List.setIfInBounds_toArray]); (try simp only [List.set_cons_zero, List.set_cons_succ])
            refine wpAnyH_done (by kernel_rfl) ?_ _
            have S2_7 := Nat.le_trans (S2_6) b7.size
            go_wp2_with fail
            go_meet
            exact ⟨As0, cs0, (w6.alloc (.cells #[.slice none 0 0] 52)).heap.size, w8.heap.size, w6.heap.size, rfl, rfl, hcs0, (OII.setLow (p := ⟨w6.heap.size, 0, none⟩) (by simp only; exact hblo) os0), (Or.inl (Nat.lt_of_lt_of_le hblo (Nat.le_refl _))), S2_7, b8.size, (by simp only [World.size_setCell]; exact Nat.le_refl _), S2_6, (by simp only [World.size_setCell]; exact Nat.lt_of_lt_of_le hblo (b8.size)), ⟨World.cell?_setCell_same _ _ _ cz0, trivial⟩, (Below.setCell D2_8 (p := ⟨w6.heap.size, 0, none⟩) (S2_6) (.slice As0 (trimR m0 xs1 xs2).1.length cs0))⟩
        · go_simp
          have b6 : Below w5.heap.size w5 (w5.alloc (.cells #[.slice none 0 0] 52)) := (Below.refl _ _).alloc (Nat.le_refl _) _
          have D2_6 := D2_5.trans (b6.mono D2_5.size)
          have HHeld := KS5.out _ D2_6
          refine hK.out _ _ HHeld (fun _ => ?_)
          clear hK K
          (try simp only [Act.put]); (try simp only [List.setIfInBounds_toArray]); (try simp only [List.set_cons_zero, List.set_cons_succ])
          refine wpAnyH_ready (rs := [5]) (by kernel_rfl) (by simp) (AllReadyH.cons rfl (fun K hK => ?_) AllReadyH.nil)
          go_simp
          have D0_5 := D0_4.trans (b5.mono D0_4.size)
          have D0_6 := D0_5.trans (b6.mono D0_5.size)
          refine (toII A2 c2 xs2 _ (Rxs2.below D0_6) zxs2.1 zzxs2).mono ?_
          rintro e w7 ⟨A2_7, c2_7, rfl, hc2_7, rA2_7, oA2_7, b7⟩
          have D2_7 := D2_6.trans (b7.mono D2_6.size)
          have HHeld := KS5.out _ D2_7
          refine hK.out _ _ HHeld (fun _ => ?_)
          clear hK K
          (try simp only [Act.put]); (try simp only [List.setIfInBounds_toArray]); (try simp only [List.set_cons_zero, List.set_cons_succ])
          refine wpAnyH_ready (rs := [6]) (by kernel_rfl) (by simp) (AllReadyH.cons rfl (fun K hK => ?_) AllReadyH.nil)
          go_simp
          have D5_7 := b6.trans (b7.mono b6.size)
          refine (specTrimLock_any m0 A1_5 c1_5 xs1 A2_7 c2_7 xs2 _ (rA1_5.below D5_7) rA2_7).mono ?_
          rintro e w8 ⟨As0, cs0, rfl, hcs0, rs0, os0, b8⟩
          have D2_8 := D2_7.trans (b8.mono D2_7.size)
          have HHeld := KS5.out _ D2_8
          refine hK.out _ _ HHeld (fun _ => ?_)
          clear hK K
          (try simp only [Act.put]); (try simp only [List.setIfInBounds_toArray]); (try simp only [List.set_cons_zero, List.set_cons_succ])
          refine takeD (i := 7) (some 29) (.tuple #[.agg #[.slice As0 (trimR m0 xs1 xs2).1.length cs0], .int .i64 (trimR m0 xs1 xs2).2]) rfl (by kernel_rfl) (by kernel_rfl) (by kernel_rfl) (by kernel_rfl) (fun _ _ _ h => h) (by assumption) (Or.inl ⟨by rfl, fun w hSw => by (try dsimp only at hSw); go_simp⟩) ?_
          simp only [Act.put, List.setIfInBounds_toArray, List.set_cons_zero, List.set_cons_succ]
          refine takeD (i := 8) (some 37) (.agg #[.slice As0 (trimR m0 xs1 xs2).1.length cs0]) rfl (by kernel_rfl) (by kernel_rfl) (by kernel_rfl) (by kernel_rfl) (fun _ _ _ h => h) (by assumption) (Or.inl ⟨by rfl, fun w hSw => by (try dsimp only at hSw); go_simp⟩) ?_
          simp only [Act.put, List.setIfInBounds_toArray, List.set_cons_zero, List.set_cons_succ]
          refine takeD (i := 9) (some 38) (.int .i64 (trimR m0 xs1 xs2).2) rfl (by kernel_rfl) (by kernel_rfl) (by kernel_rfl) (by kernel_rfl) (fun _ _ _ h => h) (by assumption) (Or.inl ⟨by rfl, fun w hSw => by (try dsimp only at hSw); go_simp⟩) ?_
          simp only [Act.put, List.setIfInBounds_toArray, List.set_cons_zero, List.set_cons_succ]
          have D6_8 := b7.trans (b8.mono b7.size)
          have cz0 : w8.cell? ⟨w5.heap.size, 0, none⟩ = some (.slice none 0 0) := (D6_8.cell (p := ⟨w5.heap.size, 0, none⟩) (by simp)).trans (by simp)
          have fz0 : w8.frozen? ⟨w5.heap.size, 0, none⟩ = false := (D6_8.frozen (p := ⟨w5.heap.size, 0, none⟩) (by simp)).trans (by simp)
          have S2_4 := Nat.le_trans (b3.size) b4.size
          have S2_5 := Nat.le_trans (S2_4) b5.size
          have hblo : w5.heap.size < w7.heap.size := Nat.lt_of_lt_of_le (show w5.heap.size < (w5.alloc (.cells #[.slice none 0 0] 52)).heap.size by simp) (b7.size)
          refine wpAnyH_ready (rs := [11]) (by kernel_rfl) (by simp) (AllReadyH.cons rfl (fun K hK => ?_) AllReadyH.nil)
          go_simp
          have HHeld := KS5.out _ (Below.setCell D2_8 (p := ⟨w5.heap.size, 0, none⟩) (S2_5) (.slice As0 (trimR m0 xs1 xs2).1.length cs0))
          refine hK.out _ _ HHeld (fun _ => ?_)
          clear hK K
          (try simp only [Act.put]); (try simp only [List.setIfInBounds_toArray]); (try simp only [List.set_cons_zero, List.set_cons_succ])
          refine takeD (i := 12) (some 9) (.int .i64 (trimR m0 xs1 xs2).2) rfl (by kernel_rfl) (by kernel_rfl) (by kernel_rfl) (by kernel_rfl) (fun _ _ _ h => h) (by assumption) (Or.inl ⟨by rfl, fun w hSw => by (try dsimp only at hSw); go_simp⟩) ?_
          (try simp only [Act.put]); (try simp only [List.setIfInBounds_toArray]); (try simp only [List.set_cons_zero, List.set_cons_succ])
          refine wpAnyH_done (by kernel_rfl) ?_ _
          have S2_6 := Nat.le_trans (S2_5) b6.size
          have S2_7 := Nat.le_trans (S2_6) b7.size
          go_wp2_with fail
          go_meet
          exact ⟨As0, cs0, w7.heap.size, w8.heap.size, w5.heap.size, rfl, rfl, hcs0, (OII.setLow (p := ⟨w5.heap.size, 0, none⟩) (by simp only; exact hblo) os0), (Or.inl (Nat.lt_of_lt_of_le hblo (Nat.le_refl _))), S2_7, b8.size, (by simp only [World.size_setCell]; exact Nat.le_refl _), S2_5, (by simp only [World.size_setCell]; exact Nat.lt_of_lt_of_le hblo (b8.size)), ⟨World.cell?_setCell_same _ _ _ cz0, trivial⟩, (Below.setCell D2_8 (p := ⟨w5.heap.size, 0, none⟩) (S2_5) (.slice As0 (trimR m0 xs1 xs2).1.length cs0))⟩
      · go_simp
        have b5 : Below w4.heap.size w4 (w4.alloc (.cells #[.slice none 0 0] 52)) := (Below.refl _ _).alloc (Nat.le_refl _) _
        have D2_5 := D2_4.trans (b5.mono D2_4.size)
        have HHeld := KS5.out _ D2_5
        refine hK.out _ _ HHeld (fun _ => ?_)
        clear hK K
        (try simp only [Act.put]); (try simp only [List.setIfInBounds_toArray]); (try simp only [List.set_cons_zero, List.set_cons_succ])
        refine wpAnyH_ready (rs := [3]) (by kernel_rfl) (by simp) (AllReadyH.cons rfl (fun K hK => ?_) AllReadyH.nil)
        go_simp
        have D0_3 := D0_2.trans (b3.mono D0_2.size)
        have D0_4 := D0_3.trans (b4.mono D0_3.size)
        have D0_5 := D0_4.trans (b5.mono D0_4.size)
        refine (toL A1 c1 xs1 _ (Rxs1.below D0_5) zxs1.1 zzxs1).mono ?_
        rintro e w6 ⟨A1_6, c1_6, rfl, hc1_6, rA1_6, oA1_6, b6⟩
        have D2_6 := D2_5.trans (b6.mono D2_5.size)
        have HHeld := KS5.out _ D2_6
        refine hK.out _ _ HHeld (fun _ => ?_)
        clear hK K
        (try simp only [Act.put]); (try simp only [List.setIfInBounds_toArray]); (try simp only [List.set_cons_zero, List.set_cons_succ])
        refine wpAnyH_ready (rs := [5]) (by kernel_rfl) (by simp) (AllReadyH.cons rfl (fun K hK => ?_) AllReadyH.nil)
        go_simp
        have D0_6 := D0_5.trans (b6.mono D0_5.size)
        refine (toII A2 c2 xs2 _ (Rxs2.below D0_6) zxs2.1 zzxs2).mono ?_
        rintro e w7 ⟨A2_7, c2_7, rfl, hc2_7, rA2_7, oA2_7, b7⟩
        have D2_7 := D2_6.trans (b7.mono D2_6.size)
        have HHeld := KS5.out _ D2_7
        refine hK.out _ _ HHeld (fun _ => ?_)
        clear hK K
        (try simp only [Act.put]); (try simp only [List.setIfInBounds_toArray]); (try simp only [List.set_cons_zero, List.set_cons_succ])
        refine wpAnyH_ready (rs := [6]) (by kernel_rfl) (by simp) (AllReadyH.cons rfl (fun K hK => ?_) AllReadyH.nil)
        go_simp
        refine (specTrimLock_any m0 A1_6 c1_6 xs1 A2_7 c2_7 xs2 _ (rA1_6.below b7) rA2_7).mono ?_
        rintro e w8 ⟨As0, cs0, rfl, hcs0, rs0, os0, b8⟩
        have D2_8 := D2_7.trans (b8.mono D2_7.size)
        have HHeld := KS5.out _ D2_8
        refine hK.out _ _ HHeld (fun _ => ?_)
        clear hK K
        (try simp only [Act.put]); (try simp only [List.setIfInBounds_toArray]); (try simp only [List.set_cons_zero, List.set_cons_succ])
        refine takeD (i := 7) (some 29) (.tuple #[.agg #[.slice As0 (trimR m0 xs1 xs2).1.length cs0], .int .i64 (trimR m0 xs1 xs2).2]) rfl (by kernel_rfl) (by kernel_rfl) (by kernel_rfl) (by kernel_rfl) (fun _ _ _ h => h) (by assumption) (Or.inl ⟨by rfl, fun w hSw => by (try dsimp only at hSw); go_simp⟩) ?_
        simp only [Act.put, List.setIfInBounds_toArray, List.set_cons_zero, List.set_cons_succ]
        refine takeD (i := 8) (some 37) (.agg #[.slice As0 (trimR m0 xs1 xs2).1.length cs0]) rfl (by kernel_rfl) (by kernel_rfl) (by kernel_rfl) (by kernel_rfl) (fun _ _ _ h => h) (by assumption) (Or.inl ⟨by rfl, fun w hSw => by (try dsimp only at hSw); go_simp⟩) ?_
        simp only [Act.put, List.setIfInBounds_toArray, List.set_cons_zero, List.set_cons_succ]
        refine takeD (i := 9) (some 38) (.int .i64 (trimR m0 xs1 xs2).2) rfl (by kernel_rfl) (by kernel_rfl) (by kernel_rfl) (by kernel_rfl) (fun _ _ _ h => h) (by assumption) (Or.inl ⟨by rfl, fun w hSw => by (try dsimp only at hSw); go_simp⟩) ?_
        simp only [Act.put, List.setIfInBounds_toArray, List.set_cons_zero, List.set_cons_succ]
        have D5_7 := b6.trans (b7.mono b6.size)
        have D5_8 := D5_7.trans (b8.mono D5_7.size)
        have cz0 : w8.cell? ⟨w4.heap.size, 0, none⟩ = some (.slice none 0 0) := (D5_8.cell (p := ⟨w4.heap.size, 0, none⟩) (by simp)).trans (by simp)
        have fz0 : w8.frozen? ⟨w4.heap.size, 0, none⟩ = false := (D5_8.frozen (p := ⟨w4.heap.size, 0, none⟩) (by simp)).trans (by simp)
        have S2_4 := Nat.le_trans (b3.size) b4.size
        have S5_7 := Nat.le_trans (b6.size) b7.size
        have hblo : w4.heap.size < w7.heap.size := Nat.lt_of_lt_of_le (show w4.heap.size < (w4.alloc (.cells #[.slice none 0 0] 52)).heap.size by simp) (S5_7)
        refine wpAnyH_ready (rs := [11]) (by kernel_rfl) (by simp) (AllReadyH.cons rfl (fun K hK => ?_) AllReadyH.nil)
        go_simp
        have HHeld := KS5.out _ (Below.setCell D2_8 (p := ⟨w4.heap.size, 0, none⟩) (S2_4) (.slice As0 (trimR m0 xs1 xs2).1.length cs0))
        refine hK.out _ _ HHeld (fun _ => ?_)
        clear hK K
        (try simp only [Act.put]); (try simp only [List.setIfInBounds_toArray]); (try simp only [List.set_cons_zero, List.set_cons_succ])
        refine takeD (i := 12) (some 9) (.int .i64 (trimR m0 xs1 xs2).2) rfl (by kernel_rfl) (by kernel_rfl) (by kernel_rfl) (by kernel_rfl) (fun _ _ _ h => h) (by assumption) (Or.inl ⟨by rfl, fun w hSw => by (try dsimp only at hSw); go_simp⟩) ?_
        (try simp only [Act.put]); (try simp only [List.setIfInBounds_toArray]); (try simp only [List.set_cons_zero, List.set_cons_succ])
        refine wpAnyH_done (by kernel_rfl) ?_ _
        have S2_5 := Nat.le_trans (S2_4) b5.size
        have S2_6 := Nat.le_trans (S2_5) b6.size
        have S2_7 := Nat.le_trans (S2_6) b7.size
        go_wp2_with fail
        go_meet
        exact ⟨As0, cs0, w7.heap.size, w8.heap.size, w4.heap.size, rfl, rfl, hcs0, (OII.setLow (p := ⟨w4.heap.size, 0, none⟩) (by simp only; exact hblo) os0), (Or.inl (Nat.lt_of_lt_of_le hblo (Nat.le_refl _))), S2_7, b8.size, (by simp only [World.size_setCell]; exact Nat.le_refl _), S2_4, (by simp only [World.size_setCell]; exact Nat.lt_of_lt_of_le hblo (b8.size)), ⟨World.cell?_setCell_same _ _ _ cz0, trivial⟩, (Below.setCell D2_8 (p := ⟨w4.heap.size, 0, none⟩) (S2_4) (.slice As0 (trimR m0 xs1 xs2).1.length cs0))⟩
    · go_simp
      have b4 : Below w2.drew.heap.size w2.drew (w2.drew.alloc (.cells #[.slice none 0 0] 52)) := (Below.refl _ _).alloc (Nat.le_refl _) _
      have D2_4 := b3.trans (b4.mono b3.size)
      have HHeld := KS5.out _ D2_4
      refine hK.out _ _ HHeld (fun _ => ?_)
      clear hK K
      (try simp only [Act.put]); (try simp only [List.setIfInBounds_toArray]); (try simp only [List.set_cons_zero, List.set_cons_succ])
      refine wpAnyH_ready (rs := [1]) (by kernel_rfl) (by simp) (AllReadyH.cons rfl (fun K hK => ?_) AllReadyH.nil)
      go_simp
      refine (toM m0.c m0.d m0.s m0.a m0.l _).mono ?_
      rintro e w5 ⟨rfl, b5⟩
      have D2_5 := D2_4.trans (b5.mono D2_4.size)
      have HHeld := KS5.out _ D2_5
      refine hK.out _ _ HHeld (fun _ => ?_)
      clear hK K
      (try simp only [Act.put]); (try simp only [List.setIfInBounds_toArray]); (try simp only [List.set_cons_zero, List.set_cons_succ])
      refine wpAnyH_ready (rs := [3]) (by kernel_rfl) (by simp) (AllReadyH.cons rfl (fun K hK => ?_) AllReadyH.nil)
      go_simp
      have D0_3 := D0_2.trans (b3.mono D0_2.size)
      have D0_4 := D0_3.trans (b4.mono D0_3.size)
      have D0_5 := D0_4.trans (b5.mono D0_4.size)
      refine (toL A1 c1 xs1 _ (Rxs1.below D0_5) zxs1.1 zzxs1).mono ?_
      rintro e w6 ⟨A1_6, c1_6, rfl, hc1_6, rA1_6, oA1_6, b6⟩
      have D2_6 := D2_5.trans (b6.mono D2_5.size)
      have HHeld := KS5.out _ D2_6
      refine hK.out _ _ HHeld (fun _ => ?_)
      clear hK K
      (try simp only [Act.put]); (try simp only [List.setIfInBounds_toArray]); (try simp only [List.set_cons_zero, List.set_cons_succ])
      refine wpAnyH_ready (rs := [5]) (by kernel_rfl) (by simp) (AllReadyH.cons rfl (fun K hK => ?_) AllReadyH.nil)
      go_simp
      have D0_6 := D0_5.trans (b6.mono D0_5.size)
      refine (toII A2 c2 xs2 _ (Rxs2.below D0_6) zxs2.1 zzxs2).mono ?_
      rintro e w7 ⟨A2_7, c2_7, rfl, hc2_7, rA2_7, oA2_7, b7⟩
      have D2_7 := D2_6.trans (b7.mono D2_6.size)
      have HHeld := KS5.out _ D2_7
      refine hK.out _ _ HHeld (fun _ => ?_)
      clear hK K
      (try simp only [Act.put]); (try simp only [List.setIfInBounds_toArray]); (try simp only [List.set_cons_zero, List.set_cons_succ])
      refine wpAnyH_ready (rs := [6]) (by kernel_rfl) (by simp) (AllReadyH.cons rfl (fun K hK => ?_) AllReadyH.nil)
      go_simp
      refine (specTrimLock_any m0 A1_6 c1_6 xs1 A2_7 c2_7 xs2 _ (rA1_6.below b7) rA2_7).mono ?_
      rintro e w8 ⟨As0, cs0, rfl, hcs0, rs0, os0, b8⟩
      have D2_8 := D2_7.trans (b8.mono D2_7.size)
      have HHeld := KS5.out _ D2_8
      refine hK.out _ _ HHeld (fun _ => ?_)
      clear hK K
      (try simp only [Act.put]); (try simp only [List.setIfInBounds_toArray]); (try simp only [List.set_cons_zero, List.set_cons_succ])
      refine takeD (i := 7) (some 29) (.tuple #[.agg #[.slice As0 (trimR m0 xs1 xs2).1.length cs0], .int .i64 (trimR m0 xs1 xs2).2]) rfl (by kernel_rfl) (by kernel_rfl) (by kernel_rfl) (by kernel_rfl) (fun _ _ _ h => h) (by assumption) (Or.inl ⟨by rfl, fun w hSw => by (try dsimp only at hSw); go_simp⟩) ?_
      simp only [Act.put, List.setIfInBounds_toArray, List.set_cons_zero, List.set_cons_succ]
      refine takeD (i := 8) (some 37) (.agg #[.slice As0 (trimR m0 xs1 xs2).1.length cs0]) rfl (by kernel_rfl) (by kernel_rfl) (by kernel_rfl) (by kernel_rfl) (fun _ _ _ h => h) (by assumption) (Or.inl ⟨by rfl, fun w hSw => by (try dsimp only at hSw); go_simp⟩) ?_
      simp only [Act.put, List.setIfInBounds_toArray, List.set_cons_zero, List.set_cons_succ]
      refine takeD (i := 9) (some 38) (.int .i64 (trimR m0 xs1 xs2).2) rfl (by kernel_rfl) (by kernel_rfl) (by kernel_rfl) (by kernel_rfl) (fun _ _ _ h => h) (by assumption) (Or.inl ⟨by rfl, fun w hSw => by (try dsimp only at hSw); go_simp⟩) ?_
      simp only [Act.put, List.setIfInBounds_toArray, List.set_cons_zero, List.set_cons_succ]
      have D4_6 := b5.trans (b6.mono b5.size)
      have D4_7 := D4_6.trans (b7.mono D4_6.size)
      have D4_8 := D4_7.trans (b8.mono D4_7.size)
      have cz0 : w8.cell? ⟨w2.heap.size, 0, none⟩ = some (.slice none 0 0) := (D4_8.cell (p := ⟨w2.heap.size, 0, none⟩) (by simp)).trans (by simp)
      have fz0 : w8.frozen? ⟨w2.heap.size, 0, none⟩ = false := (D4_8.frozen (p := ⟨w2.heap.size, 0, none⟩) (by simp)).trans (by simp)
      have S4_6 := Nat.le_trans (b5.size) b6.size
      have S4_7 := Nat.le_trans (S4_6) b7.size
      have hblo : w2.heap.size < w7.heap.size := Nat.lt_of_lt_of_le (show w2.heap.size < (w2.drew.alloc (.cells #[.slice none 0 0] 52)).heap.size by simp) (S4_7)
      refine wpAnyH_ready (rs := [11]) (by kernel_rfl) (by simp) (AllReadyH.cons rfl (fun K hK => ?_) AllReadyH.nil)
      go_simp
      have HHeld := KS5.out _ (Below.setCell D2_8 (p := ⟨w2.heap.size, 0, none⟩) (b3.size) (.slice As0 (trimR m0 xs1 xs2).1.length cs0))
      refine hK.out _ _ HHeld (fun _ => ?_)
      clear hK K
      (try simp only [Act.put]); (try simp only [List.setIfInBounds_toArray]); (try simp only [List.set_cons_zero, List.set_cons_succ])
      refine takeD (i := 12) (some 9) (.int .i64 (trimR m0 xs1 xs2).2) rfl (by kernel_rfl) (by kernel_rfl) (by kernel_rfl) (by kernel_rfl) (fun _ _ _ h => h) (by assumption) (Or.inl ⟨by rfl, fun w hSw => by (try dsimp only at hSw); go_simp⟩) ?_
      (try simp only [Act.put]); (try simp only [List.setIfInBounds_toArray]); (try simp only [List.set_cons_zero, List.set_cons_succ])
      refine wpAnyH_done (by kernel_rfl) ?_ _
      have S2_4 := Nat.le_trans (b3.size) b4.size
      have S2_5 := Nat.le_trans (S2_4) b5.size
      have S2_6 := Nat.le_trans (S2_5) b6.size
      have S2_7 := Nat.le_trans (S2_6) b7.size
      go_wp2_with fail
      go_meet
      exact ⟨As0, cs0, w7.heap.size, w8.heap.size, w2.heap.size, rfl, rfl, hcs0, (OII.setLow (p := ⟨w2.heap.size, 0, none⟩) (by simp only; exact hblo) os0), (Or.inl (Nat.lt_of_lt_of_le hblo (Nat.le_refl _))), S2_7, b8.size, (by simp only [World.size_setCell]; exact Nat.le_refl _), b3.size, (by simp only [World.size_setCell]; exact Nat.lt_of_lt_of_le hblo (b8.size)), ⟨World.cell?_setCell_same _ _ _ cz0, trivial⟩, (Below.setCell D2_8 (p := ⟨w2.heap.size, 0, none⟩) (b3.size) (.slice As0 (trimR m0 xs1 xs2).1.length cs0))⟩
  obtain ⟨As0, cs0, los0, his0, bbs, rfl, rfl, hcs0, os0, hds0, les0, lhs0, hles, bbgs, bbls, bxcs, b5⟩ := hcut
  rename World => w5
  have rs0 := OII.rii os0
  have bq6 := BoxC.below bq3 b5
  have q0 : w5.cell? ⟨w.heap.size, 0, none⟩ = some (.int .i64 m0.c) ∧ w5.cell? ⟨w.heap.size, 1, none⟩ = some (.int .i64 m0.d) ∧ w5.cell? ⟨w.heap.size, 2, none⟩ = some (.int .i64 m0.s) ∧ w5.cell? ⟨w.heap.size, 3, none⟩ = some (.int .i64 m0.a) ∧ w5.cell? ⟨w.heap.size, 4, none⟩ = some (.int .i64 m0.l) ∧ True := bq6
  have bq7 := BoxC.below bq4 b5
  have q1 : w5.cell? ⟨w.heap.size + 1, 0, none⟩ = some (.slice A1 xs1.length c1) ∧ True := bq7
  have q2 : w5.cell? ⟨bbs, 0, none⟩ = some (.slice As0 (trimR m0 xs1 xs2).1.length cs0) ∧ True := bxcs
  go_wp2_with fail
  clear q0 q1 q2
  have D0_5 := D0_2.trans (b5.mono D0_2.size)
  refine (toL A1 c1 xs1 _ (Rxs1.below D0_5) zxs1.1 zzxs1).mono ?_
  rintro e w6 ⟨A1_6, c1_6, rfl, hc1_6, rA1_6, oA1_6, b6⟩
  have b7 : Below w6.heap.size w6 (w6.alloc (.cells #[.slice A1_6 xs1.length c1_6] 52)) := (Below.refl _ _).alloc (Nat.le_refl _) _
  have bq8 : BoxC (w6.alloc (.cells #[.slice A1_6 xs1.length c1_6] 52)) (w6.heap.size) 0 [.slice A1_6 xs1.length c1_6] := by simp [BoxC, Go.World.cell?_alloc_at]
  have D5_7 := b6.trans (b7.mono b6.size)
  have bq9 := BoxC.below bq6 D5_7
  have q0 : (w6.alloc (.cells #[.slice A1_6 xs1.length c1_6] 52)).cell? ⟨w.heap.size, 0, none⟩ = some (.int .i64 m0.c) ∧ (w6.alloc (.cells #[.slice A1_6 xs1.length c1_6] 52)).cell? ⟨w.heap.size, 1, none⟩ = some (.int .i64 m0.d) ∧ (w6.alloc (.cells #[.slice A1_6 xs1.length c1_6] 52)).cell? ⟨w.heap.size, 2, none⟩ = some (.int .i64 m0.s) ∧ (w6.alloc (.cells #[.slice A1_6 xs1.length c1_6] 52)).cell? ⟨w.heap.size, 3, none⟩ = some (.int .i64 m0.a) ∧ (w6.alloc (.cells #[.slice A1_6 xs1.length c1_6] 52)).cell? ⟨w.heap.size, 4, none⟩ = some (.int .i64 m0.l) ∧ True := bq9
  have bq10 := BoxC.below bq7 D5_7
  have q1 : (w6.alloc (.cells #[.slice A1_6 xs1.length c1_6] 52)).cell? ⟨w.heap.size + 1, 0, none⟩ = some (.slice A1 xs1.length c1) ∧ True := bq10
  have bq11 := BoxC.below bxcs D5_7
  have q2 : (w6.alloc (.cells #[.slice A1_6 xs1.length c1_6] 52)).cell? ⟨bbs, 0, none⟩ = some (.slice As0 (trimR m0 xs1 xs2).1.length cs0) ∧ True := bq11
  have q3 : (w6.alloc (.cells #[.slice A1_6 xs1.length c1_6] 52)).cell? ⟨w6.heap.size, 0, none⟩ = some (.slice A1_6 xs1.length c1_6) ∧ True := bq8
  go_wp2_with fail
  clear q0 q1 q2 q3
  have D0_6 := D0_5.trans (b6.mono D0_5.size)
  have D0_7 := D0_6.trans (b7.mono D0_6.size)
  refine (toII A2 c2 xs2 _ (Rxs2.below D0_7) zxs2.1 zzxs2).mono ?_
  rintro e w8 ⟨A2_8, c2_8, rfl, hc2_8, rA2_8, oA2_8, b8⟩
  have bq12 := BoxC.below bq9 b8
  have q0 : w8.cell? ⟨w.heap.size, 0, none⟩ = some (.int .i64 m0.c) ∧ w8.cell? ⟨w.heap.size, 1, none⟩ = some (.int .i64 m0.d) ∧ w8.cell? ⟨w.heap.size, 2, none⟩ = some (.int .i64 m0.s) ∧ w8.cell? ⟨w.heap.size, 3, none⟩ = some (.int .i64 m0.a) ∧ w8.cell? ⟨w.heap.size, 4, none⟩ = some (.int .i64 m0.l) ∧ True := bq12
  have bq13 := BoxC.below bq10 b8
  have q1 : w8.cell? ⟨w.heap.size + 1, 0, none⟩ = some (.slice A1 xs1.length c1) ∧ True := bq13
  have bq14 := BoxC.below bq11 b8
  have q2 : w8.cell? ⟨bbs, 0, none⟩ = some (.slice As0 (trimR m0 xs1 xs2).1.length cs0) ∧ True := bq14
  have bq15 := BoxC.below bq8 b8
  have q3 : w8.cell? ⟨w6.heap.size, 0, none⟩ = some (.slice A1_6 xs1.length c1_6) ∧ True := bq15
  go_wp2_with fail
  clear q0 q1 q2 q3
  have KS16 := Lib.hid (show ∀ w' : World, Below w8.heap.size w8 w' → ((w'.cell? ⟨w.heap.size, 0, none⟩ = some (.int .i64 m0.c) ∧ w'.cell? ⟨w.heap.size, 1, none⟩ = some (.int .i64 m0.d) ∧ w'.cell? ⟨w.heap.size, 2, none⟩ = some (.int .i64 m0.s) ∧ w'.cell? ⟨w.heap.size, 3, none⟩ = some (.int .i64 m0.a) ∧ w'.cell? ⟨w.heap.size, 4, none⟩ = some (.int .i64 m0.l) ∧ True) ∧ (w'.cell? ⟨w6.heap.size, 0, none⟩ = some (.slice A1_6 xs1.length c1_6) ∧ True)) from fun w' hb => ⟨BoxC.below bq12 hb, BoxC.below bq15 hb⟩)
  go_cut [12, 13] (fun p0 p1 wx => ∃ (Ag0 : Option Addr) (cg0 log0 hig0 : Nat) (bb : Nat), p0 = .pointer (some ⟨bb, 0, none⟩) ∧ p1 = .int .i64 (trimR m0 xs1 xs2).2 ∧ (trimR m0 xs1 xs2).1.length ≤ cg0 ∧ OII wx log0 hig0 (.slice Ag0 (trimR m0 xs1 xs2).1.length cg0) (trimR m0 xs1 xs2).1 ∧ (bb < log0 ∨ hig0 ≤ bb) ∧ w8.heap.size ≤ log0 ∧ log0 ≤ hig0 ∧ hig0 ≤ wx.heap.size ∧ w8.heap.size ≤ bb ∧ bb < wx.heap.size ∧ BoxC wx bb 0 [.slice Ag0 (trimR m0 xs1 xs2).1.length cg0] ∧ Below w8.heap.size w8 wx)
  case first =>
    refine wp_region_held_drew (S := (fun w' => (w'.cell? ⟨w.heap.size, 0, none⟩ = some (.int .i64 m0.c) ∧ w'.cell? ⟨w.heap.size, 1, none⟩ = some (.int .i64 m0.d) ∧ w'.cell? ⟨w.heap.size, 2, none⟩ = some (.int .i64 m0.s) ∧ w'.cell? ⟨w.heap.size, 3, none⟩ = some (.int .i64 m0.a) ∧ w'.cell? ⟨w.heap.size, 4, none⟩ = some (.int .i64 m0.l) ∧ True) ∧ (w'.cell? ⟨w6.heap.size, 0, none⟩ = some (.slice A1_6 xs1.length c1_6) ∧ True))) (by kernel_rfl) (KS16.out _ (belowDrew0 _)) (fun hHeld => ?_)
    refine takeD (i := 0) (some 44) (.agg #[.int .i64 m0.c, .int .i64 m0.d, .int .i64 m0.s, .int .i64 m0.a, .int .i64 m0.l]) rfl (by kernel_rfl) (by kernel_rfl) (by kernel_rfl) (by kernel_rfl) (fun _ _ _ h => h) (by assumption) (Or.inl ⟨by rfl, fun w hSw => by (try dsimp only at hSw); go_simp⟩) ?_
    simp only [Act.put, List.setIfInBounds_toArray, List.set_cons_zero, List.set_cons_succ]
    refine takeD (i := 2) (some 46) (.agg #[.slice A1_6 xs1.length c1_6]) rfl (by kernel_rfl) (by kernel_rfl) (by kernel_rfl) (by kernel_rfl) (fun _ _ _ h => h) (by assumption) (Or.inl ⟨by rfl, fun w hSw => by (try dsimp only at hSw); go_simp⟩) ?_
    simp only [Act.put, List.setIfInBounds_toArray, List.set_cons_zero, List.set_cons_succ]
    refine takeD (i := 3) (some 47) (.slice A2_8 xs2.length c2_8) rfl (by kernel_rfl) (by kernel_rfl) (by kernel_rfl) (by kernel_rfl) (fun _ _ _ h => h) (by assumption) (Or.inl ⟨by rfl, fun w hSw => by (try dsimp only at hSw); go_simp⟩) ?_
    simp only [Act.put, List.setIfInBounds_toArray, List.set_cons_zero, List.set_cons_succ]
    have b9 := belowDrew0 w8
    refine wpAnyH_ready (rs := [1, 8]) (by kernel_rfl) (by simp) (AllReadyH.cons rfl (fun K hK => ?_) (AllReadyH.cons rfl (fun K hK => ?_) AllReadyH.nil))
    · go_simp
      refine (toM m0.c m0.d m0.s m0.a m0.l _).mono ?_
      rintro e w10 ⟨rfl, b10⟩
      have D8_10 := b9.trans (b10.mono b9.size)
      have HHeld := KS16.out _ D8_10
      refine hK.out _ _ HHeld (fun _ => ?_)
      clear hK K
      (try simp only [Act.put]); (try simp only [List.setIfInBounds_toArray]); (try simp only [List.set_cons_zero, List.set_cons_succ])
      refine wpAnyH_ready (rs := [4, 8]) (by kernel_rfl) (by simp) (AllReadyH.cons rfl (fun K hK => ?_) (AllReadyH.cons rfl (fun K hK => ?_) AllReadyH.nil))
      · go_simp
        have D6_8 := b7.trans (b8.mono b7.size)
        have D6_9 := D6_8.trans (b9.mono D6_8.size)
        have D6_10 := D6_9.trans (b10.mono D6_9.size)
        refine (implTrimLock_any m0 A1_6 c1_6 xs1 A2_8 c2_8 xs2 _ (rA1_6.below D6_10) (rA2_8.below D8_10)).mono ?_
        rintro e w11 ⟨Ag0, cg0, rfl, hcg0, rg0, og0, b11⟩
        have D8_11 := D8_10.trans (b11.mono D8_10.size)
        have HHeld := KS16.out _ D8_11
        refine hK.out _ _ HHeld (fun _ => ?_)
        clear hK K
        (try simp only [Act.put]); (try simp only [List.setIfInBounds_toArray]); (try simp only [List.set_cons_zero, List.set_cons_succ])
        refine takeD (i := 5) (some 43) (.tuple #[.agg #[.slice Ag0 (trimR m0 xs1 xs2).1.length cg0], .int .i64 (trimR m0 xs1 xs2).2]) rfl (by kernel_rfl) (by kernel_rfl) (by kernel_rfl) (by kernel_rfl) (fun _ _ _ h => h) (by assumption) (Or.inl ⟨by rfl, fun w hSw => by (try dsimp only at hSw); go_simp⟩) ?_
        simp only [Act.put, List.setIfInBounds_toArray, List.set_cons_zero, List.set_cons_succ]
        refine takeD (i := 6) (some 49) (.agg #[.slice Ag0 (trimR m0 xs1 xs2).1.length cg0]) rfl (by kernel_rfl) (by kernel_rfl) (by kernel_rfl) (by kernel_rfl) (fun _ _ _ h => h) (by assumption) (Or.inl ⟨by rfl, fun w hSw => by (try dsimp only at hSw); go_simp⟩) ?_
        simp only [Act.put, List.setIfInBounds_toArray, List.set_cons_zero, List.set_cons_succ]
        refine takeD (i := 7) (some 50) (.int .i64 (trimR m0 xs1 xs2).2) rfl (by kernel_rfl) (by kernel_rfl) (by kernel_rfl) (by kernel_rfl) (fun _ _ _ h => h) (by assumption) (Or.inl ⟨by rfl, fun w hSw => by (try dsimp only at hSw); go_simp⟩) ?_
        simp only [Act.put, List.setIfInBounds_toArray, List.set_cons_zero, List.set_cons_succ]
        refine wpAnyH_ready (rs := [8]) (by kernel_rfl) (by simp) (AllReadyH.cons rfl (fun K hK => ?_) AllReadyH.nil)
        go_simp
        have b12 : Below w11.heap.size w11 (w11.alloc (.cells #[.slice none 0 0] 52)) := (Below.refl _ _).alloc (Nat.le_refl _) _
        have D8_12 := D8_11.trans (b12.mono D8_11.size)
        have HHeld := KS16.out _ D8_12
        refine hK.out _ _ HHeld (fun _ => ?_)
        clear hK K
        (try simp only [Act.put]); (try simp only [List.setIfInBounds_toArray]); (try simp only [List.set_cons_zero, List.set_cons_succ])
        have S8_10 := Nat.le_trans (b9.size) b10.size
        have S8_11 := Nat.le_trans (S8_10) b11.size
        refine wpAnyH_ready (rs := [9]) (by kernel_rfl) (by simp) (AllReadyH.cons rfl (fun K hK => ?_) AllReadyH.nil)
        go_simp
        have HHeld := KS16.out _ (Below.alloc D8_11 (S8_11) (.cells #[.slice Ag0 (trimR m0 xs1 xs2).1.length cg0] 52))
        refine hK.out _ _ HHeld (fun _ => ?_)
        clear hK K
        (try simp only [Act.put]); (try simp only [List.setIfInBounds_toArray]); (try simp only [List.set_cons_zero, List.set_cons_succ])
        refine takeD (i := 10) (some 13) (.int .i64 (trimR m0 xs1 xs2).2) rfl (by kernel_rfl) (by kernel_rfl) (by kernel_rfl) (by kernel_rfl) (fun _ _ _ h => h) (by assumption) (Or.inl ⟨by rfl, fun w hSw => by (try dsimp only at hSw); go_simp⟩) ?_
        (try simp only [Act.put]); (try simp only [List.setIfInBounds_toArray]); (try simp only [List.set_cons_zero, List.set_cons_succ])
        refine wpAnyH_done (by kernel_rfl) ?_ _
        go_wp2_with fail
        go_meet
        exact ⟨Ag0, cg0, w10.heap.size, w11.heap.size, w11.heap.size, rfl, rfl, hcg0, ((og0).below ((Below.refl _ _).alloc (Nat.le_refl _) _)), (Or.inr (Nat.le_refl _)), S8_10, b11.size, (by simp), S8_11, (by simp), (by simp [BoxC, Go.World.cell?_alloc_at]), (Below.alloc D8_11 (S8_11) (.cells #[.slice Ag0 (trimR m0 xs1 xs2).1.length cg0] 52))⟩
      · go_simp
        have b11 : Below w10.heap.size w10 (w10.alloc (.cells #[.slice none 0 0] 52)) := (Below.refl _ _).alloc (Nat.le_refl _) _
        have D8_11 := D8_10.trans (b11.mono D8_10.size)
        have HHeld := KS16.out _ D8_11
        refine hK.out _ _ HHeld (fun _ => ?_)
        clear hK K
        (try simp only [Act.put]); (try simp only [List.setIfInBounds_toArray]); (try simp only [List.set_cons_zero, List.set_cons_succ])
        refine wpAnyH_ready (rs := [4]) (by kernel_rfl) (by simp) (AllReadyH.cons rfl (fun K hK => ?_) AllReadyH.nil)
        go_simp
        have D6_8 := b7.trans (b8.mono b7.size)
        have D6_9 := D6_8.trans (b9.mono D6_8.size)
        have D6_10 := D6_9.trans (b10.mono D6_9.size)
        have D6_11 := D6_10.trans (b11.mono D6_10.size)
        refine (implTrimLock_any m0 A1_6 c1_6 xs1 A2_8 c2_8 xs2 _ (rA1_6.below D6_11) (rA2_8.below D8_11)).mono ?_
        rintro e w12 ⟨Ag0, cg0, rfl, hcg0, rg0, og0, b12⟩
        have D8_12 := D8_11.trans (b12.mono D8_11.size)
        have HHeld := KS16.out _ D8_12
        refine hK.out _ _ HHeld (fun _ => ?_)
        clear hK K
        (try simp only [Act.put]); (try simp only [List.setIfInBounds_toArray]); (try simp only [List.set_cons_zero, List.set_cons_succ])
        refine takeD (i := 5) (some 43) (.tuple #[.agg #[.slice Ag0 (trimR m0 xs1 xs2).1.length cg0], .int .i64 (trimR m0 xs1 xs2).2]) rfl (by kernel_rfl) (by kernel_rfl) (by kernel_rfl) (by kernel_rfl) (fun _ _ _ h => h) (by assumption) (Or.inl ⟨by rfl, fun w hSw => by (try dsimp only at hSw); go_simp⟩) ?_
        simp only [Act.put, List.setIfInBounds_toArray, List.set_cons_zero, List.set_cons_succ]
        refine takeD (i := 6) (some 49) (.agg #[.slice Ag0 (trimR m0 xs1 xs2).1.length cg0]) rfl (by kernel_rfl) (by kernel_rfl) (by kernel_rfl) (by kernel_rfl) (fun _ _ _ h => h) (by assumption) (Or.inl ⟨by rfl, fun w hSw => by (try dsimp only at hSw); go_simp⟩) ?_
        simp only [Act.put, List.setIfInBounds_toArray, List.set_cons_zero, List.set_cons_succ]
        refine takeD (i := 7) (some 50) (.int .i64 (trimR m0 xs1 xs2).2) rfl (by kernel_rfl) (by kernel_rfl) (by kernel_rfl) (by kernel_rfl) (fun _ _ _ h => h) (by assumption) (Or.inl ⟨by rfl, fun w hSw => by (try dsimp only at hSw); go_simp⟩) ?_
        simp only [Act.put, List.setIfInBounds_toArray, List.set_cons_zero, List.set_cons_succ]
        have cz0 : w12.cell? ⟨w10.heap.size, 0, none⟩ = some (.slice none 0 0) := (b12.cell (p := ⟨w10.heap.size, 0, none⟩) (by simp)).trans (by simp)
        have fz0 : w12.frozen? ⟨w10.heap.size, 0, none⟩ = false := (b12.frozen (p := ⟨w10.heap.size, 0, none⟩) (by simp)).trans (by simp)
        have S8_10 := Nat.le_trans (b9.size) b10.size
        have hblo : w10.heap.size < (w10.alloc (.cells #[.slice none 0 0] 52)).heap.size := Nat.lt_of_lt_of_le (show w10.heap.size < (w10.alloc (.cells #[.slice none 0 0] 52)).heap.size by simp) (Nat.le_refl _)
        refine wpAnyH_ready (rs := [9]) (by kernel_rfl) (by simp) (AllReadyH.cons rfl (fun K hK => ?_) AllReadyH.nil)
        go_simp
        have HHeld := KS16.out _ (Below.setCell D8_12 (p := ⟨w10.heap.size, 0, none⟩) (S8_10) (.slice Ag0 (trimR m0 xs1 xs2).1.length cg0))
        refine hK.out _ _ HHeld (fun _ => ?_)
        clear hK K
        (try simp only [Act.put]); (try simp only [List.setIfInBounds_toArray]); (try simp only [List.set_cons_zero, List.set_cons_succ])
        refine takeD (i := 10) (some 13) (.int .i64 (trimR m0 xs1 xs2).2) rfl (by kernel_rfl) (by kernel_rfl) (by kernel_rfl) (by kernel_rfl) (fun _ _ _ h => h) (by assumption) (Or.inl ⟨by rfl, fun w hSw => by (try dsimp only at hSw); go_simp⟩) ?_
        (try simp only [Act.put]); (try simp only [List.setIfInBounds_toArray]); (try simp only [List.set_cons_zero, List.set_cons_succ])
        refine wpAnyH_done (by kernel_rfl) ?_ _
        have S8_11 := Nat.le_trans (S8_10) b11.size
        go_wp2_with fail
        go_meet
        exact ⟨Ag0, cg0, (w10.alloc (.cells #[.slice none 0 0] 52)).heap.size, w12.heap.size, w10.heap.size, rfl, rfl, hcg0, (OII.setLow (p := ⟨w10.heap.size, 0, none⟩) (by simp only; exact hblo) og0), (Or.inl (Nat.lt_of_lt_of_le hblo (Nat.le_refl _))), S8_11, b12.size, (by simp only [World.size_setCell]; exact Nat.le_refl _), S8_10, (by simp only [World.size_setCell]; exact Nat.lt_of_lt_of_le hblo (b12.size)), ⟨World.cell?_setCell_same _ _ _ cz0, trivial⟩, (Below.setCell D8_12 (p := ⟨w10.heap.size, 0, none⟩) (S8_10) (.slice Ag0 (trimR m0 xs1 xs2).1.length cg0))⟩
    · go_simp
      have b10 : Below w8.drew.heap.size w8.drew (w8.drew.alloc (.cells #[.slice none 0 0] 52)) := (Below.refl _ _).alloc (Nat.le_refl _) _
      have D8_10 := b9.trans (b10.mono b9.size)
      have HHeld := KS16.out _ D8_10
      refine hK.out _ _ HHeld (fun _ => ?_)
      clear hK K
      (try simp only [Act.put]); (try simp only [List.setIfInBounds_toArray]); (try simp only [List.set_cons_zero, List.set_cons_succ])
      refine wpAnyH_ready (rs := [1]) (by kernel_rfl) (by simp) (AllReadyH.cons rfl (fun K hK => ?_) AllReadyH.nil)
      go_simp
      refine (toM m0.c m0.d m0.s m0.a m0.l _).mono ?_
      rintro e w11 ⟨rfl, b11⟩
      have D8_11 := D8_10.trans (b11.mono D8_10.size)
      have HHeld := KS16.out _ D8_11
      refine hK.out _ _ HHeld (fun _ => ?_)
      clear hK K
      (try simp only [Act.put]); (try simp only [List.setIfInBounds_toArray]); (try simp only [List.set_cons_zero, List.set_cons_succ])
      refine wpAnyH_ready (rs := [4]) (by kernel_rfl) (by simp) (AllReadyH.cons rfl (fun K hK => ?_) AllReadyH.nil)
      go_simp
      have D6_8 := b7.trans (b8.mono b7.size)
      have D6_9 := D6_8.trans (b9.mono D6_8.size)
      have D6_10 := D6_9.trans (b10.mono D6_9.size)
      have D6_11 := D6_10.trans (b11.mono D6_10.size)
      refine (implTrimLock_any m0 A1_6 c1_6 xs1 A2_8 c2_8 xs2 _ (rA1_6.below D6_11) (rA2_8.below D8_11)).mono ?_
      rintro e w12 ⟨Ag0, cg0, rfl, hcg0, rg0, og0, b12⟩
      have D8_12 := D8_11.trans (b12.mono D8_11.size)
      have HHeld := KS16.out _ D8_12
      refine hK.out _ _ HHeld (fun _ => ?_)
      clear hK K
      (try simp only [Act.put]); (try simp only [List.setIfInBounds_toArray]); (try simp only [List.set_cons_zero, List.set_cons_succ])
      refine takeD (i := 5) (some 43) (.tuple #[.agg #[.slice Ag0 (trimR m0 xs1 xs2).1.length cg0], .int .i64 (trimR m0 xs1 xs2).2]) rfl (by kernel_rfl) (by kernel_rfl) (by kernel_rfl) (by kernel_rfl) (fun _ _ _ h => h) (by assumption) (Or.inl ⟨by rfl, fun w hSw => by (try dsimp only at hSw); go_simp⟩) ?_
      simp only [Act.put, List.setIfInBounds_toArray, List.set_cons_zero, List.set_cons_succ]
      refine takeD (i := 6) (some 49) (.agg #[.slice Ag0 (trimR m0 xs1 xs2).1.length cg0]) rfl (by kernel_rfl) (by kernel_rfl) (by kernel_rfl) (by kernel_rfl) (fun _ _ _ h => h) (by assumption) (Or.inl ⟨by rfl, fun w hSw => by (try dsimp only at hSw); go_simp⟩) ?_
      simp only [Act.put, List.setIfInBounds_toArray, List.set_cons_zero, List.set_cons_succ]
      refine takeD (i := 7) (some 50) (.int .i64 (trimR m0 xs1 xs2).2) rfl (by kernel_rfl) (by kernel_rfl) (by kernel_rfl) (by kernel_rfl) (fun _ _ _ h => h) (by assumption) (Or.inl ⟨by rfl, fun w hSw => by (try dsimp only at hSw); go_simp⟩) ?_
      simp only [Act.put, List.setIfInBounds_toArray, List.set_cons_zero, List.set_cons_succ]
      have D10_12 := b11.trans (b12.mono b11.size)
      have cz0 : w12.cell? ⟨w8.heap.size, 0, none⟩ = some (.slice none 0 0) := (D10_12.cell (p := ⟨w8.heap.size, 0, none⟩) (by simp)).trans (by simp)
      have fz0 : w12.frozen? ⟨w8.heap.size, 0, none⟩ = false := (D10_12.frozen (p := ⟨w8.heap.size, 0, none⟩) (by simp)).trans (by simp)
      have hblo : w8.heap.size < w11.heap.size := Nat.lt_of_lt_of_le (show w8.heap.size < (w8.drew.alloc (.cells #[.slice none 0 0] 52)).heap.size by simp) (b11.size)
      refine wpAnyH_ready (rs := [9]) (by kernel_rfl) (by simp) (AllReadyH.cons rfl (fun K hK => ?_) AllReadyH.nil)
      go_simp
      have HHeld := KS16.out _ (Below.setCell D8_12 (p := ⟨w8.heap.size, 0, none⟩) (b9.size) (.slice Ag0 (trimR m0 xs1 xs2).1.length cg0))
      refine hK.out _ _ HHeld (fun _ => ?_)
      clear hK K
      (try simp only [Act.put]); (try simp only [List.setIfInBounds_toArray]); (try simp only [List.set_cons_zero, List.set_cons_succ])
      refine takeD (i := 10) (some 13) (.int .i64 (trimR m0 xs1 xs2).2) rfl (by kernel_rfl) (by kernel_rfl) (by kernel_rfl) (by kernel_rfl) (fun _ _ _ h => h) (by assumption) (Or.inl ⟨by rfl, fun w hSw => by (try dsimp only at hSw); go_simp⟩) ?_
      (try simp only [Act.put]); (try simp only [List.setIfInBounds_toArray]); (try simp only [List.set_cons_zero, List.set_cons_succ])
      refine wpAnyH_done (by kernel_rfl) ?_ _
      have S8_10 := Nat.le_trans (b9.size) b10.size
      have S8_11 := Nat.le_trans (S8_10) b11.size
      go_wp2_with fail
      go_meet
      exact ⟨Ag0, cg0, w11.heap.size, w12.heap.size, w8.heap.size, rfl, rfl, hcg0, (OII.setLow (p := ⟨w8.heap.size, 0, none⟩) (by simp only; exact hblo) og0), (Or.inl (Nat.lt_of_lt_of_le hblo (Nat.le_refl _))), S8_11, b12.size, (by simp only [World.size_setCell]; exact Nat.le_refl _), b9.size, (by simp only [World.size_setCell]; exact Nat.lt_of_lt_of_le hblo (b12.size)), ⟨World.cell?_setCell_same _ _ _ cz0, trivial⟩, (Below.setCell D8_12 (p := ⟨w8.heap.size, 0, none⟩) (b9.size) (.slice Ag0 (trimR m0 xs1 xs2).1.length cg0))⟩
  obtain ⟨Ag0, cg0, log0, hig0, bbg, rfl, rfl, hcg0, og0, hdg0, leg0, lhg0, hleg, bbgg, bblg, bxcg, b11⟩ := hcut
  rename World => w11
  have rg0 := OII.rii og0
  have bq17 := BoxC.below bq12 b11
  have q0 : w11.cell? ⟨w.heap.size, 0, none⟩ = some (.int .i64 m0.c) ∧ w11.cell? ⟨w.heap.size, 1, none⟩ = some (.int .i64 m0.d) ∧ w11.cell? ⟨w.heap.size, 2, none⟩ = some (.int .i64 m0.s) ∧ w11.cell? ⟨w.heap.size, 3, none⟩ = some (.int .i64 m0.a) ∧ w11.cell? ⟨w.heap.size, 4, none⟩ = some (.int .i64 m0.l) ∧ True := bq17
  have bq18 := BoxC.below bq13 b11
  have q1 : w11.cell? ⟨w.heap.size + 1, 0, none⟩ = some (.slice A1 xs1.length c1) ∧ True := bq18
  have bq19 := BoxC.below bq14 b11
  have q2 : w11.cell? ⟨bbs, 0, none⟩ = some (.slice As0 (trimR m0 xs1 xs2).1.length cs0) ∧ True := bq19
  have bq20 := BoxC.below bq15 b11
  have q3 : w11.cell? ⟨w6.heap.size, 0, none⟩ = some (.slice A1_6 xs1.length c1_6) ∧ True := bq20
  have q4 : w11.cell? ⟨bbg, 0, none⟩ = some (.slice Ag0 (trimR m0 xs1 xs2).1.length cg0) ∧ True := bxcg
  go_wp2_with fail
  clear q0 q1 q2 q3 q4
  have D5_8 := D5_7.trans (b8.mono D5_7.size)
  have D5_11 := D5_8.trans (b11.mono D5_8.size)
  refine (eqL_t Ag0 As0 cg0 cs0 (trimR m0 xs1 xs2).1 _ rg0 (rs0.below D5_11)).mono ?_
  rintro e w12 ⟨rfl, b12⟩
  have bq21 := BoxC.below bq17 b12
  have q0 : w12.cell? ⟨w.heap.size, 0, none⟩ = some (.int .i64 m0.c) ∧ w12.cell? ⟨w.heap.size, 1, none⟩ = some (.int .i64 m0.d) ∧ w12.cell? ⟨w.heap.size, 2, none⟩ = some (.int .i64 m0.s) ∧ w12.cell? ⟨w.heap.size, 3, none⟩ = some (.int .i64 m0.a) ∧ w12.cell? ⟨w.heap.size, 4, none⟩ = some (.int .i64 m0.l) ∧ True := bq21
  have bq22 := BoxC.below bq18 b12
  have q1 : w12.cell? ⟨w.heap.size + 1, 0, none⟩ = some (.slice A1 xs1.length c1) ∧ True := bq22
  have bq23 := BoxC.below bq19 b12
  have q2 : w12.cell? ⟨bbs, 0, none⟩ = some (.slice As0 (trimR m0 xs1 xs2).1.length cs0) ∧ True := bq23
  have bq24 := BoxC.below bq20 b12
  have q3 : w12.cell? ⟨w6.heap.size, 0, none⟩ = some (.slice A1_6 xs1.length c1_6) ∧ True := bq24
  have bq25 := BoxC.below bxcg b12
  have q4 : w12.cell? ⟨bbg, 0, none⟩ = some (.slice Ag0 (trimR m0 xs1 xs2).1.length cg0) ∧ True := bq25
  go_wp2_with fail
  clear q0 q1 q2 q3 q4
  have KS26 := Lib.hid (show ∀ w' : World, Below w12.heap.size w12 w' → ((w'.cell? ⟨w.heap.size + 1, 0, none⟩ = some (.slice A1 xs1.length c1) ∧ True) ∧ (w'.cell? ⟨w6.heap.size, 0, none⟩ = some (.slice A1_6 xs1.length c1_6) ∧ True)) from fun w' hb => ⟨BoxC.below bq22 hb, BoxC.below bq24 hb⟩)
  go_region_held3 (fun w' => (w'.cell? ⟨w.heap.size + 1, 0, none⟩ = some (.slice A1 xs1.length c1) ∧ True) ∧ (w'.cell? ⟨w6.heap.size, 0, none⟩ = some (.slice A1_6 xs1.length c1_6) ∧ True)) (first | (refine KS26.out _ ?_; first | assumption | exact belowDrew0 _ | exact Below.alloc (by assumption) (Below.size (by assumption)) _)) (first | (go_at_call 38; have D6_8 := b7.trans (b8.mono b7.size); have D6_11 := D6_8.trans (b11.mono D6_8.size); have D6_12 := D6_11.trans (b12.mono D6_11.size); have D6_13 := D6_12.trans (b13.mono D6_12.size); refine (eqL_t A1_6 A1_13 c1_6 c1_13 xs1 _ (rA1_6.below D6_13) rA1_13).mono ?_; rintro e w14 ⟨rfl, b14⟩; have BS14 := Below.trans b13 (b14.mono (Below.size b13))) | (go_at_call 36; have D0_8 := D0_7.trans (b8.mono D0_7.size); have D0_11 := D0_8.trans (b11.mono D0_8.size); have D0_12 := D0_11.trans (b12.mono D0_11.size); refine (toL A1 c1 xs1 _ ((Rxs1.below D0_12).below (belowDrew0 _)) zxs1.1 zzxs1).mono ?_; rintro e w13 ⟨A1_13, c1_13, rfl, hc1_13, rA1_13, oA1_13, b13⟩; have b13 := belowDrew b13))
  have D12_14 := b13.trans (b14.mono b13.size)
  have bq27 := BoxC.below bq21 D12_14
  have q0 : w14.cell? ⟨w.heap.size, 0, none⟩ = some (.int .i64 m0.c) ∧ w14.cell? ⟨w.heap.size, 1, none⟩ = some (.int .i64 m0.d) ∧ w14.cell? ⟨w.heap.size, 2, none⟩ = some (.int .i64 m0.s) ∧ w14.cell? ⟨w.heap.size, 3, none⟩ = some (.int .i64 m0.a) ∧ w14.cell? ⟨w.heap.size, 4, none⟩ = some (.int .i64 m0.l) ∧ True := bq27
  have bq28 := BoxC.below bq22 D12_14
  have q1 : w14.cell? ⟨w.heap.size + 1, 0, none⟩ = some (.slice A1 xs1.length c1) ∧ True := bq28
  have bq29 := BoxC.below bq23 D12_14
  have q2 : w14.cell? ⟨bbs, 0, none⟩ = some (.slice As0 (trimR m0 xs1 xs2).1.length cs0) ∧ True := bq29
  have bq30 := BoxC.below bq24 D12_14
  have q3 : w14.cell? ⟨w6.heap.size, 0, none⟩ = some (.slice A1_6 xs1.length c1_6) ∧ True := bq30
  have bq31 := BoxC.below bq25 D12_14
  have q4 : w14.cell? ⟨bbg, 0, none⟩ = some (.slice Ag0 (trimR m0 xs1 xs2).1.length cg0) ∧ True := bq31
  go_wp2_with fail
  clear q0 q1 q2 q3 q4
  have D0_13 := D0_12.trans (b13.mono D0_12.size)
  have D0_14 := D0_13.trans (b14.mono D0_13.size)
  refine (toII A2 c2 xs2 _ (Rxs2.below D0_14) zxs2.1 zzxs2).mono ?_
  rintro e w15 ⟨A2_15, c2_15, rfl, hc2_15, rA2_15, oA2_15, b15⟩
  have bq32 := BoxC.below bq27 b15
  have q0 : w15.cell? ⟨w.heap.size, 0, none⟩ = some (.int .i64 m0.c) ∧ w15.cell? ⟨w.heap.size, 1, none⟩ = some (.int .i64 m0.d) ∧ w15.cell? ⟨w.heap.size, 2, none⟩ = some (.int .i64 m0.s) ∧ w15.cell? ⟨w.heap.size, 3, none⟩ = some (.int .i64 m0.a) ∧ w15.cell? ⟨w.heap.size, 4, none⟩ = some (.int .i64 m0.l) ∧ True := bq32
  have bq33 := BoxC.below bq28 b15
  have q1 : w15.cell? ⟨w.heap.size + 1, 0, none⟩ = some (.slice A1 xs1.length c1) ∧ True := bq33
  have bq34 := BoxC.below bq29 b15
  have q2 : w15.cell? ⟨bbs, 0, none⟩ = some (.slice As0 (trimR m0 xs1 xs2).1.length cs0) ∧ True := bq34
  have bq35 := BoxC.below bq30 b15
  have q3 : w15.cell? ⟨w6.heap.size, 0, none⟩ = some (.slice A1_6 xs1.length c1_6) ∧ True := bq35
  have bq36 := BoxC.below bq31 b15
  have q4 : w15.cell? ⟨bbg, 0, none⟩ = some (.slice Ag0 (trimR m0 xs1 xs2).1.length cg0) ∧ True := bq36
  go_wp2_with fail
  clear q0 q1 q2 q3 q4
  have D8_12 := b11.trans (b12.mono b11.size)
  have D8_13 := D8_12.trans (b13.mono D8_12.size)
  have D8_14 := D8_13.trans (b14.mono D8_13.size)
  have D8_15 := D8_14.trans (b15.mono D8_14.size)
  refine (eqII_t A2_8 A2_15 c2_8 c2_15 xs2 _ (rA2_8.below D8_15) rA2_15).mono ?_
  rintro e w16 ⟨rfl, b16⟩
  have bq37 := BoxC.below bq32 b16
  have q0 : w16.cell? ⟨w.heap.size, 0, none⟩ = some (.int .i64 m0.c) ∧ w16.cell? ⟨w.heap.size, 1, none⟩ = some (.int .i64 m0.d) ∧ w16.cell? ⟨w.heap.size, 2, none⟩ = some (.int .i64 m0.s) ∧ w16.cell? ⟨w.heap.size, 3, none⟩ = some (.int .i64 m0.a) ∧ w16.cell? ⟨w.heap.size, 4, none⟩ = some (.int .i64 m0.l) ∧ True := bq37
  have bq38 := BoxC.below bq33 b16
  have q1 : w16.cell? ⟨w.heap.size + 1, 0, none⟩ = some (.slice A1 xs1.length c1) ∧ True := bq38
  have bq39 := BoxC.below bq34 b16
  have q2 : w16.cell? ⟨bbs, 0, none⟩ = some (.slice As0 (trimR m0 xs1 xs2).1.length cs0) ∧ True := bq39
  have bq40 := BoxC.below bq35 b16
  have q3 : w16.cell? ⟨w6.heap.size, 0, none⟩ = some (.slice A1_6 xs1.length c1_6) ∧ True := bq40
  have bq41 := BoxC.below bq36 b16
  have q4 : w16.cell? ⟨bbg, 0, none⟩ = some (.slice Ag0 (trimR m0 xs1 xs2).1.length cg0) ∧ True := bq41
  go_wp2_with fail
  clear q0 q1 q2 q3 q4
  have D6_14 := D6_13.trans (b14.mono D6_13.size)
  have D6_15 := D6_14.trans (b15.mono D6_14.size)
  have D6_16 := D6_15.trans (b16.mono D6_15.size)
  have Y42 := oA1_6.below (D6_16.mono (Nat.le_refl _))
  have D8_16 := D8_15.trans (b16.mono D8_15.size)
  have Y43 := oA2_8.below (D8_16.mono (Nat.le_refl _))
  have D11_13 := b12.trans (b13.mono b12.size)
  have D11_14 := D11_13.trans (b14.mono D11_13.size)
  have D11_15 := D11_14.trans (b15.mono D11_14.size)
  have D11_16 := D11_15.trans (b16.mono D11_15.size)
  have Y44 := og0.below (D11_16.mono (hleg))
  have S6_8 := Nat.le_trans (b7.size) b8.size
  have S6_9 := Nat.le_trans (S6_8) leg0
  have S6_10 := Nat.le_trans (S6_9) lhg0
  have S6_11 := Nat.le_trans (S6_10) hleg
  have S6_12 := Nat.le_trans (S6_11) b12.size
  have S6_13 := Nat.le_trans (S6_12) b13.size
  have S6_14 := Nat.le_trans (S6_13) b14.size
  have S6_15 := Nat.le_trans (S6_14) b15.size
  have S6_16 := Nat.le_trans (S6_15) b16.size
  refine (markL_t (.slice A1_6 xs1.length c1_6) xs1 _ _ _ _ Y42 (by omega) (by omega) (by omega) (by omega) (S6_16)).mono ?_
  rintro e w17 ⟨rfl, Y45, on17⟩
  have S0_2 := Nat.le_trans (b1.size) b2.size
  have S0_3 := Nat.le_trans (S0_2) les0
  have S0_4 := Nat.le_trans (S0_3) lhs0
  have S0_5 := Nat.le_trans (S0_4) hles
  have bq46 := BoxC.only bq37 on17 (Or.inl (Nat.lt_of_lt_of_le (by simp only [World.size_alloc]; omega) (S0_5)))
  have q0 : w17.cell? ⟨w.heap.size, 0, none⟩ = some (.int .i64 m0.c) ∧ w17.cell? ⟨w.heap.size, 1, none⟩ = some (.int .i64 m0.d) ∧ w17.cell? ⟨w.heap.size, 2, none⟩ = some (.int .i64 m0.s) ∧ w17.cell? ⟨w.heap.size, 3, none⟩ = some (.int .i64 m0.a) ∧ w17.cell? ⟨w.heap.size, 4, none⟩ = some (.int .i64 m0.l) ∧ True := bq46
  have bq47 := BoxC.only bq38 on17 (Or.inl (Nat.lt_of_lt_of_le (by simp only [World.size_alloc]; omega) (S0_5)))
  have q1 : w17.cell? ⟨w.heap.size + 1, 0, none⟩ = some (.slice A1 xs1.length c1) ∧ True := bq47
  have bq48 := BoxC.only bq39 on17 (Or.inl (Nat.lt_of_lt_of_le bbls (Nat.le_refl _)))
  have q2 : w17.cell? ⟨bbs, 0, none⟩ = some (.slice As0 (trimR m0 xs1 xs2).1.length cs0) ∧ True := bq48
  have bq49 := BoxC.only bq40 on17 (Or.inr (Nat.le_refl _))
  have q3 : w17.cell? ⟨w6.heap.size, 0, none⟩ = some (.slice A1_6 xs1.length c1_6) ∧ True := bq49
  have bq50 := BoxC.only bq41 on17 (Or.inr (Nat.le_trans (S6_8) bbgg))
  have q4 : w17.cell? ⟨bbg, 0, none⟩ = some (.slice Ag0 (trimR m0 xs1 xs2).1.length cg0) ∧ True := bq50
  go_wp2_with fail
  clear q0 q1 q2 q3 q4
  have Y51 := Y43.only on17 (Or.inr (b7.size))
  have Y52 := Y44.only on17 (Or.inr (S6_9))
  refine (markII_t (.slice A2_8 xs2.length c2_8) xs2 _ _ _ _ Y51 (by omega) (by omega) (by omega) (by omega)).mono ?_
  rintro e w18 ⟨rfl, Y53, on18⟩
  have S0_6 := Nat.le_trans (S0_5) b6.size
  have S0_7 := Nat.le_trans (S0_6) b7.size
  have bq54 := BoxC.only bq46 on18 (Or.inl (Nat.lt_of_lt_of_le (by simp only [World.size_alloc]; omega) (S0_7)))
  have q0 : w18.cell? ⟨w.heap.size, 0, none⟩ = some (.int .i64 m0.c) ∧ w18.cell? ⟨w.heap.size, 1, none⟩ = some (.int .i64 m0.d) ∧ w18.cell? ⟨w.heap.size, 2, none⟩ = some (.int .i64 m0.s) ∧ w18.cell? ⟨w.heap.size, 3, none⟩ = some (.int .i64 m0.a) ∧ w18.cell? ⟨w.heap.size, 4, none⟩ = some (.int .i64 m0.l) ∧ True := bq54
  have bq55 := BoxC.only bq47 on18 (Or.inl (Nat.lt_of_lt_of_le (by simp only [World.size_alloc]; omega) (S0_7)))
  have q1 : w18.cell? ⟨w.heap.size + 1, 0, none⟩ = some (.slice A1 xs1.length c1) ∧ True := bq55
  have S5_7 := Nat.le_trans (b6.size) b7.size
  have bq56 := BoxC.only bq48 on18 (Or.inl (Nat.lt_of_lt_of_le bbls (S5_7)))
  have q2 : w18.cell? ⟨bbs, 0, none⟩ = some (.slice As0 (trimR m0 xs1 xs2).1.length cs0) ∧ True := bq56
  have bq57 := BoxC.only bq49 on18 (Or.inl (Nat.lt_of_lt_of_le (by first | exact Nat.lt_succ_self _ | simp) (Nat.le_refl _)))
  have q3 : w18.cell? ⟨w6.heap.size, 0, none⟩ = some (.slice A1_6 xs1.length c1_6) ∧ True := bq57
  have bq58 := BoxC.only bq50 on18 (Or.inr (Nat.le_trans (Nat.le_refl _) bbgg))
  have q4 : w18.cell? ⟨bbg, 0, none⟩ = some (.slice Ag0 (trimR m0 xs1 xs2).1.length cg0) ∧ True := bq58
  go_wp2_with fail
  clear q0 q1 q2 q3 q4
  have Y59 := Y52.only on18 (Or.inr (leg0))
  have S7_9 := Nat.le_trans (b8.size) leg0
  have S7_10 := Nat.le_trans (S7_9) lhg0
  have S7_11 := Nat.le_trans (S7_10) hleg
  have S7_12 := Nat.le_trans (S7_11) b12.size
  have S7_13 := Nat.le_trans (S7_12) b13.size
  have S7_14 := Nat.le_trans (S7_13) b14.size
  have S7_15 := Nat.le_trans (S7_14) b15.size
  have S7_16 := Nat.le_trans (S7_15) b16.size
  have S7_17 := Nat.le_trans (S7_16) on17.size
  have S5_8 := Nat.le_trans (S5_7) b8.size
  have S5_9 := Nat.le_trans (S5_8) leg0
  have S5_10 := Nat.le_trans (S5_9) lhg0
  have S5_11 := Nat.le_trans (S5_10) hleg
  have S5_12 := Nat.le_trans (S5_11) b12.size
  have S5_13 := Nat.le_trans (S5_12) b13.size
  have S5_14 := Nat.le_trans (S5_13) b14.size
  have S5_15 := Nat.le_trans (S5_14) b15.size
  have S5_16 := Nat.le_trans (S5_15) b16.size
  have D5_12 := D5_11.trans (b12.mono D5_11.size)
  have D5_13 := D5_12.trans (b13.mono D5_12.size)
  have D5_14 := D5_13.trans (b14.mono D5_13.size)
  have D5_15 := D5_14.trans (b15.mono D5_14.size)
  have D5_16 := D5_15.trans (b16.mono D5_15.size)
  have D5_17 := D5_16.trans (on17.below (S5_16))
  have D5_18 := D5_17.trans ((on18.below (S7_17)).mono (S5_7))
  refine (eqL_t Ag0 As0 cg0 cs0 (trimR m0 xs1 xs2).1 _ (OII.rii Y59) (rs0.below D5_18)).mono ?_
  rintro e w19 ⟨rfl, b19⟩
  have bq60 := BoxC.below bq54 b19
  have q0 : w19.cell? ⟨w.heap.size, 0, none⟩ = some (.int .i64 m0.c) ∧ w19.cell? ⟨w.heap.size, 1, none⟩ = some (.int .i64 m0.d) ∧ w19.cell? ⟨w.heap.size, 2, none⟩ = some (.int .i64 m0.s) ∧ w19.cell? ⟨w.heap.size, 3, none⟩ = some (.int .i64 m0.a) ∧ w19.cell? ⟨w.heap.size, 4, none⟩ = some (.int .i64 m0.l) ∧ True := bq60
  have bq61 := BoxC.below bq55 b19
  have q1 : w19.cell? ⟨w.heap.size + 1, 0, none⟩ = some (.slice A1 xs1.length c1) ∧ True := bq61
  have bq62 := BoxC.below bq56 b19
  have q2 : w19.cell? ⟨bbs, 0, none⟩ = some (.slice As0 (trimR m0 xs1 xs2).1.length cs0) ∧ True := bq62
  have bq63 := BoxC.below bq57 b19
  have q3 : w19.cell? ⟨w6.heap.size, 0, none⟩ = some (.slice A1_6 xs1.length c1_6) ∧ True := bq63
  have bq64 := BoxC.below bq58 b19
  have q4 : w19.cell? ⟨bbg, 0, none⟩ = some (.slice Ag0 (trimR m0 xs1 xs2).1.length cg0) ∧ True := bq64
  go_wp2_with fail
  clear q0 q1 q2 q3 q4
  have S10_12 := Nat.le_trans (hleg) b12.size
  have S10_13 := Nat.le_trans (S10_12) b13.size
  have S10_14 := Nat.le_trans (S10_13) b14.size
  have S10_15 := Nat.le_trans (S10_14) b15.size
  have S10_16 := Nat.le_trans (S10_15) b16.size
  have S10_17 := Nat.le_trans (S10_16) on17.size
  have S10_18 := Nat.le_trans (S10_17) on18.size
  have Y65 := Y59.below (b19.mono (S10_18))
  have S10_19 := Nat.le_trans (S10_18) b19.size
  refine (markL_t (.slice Ag0 (trimR m0 xs1 xs2).1.length cg0) (trimR m0 xs1 xs2).1 _ _ _ _ Y65 (by omega) (by omega) (by omega) (by omega) (S10_19)).mono ?_
  rintro e w20 ⟨rfl, Y66, on20⟩
  have S0_8 := Nat.le_trans (S0_7) b8.size
  have S0_9 := Nat.le_trans (S0_8) leg0
  have bq67 := BoxC.only bq60 on20 (Or.inl (Nat.lt_of_lt_of_le (by simp only [World.size_alloc]; omega) (S0_9)))
  have q0 : w20.cell? ⟨w.heap.size, 0, none⟩ = some (.int .i64 m0.c) ∧ w20.cell? ⟨w.heap.size, 1, none⟩ = some (.int .i64 m0.d) ∧ w20.cell? ⟨w.heap.size, 2, none⟩ = some (.int .i64 m0.s) ∧ w20.cell? ⟨w.heap.size, 3, none⟩ = some (.int .i64 m0.a) ∧ w20.cell? ⟨w.heap.size, 4, none⟩ = some (.int .i64 m0.l) ∧ True := bq67
  have bq68 := BoxC.only bq61 on20 (Or.inl (Nat.lt_of_lt_of_le (by simp only [World.size_alloc]; omega) (S0_9)))
  have q1 : w20.cell? ⟨w.heap.size + 1, 0, none⟩ = some (.slice A1 xs1.length c1) ∧ True := bq68
  have bq69 := BoxC.only bq62 on20 (Or.inl (Nat.lt_of_lt_of_le bbls (S5_9)))
  have q2 : w20.cell? ⟨bbs, 0, none⟩ = some (.slice As0 (trimR m0 xs1 xs2).1.length cs0) ∧ True := bq69
  have bq70 := BoxC.only bq63 on20 (Or.inl (Nat.lt_of_lt_of_le (by first | exact Nat.lt_succ_self _ | simp) (S7_9)))
  have q3 : w20.cell? ⟨w6.heap.size, 0, none⟩ = some (.slice A1_6 xs1.length c1_6) ∧ True := bq70
  have bq71 := BoxC.only bq64 on20 (hdg0)
  have q4 : w20.cell? ⟨bbg, 0, none⟩ = some (.slice Ag0 (trimR m0 xs1 xs2).1.length cg0) ∧ True := bq71
  go_wp2_with fail
  clear q0 q1 q2 q3 q4
  refine (heldL_t Ag0 cg0 (trimR m0 xs1 xs2).1 _ _ (OII.rii Y66) (by omega) (by omega) (by omega) (by omega)).mono ?_
  rintro e w21 ⟨rfl, b21⟩
  have bq72 := BoxC.below bq67 b21
  have q0 : w21.cell? ⟨w.heap.size, 0, none⟩ = some (.int .i64 m0.c) ∧ w21.cell? ⟨w.heap.size, 1, none⟩ = some (.int .i64 m0.d) ∧ w21.cell? ⟨w.heap.size, 2, none⟩ = some (.int .i64 m0.s) ∧ w21.cell? ⟨w.heap.size, 3, none⟩ = some (.int .i64 m0.a) ∧ w21.cell? ⟨w.heap.size, 4, none⟩ = some (.int .i64 m0.l) ∧ True := bq72
  have bq73 := BoxC.below bq68 b21
  have q1 : w21.cell? ⟨w.heap.size + 1, 0, none⟩ = some (.slice A1 xs1.length c1) ∧ True := bq73
  have bq74 := BoxC.below bq69 b21
  have q2 : w21.cell? ⟨bbs, 0, none⟩ = some (.slice As0 (trimR m0 xs1 xs2).1.length cs0) ∧ True := bq74
  have bq75 := BoxC.below bq70 b21
  have q3 : w21.cell? ⟨w6.heap.size, 0, none⟩ = some (.slice A1_6 xs1.length c1_6) ∧ True := bq75
  have bq76 := BoxC.below bq71 b21
  have q4 : w21.cell? ⟨bbg, 0, none⟩ = some (.slice Ag0 (trimR m0 xs1 xs2).1.length cg0) ∧ True := bq76
  go_wp2_with fail
  clear q0 q1 q2 q3 q4
  have KS77 := Lib.hid (show ∀ w' : World, Below w21.heap.size w21 w' → ((w'.cell? ⟨w.heap.size, 0, none⟩ = some (.int .i64 m0.c) ∧ w'.cell? ⟨w.heap.size, 1, none⟩ = some (.int .i64 m0.d) ∧ w'.cell? ⟨w.heap.size, 2, none⟩ = some (.int .i64 m0.s) ∧ w'.cell? ⟨w.heap.size, 3, none⟩ = some (.int .i64 m0.a) ∧ w'.cell? ⟨w.heap.size, 4, none⟩ = some (.int .i64 m0.l) ∧ True) ∧ (w'.cell? ⟨w.heap.size + 1, 0, none⟩ = some (.slice A1 xs1.length c1) ∧ True)) from fun w' hb => ⟨BoxC.below bq72 hb, BoxC.below bq73 hb⟩)
  go_cut [17, 18] (fun p0 p1 wx => ∃ (Ah0 : Option Addr) (ch0 loh0 hih0 : Nat) (bb : Nat), p0 = .pointer (some ⟨bb, 0, none⟩) ∧ p1 = .int .i64 (trimR m0 xs1 xs2).2 ∧ (trimR m0 xs1 xs2).1.length ≤ ch0 ∧ OII wx loh0 hih0 (.slice Ah0 (trimR m0 xs1 xs2).1.length ch0) (trimR m0 xs1 xs2).1 ∧ (bb < loh0 ∨ hih0 ≤ bb) ∧ w21.heap.size ≤ loh0 ∧ loh0 ≤ hih0 ∧ hih0 ≤ wx.heap.size ∧ w21.heap.size ≤ bb ∧ bb < wx.heap.size ∧ BoxC wx bb 0 [.slice Ah0 (trimR m0 xs1 xs2).1.length ch0] ∧ Below w21.heap.size w21 wx)
  case first =>
    refine wp_region_held_drew (S := (fun w' => (w'.cell? ⟨w.heap.size, 0, none⟩ = some (.int .i64 m0.c) ∧ w'.cell? ⟨w.heap.size, 1, none⟩ = some (.int .i64 m0.d) ∧ w'.cell? ⟨w.heap.size, 2, none⟩ = some (.int .i64 m0.s) ∧ w'.cell? ⟨w.heap.size, 3, none⟩ = some (.int .i64 m0.a) ∧ w'.cell? ⟨w.heap.size, 4, none⟩ = some (.int .i64 m0.l) ∧ True) ∧ (w'.cell? ⟨w.heap.size + 1, 0, none⟩ = some (.slice A1 xs1.length c1) ∧ True))) (by kernel_rfl) (KS77.out _ (belowDrew0 _)) (fun hHeld => ?_)
    refine takeD (i := 0) (some 101) (.agg #[.int .i64 m0.c, .int .i64 m0.d, .int .i64 m0.s, .int .i64 m0.a, .int .i64 m0.l]) rfl (by kernel_rfl) (by kernel_rfl) (by kernel_rfl) (by kernel_rfl) (fun _ _ _ h => h) (by assumption) (Or.inl ⟨by rfl, fun w hSw => by (try dsimp only at hSw); go_simp⟩) ?_
    simp only [Act.put, List.setIfInBounds_toArray, List.set_cons_zero, List.set_cons_succ]
    refine takeD (i := 2) (some 103) (.agg #[.slice A1 xs1.length c1]) rfl (by kernel_rfl) (by kernel_rfl) (by kernel_rfl) (by kernel_rfl) (fun _ _ _ h => h) (by assumption) (Or.inl ⟨by rfl, fun w hSw => by (try dsimp only at hSw); go_simp⟩) ?_
    simp only [Act.put, List.setIfInBounds_toArray, List.set_cons_zero, List.set_cons_succ]
    refine takeD (i := 4) (some 105) (.slice A2 xs2.length c2) rfl (by kernel_rfl) (by kernel_rfl) (by kernel_rfl) (by kernel_rfl) (fun _ _ _ h => h) (by assumption) (Or.inl ⟨by rfl, fun w hSw => by (try dsimp only at hSw); go_simp⟩) ?_
    simp only [Act.put, List.setIfInBounds_toArray, List.set_cons_zero, List.set_cons_succ]
    have b22 := belowDrew0 w21
    refine wpAnyH_ready (rs := [1, 10]) (by kernel_rfl) (by simp) (AllReadyH.cons rfl (fun K hK => ?_) (AllReadyH.cons rfl (fun K hK => ?_) AllReadyH.nil))
    · go_simp
      refine (toM m0.c m0.d m0.s m0.a m0.l _).mono ?_
      rintro e w23 ⟨rfl, b23⟩
      have D21_23 := b22.trans (b23.mono b22.size)
      have HHeld := KS77.out _ D21_23
      refine hK.out _ _ HHeld (fun _ => ?_)
      clear hK K
      (try simp only [Act.put]); (try simp only [List.setIfInBounds_toArray]); (try simp only [List.set_cons_zero, List.set_cons_succ])
      refine wpAnyH_ready (rs := [3, 10]) (by kernel_rfl) (by simp) (AllReadyH.cons rfl (fun K hK => ?_) (AllReadyH.cons rfl (fun K hK => ?_) AllReadyH.nil))
      · go_simp
        have S9_11 := Nat.le_trans (lhg0) hleg
        have S9_12 := Nat.le_trans (S9_11) b12.size
        have S9_13 := Nat.le_trans (S9_12) b13.size
        have S9_14 := Nat.le_trans (S9_13) b14.size
        have S9_15 := Nat.le_trans (S9_14) b15.size
        have S9_16 := Nat.le_trans (S9_15) b16.size
        have S9_17 := Nat.le_trans (S9_16) on17.size
        have S9_18 := Nat.le_trans (S9_17) on18.size
        have S9_19 := Nat.le_trans (S9_18) b19.size
        have D0_15 := D0_14.trans (b15.mono D0_14.size)
        have D0_16 := D0_15.trans (b16.mono D0_15.size)
        have D0_17 := D0_16.trans ((on17.below (S5_16)).mono (S0_5))
        have D0_18 := D0_17.trans ((on18.below (S7_17)).mono (S0_7))
        have D0_19 := D0_18.trans (b19.mono D0_18.size)
        have D0_20 := D0_19.trans ((on20.below (S9_19)).mono (S0_9))
        have D0_21 := D0_20.trans (b21.mono D0_20.size)
        have D0_22 := D0_21.trans (b22.mono D0_21.size)
        have D0_23 := D0_22.trans (b23.mono D0_22.size)
        refine (toL A1 c1 xs1 _ (Rxs1.below D0_23) zxs1.1 zzxs1).mono ?_
        rintro e w24 ⟨A1_24, c1_24, rfl, hc1_24, rA1_24, oA1_24, b24⟩
        have D21_24 := D21_23.trans (b24.mono D21_23.size)
        have HHeld := KS77.out _ D21_24
        refine hK.out _ _ HHeld (fun _ => ?_)
        clear hK K
        (try simp only [Act.put]); (try simp only [List.setIfInBounds_toArray]); (try simp only [List.set_cons_zero, List.set_cons_succ])
        refine wpAnyH_ready (rs := [5, 10]) (by kernel_rfl) (by simp) (AllReadyH.cons rfl (fun K hK => ?_) (AllReadyH.cons rfl (fun K hK => ?_) AllReadyH.nil))
        · go_simp
          have D0_24 := D0_23.trans (b24.mono D0_23.size)
          refine (toII A2 c2 xs2 _ (Rxs2.below D0_24) zxs2.1 zzxs2).mono ?_
          rintro e w25 ⟨A2_25, c2_25, rfl, hc2_25, rA2_25, oA2_25, b25⟩
          have D21_25 := D21_24.trans (b25.mono D21_24.size)
          have HHeld := KS77.out _ D21_25
          refine hK.out _ _ HHeld (fun _ => ?_)
          clear hK K
          (try simp only [Act.put]); (try simp only [List.setIfInBounds_toArray]); (try simp only [List.set_cons_zero, List.set_cons_succ])
          refine wpAnyH_ready (rs := [6, 10]) (by kernel_rfl) (by simp) (AllReadyH.cons rfl (fun K hK => ?_) (AllReadyH.cons rfl (fun K hK => ?_) AllReadyH.nil))
          · go_simp
            refine (implTrimLock_any m0 A1_24 c1_24 xs1 A2_25 c2_25 xs2 _ (rA1_24.below b25) rA2_25).mono ?_
            rintro e w26 ⟨Ah0, ch0, rfl, hch0, rh0, oh0, b26⟩
            have D21_26 := D21_25.trans (b26.mono D21_25.size)
            have HHeld := KS77.out _ D21_26
            refine hK.out _ _ HHeld (fun _ => ?_)
            clear hK K
            (try simp only [Act.put]); (try simp only [List.setIfInBounds_toArray]); (try simp only [List.set_cons_zero, List.set_cons_succ])
            refine takeD (i := 7) (some 100) (.tuple #[.agg #[.slice Ah0 (trimR m0 xs1 xs2).1.length ch0], .int .i64 (trimR m0 xs1 xs2).2]) rfl (by kernel_rfl) (by kernel_rfl) (by kernel_rfl) (by kernel_rfl) (fun _ _ _ h => h) (by assumption) (Or.inl ⟨by rfl, fun w hSw => by (try dsimp only at hSw); go_simp⟩) ?_
            simp only [Act.put, List.setIfInBounds_toArray, List.set_cons_zero, List.set_cons_succ]
            refine takeD (i := 8) (some 108) (.agg #[.slice Ah0 (trimR m0 xs1 xs2).1.length ch0]) rfl (by kernel_rfl) (by kernel_rfl) (by kernel_rfl) (by kernel_rfl) (fun _ _ _ h => h) (by assumption) (Or.inl ⟨by rfl, fun w hSw => by (try dsimp only at hSw); go_simp⟩) ?_
            simp only [Act.put, List.setIfInBounds_toArray, List.set_cons_zero, List.set_cons_succ]
            refine takeD (i := 9) (some 109) (.int .i64 (trimR m0 xs1 xs2).2) rfl (by kernel_rfl) (by kernel_rfl) (by kernel_rfl) (by kernel_rfl) (fun _ _ _ h => h) (by assumption) (Or.inl ⟨by rfl, fun w hSw => by (try dsimp only at hSw); go_simp⟩) ?_
            simp only [Act.put, List.setIfInBounds_toArray, List.set_cons_zero, List.set_cons_succ]
            refine wpAnyH_ready (rs := [10]) (by kernel_rfl) (by simp) (AllReadyH.cons rfl (fun K hK => ?_) AllReadyH.nil)
            go_simp
            have b27 : Below w26.heap.size w26 (w26.alloc (.cells #[.slice none 0 0] 52)) := (Below.refl _ _).alloc (Nat.le_refl _) _
            have D21_27 := D21_26.trans (b27.mono D21_26.size)
            have HHeld := KS77.out _ D21_27
            refine hK.out _ _ HHeld (fun _ => ?_)
            clear hK K
            (try simp only [Act.put]); (try simp only [List.setIfInBounds_toArray]); (try simp only [List.set_cons_zero, List.set_cons_succ])
            have S21_23 := Nat.le_trans (b22.size) b23.size
            have S21_24 := Nat.le_trans (S21_23) b24.size
            have S21_25 := Nat.le_trans (S21_24) b25.size
            have S21_26 := Nat.le_trans (S21_25) b26.size
            refine wpAnyH_ready (rs := [11]) (by kernel_rfl) (by simp) (AllReadyH.cons rfl (fun K hK => ?_) AllReadyH.nil)
            go_simp
            have HHeld := KS77.out _ (Below.alloc D21_26 (S21_26) (.cells #[.slice Ah0 (trimR m0 xs1 xs2).1.length ch0] 52))
            refine hK.out _ _ HHeld (fun _ => ?_)
            clear hK K
            (try simp only [Act.put]); (try simp only [List.setIfInBounds_toArray]); (try simp only [List.set_cons_zero, List.set_cons_succ])
            refine takeD (i := 12) (some 18) (.int .i64 (trimR m0 xs1 xs2).2) rfl (by kernel_rfl) (by kernel_rfl) (by kernel_rfl) (by kernel_rfl) (fun _ _ _ h => h) (by assumption) (Or.inl ⟨by rfl, fun w hSw => by (try dsimp only at hSw); go_simp⟩) ?_
            (try simp only [Act.put]); (try simp only [List.setIfInBounds_toArray]); (try simp only [List.set_cons_zero, List.set_cons_succ])
            refine wpAnyH_done (by kernel_rfl) ?_ _
            go_wp2_with fail
            go_meet
            exact ⟨Ah0, ch0, w25.heap.size, w26.heap.size, w26.heap.size, rfl, rfl, hch0, ((oh0).below ((Below.refl _ _).alloc (Nat.le_refl _) _)), (Or.inr (Nat.le_refl _)), S21_25, b26.size, (by simp), S21_26, (by simp), (by simp [BoxC, Go.World.cell?_alloc_at]), (Below.alloc D21_26 (S21_26) (.cells #[.slice Ah0 (trimR m0 xs1 xs2).1.length ch0] 52))⟩
          · go_simp
            have b26 : Below w25.heap.size w25 (w25.alloc (.cells #[.slice none 0 0] 52)) := (Below.refl _ _).alloc (Nat.le_refl _) _
            have D21_26 := D21_25.trans (b26.mono D21_25.size)
            have HHeld := KS77.out _ D21_26
            refine hK.out _ _ HHeld (fun _ => ?_)
            clear hK K
            (try simp only [Act.put]); (try simp only [List.setIfInBounds_toArray]); (try simp only [List.set_cons_zero, List.set_cons_succ])
            refine wpAnyH_ready (rs := [6]) (by kernel_rfl) (by simp) (AllReadyH.cons rfl (fun K hK => ?_) AllReadyH.nil)
            go_simp
            have D24_26 := b25.trans (b26.mono b25.size)
            refine (implTrimLock_any m0 A1_24 c1_24 xs1 A2_25 c2_25 xs2 _ (rA1_24.below D24_26) (rA2_25.below b26)).mono ?_
            rintro e w27 ⟨Ah0, ch0, rfl, hch0, rh0, oh0, b27⟩
            have D21_27 := D21_26.trans (b27.mono D21_26.size)
            have HHeld := KS77.out _ D21_27
            refine hK.out _ _ HHeld (fun _ => ?_)
            clear hK K
            (try simp only [Act.put]); (try simp only [List.setIfInBounds_toArray]); (try simp only [List.set_cons_zero, List.set_cons_succ])
            refine takeD (i := 7) (some 100) (.tuple #[.agg #[.slice Ah0 (trimR m0 xs1 xs2).1.length ch0], .int .i64 (trimR m0 xs1 xs2).2]) rfl (by kernel_rfl) (by kernel_rfl) (by kernel_rfl) (by kernel_rfl) (fun _ _ _ h => h) (by assumption) (Or.inl ⟨by rfl, fun w hSw => by (try dsimp only at hSw); go_simp⟩) ?_
            simp only [Act.put, List.setIfInBounds_toArray, List.set_cons_zero, List.set_cons_succ]
            refine takeD (i := 8) (some 108) (.agg #[.slice Ah0 (trimR m0 xs1 xs2).1.length ch0]) rfl (by kernel_rfl) (by kernel_rfl) (by kernel_rfl) (by kernel_rfl) (fun _ _ _ h => h) (by assumption) (Or.inl ⟨by rfl, fun w hSw => by (try dsimp only at hSw); go_simp⟩) ?_
            simp only [Act.put, List.setIfInBounds_toArray, List.set_cons_zero, List.set_cons_succ]
            refine takeD (i := 9) (some 109) (.int .i64 (trimR m0 xs1 xs2).2) rfl (by kernel_rfl) (by kernel_rfl) (by kernel_rfl) (by kernel_rfl) (fun _ _ _ h => h) (by assumption) (Or.inl ⟨by rfl, fun w hSw => by (try dsimp only at hSw); go_simp⟩) ?_
            simp only [Act.put, List.setIfInBounds_toArray, List.set_cons_zero, List.set_cons_succ]
            have cz0 : w27.cell? ⟨w25.heap.size, 0, none⟩ = some (.slice none 0 0) := (b27.cell (p := ⟨w25.heap.size, 0, none⟩) (by simp)).trans (by simp)
            have fz0 : w27.frozen? ⟨w25.heap.size, 0, none⟩ = false := (b27.frozen (p := ⟨w25.heap.size, 0, none⟩) (by simp)).trans (by simp)
            have S21_23 := Nat.le_trans (b22.size) b23.size
            have S21_24 := Nat.le_trans (S21_23) b24.size
            have S21_25 := Nat.le_trans (S21_24) b25.size
            have hblo : w25.heap.size < (w25.alloc (.cells #[.slice none 0 0] 52)).heap.size := Nat.lt_of_lt_of_le (show w25.heap.size < (w25.alloc (.cells #[.slice none 0 0] 52)).heap.size by simp) (Nat.le_refl _)
            refine wpAnyH_ready (rs := [11]) (by kernel_rfl) (by simp) (AllReadyH.cons rfl (fun K hK => ?_) AllReadyH.nil)
            go_simp
            have HHeld := KS77.out _ (Below.setCell D21_27 (p := ⟨w25.heap.size, 0, none⟩) (S21_25) (.slice Ah0 (trimR m0 xs1 xs2).1.length ch0))
            refine hK.out _ _ HHeld (fun _ => ?_)
            clear hK K
            (try simp only [Act.put]); (try simp only [List.setIfInBounds_toArray]); (try simp only [List.set_cons_zero, List.set_cons_succ])
            refine takeD (i := 12) (some 18) (.int .i64 (trimR m0 xs1 xs2).2) rfl (by kernel_rfl) (by kernel_rfl) (by kernel_rfl) (by kernel_rfl) (fun _ _ _ h => h) (by assumption) (Or.inl ⟨by rfl, fun w hSw => by (try dsimp only at hSw); go_simp⟩) ?_
            (try simp only [Act.put]); (try simp only [List.setIfInBounds_toArray]); (try simp only [List.set_cons_zero, List.set_cons_succ])
            refine wpAnyH_done (by kernel_rfl) ?_ _
            have S21_26 := Nat.le_trans (S21_25) b26.size
            go_wp2_with fail
            go_meet
            exact ⟨Ah0, ch0, (w25.alloc (.cells #[.slice none 0 0] 52)).heap.size, w27.heap.size, w25.heap.size, rfl, rfl, hch0, (OII.setLow (p := ⟨w25.heap.size, 0, none⟩) (by simp only; exact hblo) oh0), (Or.inl (Nat.lt_of_lt_of_le hblo (Nat.le_refl _))), S21_26, b27.size, (by simp only [World.size_setCell]; exact Nat.le_refl _), S21_25, (by simp only [World.size_setCell]; exact Nat.lt_of_lt_of_le hblo (b27.size)), ⟨World.cell?_setCell_same _ _ _ cz0, trivial⟩, (Below.setCell D21_27 (p := ⟨w25.heap.size, 0, none⟩) (S21_25) (.slice Ah0 (trimR m0 xs1 xs2).1.length ch0))⟩
        · go_simp
          have b25 : Below w24.heap.size w24 (w24.alloc (.cells #[.slice none 0 0] 52)) := (Below.refl _ _).alloc (Nat.le_refl _) _
          have D21_25 := D21_24.trans (b25.mono D21_24.size)
          have HHeld := KS77.out _ D21_25
          refine hK.out _ _ HHeld (fun _ => ?_)
          clear hK K
          (try simp only [Act.put]); (try simp only [List.setIfInBounds_toArray]); (try simp only [List.set_cons_zero, List.set_cons_succ])
          refine wpAnyH_ready (rs := [5]) (by kernel_rfl) (by simp) (AllReadyH.cons rfl (fun K hK => ?_) AllReadyH.nil)
          go_simp
          have D0_24 := D0_23.trans (b24.mono D0_23.size)
          have D0_25 := D0_24.trans (b25.mono D0_24.size)
          refine (toII A2 c2 xs2 _ (Rxs2.below D0_25) zxs2.1 zzxs2).mono ?_
          rintro e w26 ⟨A2_26, c2_26, rfl, hc2_26, rA2_26, oA2_26, b26⟩
          have D21_26 := D21_25.trans (b26.mono D21_25.size)
          have HHeld := KS77.out _ D21_26
          refine hK.out _ _ HHeld (fun _ => ?_)
          clear hK K
          (try simp only [Act.put]); (try simp only [List.setIfInBounds_toArray]); (try simp only [List.set_cons_zero, List.set_cons_succ])
          refine wpAnyH_ready (rs := [6]) (by kernel_rfl) (by simp) (AllReadyH.cons rfl (fun K hK => ?_) AllReadyH.nil)
          go_simp
          have D24_26 := b25.trans (b26.mono b25.size)
          refine (implTrimLock_any m0 A1_24 c1_24 xs1 A2_26 c2_26 xs2 _ (rA1_24.below D24_26) rA2_26).mono ?_
          rintro e w27 ⟨Ah0, ch0, rfl, hch0, rh0, oh0, b27⟩
          have D21_27 := D21_26.trans (b27.mono D21_26.size)
          have HHeld := KS77.out _ D21_27
          refine hK.out _ _ HHeld (fun _ => ?_)
          clear hK K
          (try simp only [Act.put]); (try simp only [List.setIfInBounds_toArray]); (try simp only [List.set_cons_zero, List.set_cons_succ])
          refine takeD (i := 7) (some 100) (.tuple #[.agg #[.slice Ah0 (trimR m0 xs1 xs2).1.length ch0], .int .i64 (trimR m0 xs1 xs2).2]) rfl (by kernel_rfl) (by kernel_rfl) (by kernel_rfl) (by kernel_rfl) (fun _ _ _ h => h) (by assumption) (Or.inl ⟨by rfl, fun w hSw => by (try dsimp only at hSw); go_simp⟩) ?_
          simp only [Act.put, List.setIfInBounds_toArray, List.set_cons_zero, List.set_cons_succ]
          refine takeD (i := 8) (some 108) (.agg #[.slice Ah0 (trimR m0 xs1 xs2).1.length ch0]) rfl (by kernel_rfl) (by kernel_rfl) (by kernel_rfl) (by kernel_rfl) (fun _ _ _ h => h) (by assumption) (Or.inl ⟨by rfl, fun w hSw => by (try dsimp only at hSw); go_simp⟩) ?_
          simp only [Act.put, List.setIfInBounds_toArray, List.set_cons_zero, List.set_cons_succ]
          refine takeD (i := 9) (some 109) (.int .i64 (trimR m0 xs1 xs2).2) rfl (by kernel_rfl) (by kernel_rfl) (by kernel_rfl) (by kernel_rfl) (fun _ _ _ h => h) (by assumption) (Or.inl ⟨by rfl, fun w hSw => by (try dsimp only at hSw); go_simp⟩) ?_
          simp only [Act.put, List.setIfInBounds_toArray, List.set_cons_zero, List.set_cons_succ]
          have D25_27 := b26.trans (b27.mono b26.size)
          have cz0 : w27.cell? ⟨w24.heap.size, 0, none⟩ = some (.slice none 0 0) := (D25_27.cell (p := ⟨w24.heap.size, 0, none⟩) (by simp)).trans (by simp)
          have fz0 : w27.frozen? ⟨w24.heap.size, 0, none⟩ = false := (D25_27.frozen (p := ⟨w24.heap.size, 0, none⟩) (by simp)).trans (by simp)
          have S21_23 := Nat.le_trans (b22.size) b23.size
          have S21_24 := Nat.le_trans (S21_23) b24.size
          have hblo : w24.heap.size < w26.heap.size := Nat.lt_of_lt_of_le (show w24.heap.size < (w24.alloc (.cells #[.slice none 0 0] 52)).heap.size by simp) (b26.size)
          refine wpAnyH_ready (rs := [11]) (by kernel_rfl) (by simp) (AllReadyH.cons rfl (fun K hK => ?_) AllReadyH.nil)
          go_simp
          have HHeld := KS77.out _ (Below.setCell D21_27 (p := ⟨w24.heap.size, 0, none⟩) (S21_24) (.slice Ah0 (trimR m0 xs1 xs2).1.length ch0))
          refine hK.out _ _ HHeld (fun _ => ?_)
          clear hK K
          (try simp only [Act.put]); (try simp only [List.setIfInBounds_toArray]); (try simp only [List.set_cons_zero, List.set_cons_succ])
          refine takeD (i := 12) (some 18) (.int .i64 (trimR m0 xs1 xs2).2) rfl (by kernel_rfl) (by kernel_rfl) (by kernel_rfl) (by kernel_rfl) (fun _ _ _ h => h) (by assumption) (Or.inl ⟨by rfl, fun w hSw => by (try dsimp only at hSw); go_simp⟩) ?_
          (try simp only [Act.put]); (try simp only [List.setIfInBounds_toArray]); (try simp only [List.set_cons_zero, List.set_cons_succ])
          refine wpAnyH_done (by kernel_rfl) ?_ _
          have S21_25 := Nat.le_trans (S21_24) b25.size
          have S21_26 := Nat.le_trans (S21_25) b26.size
          go_wp2_with fail
          go_meet
          exact ⟨Ah0, ch0, w26.heap.size, w27.heap.size, w24.heap.size, rfl, rfl, hch0, (OII.setLow (p := ⟨w24.heap.size, 0, none⟩) (by simp only; exact hblo) oh0), (Or.inl (Nat.lt_of_lt_of_le hblo (Nat.le_refl _))), S21_26, b27.size, (by simp only [World.size_setCell]; exact Nat.le_refl _), S21_24, (by simp only [World.size_setCell]; exact Nat.lt_of_lt_of_le hblo (b27.size)), ⟨World.cell?_setCell_same _ _ _ cz0, trivial⟩, (Below.setCell D21_27 (p := ⟨w24.heap.size, 0, none⟩) (S21_24) (.slice Ah0 (trimR m0 xs1 xs2).1.length ch0))⟩
      · go_simp
        have b24 : Below w23.heap.size w23 (w23.alloc (.cells #[.slice none 0 0] 52)) := (Below.refl _ _).alloc (Nat.le_refl _) _
        have D21_24 := D21_23.trans (b24.mono D21_23.size)
        have HHeld := KS77.out _ D21_24
        refine hK.out _ _ HHeld (fun _ => ?_)
        clear hK K
        (try simp only [Act.put]); (try simp only [List.setIfInBounds_toArray]); (try simp only [List.set_cons_zero, List.set_cons_succ])
        refine wpAnyH_ready (rs := [3]) (by kernel_rfl) (by simp) (AllReadyH.cons rfl (fun K hK => ?_) AllReadyH.nil)
        go_simp
        have S9_11 := Nat.le_trans (lhg0) hleg
        have S9_12 := Nat.le_trans (S9_11) b12.size
        have S9_13 := Nat.le_trans (S9_12) b13.size
        have S9_14 := Nat.le_trans (S9_13) b14.size
        have S9_15 := Nat.le_trans (S9_14) b15.size
        have S9_16 := Nat.le_trans (S9_15) b16.size
        have S9_17 := Nat.le_trans (S9_16) on17.size
        have S9_18 := Nat.le_trans (S9_17) on18.size
        have S9_19 := Nat.le_trans (S9_18) b19.size
        have D0_15 := D0_14.trans (b15.mono D0_14.size)
        have D0_16 := D0_15.trans (b16.mono D0_15.size)
        have D0_17 := D0_16.trans ((on17.below (S5_16)).mono (S0_5))
        have D0_18 := D0_17.trans ((on18.below (S7_17)).mono (S0_7))
        have D0_19 := D0_18.trans (b19.mono D0_18.size)
        have D0_20 := D0_19.trans ((on20.below (S9_19)).mono (S0_9))
        have D0_21 := D0_20.trans (b21.mono D0_20.size)
        have D0_22 := D0_21.trans (b22.mono D0_21.size)
        have D0_23 := D0_22.trans (b23.mono D0_22.size)
        have D0_24 := D0_23.trans (b24.mono D0_23.size)
        refine (toL A1 c1 xs1 _ (Rxs1.below D0_24) zxs1.1 zzxs1).mono ?_
        rintro e w25 ⟨A1_25, c1_25, rfl, hc1_25, rA1_25, oA1_25, b25⟩
        have D21_25 := D21_24.trans (b25.mono D21_24.size)
        have HHeld := KS77.out _ D21_25
        refine hK.out _ _ HHeld (fun _ => ?_)
        clear hK K
        (try simp only [Act.put]); (try simp only [List.setIfInBounds_toArray]); (try simp only [List.set_cons_zero, List.set_cons_succ])
        refine wpAnyH_ready (rs := [5]) (by kernel_rfl) (by simp) (AllReadyH.cons rfl (fun K hK => ?_) AllReadyH.nil)
        go_simp
        have D0_25 := D0_24.trans (b25.mono D0_24.size)
        refine (toII A2 c2 xs2 _ (Rxs2.below D0_25) zxs2.1 zzxs2).mono ?_
        rintro e w26 ⟨A2_26, c2_26, rfl, hc2_26, rA2_26, oA2_26, b26⟩
        have D21_26 := D21_25.trans (b26.mono D21_25.size)
        have HHeld := KS77.out _ D21_26
        refine hK.out _ _ HHeld (fun _ => ?_)
        clear hK K
        (try simp only [Act.put]); (try simp only [List.setIfInBounds_toArray]); (try simp only [List.set_cons_zero, List.set_cons_succ])
        refine wpAnyH_ready (rs := [6]) (by kernel_rfl) (by simp) (AllReadyH.cons rfl (fun K hK => ?_) AllReadyH.nil)
        go_simp
        refine (implTrimLock_any m0 A1_25 c1_25 xs1 A2_26 c2_26 xs2 _ (rA1_25.below b26) rA2_26).mono ?_
        rintro e w27 ⟨Ah0, ch0, rfl, hch0, rh0, oh0, b27⟩
        have D21_27 := D21_26.trans (b27.mono D21_26.size)
        have HHeld := KS77.out _ D21_27
        refine hK.out _ _ HHeld (fun _ => ?_)
        clear hK K
        (try simp only [Act.put]); (try simp only [List.setIfInBounds_toArray]); (try simp only [List.set_cons_zero, List.set_cons_succ])
        refine takeD (i := 7) (some 100) (.tuple #[.agg #[.slice Ah0 (trimR m0 xs1 xs2).1.length ch0], .int .i64 (trimR m0 xs1 xs2).2]) rfl (by kernel_rfl) (by kernel_rfl) (by kernel_rfl) (by kernel_rfl) (fun _ _ _ h => h) (by assumption) (Or.inl ⟨by rfl, fun w hSw => by (try dsimp only at hSw); go_simp⟩) ?_
        simp only [Act.put, List.setIfInBounds_toArray, List.set_cons_zero, List.set_cons_succ]
        refine takeD (i := 8) (some 108) (.agg #[.slice Ah0 (trimR m0 xs1 xs2).1.length ch0]) rfl (by kernel_rfl) (by kernel_rfl) (by kernel_rfl) (by kernel_rfl) (fun _ _ _ h => h) (by assumption) (Or.inl ⟨by rfl, fun w hSw => by (try dsimp only at hSw); go_simp⟩) ?_
        simp only [Act.put, List.setIfInBounds_toArray, List.set_cons_zero, List.set_cons_succ]
        refine takeD (i := 9) (some 109) (.int .i64 (trimR m0 xs1 xs2).2) rfl (by kernel_rfl) (by kernel_rfl) (by kernel_rfl) (by kernel_rfl) (fun _ _ _ h => h) (by assumption) (Or.inl ⟨by rfl, fun w hSw => by (try dsimp only at hSw); go_simp⟩) ?_
        simp only [Act.put, List.setIfInBounds_toArray, List.set_cons_zero, List.set_cons_succ]
        have D24_26 := b25.trans (b26.mono b25.size)
        have D24_27 := D24_26.trans (b27.mono D24_26.size)
        have cz0 : w27.cell? ⟨w23.heap.size, 0, none⟩ = some (.slice none 0 0) := (D24_27.cell (p := ⟨w23.heap.size, 0, none⟩) (by simp)).trans (by simp)
        have fz0 : w27.frozen? ⟨w23.heap.size, 0, none⟩ = false := (D24_27.frozen (p := ⟨w23.heap.size, 0, none⟩) (by simp)).trans (by simp)
        have S21_23 := Nat.le_trans (b22.size) b23.size
        have S24_26 := Nat.le_trans (b25.size) b26.size
        have hblo : w23.heap.size < w26.heap.size := Nat.lt_of_lt_of_le (show w23.heap.size < (w23.alloc (.cells #[.slice none 0 0] 52)).heap.size by simp) (S24_26)
        refine wpAnyH_ready (rs := [11]) (by kernel_rfl) (by simp) (AllReadyH.cons rfl (fun K hK => ?_) AllReadyH.nil)
        go_simp
        have HHeld := KS77.out _ (Below.setCell D21_27 (p := ⟨w23.heap.size, 0, none⟩) (S21_23) (.slice Ah0 (trimR m0 xs1 xs2).1.length ch0))
        refine hK.out _ _ HHeld (fun _ => ?_)
        clear hK K
        (try simp only [Act.put]); (try simp only [List.setIfInBounds_toArray]); (try simp only [List.set_cons_zero, List.set_cons_succ])
        refine takeD (i := 12) (some 18) (.int .i64 (trimR m0 xs1 xs2).2) rfl (by kernel_rfl) (by kernel_rfl) (by kernel_rfl) (by kernel_rfl) (fun _ _ _ h => h) (by assumption) (Or.inl ⟨by rfl, fun w hSw => by (try dsimp only at hSw); go_simp⟩) ?_
        (try simp only [Act.put]); (try simp only [List.setIfInBounds_toArray]); (try simp only [List.set_cons_zero, List.set_cons_succ])
        refine wpAnyH_done (by kernel_rfl) ?_ _
        have S21_24 := Nat.le_trans (S21_23) b24.size
        have S21_25 := Nat.le_trans (S21_24) b25.size
        have S21_26 := Nat.le_trans (S21_25) b26.size
        go_wp2_with fail
        go_meet
        exact ⟨Ah0, ch0, w26.heap.size, w27.heap.size, w23.heap.size, rfl, rfl, hch0, (OII.setLow (p := ⟨w23.heap.size, 0, none⟩) (by simp only; exact hblo) oh0), (Or.inl (Nat.lt_of_lt_of_le hblo (Nat.le_refl _))), S21_26, b27.size, (by simp only [World.size_setCell]; exact Nat.le_refl _), S21_23, (by simp only [World.size_setCell]; exact Nat.lt_of_lt_of_le hblo (b27.size)), ⟨World.cell?_setCell_same _ _ _ cz0, trivial⟩, (Below.setCell D21_27 (p := ⟨w23.heap.size, 0, none⟩) (S21_23) (.slice Ah0 (trimR m0 xs1 xs2).1.length ch0))⟩
    · go_simp
      have b23 : Below w21.drew.heap.size w21.drew (w21.drew.alloc (.cells #[.slice none 0 0] 52)) := (Below.refl _ _).alloc (Nat.le_refl _) _
      have D21_23 := b22.trans (b23.mono b22.size)
      have HHeld := KS77.out _ D21_23
      refine hK.out _ _ HHeld (fun _ => ?_)
      clear hK K
      (try simp only [Act.put]); (try simp only [List.setIfInBounds_toArray]); (try simp only [List.set_cons_zero, List.set_cons_succ])
      refine wpAnyH_ready (rs := [1]) (by kernel_rfl) (by simp) (AllReadyH.cons rfl (fun K hK => ?_) AllReadyH.nil)
      go_simp
      refine (toM m0.c m0.d m0.s m0.a m0.l _).mono ?_
      rintro e w24 ⟨rfl, b24⟩
      have D21_24 := D21_23.trans (b24.mono D21_23.size)
      have HHeld := KS77.out _ D21_24
      refine hK.out _ _ HHeld (fun _ => ?_)
      clear hK K
      (try simp only [Act.put]); (try simp only [List.setIfInBounds_toArray]); (try simp only [List.set_cons_zero, List.set_cons_succ])
      refine wpAnyH_ready (rs := [3]) (by kernel_rfl) (by simp) (AllReadyH.cons rfl (fun K hK => ?_) AllReadyH.nil)
      go_simp
      have S9_11 := Nat.le_trans (lhg0) hleg
      have S9_12 := Nat.le_trans (S9_11) b12.size
      have S9_13 := Nat.le_trans (S9_12) b13.size
      have S9_14 := Nat.le_trans (S9_13) b14.size
      have S9_15 := Nat.le_trans (S9_14) b15.size
      have S9_16 := Nat.le_trans (S9_15) b16.size
      have S9_17 := Nat.le_trans (S9_16) on17.size
      have S9_18 := Nat.le_trans (S9_17) on18.size
      have S9_19 := Nat.le_trans (S9_18) b19.size
      have D0_15 := D0_14.trans (b15.mono D0_14.size)
      have D0_16 := D0_15.trans (b16.mono D0_15.size)
      have D0_17 := D0_16.trans ((on17.below (S5_16)).mono (S0_5))
      have D0_18 := D0_17.trans ((on18.below (S7_17)).mono (S0_7))
      have D0_19 := D0_18.trans (b19.mono D0_18.size)
      have D0_20 := D0_19.trans ((on20.below (S9_19)).mono (S0_9))
      have D0_21 := D0_20.trans (b21.mono D0_20.size)
      have D0_22 := D0_21.trans (b22.mono D0_21.size)
      have D0_23 := D0_22.trans (b23.mono D0_22.size)
      have D0_24 := D0_23.trans (b24.mono D0_23.size)
      refine (toL A1 c1 xs1 _ (Rxs1.below D0_24) zxs1.1 zzxs1).mono ?_
      rintro e w25 ⟨A1_25, c1_25, rfl, hc1_25, rA1_25, oA1_25, b25⟩
      have D21_25 := D21_24.trans (b25.mono D21_24.size)
      have HHeld := KS77.out _ D21_25
      refine hK.out _ _ HHeld (fun _ => ?_)
      clear hK K
      (try simp only [Act.put]); (try simp only [List.setIfInBounds_toArray]); (try simp only [List.set_cons_zero, List.set_cons_succ])
      refine wpAnyH_ready (rs := [5]) (by kernel_rfl) (by simp) (AllReadyH.cons rfl (fun K hK => ?_) AllReadyH.nil)
      go_simp
      have D0_25 := D0_24.trans (b25.mono D0_24.size)
      refine (toII A2 c2 xs2 _ (Rxs2.below D0_25) zxs2.1 zzxs2).mono ?_
      rintro e w26 ⟨A2_26, c2_26, rfl, hc2_26, rA2_26, oA2_26, b26⟩
      have D21_26 := D21_25.trans (b26.mono D21_25.size)
      have HHeld := KS77.out _ D21_26
      refine hK.out _ _ HHeld (fun _ => ?_)
      clear hK K
      (try simp only [Act.put]); (try simp only [List.setIfInBounds_toArray]); (try simp only [List.set_cons_zero, List.set_cons_succ])
      refine wpAnyH_ready (rs := [6]) (by kernel_rfl) (by simp) (AllReadyH.cons rfl (fun K hK => ?_) AllReadyH.nil)
      go_simp
      refine (implTrimLock_any m0 A1_25 c1_25 xs1 A2_26 c2_26 xs2 _ (rA1_25.below b26) rA2_26).mono ?_
      rintro e w27 ⟨Ah0, ch0, rfl, hch0, rh0, oh0, b27⟩
      have D21_27 := D21_26.trans (b27.mono D21_26.size)
      have HHeld := KS77.out _ D21_27
      refine hK.out _ _ HHeld (fun _ => ?_)
      clear hK K
      (try simp only [Act.put]); (try simp only [List.setIfInBounds_toArray]); (try simp only [List.set_cons_zero, List.set_cons_succ])
      refine takeD (i := 7) (some 100) (.tuple #[.agg #[.slice Ah0 (trimR m0 xs1 xs2).1.length ch0], .int .i64 (trimR m0 xs1 xs2).2]) rfl (by kernel_rfl) (by kernel_rfl) (by kernel_rfl) (by kernel_rfl) (fun _ _ _ h => h) (by assumption) (Or.inl ⟨by rfl, fun w hSw => by (try dsimp only at hSw); go_simp⟩) ?_
      simp only [Act.put, List.setIfInBounds_toArray, List.set_cons_zero, List.set_cons_succ]
      refine takeD (i := 8) (some 108) (.agg #[.slice Ah0 (trimR m0 xs1 xs2).1.length ch0]) rfl (by kernel_rfl) (by kernel_rfl) (by kernel_rfl) (by kernel_rfl) (fun _ _ _ h => h) (by assumption) (Or.inl ⟨by rfl, fun w hSw => by (try dsimp only at hSw); go_simp⟩) ?_
      simp only [Act.put, List.setIfInBounds_toArray, List.set_cons_zero, List.set_cons_succ]
      refine takeD (i := 9) (some 109) (.int .i64 (trimR m0 xs1 xs2).2) rfl (by kernel_rfl) (by kernel_rfl) (by kernel_rfl) (by kernel_rfl) (fun _ _ _ h => h) (by assumption) (Or.inl ⟨by rfl, fun w hSw => by (try dsimp only at hSw); go_simp⟩) ?_
      simp only [Act.put, List.setIfInBounds_toArray, List.set_cons_zero, List.set_cons_succ]
      have D23_25 := b24.trans (b25.mono b24.size)
      have D23_26 := D23_25.trans (b26.mono D23_25.size)
      have D23_27 := D23_26.trans (b27.mono D23_26.size)
      have cz0 : w27.cell? ⟨w21.heap.size, 0, none⟩ = some (.slice none 0 0) := (D23_27.cell (p := ⟨w21.heap.size, 0, none⟩) (by simp)).trans (by simp)
      have fz0 : w27.frozen? ⟨w21.heap.size, 0, none⟩ = false := (D23_27.frozen (p := ⟨w21.heap.size, 0, none⟩) (by simp)).trans (by simp)
      have S23_25 := Nat.le_trans (b24.size) b25.size
      have S23_26 := Nat.le_trans (S23_25) b26.size
      have hblo : w21.heap.size < w26.heap.size := Nat.lt_of_lt_of_le (show w21.heap.size < (w21.drew.alloc (.cells #[.slice none 0 0] 52)).heap.size by simp) (S23_26)
      refine wpAnyH_ready (rs := [11]) (by kernel_rfl) (by simp) (AllReadyH.cons rfl (fun K hK => ?_) AllReadyH.nil)
      go_simp
      have HHeld := KS77.out _ (Below.setCell D21_27 (p := ⟨w21.heap.size, 0, none⟩) (b22.size) (.slice Ah0 (trimR m0 xs1 xs2).1.length ch0))
      refine hK.out _ _ HHeld (fun _ => ?_)
      clear hK K
      (try simp only [Act.put]); (try simp only [List.setIfInBounds_toArray]); (try simp only [List.set_cons_zero, List.set_cons_succ])
      refine takeD (i := 12) (some 18) (.int .i64 (trimR m0 xs1 xs2).2) rfl (by kernel_rfl) (by kernel_rfl) (by kernel_rfl) (by kernel_rfl) (fun _ _ _ h => h) (by assumption) (Or.inl ⟨by rfl, fun w hSw => by (try dsimp only at hSw); go_simp⟩) ?_
      (try simp only [Act.put]); (try simp only [List.setIfInBounds_toArray]); (try simp only [List.set_cons_zero, List.set_cons_succ])
      refine wpAnyH_done (by kernel_rfl) ?_ _
      have S21_23 := Nat.le_trans (b22.size) b23.size
      have S21_24 := Nat.le_trans (S21_23) b24.size
      have S21_25 := Nat.le_trans (S21_24) b25.size
      have S21_26 := Nat.le_trans (S21_25) b26.size
      go_wp2_with fail
      go_meet
      exact ⟨Ah0, ch0, w26.heap.size, w27.heap.size, w21.heap.size, rfl, rfl, hch0, (OII.setLow (p := ⟨w21.heap.size, 0, none⟩) (by simp only; exact hblo) oh0), (Or.inl (Nat.lt_of_lt_of_le hblo (Nat.le_refl _))), S21_26, b27.size, (by simp only [World.size_setCell]; exact Nat.le_refl _), b22.size, (by simp only [World.size_setCell]; exact Nat.lt_of_lt_of_le hblo (b27.size)), ⟨World.cell?_setCell_same _ _ _ cz0, trivial⟩, (Below.setCell D21_27 (p := ⟨w21.heap.size, 0, none⟩) (b22.size) (.slice Ah0 (trimR m0 xs1 xs2).1.length ch0))⟩
  obtain ⟨Ah0, ch0, loh0, hih0, bbh, rfl, rfl, hch0, oh0, hdh0, leh0, lhh0, hleh, bbgh, bblh, bxch, b24⟩ := hcut
  rename World => w24
  have rh0 := OII.rii oh0
  have bq78 := BoxC.below bq72 b24
  have q0 : w24.cell? ⟨w.heap.size, 0, none⟩ = some (.int .i64 m0.c) ∧ w24.cell? ⟨w.heap.size, 1, none⟩ = some (.int .i64 m0.d) ∧ w24.cell? ⟨w.heap.size, 2, none⟩ = some (.int .i64 m0.s) ∧ w24.cell? ⟨w.heap.size, 3, none⟩ = some (.int .i64 m0.a) ∧ w24.cell? ⟨w.heap.size, 4, none⟩ = some (.int .i64 m0.l) ∧ True := bq78
  have bq79 := BoxC.below bq73 b24
  have q1 : w24.cell? ⟨w.heap.size + 1, 0, none⟩ = some (.slice A1 xs1.length c1) ∧ True := bq79
  have bq80 := BoxC.below bq74 b24
  have q2 : w24.cell? ⟨bbs, 0, none⟩ = some (.slice As0 (trimR m0 xs1 xs2).1.length cs0) ∧ True := bq80
  have bq81 := BoxC.below bq75 b24
  have q3 : w24.cell? ⟨w6.heap.size, 0, none⟩ = some (.slice A1_6 xs1.length c1_6) ∧ True := bq81
  have bq82 := BoxC.below bq76 b24
  have q4 : w24.cell? ⟨bbg, 0, none⟩ = some (.slice Ag0 (trimR m0 xs1 xs2).1.length cg0) ∧ True := bq82
  have q5 : w24.cell? ⟨bbh, 0, none⟩ = some (.slice Ah0 (trimR m0 xs1 xs2).1.length ch0) ∧ True := bxch
  go_wp2_with fail
  clear q0 q1 q2 q3 q4 q5
  have S9_11 := Nat.le_trans (lhg0) hleg
  have S9_12 := Nat.le_trans (S9_11) b12.size
  have S9_13 := Nat.le_trans (S9_12) b13.size
  have S9_14 := Nat.le_trans (S9_13) b14.size
  have S9_15 := Nat.le_trans (S9_14) b15.size
  have S9_16 := Nat.le_trans (S9_15) b16.size
  have S9_17 := Nat.le_trans (S9_16) on17.size
  have S9_18 := Nat.le_trans (S9_17) on18.size
  have S9_19 := Nat.le_trans (S9_18) b19.size
  have D5_19 := D5_18.trans (b19.mono D5_18.size)
  have D5_20 := D5_19.trans ((on20.below (S9_19)).mono (S5_9))
  have D5_21 := D5_20.trans (b21.mono D5_20.size)
  have D5_24 := D5_21.trans (b24.mono D5_21.size)
  refine (eqL_t Ah0 As0 ch0 cs0 (trimR m0 xs1 xs2).1 _ rh0 (rs0.below D5_24)).mono ?_
  rintro e w25 ⟨rfl, b25⟩
  have bq83 := BoxC.below bq78 b25
  have q0 : w25.cell? ⟨w.heap.size, 0, none⟩ = some (.int .i64 m0.c) ∧ w25.cell? ⟨w.heap.size, 1, none⟩ = some (.int .i64 m0.d) ∧ w25.cell? ⟨w.heap.size, 2, none⟩ = some (.int .i64 m0.s) ∧ w25.cell? ⟨w.heap.size, 3, none⟩ = some (.int .i64 m0.a) ∧ w25.cell? ⟨w.heap.size, 4, none⟩ = some (.int .i64 m0.l) ∧ True := bq83
  have bq84 := BoxC.below bq79 b25
  have q1 : w25.cell? ⟨w.heap.size + 1, 0, none⟩ = some (.slice A1 xs1.length c1) ∧ True := bq84
  have bq85 := BoxC.below bq80 b25
  have q2 : w25.cell? ⟨bbs, 0, none⟩ = some (.slice As0 (trimR m0 xs1 xs2).1.length cs0) ∧ True := bq85
  have bq86 := BoxC.below bq81 b25
  have q3 : w25.cell? ⟨w6.heap.size, 0, none⟩ = some (.slice A1_6 xs1.length c1_6) ∧ True := bq86
  have bq87 := BoxC.below bq82 b25
  have q4 : w25.cell? ⟨bbg, 0, none⟩ = some (.slice Ag0 (trimR m0 xs1 xs2).1.length cg0) ∧ True := bq87
  have bq88 := BoxC.below bxch b25
  have q5 : w25.cell? ⟨bbh, 0, none⟩ = some (.slice Ah0 (trimR m0 xs1 xs2).1.length ch0) ∧ True := bq88
  go_wp2_with fail
  clear q0 q1 q2 q3 q4 q5
  have D20_24 := b21.trans (b24.mono b21.size)
  have D20_25 := D20_24.trans (b25.mono D20_24.size)
  have S10_20 := Nat.le_trans (S10_19) on20.size
  have Y89 := Y66.below (D20_25.mono (S10_20))
  refine (heldL_t Ag0 cg0 (trimR m0 xs1 xs2).1 _ _ (OII.rii Y89) (by omega) (by omega) (by omega) (by omega)).mono ?_
  rintro e w26 ⟨rfl, b26⟩
  have D0_15 := D0_14.trans (b15.mono D0_14.size)
  have D0_16 := D0_15.trans (b16.mono D0_15.size)
  have D0_17 := D0_16.trans ((on17.below (S5_16)).mono (S0_5))
  have D0_18 := D0_17.trans ((on18.below (S7_17)).mono (S0_7))
  have D0_19 := D0_18.trans (b19.mono D0_18.size)
  have D0_20 := D0_19.trans ((on20.below (S9_19)).mono (S0_9))
  have D0_21 := D0_20.trans (b21.mono D0_20.size)
  have D0_24 := D0_21.trans (b24.mono D0_21.size)
  have D0_25 := D0_24.trans (b25.mono D0_24.size)
  have D0_26 := D0_25.trans (b26.mono D0_25.size)
  have DD := D0_26
  have bq90 := BoxC.below bq83 b26
  have q0 : w26.cell? ⟨w.heap.size, 0, none⟩ = some (.int .i64 m0.c) ∧ w26.cell? ⟨w.heap.size, 1, none⟩ = some (.int .i64 m0.d) ∧ w26.cell? ⟨w.heap.size, 2, none⟩ = some (.int .i64 m0.s) ∧ w26.cell? ⟨w.heap.size, 3, none⟩ = some (.int .i64 m0.a) ∧ w26.cell? ⟨w.heap.size, 4, none⟩ = some (.int .i64 m0.l) ∧ True := bq90
  have bq91 := BoxC.below bq84 b26
  have q1 : w26.cell? ⟨w.heap.size + 1, 0, none⟩ = some (.slice A1 xs1.length c1) ∧ True := bq91
  have bq92 := BoxC.below bq85 b26
  have q2 : w26.cell? ⟨bbs, 0, none⟩ = some (.slice As0 (trimR m0 xs1 xs2).1.length cs0) ∧ True := bq92
  have bq93 := BoxC.below bq86 b26
  have q3 : w26.cell? ⟨w6.heap.size, 0, none⟩ = some (.slice A1_6 xs1.length c1_6) ∧ True := bq93
  have bq94 := BoxC.below bq87 b26
  have q4 : w26.cell? ⟨bbg, 0, none⟩ = some (.slice Ag0 (trimR m0 xs1 xs2).1.length cg0) ∧ True := bq94
  have bq95 := BoxC.below bq88 b26
  have q5 : w26.cell? ⟨bbh, 0, none⟩ = some (.slice Ah0 (trimR m0 xs1 xs2).1.length ch0) ∧ True := bq95
  go_wp2_with fail
  go_ret
  exact ⟨rfl, HB0.trans (DD.mono HB0.size)⟩
end Go.Proofs.Ytlldlfiepfjahaa.fnExactTrimLock
