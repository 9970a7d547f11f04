/- Contracts of LongestPart, on both sides. -/
import Derived.Test.YtdedajohkdbdkaaFGhost
namespace Go.Proofs.Ytdedajohkdbdkaa
set_option linter.unusedVariables false
open Go.RowKit
theorem RII.take {w : World} {A : Option Addr} {xss : List (List Int)} (h : RII w A xss) (k : Nat) : RII w A (xss.take k) := by
  obtain ⟨us, h1, h2, h3⟩ := h
  refine ⟨us.take k, by simp [h1], h2.take k, fun j hj => ?_⟩
  rw [List.length_take] at hj
  obtain ⟨A', c, a, b, d⟩ := h3 j (by omega)
  refine ⟨A', c, ?_, ?_, ?_⟩
  · rw [List.getElem?_take, if_pos (by omega), List.getElem_take]; exact a
  · rw [List.getElem_take]; exact b
  · rw [List.getElem_take]; exact d
set_option maxRecDepth 100000 in
set_option maxHeartbeats 4000000 in
theorem implLongestPart_any (m : Mk) (A : Option Addr) (c : Nat) (t : List (List Int)) (B : Option Addr) (d : Nat) (cuts : List (List Int)) (w : World) (h : RII w A t) (g : RII w B cuts) (hcd : cuts.length ≤ d) :
    Calls Try.prog 16 #[.agg #[.int .i64 m.c, .int .i64 m.d, .int .i64 m.s, .int .i64 m.a, .int .i64 m.l, .slice A t.length c], .slice B cuts.length d] w (ResNC w (longR m t cuts)) := by
  have B0 := (Below.refl w.heap.size w).alloc (Nat.le_refl _) (.cells #[.int .i64 m.c, .int .i64 m.d, .int .i64 m.s, .int .i64 m.a, .int .i64 m.l, .slice A t.length c] 28)
  have bx : BoxC (w.alloc (.cells #[.int .i64 m.c, .int .i64 m.d, .int .i64 m.s, .int .i64 m.a, .int .i64 m.l, .slice A t.length c] 28)) w.heap.size 0 [.int .i64 m.c, .int .i64 m.d, .int .i64 m.s, .int .i64 m.a, .int .i64 m.l, .slice A t.length c] := by simp [BoxC, Go.World.cell?_alloc_at]
  have HCC := Lib.hid (partCode_any m A c t B d cuts (w.alloc (.cells #[.int .i64 m.c, .int .i64 m.d, .int .i64 m.s, .int .i64 m.a, .int .i64 m.l, .slice A t.length c] 28)) (h.below B0) (g.below B0))
  by_cases h1 : partC m t cuts = 0
  rotate_left
  · have HN := Lib.hid (long_no h1)
    have t1 : (partC m t cuts != 0) = true := by simpa using h1
    have H1 := Lib.hid h1; clear h1
    go_enter Try.func16, Try.ntmps16
    go_wp2_with fail
    refine HCC.out.mono ?_
    rintro e w1 ⟨rfl, b1⟩
    go_wp2_with fail
    go_ret2
    exact resNC_of HN.out (B0.trans (b1.mono B0.size))
  have HY := Lib.hid (long_yes h1)
  have HF := Lib.hid (partC_0 h1)
  rw [h1] at HCC
  have H1 := Lib.hid h1; clear h1
  obtain ⟨p, hp⟩ : ∃ p : Nat → Bool, p = fun k => openPart m t (cuts.take k) := ⟨_, rfl⟩
  have HPP := Lib.hid hp
  have hgl := g.le
  have H0 := Lib.hid (show p 0 = true by rw [hp]; exact openPart_nil)
  have HL := Lib.hid (show longF m t cuts = longDown p cuts.length by rw [hp]; rfl)
  clear hp
  go_enter Try.func16, Try.ntmps16
  go_wp2_with fail
  refine HCC.out.mono ?_
  rintro e w1 ⟨rfl, b1⟩
  have B1 := B0.trans (b1.mono B0.size)
  have HB1 := Lib.hid (bx.below b1)
  have hs1 := B0.size
  have hs2 := b1.size
  go_wp2_with fail
  go_loopw [7] (fun i wr => ∃ k : Nat, k ≤ cuts.length ∧ i = .int .i64 k ∧ longDown p k = longF m t cuts ∧ Below w1.heap.size w1 wr) (fun i _ => (intOf i).toNat)
  case atStart => exact ⟨cuts.length, Nat.le_refl _, rfl, HL.out.symm, Below.refl _ _⟩
  case round =>
    obtain ⟨k, hk, rfl, hl, hb⟩ := hrel
    have HLL := Lib.hid hl; clear hl
    have hsz := hb.size
    have Bw := B1.trans (hb.mono B1.size)
    have HBW := Lib.hid Bw
    have i0 : (0 : Int) ≤ (k : Int) := by omega
    have i1 : (k : Int) ≤ (d : Int) := by omega
    have HO := Lib.hid (show ∀ W, Below wr.heap.size wr W → Calls Try.prog 40 #[.agg #[.int .i64 m.c, .int .i64 m.d, .int .i64 m.s, .int .i64 m.a, .int .i64 m.l, .slice A t.length c], .slice B k d] W fun e w' => e = .returned (.bool (p k)) ∧ Below W.heap.size W w' from fun W hW => by
      have := isOpenPart_any m A c t B d (cuts.take k) W (h.below (Bw.trans (hW.mono Bw.size))) ((g.take k).below (Bw.trans (hW.mono Bw.size))) (HF.out.take k)
      rw [HPP.out]
      rwa [List.length_take, Nat.min_eq_left (by omega)] at this)
    have KS := Lib.hid (show ∀ w' : World, Below wr.heap.size wr w' → (w'.cell? ⟨w.heap.size, 0, none⟩ = some (.int .i64 m.c) ∧ w'.cell? ⟨w.heap.size, 1, none⟩ = some (.int .i64 m.d) ∧ w'.cell? ⟨w.heap.size, 2, none⟩ = some (.int .i64 m.s) ∧ w'.cell? ⟨w.heap.size, 3, none⟩ = some (.int .i64 m.a) ∧ w'.cell? ⟨w.heap.size, 4, none⟩ = some (.int .i64 m.l) ∧ w'.cell? ⟨w.heap.size, 5, none⟩ = some (.slice A t.length c) ∧ True) from fun w' hb' => (HB1.out.below hb).below hb')
    cases hq : p k with
    | true =>
      rw [hq] at HO
      have HR := Lib.hid (show ((k : Int), 0) = longR m t cuts by rw [← HY.out, ← HLL.out, longDown_at hq])
      clear hq
      have hk2 : k ≤ d := by omega
      go_wp2_with fail
      go_region_held3 (fun w' => w'.cell? ⟨w.heap.size, 0, none⟩ = some (.int .i64 m.c) ∧ w'.cell? ⟨w.heap.size, 1, none⟩ = some (.int .i64 m.d) ∧ w'.cell? ⟨w.heap.size, 2, none⟩ = some (.int .i64 m.s) ∧ w'.cell? ⟨w.heap.size, 3, none⟩ = some (.int .i64 m.a) ∧ w'.cell? ⟨w.heap.size, 4, none⟩ = some (.int .i64 m.l) ∧ w'.cell? ⟨w.heap.size, 5, none⟩ = some (.slice A t.length c) ∧ True)
        (first | (refine KS.out _ ?_; first | assumption | exact belowDrew0 _))
        (first | (go_at_call 40; refine (HO.out _ (belowDrew0 _)).mono ?_; rintro e w2 ⟨rfl, b2⟩; have b2 := belowDrew b2))
      go_wp2_with fail
      go_ret2
      exact resNC_of HR.out (HBW.out.trans (b2.mono HBW.out.size))
    | false =>
      rw [hq] at HO
      have hpos := longDown_pred H0.out hq
      have hk1 := hpos.1
      have HN := Lib.hid (hpos.2.symm.trans HLL.out)
      clear hq hpos
      have hk2 : k ≤ d := by omega
      go_wp2_with fail
      go_region_held3 (fun w' => w'.cell? ⟨w.heap.size, 0, none⟩ = some (.int .i64 m.c) ∧ w'.cell? ⟨w.heap.size, 1, none⟩ = some (.int .i64 m.d) ∧ w'.cell? ⟨w.heap.size, 2, none⟩ = some (.int .i64 m.s) ∧ w'.cell? ⟨w.heap.size, 3, none⟩ = some (.int .i64 m.a) ∧ w'.cell? ⟨w.heap.size, 4, none⟩ = some (.int .i64 m.l) ∧ w'.cell? ⟨w.heap.size, 5, none⟩ = some (.slice A t.length c) ∧ True)
        (first | (refine KS.out _ ?_; first | assumption | exact belowDrew0 _))
        (first | (go_at_call 40; refine (HO.out _ (belowDrew0 _)).mono ?_; rintro e w2 ⟨rfl, b2⟩; have b2 := belowDrew b2))
      go_wp2_with fail
      go_roundw
      case rel => exact ⟨k - 1, by omega, by go_num, HN.out, hb.trans (b2.mono hb.size)⟩
      case measure => simp [intOf]; omega
set_option maxRecDepth 100000 in
set_option maxHeartbeats 4000000 in
theorem specLongestPart_any (m : Mk) (A : Option Addr) (c : Nat) (t : List (List Int)) (B : Option Addr) (d : Nat) (cuts : List (List Int)) (w : World) (h : RII w A t) (g : RII w B cuts) (hcd : cuts.length ≤ d) :
    Calls Try.prog 17 #[.agg #[.int .i64 m.c, .int .i64 m.d, .int .i64 m.s, .int .i64 m.a, .int .i64 m.l, .slice A t.length c], .slice B cuts.length d] w (ResNC w (longR m t cuts)) := by
  have B0 := (Below.refl w.heap.size w).alloc (Nat.le_refl _) (.cells #[.int .i64 m.c, .int .i64 m.d, .int .i64 m.s, .int .i64 m.a, .int .i64 m.l, .slice A t.length c] 28)
  have bx : BoxC (w.alloc (.cells #[.int .i64 m.c, .int .i64 m.d, .int .i64 m.s, .int .i64 m.a, .int .i64 m.l, .slice A t.length c] 28)) w.heap.size 0 [.int .i64 m.c, .int .i64 m.d, .int .i64 m.s, .int .i64 m.a, .int .i64 m.l, .slice A t.length c] := by simp [BoxC, Go.World.cell?_alloc_at]
  have HCC := Lib.hid (l16Code_any m A c t B d cuts (w.alloc (.cells #[.int .i64 m.c, .int .i64 m.d, .int .i64 m.s, .int .i64 m.a, .int .i64 m.l, .slice A t.length c] 28)) (h.below B0) (g.below B0))
  by_cases h1 : partC m t cuts = 0
  rotate_left
  · have HN := Lib.hid (long_no h1)
    have t1 : (partC m t cuts != 0) = true := by simpa using h1
    have H1 := Lib.hid h1; clear h1
    go_enter Try.func17, Try.ntmps17
    go_wp2_with fail
    refine HCC.out.mono ?_
    rintro e w1 ⟨rfl, b1⟩
    go_wp2_with fail
    go_ret2
    exact resNC_of HN.out (B0.trans (b1.mono B0.size))
  have HY := Lib.hid (long_yes h1)
  have HF := Lib.hid (partC_0 h1)
  rw [h1] at HCC
  have H1 := Lib.hid h1; clear h1
  have hgl := g.le
  go_enter Try.func17, Try.ntmps17
  go_wp2_with fail
  refine HCC.out.mono ?_
  rintro e w1 ⟨rfl, b1⟩
  have B1 := B0.trans (b1.mono B0.size)
  have HB1 := Lib.hid (bx.below b1)
  have hs1 := B0.size
  have hs2 := b1.size
  go_wp2_with fail
  go_loopw [7] (fun i wr => ∃ k : Nat, k ≤ cuts.length ∧ i = .int .i64 k ∧ openPart m t (cuts.take k) = true ∧ Below w1.heap.size w1 wr) (fun i _ => cuts.length - (intOf i).toNat)
  case atStart => exact ⟨0, by omega, rfl, openPart_nil, Below.refl _ _⟩
  case round =>
    obtain ⟨k, hk, rfl, hl, hb⟩ := hrel
    have HLL := Lib.hid hl; clear hl
    have hsz := hb.size
    have Bw := B1.trans (hb.mono B1.size)
    have HBW := Lib.hid Bw
    have KS := Lib.hid (show ∀ w' : World, Below wr.heap.size wr w' → (w'.cell? ⟨w.heap.size, 0, none⟩ = some (.int .i64 m.c) ∧ w'.cell? ⟨w.heap.size, 1, none⟩ = some (.int .i64 m.d) ∧ w'.cell? ⟨w.heap.size, 2, none⟩ = some (.int .i64 m.s) ∧ w'.cell? ⟨w.heap.size, 3, none⟩ = some (.int .i64 m.a) ∧ w'.cell? ⟨w.heap.size, 4, none⟩ = some (.int .i64 m.l) ∧ w'.cell? ⟨w.heap.size, 5, none⟩ = some (.slice A t.length c) ∧ True) from fun w' hb' => (HB1.out.below hb).below hb')
    by_cases hlt : k < cuts.length
    · obtain ⟨k1, hk1⟩ : ∃ k1, k1 = k + 1 := ⟨_, rfl⟩
      have i0 : (0 : Int) ≤ (k1 : Int) := by omega
      have hk2 : (k1 : Int) ≤ (d : Int) := by omega
      have hww : IntKind.i64.wrap ((k : Int) + 1) = (k1 : Int) := by rw [IntWalk.i64_in _ (by omega), hk1]; omega
      have HO := Lib.hid (show ∀ W, Below wr.heap.size wr W → Calls Try.prog 42 #[.agg #[.int .i64 m.c, .int .i64 m.d, .int .i64 m.s, .int .i64 m.a, .int .i64 m.l, .slice A t.length c], .slice B k1 d] W fun e w' => e = .returned (.bool (openPart m t (cuts.take k1))) ∧ Below W.heap.size W w' from fun W hW => by
        have := l16Open_any m A c t B d (cuts.take k1) W (h.below (Bw.trans (hW.mono Bw.size))) ((g.take k1).below (Bw.trans (hW.mono Bw.size))) (HF.out.take k1)
        rwa [List.length_take, Nat.min_eq_left (by omega)] at this)
      have HK1 := Lib.hid hk1
      cases hq : openPart m t (cuts.take k1) with
      | true =>
        rw [hq] at HO
        have HQ := Lib.hid hq; clear hq hk1
        go_wp2_with fail
        go_region_held3 (fun w' => w'.cell? ⟨w.heap.size, 0, none⟩ = some (.int .i64 m.c) ∧ w'.cell? ⟨w.heap.size, 1, none⟩ = some (.int .i64 m.d) ∧ w'.cell? ⟨w.heap.size, 2, none⟩ = some (.int .i64 m.s) ∧ w'.cell? ⟨w.heap.size, 3, none⟩ = some (.int .i64 m.a) ∧ w'.cell? ⟨w.heap.size, 4, none⟩ = some (.int .i64 m.l) ∧ w'.cell? ⟨w.heap.size, 5, none⟩ = some (.slice A t.length c) ∧ True)
          (first | (refine KS.out _ ?_; first | assumption | exact belowDrew0 _))
          (first | (go_at_call 42; refine (HO.out _ (belowDrew0 _)).mono ?_; rintro e w2 ⟨rfl, b2⟩; have b2 := belowDrew b2))
        go_wp2_with fail
        go_roundw
        case rel => exact ⟨k1, by have := HK1.out; omega, by have := HK1.out; subst this; go_num, HQ.out, hb.trans (b2.mono hb.size)⟩
        case measure => have := HK1.out; simp [intOf]; omega
      | false =>
        rw [hq] at HO
        have HR := Lib.hid (show ((k : Int), 0) = longR m t cuts by rw [← HY.out, ← longF_up hk HLL.out (.inr (by rw [← hk1]; exact hq))])
        clear hq hk1
        go_wp2_with fail
        go_region_held3 (fun w' => w'.cell? ⟨w.heap.size, 0, none⟩ = some (.int .i64 m.c) ∧ w'.cell? ⟨w.heap.size, 1, none⟩ = some (.int .i64 m.d) ∧ w'.cell? ⟨w.heap.size, 2, none⟩ = some (.int .i64 m.s) ∧ w'.cell? ⟨w.heap.size, 3, none⟩ = some (.int .i64 m.a) ∧ w'.cell? ⟨w.heap.size, 4, none⟩ = some (.int .i64 m.l) ∧ w'.cell? ⟨w.heap.size, 5, none⟩ = some (.slice A t.length c) ∧ True)
          (first | (refine KS.out _ ?_; first | assumption | exact belowDrew0 _))
          (first | (go_at_call 42; refine (HO.out _ (belowDrew0 _)).mono ?_; rintro e w2 ⟨rfl, b2⟩; have b2 := belowDrew b2))
        go_wp2_with fail
        go_ret2
        exact resNC_of HR.out (HBW.out.trans (b2.mono HBW.out.size))
    · have HR := Lib.hid (show ((k : Int), 0) = longR m t cuts by rw [← HY.out, ← longF_up hk HLL.out (.inl (by omega))])
      have hge : decide ((k : Int) < (cuts.length : Int)) = false := decide_eq_false (by omega)
      go_wp2_with fail
      refine wp_region_held_drew (S := (fun w' => True)) (by kernel_rfl) (trivial) (fun hHeld => ?_)
      refine takeD (i := 0) (some 14) (.int .i64 (k : Int)) rfl (by kernel_rfl) (by kernel_rfl) (by kernel_rfl) (by kernel_rfl) (fun _ _ _ h => h) (by assumption) (Or.inl ⟨by rfl, fun w hSw => by (try dsimp only at hSw); go_simp⟩) ?_
      simp only [Act.put, List.setIfInBounds_toArray, List.set_cons_zero, List.set_cons_succ]
      refine takeD (i := 1) (some 15) (.slice B cuts.length d) rfl (by kernel_rfl) (by kernel_rfl) (by kernel_rfl) (by kernel_rfl) (fun _ _ _ h => h) (by assumption) (Or.inl ⟨by rfl, fun w hSw => by (try dsimp only at hSw); go_simp⟩) ?_
      simp only [Act.put, List.setIfInBounds_toArray, List.set_cons_zero, List.set_cons_succ]
      refine takeD (i := 2) (some 16) (.int .i64 (cuts.length : Int)) rfl (by kernel_rfl) (by kernel_rfl) (by kernel_rfl) (by kernel_rfl) (fun _ _ _ h => h) (by assumption) (Or.inl ⟨by rfl, fun w hSw => by (try dsimp only at hSw); go_simp⟩) ?_
      simp only [Act.put, List.setIfInBounds_toArray, List.set_cons_zero, List.set_cons_succ]
      refine takeD (i := 3) (some 17) (.bool false) rfl (by kernel_rfl) (by kernel_rfl) (by kernel_rfl) (by kernel_rfl) (fun _ _ _ h => h) (by assumption) (Or.inl ⟨by rfl, fun w hSw => by (try dsimp only at hSw); go_simp⟩) ?_
      simp only [Act.put, List.setIfInBounds_toArray, List.set_cons_zero, List.set_cons_succ]
      refine takeD (i := 4) (some 18) (.bool false) rfl (by kernel_rfl) (by kernel_rfl) (by kernel_rfl) (by kernel_rfl) (fun _ _ _ h => h) (by assumption) (Or.inl ⟨by rfl, fun w hSw => by (try dsimp only at hSw); go_simp⟩) ?_
      simp only [Act.put, List.setIfInBounds_toArray, List.set_cons_zero, List.set_cons_succ]
      refine skipD (i := 5) (some 19) rfl (by kernel_rfl) (by kernel_rfl) (by kernel_rfl) (by kernel_rfl) (fun _ _ _ h => h) (by assumption) (by kernel_rfl) ?_
      simp only [Act.put, List.setIfInBounds_toArray, List.set_cons_zero, List.set_cons_succ]
      refine skipD (i := 6) (some 20) rfl (by kernel_rfl) (by kernel_rfl) (by kernel_rfl) (by kernel_rfl) (fun _ _ _ h => h) (by assumption) (by kernel_rfl) ?_
      simp only [Act.put, List.setIfInBounds_toArray, List.set_cons_zero, List.set_cons_succ]
      refine skipD (i := 7) (some 21) rfl (by kernel_rfl) (by kernel_rfl) (by kernel_rfl) (by kernel_rfl) (fun _ _ _ h => h) (by assumption) (by kernel_rfl) ?_
      simp only [Act.put, List.setIfInBounds_toArray, List.set_cons_zero, List.set_cons_succ]
      refine skipD (i := 8) (some 22) rfl (by kernel_rfl) (by kernel_rfl) (by kernel_rfl) (by kernel_rfl) (fun _ _ _ h => h) (by assumption) (by kernel_rfl) ?_
      simp only [Act.put, List.setIfInBounds_toArray, List.set_cons_zero, List.set_cons_succ]
      refine skipD (i := 9) (some 23) rfl (by kernel_rfl) (by kernel_rfl) (by kernel_rfl) (by kernel_rfl) (fun _ _ _ h => h) (by assumption) (by kernel_rfl) ?_
      simp only [Act.put, List.setIfInBounds_toArray, List.set_cons_zero, List.set_cons_succ]
      refine skipD (i := 10) (some 24) rfl (by kernel_rfl) (by kernel_rfl) (by kernel_rfl) (by kernel_rfl) (fun _ _ _ h => h) (by assumption) (by kernel_rfl) ?_
      simp only [Act.put, List.setIfInBounds_toArray, List.set_cons_zero, List.set_cons_succ]
      refine takeD (i := 11) (some 25) (.bool false) rfl (by kernel_rfl) (by kernel_rfl) (by kernel_rfl) (by kernel_rfl) (fun _ _ _ h => h) (by assumption) (Or.inl ⟨by rfl, fun w hSw => by (try dsimp only at hSw); go_simp⟩) ?_
      simp only [Act.put, List.setIfInBounds_toArray, List.set_cons_zero, List.set_cons_succ]
      refine wpAnyH_done (by kernel_rfl) ?_ _
      go_wp2_with fail
      go_ret2
      exact resNC_of HR.out (belowD HBW.out _)
end Go.Proofs.Ytdedajohkdbdkaa
