/- Contract of l02DrawCuts. -/
import Derived.Test.YtdedajohkdbdkaaGreatDoorDrTab
namespace Go.Proofs.YtdedajohkdbdkaaGreatDoor
set_option linter.unusedVariables false
open Go.RowKit
set_option maxRecDepth 100000 in
set_option maxHeartbeats 4000000 in
theorem l02DrawCuts_any (S : Nat) (A : Option Addr) (c : Nat) (bs : List Int) (m : Mk) (w : World) (h : Src S A c bs w) (hm : MkD m) :
    Calls Tryz.prog 55 #[.pointer (some ⟨S, 0, none⟩), .agg #[.int .i64 m.c, .int .i64 m.d, .int .i64 m.s, .int .i64 m.a, .int .i64 m.l]] w (ResOI 9 S A c bs w) := by
  obtain ⟨w0, hw0⟩ : ∃ w0, w0 = w.alloc (.cells #[.int .i64 m.c, .int .i64 m.d, .int .i64 m.s, .int .i64 m.a, .int .i64 m.l] 25) := ⟨_, rfl⟩
  have HD0 := Lib.hid (show Dr S A c bs w w0 by rw [hw0]; exact (Dr.refl h).alloc _)
  have hz0 : w0.heap.size = w.heap.size + 1 := by rw [hw0]; simp
  have bx : BoxC w0 w.heap.size 0 (mkCells m) := by rw [hw0]; exact BoxC.new (mkCells m) rfl
  have HBX := Lib.hid bx
  have hSl : S < w.heap.size := h.xl
  simp only [MkD] at hm
  obtain ⟨c1, c7, d1, d9, s0, s9, _, _, _, _⟩ := hm
  have HN0 := Lib.hid (fun n => l01Next_dr (w := w0.alloc (.cells #[] 2)) ((HD0.out.alloc _).src) n)
  obtain ⟨x0, x1, x2, _⟩ := bx
  simp only [Nat.zero_add] at x1 x2
  clear h
  have hlow : w.heap.size < w0.heap.size := by omega
  go_enter Tryz.func55, Tryz.ntmps55
  go_wp2_with fail
  rw [← hw0]
  clear hw0
  refine (HN0.out _).mono ?_
  rintro e w1 ⟨r, rfl, r0, r1, hD1, hz1⟩
  have HO1 := Lib.hid ((OV.new0 (w := w0) (B := w0.heap.size) (e := 2) (Nat.le_refl _)).dr (by omega) hD1)
  have HD1 := Lib.hid (((Dr.refl HD0.out.src).alloc (.cells #[] 2)).trans hD1)
  have rb : r ≤ 9 := by omega
  clear hD1 hz1 r1 x0 x1 x2
  go_wp2_with fail
  go_loopw [5, 6, 7] (fun v a i wr => ∃ (k : Nat) (xs : List Int) (q : Int), i = .int .i64 k ∧ (k : Int) ≤ min 8 m.c ∧ xs.length = k ∧ a = .int .i64 q ∧ -20 - 20 * (k : Int) ≤ q ∧ q ≤ 20 + 20 * (k : Int) ∧ OV wr w0.heap.size 2 v (ints xs) ∧ Dr S A c bs w0 wr) (fun _ _ i _ => (min 8 m.c - intOf i).toNat)
  case atStart => exact ⟨0, [], r, rfl, by simp; omega, rfl, rfl, by omega, by omega, by rw [← hz0]; exact HO1.out, HD1.out⟩
  case round =>
    obtain ⟨k, xs, q, rfl, hk, hxl, rfl, q0, q1, ho, hD⟩ := hrel
    have HO := Lib.hid ho; have HD := Lib.hid hD; have HXL := Lib.hid hxl
    have hsz := hD.size
    have HB := Lib.hid (HBX.out.dr (by omega) (by omega) hD)
    obtain ⟨x0, x1, x2, _⟩ := HB.out
    simp only [Nat.zero_add] at x1 x2
    clear ho hD hxl
    by_cases hlt : (k : Int) < min 8 m.c
    · have ho1 := HO.out
      have hx8 : xs.length ≤ 8 := by have := HXL.out; omega
      have hk7 : (k : Int) < 7 := by omega
      have KS := Lib.hid (show ∀ w' : World, KeepF (fun g => g = S ∨ w0.heap.size ≤ g) wr w' → w'.cell? ⟨w.heap.size, 2, none⟩ = some (.int .i64 m.s) from fun w' hw => (hw.cell (p := ⟨w.heap.size, 2, none⟩) (by simp only; omega) (by simp only; omega)).trans x2)
      clear x1 x2
      go_wp2_with (at_builtin; refine wpList_app1 _ rfl _ _ _ rfl w0.heap.size 2 _ 8 Tryz.underlying44 info_int rfl (by omega) _ _ rfl (ho1.alloc _) _ _ rfl (one_cell _ _ _) rfl (by rw [ints_length]; omega) (by simp; omega) ?_; intro v' w4 ho4 hg4 hn4 hat4)
      have HO4 := Lib.hid ho4
      have HD4 := Lib.hid (HD.out.app ho1 (Nat.le_refl _) hg4)
      have HK4 := Lib.hid (show KeepF (fun g => g = S ∨ w0.heap.size ≤ g) wr w4 from ((KeepF.refl _ wr).alloc (.cells #[.int .i64 q] 2)).grown hg4 (fun g hg => .inl (.inr (ho1.lt g hg).1)))
      have hs4 := HD4.out.size
      clear ho4 hg4 hn4 hat4 ho1 x0
      refine wp_region_held_drew (S := (fun w' => w'.cell? ⟨w.heap.size, 2, none⟩ = some (.int .i64 m.s))) (by kernel_rfl) (KS.out _ (HK4.out.trans (KeepF.ofBelow (belowDrew0 _)) (fun _ _ e => e))) (fun hHeld => ?_)
      refine takeD (i := 0) (some 25) (.int .i64 q) rfl (by kernel_rfl) (by kernel_rfl) (by kernel_rfl) (by kernel_rfl) (fun _ _ _ h => h) (by assumption) (Or.inl ⟨by rfl, fun w hSw => by (try dsimp only at hSw); go_simp⟩) ?_
      simp only [Act.put, List.setIfInBounds_toArray, List.set_cons_zero, List.set_cons_succ]
      refine takeD (i := 1) (some 26) (.pointer (some ⟨S, 0, none⟩)) rfl (by kernel_rfl) (by kernel_rfl) (by kernel_rfl) (by kernel_rfl) (fun _ _ _ h => h) (by assumption) (Or.inl ⟨by rfl, fun w hSw => by (try dsimp only at hSw); go_simp⟩) ?_
      simp only [Act.put, List.setIfInBounds_toArray, List.set_cons_zero, List.set_cons_succ]
      refine takeD (i := 2) (some 27) (.pointer (some ⟨w.heap.size, 2, none⟩)) rfl (by kernel_rfl) (by kernel_rfl) (by kernel_rfl) (by kernel_rfl) (fun _ _ _ h => h) (by assumption) (Or.inl ⟨by rfl, fun w hSw => by (try dsimp only at hSw); go_simp⟩) ?_
      simp only [Act.put, List.setIfInBounds_toArray, List.set_cons_zero, List.set_cons_succ]
      refine takeD (i := 3) (some 28) (.int .i64 m.s) rfl (by kernel_rfl) (by kernel_rfl) (by kernel_rfl) (by kernel_rfl) (fun _ _ _ h => h) (by assumption) (Or.inl ⟨by rfl, fun w hSw => by (try dsimp only at hSw); go_simp⟩) ?_
      simp only [Act.put, List.setIfInBounds_toArray, List.set_cons_zero, List.set_cons_succ]
      refine takeD (i := 4) (some 29) (.int .i64 (max 0 m.s)) rfl (by kernel_rfl) (by kernel_rfl) (by kernel_rfl) (by kernel_rfl) (fun _ _ _ h => h) (by assumption) (Or.inl ⟨by rfl, fun w hSw => by (try dsimp only at hSw); go_simp⟩) ?_
      simp only [Act.put, List.setIfInBounds_toArray, List.set_cons_zero, List.set_cons_succ]
      refine takeD (i := 5) (some 30) (.int .i64 (2 * max 0 m.s)) rfl (by kernel_rfl) (by kernel_rfl) (by kernel_rfl) (by kernel_rfl) (fun _ _ _ h => h) (by assumption) (Or.inl ⟨by rfl, fun w hSw => by (try dsimp only at hSw); go_simp; (rw [IntKind.wrap_i64]; omega)⟩) ?_
      simp only [Act.put, List.setIfInBounds_toArray, List.set_cons_zero, List.set_cons_succ]
      refine takeD (i := 6) (some 31) (.int .i64 (2 * max 0 m.s + 1)) rfl (by kernel_rfl) (by kernel_rfl) (by kernel_rfl) (by kernel_rfl) (fun _ _ _ h => h) (by assumption) (Or.inl ⟨by rfl, fun w hSw => by (try dsimp only at hSw); go_simp; (rw [IntKind.wrap_i64]; omega)⟩) ?_
      simp only [Act.put, List.setIfInBounds_toArray, List.set_cons_zero, List.set_cons_succ]
      refine takeD (i := 9) (some 34) (.pointer (some ⟨w.heap.size, 2, none⟩)) rfl (by kernel_rfl) (by kernel_rfl) (by kernel_rfl) (by kernel_rfl) (fun _ _ _ h => h) (by assumption) (Or.inl ⟨by rfl, fun w hSw => by (try dsimp only at hSw); go_simp⟩) ?_
      simp only [Act.put, List.setIfInBounds_toArray, List.set_cons_zero, List.set_cons_succ]
      refine takeD (i := 10) (some 35) (.int .i64 m.s) rfl (by kernel_rfl) (by kernel_rfl) (by kernel_rfl) (by kernel_rfl) (fun _ _ _ h => h) (by assumption) (Or.inl ⟨by rfl, fun w hSw => by (try dsimp only at hSw); go_simp⟩) ?_
      simp only [Act.put, List.setIfInBounds_toArray, List.set_cons_zero, List.set_cons_succ]
      refine wpAnyH_ready (rs := [7]) (by kernel_rfl) (by simp) (AllReadyH.cons rfl (fun K hK => ?_) AllReadyH.nil)
      go_simp
      refine (l01Next_dr HD4.out.drew.src _).mono ?_
      rintro e w5 ⟨y, rfl, y0, y1, hD5, hz5⟩
      have HD5 := Lib.hid (HD4.out.drew.trans hD5)
      have HO5 := Lib.hid ((HO4.out.drew).dr (show S < w0.heap.size by omega) hD5)
      have HK5 := Lib.hid (show KeepF (fun g => g = S ∨ w0.heap.size ≤ g) wr w5 from (HK4.out.trans (KeepF.ofBelow (F := fun g => g = S ∨ w0.heap.size ≤ g) (belowDrew0 _)) (fun _ _ e => e)).trans (hD5.keep.mono fun g e => .inl e) (fun _ _ e => e))
      have yb : y ≤ 18 := by omega
      have hs5 := HD5.out.size
      clear hD5 hz5 y1
      have HHeld := KS.out _ HK5.out
      refine hK.out _ _ HHeld (fun _ => ?_)
      clear hK K
      try simp only [Act.put, List.setIfInBounds_toArray, List.set_cons_zero, List.set_cons_succ]
      refine takeD (i := 8) (some 33) (.int .i64 (q + y)) rfl (by kernel_rfl) (by kernel_rfl) (by kernel_rfl) (by kernel_rfl) (fun _ _ _ h => h) (by assumption) (Or.inl ⟨by rfl, fun w hSw => by (try dsimp only at hSw); go_simp; (rw [IntKind.wrap_i64]; omega)⟩) ?_
      simp only [Act.put, List.setIfInBounds_toArray, List.set_cons_zero, List.set_cons_succ]
      refine takeD (i := 11) (some 36) (.int .i64 (q + y - m.s)) rfl (by kernel_rfl) (by kernel_rfl) (by kernel_rfl) (by kernel_rfl) (fun _ _ _ h => h) (by assumption) (Or.inl ⟨by rfl, fun w hSw => by (try dsimp only at hSw); go_simp; (rw [IntKind.wrap_i64]; omega)⟩) ?_
      simp only [Act.put, List.setIfInBounds_toArray, List.set_cons_zero, List.set_cons_succ]
      refine takeD (i := 12) (some 6) (.int .i64 (q + y - m.s)) rfl (by kernel_rfl) (by kernel_rfl) (by kernel_rfl) (by kernel_rfl) (fun _ _ _ h => h) (by assumption) (Or.inl ⟨by rfl, fun w hSw => by (try dsimp only at hSw); go_simp⟩) ?_
      simp only [Act.put, List.setIfInBounds_toArray, List.set_cons_zero, List.set_cons_succ]
      refine wpAnyH_done (by kernel_rfl) ?_ _
      have HN5 := Lib.hid (l01Next_dr HD5.out.src 24)
      go_wp2_with fail
      refine HN5.out.mono ?_
      rintro e w6 ⟨z, rfl, z0, z1, hD6, hz6⟩
      have HD6 := Lib.hid (HD5.out.trans hD6)
      have HO6 := Lib.hid (HO5.out.dr (show S < w0.heap.size by omega) hD6)
      have x1 : w6.cell? ⟨w.heap.size, 1, none⟩ = some (.int .i64 m.d) := (HBX.out.dr (by omega) (by omega) HD6.out).2.1
      clear hD6 hz6 z1
      by_cases hz : z > 0
      · have hz' : 0 < z := hz
        go_wp2_with fail
        go_roundw
        case rel => exact ⟨k + 1, xs ++ [q], max 0 (min (m.d - 1) (q + y - m.s)), by go_num, by omega, by have := HXL.out; simp; omega, rfl, by omega, by omega, by rw [ints_append]; exact HO6.out, HD6.out⟩
        case measure => simp [intOf]; omega
      · have hz' : decide (z > 0) = false := decide_eq_false hz
        go_wp2_with fail
        go_roundw
        case rel => exact ⟨k + 1, xs ++ [q], q + y - m.s, by go_num, by omega, by have := HXL.out; simp; omega, rfl, by omega, by omega, by rw [ints_append]; exact HO6.out, HD6.out⟩
        case measure => simp [intOf]; omega
    · have hlt' : decide ((k : Int) < min 8 m.c) = false := decide_eq_false hlt
      have HN := Lib.hid (l01Next_dr HD.out.src 24)
      have hx8 : xs.length ≤ 8 := by have := HXL.out; omega
      clear x1 x2
      go_wp2_with fail
      refine HN.out.mono ?_
      rintro e w6 ⟨z, rfl, z0, z1, hD6, hz6⟩
      have HD6 := Lib.hid (HD.out.trans hD6)
      have ho6 := HO.out.dr (show S < w0.heap.size by omega) hD6
      have hs6 := HD6.out.size
      clear hD6 hz6 z1 x0
      by_cases hz : z = 0
      · subst hz
        go_wp2_with (at_builtin; refine wpList_app1 _ rfl _ _ _ rfl w0.heap.size 2 _ 8 Tryz.underlying44 info_int rfl (by omega) _ _ rfl (ho6.alloc _) _ _ rfl (one_cell _ _ _) rfl (by rw [ints_length]; omega) (by simp; omega) ?_; intro v' w7 ho7 hg7 hn7 hat7)
        go_ret
        exact ⟨_, xs ++ [0], rfl, by rw [ints_append]; exact ho7.mono (by omega), by simp; omega, HD0.out.trans (HD6.out.app ho6 (Nat.le_refl _) hg7)⟩
      · have hz' : (z == 0) = false := by simpa using hz
        go_wp2_with fail
        go_ret
        exact ⟨_, xs, rfl, ho6.mono (by omega), by omega, HD0.out.trans HD6.out⟩
end Go.Proofs.YtdedajohkdbdkaaGreatDoor
