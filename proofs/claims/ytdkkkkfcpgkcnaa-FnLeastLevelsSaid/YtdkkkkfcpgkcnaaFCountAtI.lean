/- Contract of CountKeysAt (of the program). Printed by wip/gen_two.py. -/
import Derived.Test.YtdkkkkfcpgkcnaaFCountAt
import Derived.Deep.DeepCutAuto
import Derived.Deep.Cut
import Derived.Deep.CutRange
namespace Go.Proofs.Ytdkkkkfcpgkcnaa
set_option linter.unusedVariables false
open Go.RowKit
theorem ri_far {w : World} {g o : Nat} {xs : List Int} {p : Addr} {v : Value} (h : RI w (some ⟨g, o, none⟩) xs) (hp : p.block ≠ g) : RI (w.setCell p v) (some ⟨g, o, none⟩) xs := by
  refine ⟨h.1, fun hn => ?_⟩
  obtain ⟨b, o', e, hc⟩ := h.2 hn
  injection e with e; injection e with e1 e2 _; subst e1 e2
  exact ⟨g, o, rfl, fun j u hu => (World.cell?_setCell_far _ _ _ _ hp).trans (hc j u hu)⟩
theorem sum_take {m : Mk} {ls : List Int} (hm : isMaker m = true) (h : areLevels m ls = true) (k : Nat) : sumI (ls.take k) = (restSum (ls.take k) : Int) := by
  have hb := mk_bounds hm
  have hg := areLevels_get h
  have := sumI_restGo (ls.take k) 0 (by omega) (fun x hx => by obtain ⟨i, hi, rfl⟩ := List.getElem_of_mem (List.mem_of_mem_take hx); have := hg.2.2 i hi; omega) (by rw [List.length_take]; omega)
  unfold sumI; omega
set_option maxRecDepth 100000 in
set_option maxHeartbeats 8000000 in
theorem implCountKeysAt_any (m : Mk) (A B D : Option Addr) (c d e : Nat) (ms ls ps : List Int) (w : World) (h : RI w A ms) (g : RI w B ls) (p : RI w D ps) (hcd : ls.length ≤ d) :
    Calls Try.prog 44 #[.agg #[.int .i64 m.c, .int .i64 m.d, .int .i64 m.s, .int .i64 m.a, .int .i64 m.l], .slice A ms.length c, .slice B ls.length d, .slice D ps.length e] w (ResNC w (countAtR m ms ls ps)) := by
  have B0 := ((Below.refl w.heap.size w).alloc (Nat.le_refl _) (.cells #[.int .i64 m.c, .int .i64 m.d, .int .i64 m.s, .int .i64 m.a, .int .i64 m.l] 45)).alloc (by simp only [World.size_alloc]; omega) (.cells #[.slice A ms.length c] 30)
  have bx : BoxC ((w.alloc (.cells #[.int .i64 m.c, .int .i64 m.d, .int .i64 m.s, .int .i64 m.a, .int .i64 m.l] 45)).alloc (.cells #[.slice A ms.length c] 30)) w.heap.size 0 [.int .i64 m.c, .int .i64 m.d, .int .i64 m.s, .int .i64 m.a, .int .i64 m.l] := by
    have : BoxC (w.alloc (.cells #[.int .i64 m.c, .int .i64 m.d, .int .i64 m.s, .int .i64 m.a, .int .i64 m.l] 45)) w.heap.size 0 [.int .i64 m.c, .int .i64 m.d, .int .i64 m.s, .int .i64 m.a, .int .i64 m.l] := by simp [BoxC, Go.World.cell?_alloc_at]
    exact this.below ((Below.refl _ _).alloc (Nat.le_refl _) _)
  have bm : BoxC ((w.alloc (.cells #[.int .i64 m.c, .int .i64 m.d, .int .i64 m.s, .int .i64 m.a, .int .i64 m.l] 45)).alloc (.cells #[.slice A ms.length c] 30)) (w.heap.size + 1) 0 [.slice A ms.length c] := by simp [BoxC, Go.World.cell?_alloc_at]
  have HCC := Lib.hid (levelsCode_any m A B D c d e ms ls ps ((w.alloc (.cells #[.int .i64 m.c, .int .i64 m.d, .int .i64 m.s, .int .i64 m.a, .int .i64 m.l] 45)).alloc (.cells #[.slice A ms.length c] 30)) (h.below B0) (g.below B0) (p.below B0))
  by_cases h1 : levelsCode m ms ls ps = 0
  rotate_left
  · have HN := Lib.hid (countAt_no h1)
    have t1 : (levelsCode m ms ls ps != 0) = true := by simpa using h1
    have H1 := Lib.hid h1; clear h1
    go_enter Try.func44, Try.ntmps44
    go_wp2_with fail
    refine HCC.out.mono ?_
    rintro e w1 ⟨rfl, b1⟩
    go_wp2_with fail
    go_ret2
    exact resNC_of HN.out (B0.trans (b1.mono B0.size))
  have HY0 := Lib.hid (countAt_yes h1)
  obtain ⟨hm, hc, hl, hp⟩ := lc_0_iff.1 h1
  have hpl := isPath_le hp
  rw [h1] at HCC
  have hms := (cutsOK_get hc).1
  have hmb := mk_bounds hm
  obtain ⟨cs, hcs⟩ : ∃ cs, cs = cutsAtF m ms ls ps := ⟨_, rfl⟩
  have hcl : (cs.length : Int) = m.c := by rw [hcs]; unfold cutsAtF; rw [outerC_len]; exact hms
  obtain ⟨fx, hfx⟩ : ∃ fx, fx = restSum (ls.take ps.length) := ⟨_, rfl⟩
  have HCU := Lib.hid (fun (W : World) (hW : Below w.heap.size w W) => show Calls Try.prog 110 #[.agg #[.int .i64 m.c, .int .i64 m.d, .int .i64 m.s, .int .i64 m.a, .int .i64 m.l], .slice A ms.length c, .slice B ls.length d, .slice D ps.length e] W (fun e w' => ∃ g9 c9, e = .returned (.slice (some ⟨g9, 0, none⟩) cs.length c9) ∧ W.heap.size ≤ g9 ∧ g9 < w'.heap.size ∧ RI w' (some ⟨g9, 0, none⟩) cs ∧ Below W.heap.size W w') from by
    refine (cutsAt_any m A B D c d e ms ls ps W (h.below hW) (g.below hW) (p.below hW) hm hc hl hp).mono ?_
    rintro e w' ⟨A9, c9, rfl, hc9, r9, o9, b9⟩
    rw [← hcs] at hc9 r9 o9 ⊢
    obtain ⟨g9, c9', e9, h91, h92, _⟩ := OV.open1 o9.1 (by omega)
    injection e9 with e91 e92 e93
    subst e91 e93
    exact ⟨g9, _, rfl, h91, h92, r9, b9⟩)
  have HSU := Lib.hid (fun (W : World) (hW : Below w.heap.size w W) => show Calls Try.prog 101 #[.slice B ps.length d] W (fun e w' => e = .returned (.int .i64 (fx : Int)) ∧ Below W.heap.size W w') from by
    have := sum_any B d (ls.take ps.length) W ((g.take ps.length).below hW)
    rw [List.length_take, Nat.min_eq_left hpl, sum_take hm hl, ← hfx] at this
    refine this.mono ?_
    rintro e w' ⟨rfl, rfl⟩
    exact ⟨rfl, Below.refl _ _⟩)
  have HKC := Lib.hid (show cntKA m ms ls ps = ((keysG m (atAl cs ms (fx : Int)) [] m.c.toNat [] false).length : Int) by rw [hcs, hfx]; rfl)
  have HM := Lib.hid (And.intro hm (And.intro hcl hms))
  have hgl := g.le; have hpl2 := p.le
  have i0 : (0 : Int) ≤ (ps.length : Int) := by omega
  have i1 : (ps.length : Int) ≤ (d : Int) := by omega
  have H1 := Lib.hid (And.intro h1 (And.intro hcs (And.intro hfx (And.intro hms (And.intro hcl hpl))))); clear h1 hm hc hl hp hcs hfx hms hcl hpl hmb
  go_enter Try.func44, Try.ntmps44
  go_wp2_with fail
  refine HCC.out.mono ?_
  rintro e w1 ⟨rfl, b1⟩
  have B1 := B0.trans (b1.mono B0.size)
  have HBX := Lib.hid (bx.below b1)
  have HBM := Lib.hid (bm.below b1)
  have HB1 := Lib.hid B1
  have KS := Lib.hid (show ∀ w' : World, Below w1.heap.size w1 w' → (w'.cell? ⟨w.heap.size, 0, none⟩ = some (.int .i64 m.c) ∧ w'.cell? ⟨w.heap.size, 1, none⟩ = some (.int .i64 m.d) ∧ w'.cell? ⟨w.heap.size, 2, none⟩ = some (.int .i64 m.s) ∧ w'.cell? ⟨w.heap.size, 3, none⟩ = some (.int .i64 m.a) ∧ w'.cell? ⟨w.heap.size, 4, none⟩ = some (.int .i64 m.l) ∧ True) ∧ (w'.cell? ⟨w.heap.size + 1, 0, none⟩ = some (.slice A ms.length c) ∧ True) from fun w' hw => ⟨HBX.out.below hw, HBM.out.below hw⟩)
  have HCU := Lib.hid (fun (W : World) (hW : Below w1.heap.size w1 W) => HCU.out W (HB1.out.trans (hW.mono HB1.out.size)))
  have HSU := Lib.hid (fun (W : World) (hW : Below w1.heap.size w1 W) => HSU.out W (HB1.out.trans (hW.mono HB1.out.size)))
  have HSZ := Lib.hid (show w.heap.size + 1 < w1.heap.size by have := b1.size; simp only [World.size_alloc] at this; omega)
  clear bx bm b1 B1 B0 HCC
  go_wp2_with fail
  go_cut [11, 12] (fun p0 p1 wx => ∃ (ba bb g9 c9 : Nat), p0 = .pointer (some ⟨ba, 0, none⟩) ∧ p1 = .pointer (some ⟨bb, 0, none⟩) ∧ wx.cell? ⟨ba, 0, none⟩ = some (.slice (some ⟨g9, 0, none⟩) cs.length c9) ∧ wx.cell? ⟨bb, 0, none⟩ = some (.int .i64 (fx : Int)) ∧ RI wx (some ⟨g9, 0, none⟩) cs ∧ Below w1.heap.size w1 wx)
  case first =>
    refine wp_region_held_drew (S := (fun w' => (w'.cell? ⟨w.heap.size, 0, none⟩ = some (.int .i64 m.c) ∧ w'.cell? ⟨w.heap.size, 1, none⟩ = some (.int .i64 m.d) ∧ w'.cell? ⟨w.heap.size, 2, none⟩ = some (.int .i64 m.s) ∧ w'.cell? ⟨w.heap.size, 3, none⟩ = some (.int .i64 m.a) ∧ w'.cell? ⟨w.heap.size, 4, none⟩ = some (.int .i64 m.l) ∧ True) ∧ (w'.cell? ⟨w.heap.size + 1, 0, none⟩ = some (.slice A ms.length c) ∧ True))) (by kernel_rfl) (KS.out _ (belowDrew0 _)) (fun hHeld => ?_)
    refine takeD (i := 0) (some 21) (.agg #[.int .i64 m.c, .int .i64 m.d, .int .i64 m.s, .int .i64 m.a, .int .i64 m.l]) rfl (by kernel_rfl) (by kernel_rfl) (by kernel_rfl) (by kernel_rfl) (fun _ _ _ h => h) (by assumption) (Or.inl ⟨by rfl, fun w hSw => by (try dsimp only at hSw); go_simp⟩) ?_
    simp only [Act.put, List.setIfInBounds_toArray, List.set_cons_zero, List.set_cons_succ]
    refine takeD (i := 1) (some 22) (.slice A ms.length c) rfl (by kernel_rfl) (by kernel_rfl) (by kernel_rfl) (by kernel_rfl) (fun _ _ _ h => h) (by assumption) (Or.inl ⟨by rfl, fun w hSw => by (try dsimp only at hSw); go_simp⟩) ?_
    simp only [Act.put, List.setIfInBounds_toArray, List.set_cons_zero, List.set_cons_succ]
    refine takeD (i := 2) (some 23) (.slice B ls.length d) rfl (by kernel_rfl) (by kernel_rfl) (by kernel_rfl) (by kernel_rfl) (fun _ _ _ h => h) (by assumption) (Or.inl ⟨by rfl, fun w hSw => by (try dsimp only at hSw); go_simp⟩) ?_
    simp only [Act.put, List.setIfInBounds_toArray, List.set_cons_zero, List.set_cons_succ]
    refine takeD (i := 3) (some 24) (.slice D ps.length e) rfl (by kernel_rfl) (by kernel_rfl) (by kernel_rfl) (by kernel_rfl) (fun _ _ _ h => h) (by assumption) (Or.inl ⟨by rfl, fun w hSw => by (try dsimp only at hSw); go_simp⟩) ?_
    simp only [Act.put, List.setIfInBounds_toArray, List.set_cons_zero, List.set_cons_succ]
    refine takeD (i := 5) (some 26) (.slice B ls.length d) rfl (by kernel_rfl) (by kernel_rfl) (by kernel_rfl) (by kernel_rfl) (fun _ _ _ h => h) (by assumption) (Or.inl ⟨by rfl, fun w hSw => by (try dsimp only at hSw); go_simp⟩) ?_
    simp only [Act.put, List.setIfInBounds_toArray, List.set_cons_zero, List.set_cons_succ]
    refine takeD (i := 6) (some 27) (.slice D ps.length e) rfl (by kernel_rfl) (by kernel_rfl) (by kernel_rfl) (by kernel_rfl) (fun _ _ _ h => h) (by assumption) (Or.inl ⟨by rfl, fun w hSw => by (try dsimp only at hSw); go_simp⟩) ?_
    simp only [Act.put, List.setIfInBounds_toArray, List.set_cons_zero, List.set_cons_succ]
    refine takeD (i := 7) (some 28) (.int .i64 (ps.length : Int)) rfl (by kernel_rfl) (by kernel_rfl) (by kernel_rfl) (by kernel_rfl) (fun _ _ _ h => h) (by assumption) (Or.inl ⟨by rfl, fun w hSw => by (try dsimp only at hSw); go_simp⟩) ?_
    simp only [Act.put, List.setIfInBounds_toArray, List.set_cons_zero, List.set_cons_succ]
    refine takeD (i := 8) (some 29) (.slice B ps.length d) rfl (by kernel_rfl) (by kernel_rfl) (by kernel_rfl) (by kernel_rfl) (fun _ _ _ h => h) (by assumption) (Or.inl ⟨by rfl, fun w hSw => by (try dsimp only at hSw); go_simp⟩) ?_
    simp only [Act.put, List.setIfInBounds_toArray, List.set_cons_zero, List.set_cons_succ]
    obtain ⟨W0, hW0⟩ : ∃ W, W = w1.drew := ⟨_, rfl⟩
    have HW0 := Lib.hid (show Below w1.heap.size w1 W0 by rw [hW0]; exact belowDrew0 w1)
    rw [← hW0]
    clear hW0
    have s0 : w1.heap.size ≤ W0.heap.size := HW0.out.size
    refine wpAnyH_ready (rs := [4, 10, 11]) (by kernel_rfl) (by simp) (AllReadyH.cons rfl (fun K hK => ?_) (AllReadyH.cons rfl (fun K hK => ?_) (AllReadyH.cons rfl (fun K hK => ?_) AllReadyH.nil)))
    · go_simp
      refine (HCU.out W0 HW0.out).mono ?_
      rintro e W1 ⟨g9, c9, rfl, lo9, hi9, r9, b1⟩
      have s1 := b1.size
      have HW1 := Lib.hid (HW0.out.trans (b1.mono HW0.out.size))
      have HHeld := KS.out _ HW1.out
      refine hK.out _ _ HHeld (fun _ => ?_)
      clear hK K
      try simp only [Act.put, List.setIfInBounds_toArray, List.set_cons_zero, List.set_cons_succ]
      clear b1
      refine wpAnyH_ready (rs := [9, 10, 11]) (by kernel_rfl) (by simp) (AllReadyH.cons rfl (fun K hK => ?_) (AllReadyH.cons rfl (fun K hK => ?_) (AllReadyH.cons rfl (fun K hK => ?_) AllReadyH.nil)))
      · go_simp
        refine (HSU.out W1 HW1.out).mono ?_
        rintro e W2 ⟨rfl, b2⟩
        have s2 := b2.size
        have HW2 := Lib.hid (HW1.out.trans (b2.mono HW1.out.size))
        have r9 := r9.below b2
        have HHeld := KS.out _ HW2.out
        refine hK.out _ _ HHeld (fun _ => ?_)
        clear hK K
        try simp only [Act.put, List.setIfInBounds_toArray, List.set_cons_zero, List.set_cons_succ]
        clear b2
        refine wpAnyH_ready (rs := [10, 11]) (by kernel_rfl) (by simp) (AllReadyH.cons rfl (fun K hK => ?_) (AllReadyH.cons rfl (fun K hK => ?_) AllReadyH.nil))
        · go_simp
          obtain ⟨W3, hW3⟩ : ∃ W, W = W2.alloc (.cells #[.slice none 0 0] 30) := ⟨_, rfl⟩
          have b3 : Below W2.heap.size W2 W3 := by rw [hW3]; exact (Below.refl _ _).alloc (Nat.le_refl _) _
          have s3 : W2.heap.size < W3.heap.size := by rw [hW3]; simp
          have Z10 := Lib.hid (show W3.cell? ⟨W2.heap.size, 0, none⟩ = some (.slice none 0 0) ∧ W3.frozen? ⟨W2.heap.size, 0, none⟩ = false ∧ W2.heap.size < W3.heap.size by rw [hW3]; simp)
          rw [← hW3]
          have HW3 := Lib.hid (HW2.out.trans (b3.mono HW2.out.size))
          have r9 := r9.below b3
          have HHeld := KS.out _ HW3.out
          refine hK.out _ _ HHeld (fun _ => ?_)
          clear hK K
          try simp only [Act.put, List.setIfInBounds_toArray, List.set_cons_zero, List.set_cons_succ]
          clear b3 hW3
          refine wpAnyH_ready (rs := [11]) (by kernel_rfl) (by simp) (AllReadyH.cons rfl (fun K hK => ?_) AllReadyH.nil)
          go_simp
          obtain ⟨W4, hW4⟩ : ∃ W, W = W3.alloc (.cells #[.int .i64 0] 2) := ⟨_, rfl⟩
          have b4 : Below W3.heap.size W3 W4 := by rw [hW4]; exact (Below.refl _ _).alloc (Nat.le_refl _) _
          have s4 : W3.heap.size < W4.heap.size := by rw [hW4]; simp
          have Z11 := Lib.hid (show W4.cell? ⟨W3.heap.size, 0, none⟩ = some (.int .i64 0) ∧ W4.frozen? ⟨W3.heap.size, 0, none⟩ = false ∧ W3.heap.size < W4.heap.size by rw [hW4]; simp)
          rw [← hW4]
          have HW4 := Lib.hid (HW3.out.trans (b4.mono HW3.out.size))
          have Z10 := Lib.hid (And.intro (cell_in b4 Z10.out.2.2 Z10.out.1) (And.intro ((b4.frozen (p := ⟨W2.heap.size, 0, none⟩) Z10.out.2.2).trans Z10.out.2.1) (Nat.lt_of_lt_of_le Z10.out.2.2 b4.size)))
          have r9 := r9.below b4
          have HHeld := KS.out _ HW4.out
          refine hK.out _ _ HHeld (fun _ => ?_)
          clear hK K
          try simp only [Act.put, List.setIfInBounds_toArray, List.set_cons_zero, List.set_cons_succ]
          clear b4 hW4
          have hAB : W2.heap.size ≠ W3.heap.size := by omega
          have hA9 : W2.heap.size ≠ g9 := by omega
          have hB9 : W3.heap.size ≠ g9 := by omega
          have hA0 : w1.heap.size ≤ W2.heap.size := by omega
          have hB0 : w1.heap.size ≤ W3.heap.size := by omega
          obtain ⟨cz, fz, _⟩ := Z10.out
          obtain ⟨cy, fy, _⟩ := Z11.out
          refine wpAnyH_ready (rs := [12]) (by kernel_rfl) (by simp) (AllReadyH.cons rfl (fun K hK => ?_) AllReadyH.nil)
          go_simp
          obtain ⟨X, hX⟩ : ∃ X, X = W4.setCell ⟨W2.heap.size, 0, none⟩ (.slice (some ⟨g9, 0, none⟩) cs.length c9) := ⟨_, rfl⟩
          have HX := Lib.hid (show Below w1.heap.size w1 X by rw [hX]; exact Below.setCell HW4.out (p := ⟨W2.heap.size, 0, none⟩) hA0 _)
          have xz : X.cell? ⟨W2.heap.size, 0, none⟩ = some (.slice (some ⟨g9, 0, none⟩) cs.length c9) := by rw [hX]; exact World.cell?_setCell_same _ _ _ cz
          have xy : X.cell? ⟨W3.heap.size, 0, none⟩ = some (.int .i64 0) := by rw [hX]; exact (World.cell?_setCell_far _ _ _ _ hAB).trans cy
          have xf : X.frozen? ⟨W3.heap.size, 0, none⟩ = false := by rw [hX]; exact (World.frozen?_setCell _ _ _ _).trans fy
          have r9 : RI X (some ⟨g9, 0, none⟩) cs := by rw [hX]; exact ri_far r9 hA9
          rw [← hX]
          clear cz fz cy fy hX
          have HHeld := KS.out _ HX.out
          refine hK.out _ _ HHeld (fun _ => ?_)
          clear hK K
          try simp only [Act.put, List.setIfInBounds_toArray, List.set_cons_zero, List.set_cons_succ]
          refine wpAnyH_ready (rs := [13]) (by kernel_rfl) (by simp) (AllReadyH.cons rfl (fun K hK => ?_) AllReadyH.nil)
          go_simp
          have HY := Lib.hid (Below.setCell HX.out (p := ⟨W3.heap.size, 0, none⟩) hB0 (.int .i64 (fx : Int)))
          have HHeld := KS.out _ HY.out
          refine hK.out _ _ HHeld (fun _ => ?_)
          clear hK K
          try simp only [Act.put, List.setIfInBounds_toArray, List.set_cons_zero, List.set_cons_succ]
          refine wpAnyH_done (by kernel_rfl) ?_ _
          go_wp2_with fail
          go_meet
          exact ⟨W2.heap.size, W3.heap.size, g9, c9, rfl, rfl, (World.cell?_setCell_far _ _ _ _ (Ne.symm hAB)).trans xz, World.cell?_setCell_same _ _ _ xy, ri_far r9 hB9, HY.out⟩
        · go_simp
          obtain ⟨W3, hW3⟩ : ∃ W, W = W2.alloc (.cells #[.int .i64 0] 2) := ⟨_, rfl⟩
          have b3 : Below W2.heap.size W2 W3 := by rw [hW3]; exact (Below.refl _ _).alloc (Nat.le_refl _) _
          have s3 : W2.heap.size < W3.heap.size := by rw [hW3]; simp
          have Z11 := Lib.hid (show W3.cell? ⟨W2.heap.size, 0, none⟩ = some (.int .i64 0) ∧ W3.frozen? ⟨W2.heap.size, 0, none⟩ = false ∧ W2.heap.size < W3.heap.size by rw [hW3]; simp)
          rw [← hW3]
          have HW3 := Lib.hid (HW2.out.trans (b3.mono HW2.out.size))
          have r9 := r9.below b3
          have HHeld := KS.out _ HW3.out
          refine hK.out _ _ HHeld (fun _ => ?_)
          clear hK K
          try simp only [Act.put, List.setIfInBounds_toArray, List.set_cons_zero, List.set_cons_succ]
          clear b3 hW3
          refine wpAnyH_ready (rs := [10]) (by kernel_rfl) (by simp) (AllReadyH.cons rfl (fun K hK => ?_) AllReadyH.nil)
          go_simp
          obtain ⟨W4, hW4⟩ : ∃ W, W = W3.alloc (.cells #[.slice none 0 0] 30) := ⟨_, rfl⟩
          have b4 : Below W3.heap.size W3 W4 := by rw [hW4]; exact (Below.refl _ _).alloc (Nat.le_refl _) _
          have s4 : W3.heap.size < W4.heap.size := by rw [hW4]; simp
          have Z10 := Lib.hid (show W4.cell? ⟨W3.heap.size, 0, none⟩ = some (.slice none 0 0) ∧ W4.frozen? ⟨W3.heap.size, 0, none⟩ = false ∧ W3.heap.size < W4.heap.size by rw [hW4]; simp)
          rw [← hW4]
          have HW4 := Lib.hid (HW3.out.trans (b4.mono HW3.out.size))
          have Z11 := Lib.hid (And.intro (cell_in b4 Z11.out.2.2 Z11.out.1) (And.intro ((b4.frozen (p := ⟨W2.heap.size, 0, none⟩) Z11.out.2.2).trans Z11.out.2.1) (Nat.lt_of_lt_of_le Z11.out.2.2 b4.size)))
          have r9 := r9.below b4
          have HHeld := KS.out _ HW4.out
          refine hK.out _ _ HHeld (fun _ => ?_)
          clear hK K
          try simp only [Act.put, List.setIfInBounds_toArray, List.set_cons_zero, List.set_cons_succ]
          clear b4 hW4
          have hAB : W3.heap.size ≠ W2.heap.size := by omega
          have hA9 : W3.heap.size ≠ g9 := by omega
          have hB9 : W2.heap.size ≠ g9 := by omega
          have hA0 : w1.heap.size ≤ W3.heap.size := by omega
          have hB0 : w1.heap.size ≤ W2.heap.size := by omega
          obtain ⟨cz, fz, _⟩ := Z10.out
          obtain ⟨cy, fy, _⟩ := Z11.out
          refine wpAnyH_ready (rs := [12]) (by kernel_rfl) (by simp) (AllReadyH.cons rfl (fun K hK => ?_) AllReadyH.nil)
          go_simp
          obtain ⟨X, hX⟩ : ∃ X, X = W4.setCell ⟨W3.heap.size, 0, none⟩ (.slice (some ⟨g9, 0, none⟩) cs.length c9) := ⟨_, rfl⟩
          have HX := Lib.hid (show Below w1.heap.size w1 X by rw [hX]; exact Below.setCell HW4.out (p := ⟨W3.heap.size, 0, none⟩) hA0 _)
          have xz : X.cell? ⟨W3.heap.size, 0, none⟩ = some (.slice (some ⟨g9, 0, none⟩) cs.length c9) := by rw [hX]; exact World.cell?_setCell_same _ _ _ cz
          have xy : X.cell? ⟨W2.heap.size, 0, none⟩ = some (.int .i64 0) := by rw [hX]; exact (World.cell?_setCell_far _ _ _ _ hAB).trans cy
          have xf : X.frozen? ⟨W2.heap.size, 0, none⟩ = false := by rw [hX]; exact (World.frozen?_setCell _ _ _ _).trans fy
          have r9 : RI X (some ⟨g9, 0, none⟩) cs := by rw [hX]; exact ri_far r9 hA9
          rw [← hX]
          clear cz fz cy fy hX
          have HHeld := KS.out _ HX.out
          refine hK.out _ _ HHeld (fun _ => ?_)
          clear hK K
          try simp only [Act.put, List.setIfInBounds_toArray, List.set_cons_zero, List.set_cons_succ]
          refine wpAnyH_ready (rs := [13]) (by kernel_rfl) (by simp) (AllReadyH.cons rfl (fun K hK => ?_) AllReadyH.nil)
          go_simp
          have HY := Lib.hid (Below.setCell HX.out (p := ⟨W2.heap.size, 0, none⟩) hB0 (.int .i64 (fx : Int)))
          have HHeld := KS.out _ HY.out
          refine hK.out _ _ HHeld (fun _ => ?_)
          clear hK K
          try simp only [Act.put, List.setIfInBounds_toArray, List.set_cons_zero, List.set_cons_succ]
          refine wpAnyH_done (by kernel_rfl) ?_ _
          go_wp2_with fail
          go_meet
          exact ⟨W3.heap.size, W2.heap.size, g9, c9, rfl, rfl, (World.cell?_setCell_far _ _ _ _ (Ne.symm hAB)).trans xz, World.cell?_setCell_same _ _ _ xy, ri_far r9 hB9, HY.out⟩
      · go_simp
        obtain ⟨W2, hW2⟩ : ∃ W, W = W1.alloc (.cells #[.slice none 0 0] 30) := ⟨_, rfl⟩
        have b2 : Below W1.heap.size W1 W2 := by rw [hW2]; exact (Below.refl _ _).alloc (Nat.le_refl _) _
        have s2 : W1.heap.size < W2.heap.size := by rw [hW2]; simp
        have Z10 := Lib.hid (show W2.cell? ⟨W1.heap.size, 0, none⟩ = some (.slice none 0 0) ∧ W2.frozen? ⟨W1.heap.size, 0, none⟩ = false ∧ W1.heap.size < W2.heap.size by rw [hW2]; simp)
        rw [← hW2]
        have HW2 := Lib.hid (HW1.out.trans (b2.mono HW1.out.size))
        have r9 := r9.below b2
        have HHeld := KS.out _ HW2.out
        refine hK.out _ _ HHeld (fun _ => ?_)
        clear hK K
        try simp only [Act.put, List.setIfInBounds_toArray, List.set_cons_zero, List.set_cons_succ]
        clear b2 hW2
        refine wpAnyH_ready (rs := [9, 11]) (by kernel_rfl) (by simp) (AllReadyH.cons rfl (fun K hK => ?_) (AllReadyH.cons rfl (fun K hK => ?_) AllReadyH.nil))
        · go_simp
          refine (HSU.out W2 HW2.out).mono ?_
          rintro e W3 ⟨rfl, b3⟩
          have s3 := b3.size
          have HW3 := Lib.hid (HW2.out.trans (b3.mono HW2.out.size))
          have Z10 := Lib.hid (And.intro (cell_in b3 Z10.out.2.2 Z10.out.1) (And.intro ((b3.frozen (p := ⟨W1.heap.size, 0, none⟩) Z10.out.2.2).trans Z10.out.2.1) (Nat.lt_of_lt_of_le Z10.out.2.2 b3.size)))
          have r9 := r9.below b3
          have HHeld := KS.out _ HW3.out
          refine hK.out _ _ HHeld (fun _ => ?_)
          clear hK K
          try simp only [Act.put, List.setIfInBounds_toArray, List.set_cons_zero, List.set_cons_succ]
          clear b3
          refine wpAnyH_ready (rs := [11]) (by kernel_rfl) (by simp) (AllReadyH.cons rfl (fun K hK => ?_) AllReadyH.nil)
          go_simp
          obtain ⟨W4, hW4⟩ : ∃ W, W = W3.alloc (.cells #[.int .i64 0] 2) := ⟨_, rfl⟩
          have b4 : Below W3.heap.size W3 W4 := by rw [hW4]; exact (Below.refl _ _).alloc (Nat.le_refl _) _
          have s4 : W3.heap.size < W4.heap.size := by rw [hW4]; simp
          have Z11 := Lib.hid (show W4.cell? ⟨W3.heap.size, 0, none⟩ = some (.int .i64 0) ∧ W4.frozen? ⟨W3.heap.size, 0, none⟩ = false ∧ W3.heap.size < W4.heap.size by rw [hW4]; simp)
          rw [← hW4]
          have HW4 := Lib.hid (HW3.out.trans (b4.mono HW3.out.size))
          have Z10 := Lib.hid (And.intro (cell_in b4 Z10.out.2.2 Z10.out.1) (And.intro ((b4.frozen (p := ⟨W1.heap.size, 0, none⟩) Z10.out.2.2).trans Z10.out.2.1) (Nat.lt_of_lt_of_le Z10.out.2.2 b4.size)))
          have r9 := r9.below b4
          have HHeld := KS.out _ HW4.out
          refine hK.out _ _ HHeld (fun _ => ?_)
          clear hK K
          try simp only [Act.put, List.setIfInBounds_toArray, List.set_cons_zero, List.set_cons_succ]
          clear b4 hW4
          have hAB : W1.heap.size ≠ W3.heap.size := by omega
          have hA9 : W1.heap.size ≠ g9 := by omega
          have hB9 : W3.heap.size ≠ g9 := by omega
          have hA0 : w1.heap.size ≤ W1.heap.size := by omega
          have hB0 : w1.heap.size ≤ W3.heap.size := by omega
          obtain ⟨cz, fz, _⟩ := Z10.out
          obtain ⟨cy, fy, _⟩ := Z11.out
          refine wpAnyH_ready (rs := [12]) (by kernel_rfl) (by simp) (AllReadyH.cons rfl (fun K hK => ?_) AllReadyH.nil)
          go_simp
          obtain ⟨X, hX⟩ : ∃ X, X = W4.setCell ⟨W1.heap.size, 0, none⟩ (.slice (some ⟨g9, 0, none⟩) cs.length c9) := ⟨_, rfl⟩
          have HX := Lib.hid (show Below w1.heap.size w1 X by rw [hX]; exact Below.setCell HW4.out (p := ⟨W1.heap.size, 0, none⟩) hA0 _)
          have xz : X.cell? ⟨W1.heap.size, 0, none⟩ = some (.slice (some ⟨g9, 0, none⟩) cs.length c9) := by rw [hX]; exact World.cell?_setCell_same _ _ _ cz
          have xy : X.cell? ⟨W3.heap.size, 0, none⟩ = some (.int .i64 0) := by rw [hX]; exact (World.cell?_setCell_far _ _ _ _ hAB).trans cy
          have xf : X.frozen? ⟨W3.heap.size, 0, none⟩ = false := by rw [hX]; exact (World.frozen?_setCell _ _ _ _).trans fy
          have r9 : RI X (some ⟨g9, 0, none⟩) cs := by rw [hX]; exact ri_far r9 hA9
          rw [← hX]
          clear cz fz cy fy hX
          have HHeld := KS.out _ HX.out
          refine hK.out _ _ HHeld (fun _ => ?_)
          clear hK K
          try simp only [Act.put, List.setIfInBounds_toArray, List.set_cons_zero, List.set_cons_succ]
          refine wpAnyH_ready (rs := [13]) (by kernel_rfl) (by simp) (AllReadyH.cons rfl (fun K hK => ?_) AllReadyH.nil)
          go_simp
          have HY := Lib.hid (Below.setCell HX.out (p := ⟨W3.heap.size, 0, none⟩) hB0 (.int .i64 (fx : Int)))
          have HHeld := KS.out _ HY.out
          refine hK.out _ _ HHeld (fun _ => ?_)
          clear hK K
          try simp only [Act.put, List.setIfInBounds_toArray, List.set_cons_zero, List.set_cons_succ]
          refine wpAnyH_done (by kernel_rfl) ?_ _
          go_wp2_with fail
          go_meet
          exact ⟨W1.heap.size, W3.heap.size, g9, c9, rfl, rfl, (World.cell?_setCell_far _ _ _ _ (Ne.symm hAB)).trans xz, World.cell?_setCell_same _ _ _ xy, ri_far r9 hB9, HY.out⟩
        · go_simp
          obtain ⟨W3, hW3⟩ : ∃ W, W = W2.alloc (.cells #[.int .i64 0] 2) := ⟨_, rfl⟩
          have b3 : Below W2.heap.size W2 W3 := by rw [hW3]; exact (Below.refl _ _).alloc (Nat.le_refl _) _
          have s3 : W2.heap.size < W3.heap.size := by rw [hW3]; simp
          have Z11 := Lib.hid (show W3.cell? ⟨W2.heap.size, 0, none⟩ = some (.int .i64 0) ∧ W3.frozen? ⟨W2.heap.size, 0, none⟩ = false ∧ W2.heap.size < W3.heap.size by rw [hW3]; simp)
          rw [← hW3]
          have HW3 := Lib.hid (HW2.out.trans (b3.mono HW2.out.size))
          have Z10 := Lib.hid (And.intro (cell_in b3 Z10.out.2.2 Z10.out.1) (And.intro ((b3.frozen (p := ⟨W1.heap.size, 0, none⟩) Z10.out.2.2).trans Z10.out.2.1) (Nat.lt_of_lt_of_le Z10.out.2.2 b3.size)))
          have r9 := r9.below b3
          have HHeld := KS.out _ HW3.out
          refine hK.out _ _ HHeld (fun _ => ?_)
          clear hK K
          try simp only [Act.put, List.setIfInBounds_toArray, List.set_cons_zero, List.set_cons_succ]
          clear b3 hW3
          refine wpAnyH_ready (rs := [9]) (by kernel_rfl) (by simp) (AllReadyH.cons rfl (fun K hK => ?_) AllReadyH.nil)
          go_simp
          refine (HSU.out W3 HW3.out).mono ?_
          rintro e W4 ⟨rfl, b4⟩
          have s4 := b4.size
          have HW4 := Lib.hid (HW3.out.trans (b4.mono HW3.out.size))
          have Z10 := Lib.hid (And.intro (cell_in b4 Z10.out.2.2 Z10.out.1) (And.intro ((b4.frozen (p := ⟨W1.heap.size, 0, none⟩) Z10.out.2.2).trans Z10.out.2.1) (Nat.lt_of_lt_of_le Z10.out.2.2 b4.size)))
          have Z11 := Lib.hid (And.intro (cell_in b4 Z11.out.2.2 Z11.out.1) (And.intro ((b4.frozen (p := ⟨W2.heap.size, 0, none⟩) Z11.out.2.2).trans Z11.out.2.1) (Nat.lt_of_lt_of_le Z11.out.2.2 b4.size)))
          have r9 := r9.below b4
          have HHeld := KS.out _ HW4.out
          refine hK.out _ _ HHeld (fun _ => ?_)
          clear hK K
          try simp only [Act.put, List.setIfInBounds_toArray, List.set_cons_zero, List.set_cons_succ]
          clear b4
          have hAB : W1.heap.size ≠ W2.heap.size := by omega
          have hA9 : W1.heap.size ≠ g9 := by omega
          have hB9 : W2.heap.size ≠ g9 := by omega
          have hA0 : w1.heap.size ≤ W1.heap.size := by omega
          have hB0 : w1.heap.size ≤ W2.heap.size := by omega
          obtain ⟨cz, fz, _⟩ := Z10.out
          obtain ⟨cy, fy, _⟩ := Z11.out
          refine wpAnyH_ready (rs := [12]) (by kernel_rfl) (by simp) (AllReadyH.cons rfl (fun K hK => ?_) AllReadyH.nil)
          go_simp
          obtain ⟨X, hX⟩ : ∃ X, X = W4.setCell ⟨W1.heap.size, 0, none⟩ (.slice (some ⟨g9, 0, none⟩) cs.length c9) := ⟨_, rfl⟩
          have HX := Lib.hid (show Below w1.heap.size w1 X by rw [hX]; exact Below.setCell HW4.out (p := ⟨W1.heap.size, 0, none⟩) hA0 _)
          have xz : X.cell? ⟨W1.heap.size, 0, none⟩ = some (.slice (some ⟨g9, 0, none⟩) cs.length c9) := by rw [hX]; exact World.cell?_setCell_same _ _ _ cz
          have xy : X.cell? ⟨W2.heap.size, 0, none⟩ = some (.int .i64 0) := by rw [hX]; exact (World.cell?_setCell_far _ _ _ _ hAB).trans cy
          have xf : X.frozen? ⟨W2.heap.size, 0, none⟩ = false := by rw [hX]; exact (World.frozen?_setCell _ _ _ _).trans fy
          have r9 : RI X (some ⟨g9, 0, none⟩) cs := by rw [hX]; exact ri_far r9 hA9
          rw [← hX]
          clear cz fz cy fy hX
          have HHeld := KS.out _ HX.out
          refine hK.out _ _ HHeld (fun _ => ?_)
          clear hK K
          try simp only [Act.put, List.setIfInBounds_toArray, List.set_cons_zero, List.set_cons_succ]
          refine wpAnyH_ready (rs := [13]) (by kernel_rfl) (by simp) (AllReadyH.cons rfl (fun K hK => ?_) AllReadyH.nil)
          go_simp
          have HY := Lib.hid (Below.setCell HX.out (p := ⟨W2.heap.size, 0, none⟩) hB0 (.int .i64 (fx : Int)))
          have HHeld := KS.out _ HY.out
          refine hK.out _ _ HHeld (fun _ => ?_)
          clear hK K
          try simp only [Act.put, List.setIfInBounds_toArray, List.set_cons_zero, List.set_cons_succ]
          refine wpAnyH_done (by kernel_rfl) ?_ _
          go_wp2_with fail
          go_meet
          exact ⟨W1.heap.size, W2.heap.size, g9, c9, rfl, rfl, (World.cell?_setCell_far _ _ _ _ (Ne.symm hAB)).trans xz, World.cell?_setCell_same _ _ _ xy, ri_far r9 hB9, HY.out⟩
      · go_simp
        obtain ⟨W2, hW2⟩ : ∃ W, W = W1.alloc (.cells #[.int .i64 0] 2) := ⟨_, rfl⟩
        have b2 : Below W1.heap.size W1 W2 := by rw [hW2]; exact (Below.refl _ _).alloc (Nat.le_refl _) _
        have s2 : W1.heap.size < W2.heap.size := by rw [hW2]; simp
        have Z11 := Lib.hid (show W2.cell? ⟨W1.heap.size, 0, none⟩ = some (.int .i64 0) ∧ W2.frozen? ⟨W1.heap.size, 0, none⟩ = false ∧ W1.heap.size < W2.heap.size by rw [hW2]; simp)
        rw [← hW2]
        have HW2 := Lib.hid (HW1.out.trans (b2.mono HW1.out.size))
        have r9 := r9.below b2
        have HHeld := KS.out _ HW2.out
        refine hK.out _ _ HHeld (fun _ => ?_)
        clear hK K
        try simp only [Act.put, List.setIfInBounds_toArray, List.set_cons_zero, List.set_cons_succ]
        clear b2 hW2
        refine wpAnyH_ready (rs := [9, 10]) (by kernel_rfl) (by simp) (AllReadyH.cons rfl (fun K hK => ?_) (AllReadyH.cons rfl (fun K hK => ?_) AllReadyH.nil))
        · go_simp
          refine (HSU.out W2 HW2.out).mono ?_
          rintro e W3 ⟨rfl, b3⟩
          have s3 := b3.size
          have HW3 := Lib.hid (HW2.out.trans (b3.mono HW2.out.size))
          have Z11 := Lib.hid (And.intro (cell_in b3 Z11.out.2.2 Z11.out.1) (And.intro ((b3.frozen (p := ⟨W1.heap.size, 0, none⟩) Z11.out.2.2).trans Z11.out.2.1) (Nat.lt_of_lt_of_le Z11.out.2.2 b3.size)))
          have r9 := r9.below b3
          have HHeld := KS.out _ HW3.out
          refine hK.out _ _ HHeld (fun _ => ?_)
          clear hK K
          try simp only [Act.put, List.setIfInBounds_toArray, List.set_cons_zero, List.set_cons_succ]
          clear b3
          refine wpAnyH_ready (rs := [10]) (by kernel_rfl) (by simp) (AllReadyH.cons rfl (fun K hK => ?_) AllReadyH.nil)
          go_simp
          obtain ⟨W4, hW4⟩ : ∃ W, W = W3.alloc (.cells #[.slice none 0 0] 30) := ⟨_, rfl⟩
          have b4 : Below W3.heap.size W3 W4 := by rw [hW4]; exact (Below.refl _ _).alloc (Nat.le_refl _) _
          have s4 : W3.heap.size < W4.heap.size := by rw [hW4]; simp
          have Z10 := Lib.hid (show W4.cell? ⟨W3.heap.size, 0, none⟩ = some (.slice none 0 0) ∧ W4.frozen? ⟨W3.heap.size, 0, none⟩ = false ∧ W3.heap.size < W4.heap.size by rw [hW4]; simp)
          rw [← hW4]
          have HW4 := Lib.hid (HW3.out.trans (b4.mono HW3.out.size))
          have Z11 := Lib.hid (And.intro (cell_in b4 Z11.out.2.2 Z11.out.1) (And.intro ((b4.frozen (p := ⟨W1.heap.size, 0, none⟩) Z11.out.2.2).trans Z11.out.2.1) (Nat.lt_of_lt_of_le Z11.out.2.2 b4.size)))
          have r9 := r9.below b4
          have HHeld := KS.out _ HW4.out
          refine hK.out _ _ HHeld (fun _ => ?_)
          clear hK K
          try simp only [Act.put, List.setIfInBounds_toArray, List.set_cons_zero, List.set_cons_succ]
          clear b4 hW4
          have hAB : W3.heap.size ≠ W1.heap.size := by omega
          have hA9 : W3.heap.size ≠ g9 := by omega
          have hB9 : W1.heap.size ≠ g9 := by omega
          have hA0 : w1.heap.size ≤ W3.heap.size := by omega
          have hB0 : w1.heap.size ≤ W1.heap.size := by omega
          obtain ⟨cz, fz, _⟩ := Z10.out
          obtain ⟨cy, fy, _⟩ := Z11.out
          refine wpAnyH_ready (rs := [12]) (by kernel_rfl) (by simp) (AllReadyH.cons rfl (fun K hK => ?_) AllReadyH.nil)
          go_simp
          obtain ⟨X, hX⟩ : ∃ X, X = W4.setCell ⟨W3.heap.size, 0, none⟩ (.slice (some ⟨g9, 0, none⟩) cs.length c9) := ⟨_, rfl⟩
          have HX := Lib.hid (show Below w1.heap.size w1 X by rw [hX]; exact Below.setCell HW4.out (p := ⟨W3.heap.size, 0, none⟩) hA0 _)
          have xz : X.cell? ⟨W3.heap.size, 0, none⟩ = some (.slice (some ⟨g9, 0, none⟩) cs.length c9) := by rw [hX]; exact World.cell?_setCell_same _ _ _ cz
          have xy : X.cell? ⟨W1.heap.size, 0, none⟩ = some (.int .i64 0) := by rw [hX]; exact (World.cell?_setCell_far _ _ _ _ hAB).trans cy
          have xf : X.frozen? ⟨W1.heap.size, 0, none⟩ = false := by rw [hX]; exact (World.frozen?_setCell _ _ _ _).trans fy
          have r9 : RI X (some ⟨g9, 0, none⟩) cs := by rw [hX]; exact ri_far r9 hA9
          rw [← hX]
          clear cz fz cy fy hX
          have HHeld := KS.out _ HX.out
          refine hK.out _ _ HHeld (fun _ => ?_)
          clear hK K
          try simp only [Act.put, List.setIfInBounds_toArray, List.set_cons_zero, List.set_cons_succ]
          refine wpAnyH_ready (rs := [13]) (by kernel_rfl) (by simp) (AllReadyH.cons rfl (fun K hK => ?_) AllReadyH.nil)
          go_simp
          have HY := Lib.hid (Below.setCell HX.out (p := ⟨W1.heap.size, 0, none⟩) hB0 (.int .i64 (fx : Int)))
          have HHeld := KS.out _ HY.out
          refine hK.out _ _ HHeld (fun _ => ?_)
          clear hK K
          try simp only [Act.put, List.setIfInBounds_toArray, List.set_cons_zero, List.set_cons_succ]
          refine wpAnyH_done (by kernel_rfl) ?_ _
          go_wp2_with fail
          go_meet
          exact ⟨W3.heap.size, W1.heap.size, g9, c9, rfl, rfl, (World.cell?_setCell_far _ _ _ _ (Ne.symm hAB)).trans xz, World.cell?_setCell_same _ _ _ xy, ri_far r9 hB9, HY.out⟩
        · go_simp
          obtain ⟨W3, hW3⟩ : ∃ W, W = W2.alloc (.cells #[.slice none 0 0] 30) := ⟨_, rfl⟩
          have b3 : Below W2.heap.size W2 W3 := by rw [hW3]; exact (Below.refl _ _).alloc (Nat.le_refl _) _
          have s3 : W2.heap.size < W3.heap.size := by rw [hW3]; simp
          have Z10 := Lib.hid (show W3.cell? ⟨W2.heap.size, 0, none⟩ = some (.slice none 0 0) ∧ W3.frozen? ⟨W2.heap.size, 0, none⟩ = false ∧ W2.heap.size < W3.heap.size by rw [hW3]; simp)
          rw [← hW3]
          have HW3 := Lib.hid (HW2.out.trans (b3.mono HW2.out.size))
          have Z11 := Lib.hid (And.intro (cell_in b3 Z11.out.2.2 Z11.out.1) (And.intro ((b3.frozen (p := ⟨W1.heap.size, 0, none⟩) Z11.out.2.2).trans Z11.out.2.1) (Nat.lt_of_lt_of_le Z11.out.2.2 b3.size)))
          have r9 := r9.below b3
          have HHeld := KS.out _ HW3.out
          refine hK.out _ _ HHeld (fun _ => ?_)
          clear hK K
          try simp only [Act.put, List.setIfInBounds_toArray, List.set_cons_zero, List.set_cons_succ]
          clear b3 hW3
          refine wpAnyH_ready (rs := [9]) (by kernel_rfl) (by simp) (AllReadyH.cons rfl (fun K hK => ?_) AllReadyH.nil)
          go_simp
          refine (HSU.out W3 HW3.out).mono ?_
          rintro e W4 ⟨rfl, b4⟩
          have s4 := b4.size
          have HW4 := Lib.hid (HW3.out.trans (b4.mono HW3.out.size))
          have Z10 := Lib.hid (And.intro (cell_in b4 Z10.out.2.2 Z10.out.1) (And.intro ((b4.frozen (p := ⟨W2.heap.size, 0, none⟩) Z10.out.2.2).trans Z10.out.2.1) (Nat.lt_of_lt_of_le Z10.out.2.2 b4.size)))
          have Z11 := Lib.hid (And.intro (cell_in b4 Z11.out.2.2 Z11.out.1) (And.intro ((b4.frozen (p := ⟨W1.heap.size, 0, none⟩) Z11.out.2.2).trans Z11.out.2.1) (Nat.lt_of_lt_of_le Z11.out.2.2 b4.size)))
          have r9 := r9.below b4
          have HHeld := KS.out _ HW4.out
          refine hK.out _ _ HHeld (fun _ => ?_)
          clear hK K
          try simp only [Act.put, List.setIfInBounds_toArray, List.set_cons_zero, List.set_cons_succ]
          clear b4
          have hAB : W2.heap.size ≠ W1.heap.size := by omega
          have hA9 : W2.heap.size ≠ g9 := by omega
          have hB9 : W1.heap.size ≠ g9 := by omega
          have hA0 : w1.heap.size ≤ W2.heap.size := by omega
          have hB0 : w1.heap.size ≤ W1.heap.size := by omega
          obtain ⟨cz, fz, _⟩ := Z10.out
          obtain ⟨cy, fy, _⟩ := Z11.out
          refine wpAnyH_ready (rs := [12]) (by kernel_rfl) (by simp) (AllReadyH.cons rfl (fun K hK => ?_) AllReadyH.nil)
          go_simp
          obtain ⟨X, hX⟩ : ∃ X, X = W4.setCell ⟨W2.heap.size, 0, none⟩ (.slice (some ⟨g9, 0, none⟩) cs.length c9) := ⟨_, rfl⟩
          have HX := Lib.hid (show Below w1.heap.size w1 X by rw [hX]; exact Below.setCell HW4.out (p := ⟨W2.heap.size, 0, none⟩) hA0 _)
          have xz : X.cell? ⟨W2.heap.size, 0, none⟩ = some (.slice (some ⟨g9, 0, none⟩) cs.length c9) := by rw [hX]; exact World.cell?_setCell_same _ _ _ cz
          have xy : X.cell? ⟨W1.heap.size, 0, none⟩ = some (.int .i64 0) := by rw [hX]; exact (World.cell?_setCell_far _ _ _ _ hAB).trans cy
          have xf : X.frozen? ⟨W1.heap.size, 0, none⟩ = false := by rw [hX]; exact (World.frozen?_setCell _ _ _ _).trans fy
          have r9 : RI X (some ⟨g9, 0, none⟩) cs := by rw [hX]; exact ri_far r9 hA9
          rw [← hX]
          clear cz fz cy fy hX
          have HHeld := KS.out _ HX.out
          refine hK.out _ _ HHeld (fun _ => ?_)
          clear hK K
          try simp only [Act.put, List.setIfInBounds_toArray, List.set_cons_zero, List.set_cons_succ]
          refine wpAnyH_ready (rs := [13]) (by kernel_rfl) (by simp) (AllReadyH.cons rfl (fun K hK => ?_) AllReadyH.nil)
          go_simp
          have HY := Lib.hid (Below.setCell HX.out (p := ⟨W1.heap.size, 0, none⟩) hB0 (.int .i64 (fx : Int)))
          have HHeld := KS.out _ HY.out
          refine hK.out _ _ HHeld (fun _ => ?_)
          clear hK K
          try simp only [Act.put, List.setIfInBounds_toArray, List.set_cons_zero, List.set_cons_succ]
          refine wpAnyH_done (by kernel_rfl) ?_ _
          go_wp2_with fail
          go_meet
          exact ⟨W2.heap.size, W1.heap.size, g9, c9, rfl, rfl, (World.cell?_setCell_far _ _ _ _ (Ne.symm hAB)).trans xz, World.cell?_setCell_same _ _ _ xy, ri_far r9 hB9, HY.out⟩
    · go_simp
      obtain ⟨W1, hW1⟩ : ∃ W, W = W0.alloc (.cells #[.slice none 0 0] 30) := ⟨_, rfl⟩
      have b1 : Below W0.heap.size W0 W1 := by rw [hW1]; exact (Below.refl _ _).alloc (Nat.le_refl _) _
      have s1 : W0.heap.size < W1.heap.size := by rw [hW1]; simp
      have Z10 := Lib.hid (show W1.cell? ⟨W0.heap.size, 0, none⟩ = some (.slice none 0 0) ∧ W1.frozen? ⟨W0.heap.size, 0, none⟩ = false ∧ W0.heap.size < W1.heap.size by rw [hW1]; simp)
      rw [← hW1]
      have HW1 := Lib.hid (HW0.out.trans (b1.mono HW0.out.size))
      have HHeld := KS.out _ HW1.out
      refine hK.out _ _ HHeld (fun _ => ?_)
      clear hK K
      try simp only [Act.put, List.setIfInBounds_toArray, List.set_cons_zero, List.set_cons_succ]
      clear b1 hW1
      refine wpAnyH_ready (rs := [4, 11]) (by kernel_rfl) (by simp) (AllReadyH.cons rfl (fun K hK => ?_) (AllReadyH.cons rfl (fun K hK => ?_) AllReadyH.nil))
      · go_simp
        refine (HCU.out W1 HW1.out).mono ?_
        rintro e W2 ⟨g9, c9, rfl, lo9, hi9, r9, b2⟩
        have s2 := b2.size
        have HW2 := Lib.hid (HW1.out.trans (b2.mono HW1.out.size))
        have Z10 := Lib.hid (And.intro (cell_in b2 Z10.out.2.2 Z10.out.1) (And.intro ((b2.frozen (p := ⟨W0.heap.size, 0, none⟩) Z10.out.2.2).trans Z10.out.2.1) (Nat.lt_of_lt_of_le Z10.out.2.2 b2.size)))
        have HHeld := KS.out _ HW2.out
        refine hK.out _ _ HHeld (fun _ => ?_)
        clear hK K
        try simp only [Act.put, List.setIfInBounds_toArray, List.set_cons_zero, List.set_cons_succ]
        clear b2
        refine wpAnyH_ready (rs := [9, 11]) (by kernel_rfl) (by simp) (AllReadyH.cons rfl (fun K hK => ?_) (AllReadyH.cons rfl (fun K hK => ?_) AllReadyH.nil))
        · go_simp
          refine (HSU.out W2 HW2.out).mono ?_
          rintro e W3 ⟨rfl, b3⟩
          have s3 := b3.size
          have HW3 := Lib.hid (HW2.out.trans (b3.mono HW2.out.size))
          have Z10 := Lib.hid (And.intro (cell_in b3 Z10.out.2.2 Z10.out.1) (And.intro ((b3.frozen (p := ⟨W0.heap.size, 0, none⟩) Z10.out.2.2).trans Z10.out.2.1) (Nat.lt_of_lt_of_le Z10.out.2.2 b3.size)))
          have r9 := r9.below b3
          have HHeld := KS.out _ HW3.out
          refine hK.out _ _ HHeld (fun _ => ?_)
          clear hK K
          try simp only [Act.put, List.setIfInBounds_toArray, List.set_cons_zero, List.set_cons_succ]
          clear b3
          refine wpAnyH_ready (rs := [11]) (by kernel_rfl) (by simp) (AllReadyH.cons rfl (fun K hK => ?_) AllReadyH.nil)
          go_simp
          obtain ⟨W4, hW4⟩ : ∃ W, W = W3.alloc (.cells #[.int .i64 0] 2) := ⟨_, rfl⟩
          have b4 : Below W3.heap.size W3 W4 := by rw [hW4]; exact (Below.refl _ _).alloc (Nat.le_refl _) _
          have s4 : W3.heap.size < W4.heap.size := by rw [hW4]; simp
          have Z11 := Lib.hid (show W4.cell? ⟨W3.heap.size, 0, none⟩ = some (.int .i64 0) ∧ W4.frozen? ⟨W3.heap.size, 0, none⟩ = false ∧ W3.heap.size < W4.heap.size by rw [hW4]; simp)
          rw [← hW4]
          have HW4 := Lib.hid (HW3.out.trans (b4.mono HW3.out.size))
          have Z10 := Lib.hid (And.intro (cell_in b4 Z10.out.2.2 Z10.out.1) (And.intro ((b4.frozen (p := ⟨W0.heap.size, 0, none⟩) Z10.out.2.2).trans Z10.out.2.1) (Nat.lt_of_lt_of_le Z10.out.2.2 b4.size)))
          have r9 := r9.below b4
          have HHeld := KS.out _ HW4.out
          refine hK.out _ _ HHeld (fun _ => ?_)
          clear hK K
          try simp only [Act.put, List.setIfInBounds_toArray, List.set_cons_zero, List.set_cons_succ]
          clear b4 hW4
          have hAB : W0.heap.size ≠ W3.heap.size := by omega
          have hA9 : W0.heap.size ≠ g9 := by omega
          have hB9 : W3.heap.size ≠ g9 := by omega
          have hA0 : w1.heap.size ≤ W0.heap.size := by omega
          have hB0 : w1.heap.size ≤ W3.heap.size := by omega
          obtain ⟨cz, fz, _⟩ := Z10.out
          obtain ⟨cy, fy, _⟩ := Z11.out
          refine wpAnyH_ready (rs := [12]) (by kernel_rfl) (by simp) (AllReadyH.cons rfl (fun K hK => ?_) AllReadyH.nil)
          go_simp
          obtain ⟨X, hX⟩ : ∃ X, X = W4.setCell ⟨W0.heap.size, 0, none⟩ (.slice (some ⟨g9, 0, none⟩) cs.length c9) := ⟨_, rfl⟩
          have HX := Lib.hid (show Below w1.heap.size w1 X by rw [hX]; exact Below.setCell HW4.out (p := ⟨W0.heap.size, 0, none⟩) hA0 _)
          have xz : X.cell? ⟨W0.heap.size, 0, none⟩ = some (.slice (some ⟨g9, 0, none⟩) cs.length c9) := by rw [hX]; exact World.cell?_setCell_same _ _ _ cz
          have xy : X.cell? ⟨W3.heap.size, 0, none⟩ = some (.int .i64 0) := by rw [hX]; exact (World.cell?_setCell_far _ _ _ _ hAB).trans cy
          have xf : X.frozen? ⟨W3.heap.size, 0, none⟩ = false := by rw [hX]; exact (World.frozen?_setCell _ _ _ _).trans fy
          have r9 : RI X (some ⟨g9, 0, none⟩) cs := by rw [hX]; exact ri_far r9 hA9
          rw [← hX]
          clear cz fz cy fy hX
          have HHeld := KS.out _ HX.out
          refine hK.out _ _ HHeld (fun _ => ?_)
          clear hK K
          try simp only [Act.put, List.setIfInBounds_toArray, List.set_cons_zero, List.set_cons_succ]
          refine wpAnyH_ready (rs := [13]) (by kernel_rfl) (by simp) (AllReadyH.cons rfl (fun K hK => ?_) AllReadyH.nil)
          go_simp
          have HY := Lib.hid (Below.setCell HX.out (p := ⟨W3.heap.size, 0, none⟩) hB0 (.int .i64 (fx : Int)))
          have HHeld := KS.out _ HY.out
          refine hK.out _ _ HHeld (fun _ => ?_)
          clear hK K
          try simp only [Act.put, List.setIfInBounds_toArray, List.set_cons_zero, List.set_cons_succ]
          refine wpAnyH_done (by kernel_rfl) ?_ _
          go_wp2_with fail
          go_meet
          exact ⟨W0.heap.size, W3.heap.size, g9, c9, rfl, rfl, (World.cell?_setCell_far _ _ _ _ (Ne.symm hAB)).trans xz, World.cell?_setCell_same _ _ _ xy, ri_far r9 hB9, HY.out⟩
        · go_simp
          obtain ⟨W3, hW3⟩ : ∃ W, W = W2.alloc (.cells #[.int .i64 0] 2) := ⟨_, rfl⟩
          have b3 : Below W2.heap.size W2 W3 := by rw [hW3]; exact (Below.refl _ _).alloc (Nat.le_refl _) _
          have s3 : W2.heap.size < W3.heap.size := by rw [hW3]; simp
          have Z11 := Lib.hid (show W3.cell? ⟨W2.heap.size, 0, none⟩ = some (.int .i64 0) ∧ W3.frozen? ⟨W2.heap.size, 0, none⟩ = false ∧ W2.heap.size < W3.heap.size by rw [hW3]; simp)
          rw [← hW3]
          have HW3 := Lib.hid (HW2.out.trans (b3.mono HW2.out.size))
          have Z10 := Lib.hid (And.intro (cell_in b3 Z10.out.2.2 Z10.out.1) (And.intro ((b3.frozen (p := ⟨W0.heap.size, 0, none⟩) Z10.out.2.2).trans Z10.out.2.1) (Nat.lt_of_lt_of_le Z10.out.2.2 b3.size)))
          have r9 := r9.below b3
          have HHeld := KS.out _ HW3.out
          refine hK.out _ _ HHeld (fun _ => ?_)
          clear hK K
          try simp only [Act.put, List.setIfInBounds_toArray, List.set_cons_zero, List.set_cons_succ]
          clear b3 hW3
          refine wpAnyH_ready (rs := [9]) (by kernel_rfl) (by simp) (AllReadyH.cons rfl (fun K hK => ?_) AllReadyH.nil)
          go_simp
          refine (HSU.out W3 HW3.out).mono ?_
          rintro e W4 ⟨rfl, b4⟩
          have s4 := b4.size
          have HW4 := Lib.hid (HW3.out.trans (b4.mono HW3.out.size))
          have Z10 := Lib.hid (And.intro (cell_in b4 Z10.out.2.2 Z10.out.1) (And.intro ((b4.frozen (p := ⟨W0.heap.size, 0, none⟩) Z10.out.2.2).trans Z10.out.2.1) (Nat.lt_of_lt_of_le Z10.out.2.2 b4.size)))
          have Z11 := Lib.hid (And.intro (cell_in b4 Z11.out.2.2 Z11.out.1) (And.intro ((b4.frozen (p := ⟨W2.heap.size, 0, none⟩) Z11.out.2.2).trans Z11.out.2.1) (Nat.lt_of_lt_of_le Z11.out.2.2 b4.size)))
          have r9 := r9.below b4
          have HHeld := KS.out _ HW4.out
          refine hK.out _ _ HHeld (fun _ => ?_)
          clear hK K
          try simp only [Act.put, List.setIfInBounds_toArray, List.set_cons_zero, List.set_cons_succ]
          clear b4
          have hAB : W0.heap.size ≠ W2.heap.size := by omega
          have hA9 : W0.heap.size ≠ g9 := by omega
          have hB9 : W2.heap.size ≠ g9 := by omega
          have hA0 : w1.heap.size ≤ W0.heap.size := by omega
          have hB0 : w1.heap.size ≤ W2.heap.size := by omega
          obtain ⟨cz, fz, _⟩ := Z10.out
          obtain ⟨cy, fy, _⟩ := Z11.out
          refine wpAnyH_ready (rs := [12]) (by kernel_rfl) (by simp) (AllReadyH.cons rfl (fun K hK => ?_) AllReadyH.nil)
          go_simp
          obtain ⟨X, hX⟩ : ∃ X, X = W4.setCell ⟨W0.heap.size, 0, none⟩ (.slice (some ⟨g9, 0, none⟩) cs.length c9) := ⟨_, rfl⟩
          have HX := Lib.hid (show Below w1.heap.size w1 X by rw [hX]; exact Below.setCell HW4.out (p := ⟨W0.heap.size, 0, none⟩) hA0 _)
          have xz : X.cell? ⟨W0.heap.size, 0, none⟩ = some (.slice (some ⟨g9, 0, none⟩) cs.length c9) := by rw [hX]; exact World.cell?_setCell_same _ _ _ cz
          have xy : X.cell? ⟨W2.heap.size, 0, none⟩ = some (.int .i64 0) := by rw [hX]; exact (World.cell?_setCell_far _ _ _ _ hAB).trans cy
          have xf : X.frozen? ⟨W2.heap.size, 0, none⟩ = false := by rw [hX]; exact (World.frozen?_setCell _ _ _ _).trans fy
          have r9 : RI X (some ⟨g9, 0, none⟩) cs := by rw [hX]; exact ri_far r9 hA9
          rw [← hX]
          clear cz fz cy fy hX
          have HHeld := KS.out _ HX.out
          refine hK.out _ _ HHeld (fun _ => ?_)
          clear hK K
          try simp only [Act.put, List.setIfInBounds_toArray, List.set_cons_zero, List.set_cons_succ]
          refine wpAnyH_ready (rs := [13]) (by kernel_rfl) (by simp) (AllReadyH.cons rfl (fun K hK => ?_) AllReadyH.nil)
          go_simp
          have HY := Lib.hid (Below.setCell HX.out (p := ⟨W2.heap.size, 0, none⟩) hB0 (.int .i64 (fx : Int)))
          have HHeld := KS.out _ HY.out
          refine hK.out _ _ HHeld (fun _ => ?_)
          clear hK K
          try simp only [Act.put, List.setIfInBounds_toArray, List.set_cons_zero, List.set_cons_succ]
          refine wpAnyH_done (by kernel_rfl) ?_ _
          go_wp2_with fail
          go_meet
          exact ⟨W0.heap.size, W2.heap.size, g9, c9, rfl, rfl, (World.cell?_setCell_far _ _ _ _ (Ne.symm hAB)).trans xz, World.cell?_setCell_same _ _ _ xy, ri_far r9 hB9, HY.out⟩
      · go_simp
        obtain ⟨W2, hW2⟩ : ∃ W, W = W1.alloc (.cells #[.int .i64 0] 2) := ⟨_, rfl⟩
        have b2 : Below W1.heap.size W1 W2 := by rw [hW2]; exact (Below.refl _ _).alloc (Nat.le_refl _) _
        have s2 : W1.heap.size < W2.heap.size := by rw [hW2]; simp
        have Z11 := Lib.hid (show W2.cell? ⟨W1.heap.size, 0, none⟩ = some (.int .i64 0) ∧ W2.frozen? ⟨W1.heap.size, 0, none⟩ = false ∧ W1.heap.size < W2.heap.size by rw [hW2]; simp)
        rw [← hW2]
        have HW2 := Lib.hid (HW1.out.trans (b2.mono HW1.out.size))
        have Z10 := Lib.hid (And.intro (cell_in b2 Z10.out.2.2 Z10.out.1) (And.intro ((b2.frozen (p := ⟨W0.heap.size, 0, none⟩) Z10.out.2.2).trans Z10.out.2.1) (Nat.lt_of_lt_of_le Z10.out.2.2 b2.size)))
        have HHeld := KS.out _ HW2.out
        refine hK.out _ _ HHeld (fun _ => ?_)
        clear hK K
        try simp only [Act.put, List.setIfInBounds_toArray, List.set_cons_zero, List.set_cons_succ]
        clear b2 hW2
        refine wpAnyH_ready (rs := [4]) (by kernel_rfl) (by simp) (AllReadyH.cons rfl (fun K hK => ?_) AllReadyH.nil)
        go_simp
        refine (HCU.out W2 HW2.out).mono ?_
        rintro e W3 ⟨g9, c9, rfl, lo9, hi9, r9, b3⟩
        have s3 := b3.size
        have HW3 := Lib.hid (HW2.out.trans (b3.mono HW2.out.size))
        have Z10 := Lib.hid (And.intro (cell_in b3 Z10.out.2.2 Z10.out.1) (And.intro ((b3.frozen (p := ⟨W0.heap.size, 0, none⟩) Z10.out.2.2).trans Z10.out.2.1) (Nat.lt_of_lt_of_le Z10.out.2.2 b3.size)))
        have Z11 := Lib.hid (And.intro (cell_in b3 Z11.out.2.2 Z11.out.1) (And.intro ((b3.frozen (p := ⟨W1.heap.size, 0, none⟩) Z11.out.2.2).trans Z11.out.2.1) (Nat.lt_of_lt_of_le Z11.out.2.2 b3.size)))
        have HHeld := KS.out _ HW3.out
        refine hK.out _ _ HHeld (fun _ => ?_)
        clear hK K
        try simp only [Act.put, List.setIfInBounds_toArray, List.set_cons_zero, List.set_cons_succ]
        clear b3
        refine wpAnyH_ready (rs := [9]) (by kernel_rfl) (by simp) (AllReadyH.cons rfl (fun K hK => ?_) AllReadyH.nil)
        go_simp
        refine (HSU.out W3 HW3.out).mono ?_
        rintro e W4 ⟨rfl, b4⟩
        have s4 := b4.size
        have HW4 := Lib.hid (HW3.out.trans (b4.mono HW3.out.size))
        have Z10 := Lib.hid (And.intro (cell_in b4 Z10.out.2.2 Z10.out.1) (And.intro ((b4.frozen (p := ⟨W0.heap.size, 0, none⟩) Z10.out.2.2).trans Z10.out.2.1) (Nat.lt_of_lt_of_le Z10.out.2.2 b4.size)))
        have Z11 := Lib.hid (And.intro (cell_in b4 Z11.out.2.2 Z11.out.1) (And.intro ((b4.frozen (p := ⟨W1.heap.size, 0, none⟩) Z11.out.2.2).trans Z11.out.2.1) (Nat.lt_of_lt_of_le Z11.out.2.2 b4.size)))
        have r9 := r9.below b4
        have HHeld := KS.out _ HW4.out
        refine hK.out _ _ HHeld (fun _ => ?_)
        clear hK K
        try simp only [Act.put, List.setIfInBounds_toArray, List.set_cons_zero, List.set_cons_succ]
        clear b4
        have hAB : W0.heap.size ≠ W1.heap.size := by omega
        have hA9 : W0.heap.size ≠ g9 := by omega
        have hB9 : W1.heap.size ≠ g9 := by omega
        have hA0 : w1.heap.size ≤ W0.heap.size := by omega
        have hB0 : w1.heap.size ≤ W1.heap.size := by omega
        obtain ⟨cz, fz, _⟩ := Z10.out
        obtain ⟨cy, fy, _⟩ := Z11.out
        refine wpAnyH_ready (rs := [12]) (by kernel_rfl) (by simp) (AllReadyH.cons rfl (fun K hK => ?_) AllReadyH.nil)
        go_simp
        obtain ⟨X, hX⟩ : ∃ X, X = W4.setCell ⟨W0.heap.size, 0, none⟩ (.slice (some ⟨g9, 0, none⟩) cs.length c9) := ⟨_, rfl⟩
        have HX := Lib.hid (show Below w1.heap.size w1 X by rw [hX]; exact Below.setCell HW4.out (p := ⟨W0.heap.size, 0, none⟩) hA0 _)
        have xz : X.cell? ⟨W0.heap.size, 0, none⟩ = some (.slice (some ⟨g9, 0, none⟩) cs.length c9) := by rw [hX]; exact World.cell?_setCell_same _ _ _ cz
        have xy : X.cell? ⟨W1.heap.size, 0, none⟩ = some (.int .i64 0) := by rw [hX]; exact (World.cell?_setCell_far _ _ _ _ hAB).trans cy
        have xf : X.frozen? ⟨W1.heap.size, 0, none⟩ = false := by rw [hX]; exact (World.frozen?_setCell _ _ _ _).trans fy
        have r9 : RI X (some ⟨g9, 0, none⟩) cs := by rw [hX]; exact ri_far r9 hA9
        rw [← hX]
        clear cz fz cy fy hX
        have HHeld := KS.out _ HX.out
        refine hK.out _ _ HHeld (fun _ => ?_)
        clear hK K
        try simp only [Act.put, List.setIfInBounds_toArray, List.set_cons_zero, List.set_cons_succ]
        refine wpAnyH_ready (rs := [13]) (by kernel_rfl) (by simp) (AllReadyH.cons rfl (fun K hK => ?_) AllReadyH.nil)
        go_simp
        have HY := Lib.hid (Below.setCell HX.out (p := ⟨W1.heap.size, 0, none⟩) hB0 (.int .i64 (fx : Int)))
        have HHeld := KS.out _ HY.out
        refine hK.out _ _ HHeld (fun _ => ?_)
        clear hK K
        try simp only [Act.put, List.setIfInBounds_toArray, List.set_cons_zero, List.set_cons_succ]
        refine wpAnyH_done (by kernel_rfl) ?_ _
        go_wp2_with fail
        go_meet
        exact ⟨W0.heap.size, W1.heap.size, g9, c9, rfl, rfl, (World.cell?_setCell_far _ _ _ _ (Ne.symm hAB)).trans xz, World.cell?_setCell_same _ _ _ xy, ri_far r9 hB9, HY.out⟩
    · go_simp
      obtain ⟨W1, hW1⟩ : ∃ W, W = W0.alloc (.cells #[.int .i64 0] 2) := ⟨_, rfl⟩
      have b1 : Below W0.heap.size W0 W1 := by rw [hW1]; exact (Below.refl _ _).alloc (Nat.le_refl _) _
      have s1 : W0.heap.size < W1.heap.size := by rw [hW1]; simp
      have Z11 := Lib.hid (show W1.cell? ⟨W0.heap.size, 0, none⟩ = some (.int .i64 0) ∧ W1.frozen? ⟨W0.heap.size, 0, none⟩ = false ∧ W0.heap.size < W1.heap.size by rw [hW1]; simp)
      rw [← hW1]
      have HW1 := Lib.hid (HW0.out.trans (b1.mono HW0.out.size))
      have HHeld := KS.out _ HW1.out
      refine hK.out _ _ HHeld (fun _ => ?_)
      clear hK K
      try simp only [Act.put, List.setIfInBounds_toArray, List.set_cons_zero, List.set_cons_succ]
      clear b1 hW1
      refine wpAnyH_ready (rs := [4, 10]) (by kernel_rfl) (by simp) (AllReadyH.cons rfl (fun K hK => ?_) (AllReadyH.cons rfl (fun K hK => ?_) AllReadyH.nil))
      · go_simp
        refine (HCU.out W1 HW1.out).mono ?_
        rintro e W2 ⟨g9, c9, rfl, lo9, hi9, r9, b2⟩
        have s2 := b2.size
        have HW2 := Lib.hid (HW1.out.trans (b2.mono HW1.out.size))
        have Z11 := Lib.hid (And.intro (cell_in b2 Z11.out.2.2 Z11.out.1) (And.intro ((b2.frozen (p := ⟨W0.heap.size, 0, none⟩) Z11.out.2.2).trans Z11.out.2.1) (Nat.lt_of_lt_of_le Z11.out.2.2 b2.size)))
        have HHeld := KS.out _ HW2.out
        refine hK.out _ _ HHeld (fun _ => ?_)
        clear hK K
        try simp only [Act.put, List.setIfInBounds_toArray, List.set_cons_zero, List.set_cons_succ]
        clear b2
        refine wpAnyH_ready (rs := [9, 10]) (by kernel_rfl) (by simp) (AllReadyH.cons rfl (fun K hK => ?_) (AllReadyH.cons rfl (fun K hK => ?_) AllReadyH.nil))
        · go_simp
          refine (HSU.out W2 HW2.out).mono ?_
          rintro e W3 ⟨rfl, b3⟩
          have s3 := b3.size
          have HW3 := Lib.hid (HW2.out.trans (b3.mono HW2.out.size))
          have Z11 := Lib.hid (And.intro (cell_in b3 Z11.out.2.2 Z11.out.1) (And.intro ((b3.frozen (p := ⟨W0.heap.size, 0, none⟩) Z11.out.2.2).trans Z11.out.2.1) (Nat.lt_of_lt_of_le Z11.out.2.2 b3.size)))
          have r9 := r9.below b3
          have HHeld := KS.out _ HW3.out
          refine hK.out _ _ HHeld (fun _ => ?_)
          clear hK K
          try simp only [Act.put, List.setIfInBounds_toArray, List.set_cons_zero, List.set_cons_succ]
          clear b3
          refine wpAnyH_ready (rs := [10]) (by kernel_rfl) (by simp) (AllReadyH.cons rfl (fun K hK => ?_) AllReadyH.nil)
          go_simp
          obtain ⟨W4, hW4⟩ : ∃ W, W = W3.alloc (.cells #[.slice none 0 0] 30) := ⟨_, rfl⟩
          have b4 : Below W3.heap.size W3 W4 := by rw [hW4]; exact (Below.refl _ _).alloc (Nat.le_refl _) _
          have s4 : W3.heap.size < W4.heap.size := by rw [hW4]; simp
          have Z10 := Lib.hid (show W4.cell? ⟨W3.heap.size, 0, none⟩ = some (.slice none 0 0) ∧ W4.frozen? ⟨W3.heap.size, 0, none⟩ = false ∧ W3.heap.size < W4.heap.size by rw [hW4]; simp)
          rw [← hW4]
          have HW4 := Lib.hid (HW3.out.trans (b4.mono HW3.out.size))
          have Z11 := Lib.hid (And.intro (cell_in b4 Z11.out.2.2 Z11.out.1) (And.intro ((b4.frozen (p := ⟨W0.heap.size, 0, none⟩) Z11.out.2.2).trans Z11.out.2.1) (Nat.lt_of_lt_of_le Z11.out.2.2 b4.size)))
          have r9 := r9.below b4
          have HHeld := KS.out _ HW4.out
          refine hK.out _ _ HHeld (fun _ => ?_)
          clear hK K
          try simp only [Act.put, List.setIfInBounds_toArray, List.set_cons_zero, List.set_cons_succ]
          clear b4 hW4
          have hAB : W3.heap.size ≠ W0.heap.size := by omega
          have hA9 : W3.heap.size ≠ g9 := by omega
          have hB9 : W0.heap.size ≠ g9 := by omega
          have hA0 : w1.heap.size ≤ W3.heap.size := by omega
          have hB0 : w1.heap.size ≤ W0.heap.size := by omega
          obtain ⟨cz, fz, _⟩ := Z10.out
          obtain ⟨cy, fy, _⟩ := Z11.out
          refine wpAnyH_ready (rs := [12]) (by kernel_rfl) (by simp) (AllReadyH.cons rfl (fun K hK => ?_) AllReadyH.nil)
          go_simp
          obtain ⟨X, hX⟩ : ∃ X, X = W4.setCell ⟨W3.heap.size, 0, none⟩ (.slice (some ⟨g9, 0, none⟩) cs.length c9) := ⟨_, rfl⟩
          have HX := Lib.hid (show Below w1.heap.size w1 X by rw [hX]; exact Below.setCell HW4.out (p := ⟨W3.heap.size, 0, none⟩) hA0 _)
          have xz : X.cell? ⟨W3.heap.size, 0, none⟩ = some (.slice (some ⟨g9, 0, none⟩) cs.length c9) := by rw [hX]; exact World.cell?_setCell_same _ _ _ cz
          have xy : X.cell? ⟨W0.heap.size, 0, none⟩ = some (.int .i64 0) := by rw [hX]; exact (World.cell?_setCell_far _ _ _ _ hAB).trans cy
          have xf : X.frozen? ⟨W0.heap.size, 0, none⟩ = false := by rw [hX]; exact (World.frozen?_setCell _ _ _ _).trans fy
          have r9 : RI X (some ⟨g9, 0, none⟩) cs := by rw [hX]; exact ri_far r9 hA9
          rw [← hX]
          clear cz fz cy fy hX
          have HHeld := KS.out _ HX.out
          refine hK.out _ _ HHeld (fun _ => ?_)
          clear hK K
          try simp only [Act.put, List.setIfInBounds_toArray, List.set_cons_zero, List.set_cons_succ]
          refine wpAnyH_ready (rs := [13]) (by kernel_rfl) (by simp) (AllReadyH.cons rfl (fun K hK => ?_) AllReadyH.nil)
          go_simp
          have HY := Lib.hid (Below.setCell HX.out (p := ⟨W0.heap.size, 0, none⟩) hB0 (.int .i64 (fx : Int)))
          have HHeld := KS.out _ HY.out
          refine hK.out _ _ HHeld (fun _ => ?_)
          clear hK K
          try simp only [Act.put, List.setIfInBounds_toArray, List.set_cons_zero, List.set_cons_succ]
          refine wpAnyH_done (by kernel_rfl) ?_ _
          go_wp2_with fail
          go_meet
          exact ⟨W3.heap.size, W0.heap.size, g9, c9, rfl, rfl, (World.cell?_setCell_far _ _ _ _ (Ne.symm hAB)).trans xz, World.cell?_setCell_same _ _ _ xy, ri_far r9 hB9, HY.out⟩
        · go_simp
          obtain ⟨W3, hW3⟩ : ∃ W, W = W2.alloc (.cells #[.slice none 0 0] 30) := ⟨_, rfl⟩
          have b3 : Below W2.heap.size W2 W3 := by rw [hW3]; exact (Below.refl _ _).alloc (Nat.le_refl _) _
          have s3 : W2.heap.size < W3.heap.size := by rw [hW3]; simp
          have Z10 := Lib.hid (show W3.cell? ⟨W2.heap.size, 0, none⟩ = some (.slice none 0 0) ∧ W3.frozen? ⟨W2.heap.size, 0, none⟩ = false ∧ W2.heap.size < W3.heap.size by rw [hW3]; simp)
          rw [← hW3]
          have HW3 := Lib.hid (HW2.out.trans (b3.mono HW2.out.size))
          have Z11 := Lib.hid (And.intro (cell_in b3 Z11.out.2.2 Z11.out.1) (And.intro ((b3.frozen (p := ⟨W0.heap.size, 0, none⟩) Z11.out.2.2).trans Z11.out.2.1) (Nat.lt_of_lt_of_le Z11.out.2.2 b3.size)))
          have r9 := r9.below b3
          have HHeld := KS.out _ HW3.out
          refine hK.out _ _ HHeld (fun _ => ?_)
          clear hK K
          try simp only [Act.put, List.setIfInBounds_toArray, List.set_cons_zero, List.set_cons_succ]
          clear b3 hW3
          refine wpAnyH_ready (rs := [9]) (by kernel_rfl) (by simp) (AllReadyH.cons rfl (fun K hK => ?_) AllReadyH.nil)
          go_simp
          refine (HSU.out W3 HW3.out).mono ?_
          rintro e W4 ⟨rfl, b4⟩
          have s4 := b4.size
          have HW4 := Lib.hid (HW3.out.trans (b4.mono HW3.out.size))
          have Z10 := Lib.hid (And.intro (cell_in b4 Z10.out.2.2 Z10.out.1) (And.intro ((b4.frozen (p := ⟨W2.heap.size, 0, none⟩) Z10.out.2.2).trans Z10.out.2.1) (Nat.lt_of_lt_of_le Z10.out.2.2 b4.size)))
          have Z11 := Lib.hid (And.intro (cell_in b4 Z11.out.2.2 Z11.out.1) (And.intro ((b4.frozen (p := ⟨W0.heap.size, 0, none⟩) Z11.out.2.2).trans Z11.out.2.1) (Nat.lt_of_lt_of_le Z11.out.2.2 b4.size)))
          have r9 := r9.below b4
          have HHeld := KS.out _ HW4.out
          refine hK.out _ _ HHeld (fun _ => ?_)
          clear hK K
          try simp only [Act.put, List.setIfInBounds_toArray, List.set_cons_zero, List.set_cons_succ]
          clear b4
          have hAB : W2.heap.size ≠ W0.heap.size := by omega
          have hA9 : W2.heap.size ≠ g9 := by omega
          have hB9 : W0.heap.size ≠ g9 := by omega
          have hA0 : w1.heap.size ≤ W2.heap.size := by omega
          have hB0 : w1.heap.size ≤ W0.heap.size := by omega
          obtain ⟨cz, fz, _⟩ := Z10.out
          obtain ⟨cy, fy, _⟩ := Z11.out
          refine wpAnyH_ready (rs := [12]) (by kernel_rfl) (by simp) (AllReadyH.cons rfl (fun K hK => ?_) AllReadyH.nil)
          go_simp
          obtain ⟨X, hX⟩ : ∃ X, X = W4.setCell ⟨W2.heap.size, 0, none⟩ (.slice (some ⟨g9, 0, none⟩) cs.length c9) := ⟨_, rfl⟩
          have HX := Lib.hid (show Below w1.heap.size w1 X by rw [hX]; exact Below.setCell HW4.out (p := ⟨W2.heap.size, 0, none⟩) hA0 _)
          have xz : X.cell? ⟨W2.heap.size, 0, none⟩ = some (.slice (some ⟨g9, 0, none⟩) cs.length c9) := by rw [hX]; exact World.cell?_setCell_same _ _ _ cz
          have xy : X.cell? ⟨W0.heap.size, 0, none⟩ = some (.int .i64 0) := by rw [hX]; exact (World.cell?_setCell_far _ _ _ _ hAB).trans cy
          have xf : X.frozen? ⟨W0.heap.size, 0, none⟩ = false := by rw [hX]; exact (World.frozen?_setCell _ _ _ _).trans fy
          have r9 : RI X (some ⟨g9, 0, none⟩) cs := by rw [hX]; exact ri_far r9 hA9
          rw [← hX]
          clear cz fz cy fy hX
          have HHeld := KS.out _ HX.out
          refine hK.out _ _ HHeld (fun _ => ?_)
          clear hK K
          try simp only [Act.put, List.setIfInBounds_toArray, List.set_cons_zero, List.set_cons_succ]
          refine wpAnyH_ready (rs := [13]) (by kernel_rfl) (by simp) (AllReadyH.cons rfl (fun K hK => ?_) AllReadyH.nil)
          go_simp
          have HY := Lib.hid (Below.setCell HX.out (p := ⟨W0.heap.size, 0, none⟩) hB0 (.int .i64 (fx : Int)))
          have HHeld := KS.out _ HY.out
          refine hK.out _ _ HHeld (fun _ => ?_)
          clear hK K
          try simp only [Act.put, List.setIfInBounds_toArray, List.set_cons_zero, List.set_cons_succ]
          refine wpAnyH_done (by kernel_rfl) ?_ _
          go_wp2_with fail
          go_meet
          exact ⟨W2.heap.size, W0.heap.size, g9, c9, rfl, rfl, (World.cell?_setCell_far _ _ _ _ (Ne.symm hAB)).trans xz, World.cell?_setCell_same _ _ _ xy, ri_far r9 hB9, HY.out⟩
      · go_simp
        obtain ⟨W2, hW2⟩ : ∃ W, W = W1.alloc (.cells #[.slice none 0 0] 30) := ⟨_, rfl⟩
        have b2 : Below W1.heap.size W1 W2 := by rw [hW2]; exact (Below.refl _ _).alloc (Nat.le_refl _) _
        have s2 : W1.heap.size < W2.heap.size := by rw [hW2]; simp
        have Z10 := Lib.hid (show W2.cell? ⟨W1.heap.size, 0, none⟩ = some (.slice none 0 0) ∧ W2.frozen? ⟨W1.heap.size, 0, none⟩ = false ∧ W1.heap.size < W2.heap.size by rw [hW2]; simp)
        rw [← hW2]
        have HW2 := Lib.hid (HW1.out.trans (b2.mono HW1.out.size))
        have Z11 := Lib.hid (And.intro (cell_in b2 Z11.out.2.2 Z11.out.1) (And.intro ((b2.frozen (p := ⟨W0.heap.size, 0, none⟩) Z11.out.2.2).trans Z11.out.2.1) (Nat.lt_of_lt_of_le Z11.out.2.2 b2.size)))
        have HHeld := KS.out _ HW2.out
        refine hK.out _ _ HHeld (fun _ => ?_)
        clear hK K
        try simp only [Act.put, List.setIfInBounds_toArray, List.set_cons_zero, List.set_cons_succ]
        clear b2 hW2
        refine wpAnyH_ready (rs := [4]) (by kernel_rfl) (by simp) (AllReadyH.cons rfl (fun K hK => ?_) AllReadyH.nil)
        go_simp
        refine (HCU.out W2 HW2.out).mono ?_
        rintro e W3 ⟨g9, c9, rfl, lo9, hi9, r9, b3⟩
        have s3 := b3.size
        have HW3 := Lib.hid (HW2.out.trans (b3.mono HW2.out.size))
        have Z10 := Lib.hid (And.intro (cell_in b3 Z10.out.2.2 Z10.out.1) (And.intro ((b3.frozen (p := ⟨W1.heap.size, 0, none⟩) Z10.out.2.2).trans Z10.out.2.1) (Nat.lt_of_lt_of_le Z10.out.2.2 b3.size)))
        have Z11 := Lib.hid (And.intro (cell_in b3 Z11.out.2.2 Z11.out.1) (And.intro ((b3.frozen (p := ⟨W0.heap.size, 0, none⟩) Z11.out.2.2).trans Z11.out.2.1) (Nat.lt_of_lt_of_le Z11.out.2.2 b3.size)))
        have HHeld := KS.out _ HW3.out
        refine hK.out _ _ HHeld (fun _ => ?_)
        clear hK K
        try simp only [Act.put, List.setIfInBounds_toArray, List.set_cons_zero, List.set_cons_succ]
        clear b3
        refine wpAnyH_ready (rs := [9]) (by kernel_rfl) (by simp) (AllReadyH.cons rfl (fun K hK => ?_) AllReadyH.nil)
        go_simp
        refine (HSU.out W3 HW3.out).mono ?_
        rintro e W4 ⟨rfl, b4⟩
        have s4 := b4.size
        have HW4 := Lib.hid (HW3.out.trans (b4.mono HW3.out.size))
        have Z10 := Lib.hid (And.intro (cell_in b4 Z10.out.2.2 Z10.out.1) (And.intro ((b4.frozen (p := ⟨W1.heap.size, 0, none⟩) Z10.out.2.2).trans Z10.out.2.1) (Nat.lt_of_lt_of_le Z10.out.2.2 b4.size)))
        have Z11 := Lib.hid (And.intro (cell_in b4 Z11.out.2.2 Z11.out.1) (And.intro ((b4.frozen (p := ⟨W0.heap.size, 0, none⟩) Z11.out.2.2).trans Z11.out.2.1) (Nat.lt_of_lt_of_le Z11.out.2.2 b4.size)))
        have r9 := r9.below b4
        have HHeld := KS.out _ HW4.out
        refine hK.out _ _ HHeld (fun _ => ?_)
        clear hK K
        try simp only [Act.put, List.setIfInBounds_toArray, List.set_cons_zero, List.set_cons_succ]
        clear b4
        have hAB : W1.heap.size ≠ W0.heap.size := by omega
        have hA9 : W1.heap.size ≠ g9 := by omega
        have hB9 : W0.heap.size ≠ g9 := by omega
        have hA0 : w1.heap.size ≤ W1.heap.size := by omega
        have hB0 : w1.heap.size ≤ W0.heap.size := by omega
        obtain ⟨cz, fz, _⟩ := Z10.out
        obtain ⟨cy, fy, _⟩ := Z11.out
        refine wpAnyH_ready (rs := [12]) (by kernel_rfl) (by simp) (AllReadyH.cons rfl (fun K hK => ?_) AllReadyH.nil)
        go_simp
        obtain ⟨X, hX⟩ : ∃ X, X = W4.setCell ⟨W1.heap.size, 0, none⟩ (.slice (some ⟨g9, 0, none⟩) cs.length c9) := ⟨_, rfl⟩
        have HX := Lib.hid (show Below w1.heap.size w1 X by rw [hX]; exact Below.setCell HW4.out (p := ⟨W1.heap.size, 0, none⟩) hA0 _)
        have xz : X.cell? ⟨W1.heap.size, 0, none⟩ = some (.slice (some ⟨g9, 0, none⟩) cs.length c9) := by rw [hX]; exact World.cell?_setCell_same _ _ _ cz
        have xy : X.cell? ⟨W0.heap.size, 0, none⟩ = some (.int .i64 0) := by rw [hX]; exact (World.cell?_setCell_far _ _ _ _ hAB).trans cy
        have xf : X.frozen? ⟨W0.heap.size, 0, none⟩ = false := by rw [hX]; exact (World.frozen?_setCell _ _ _ _).trans fy
        have r9 : RI X (some ⟨g9, 0, none⟩) cs := by rw [hX]; exact ri_far r9 hA9
        rw [← hX]
        clear cz fz cy fy hX
        have HHeld := KS.out _ HX.out
        refine hK.out _ _ HHeld (fun _ => ?_)
        clear hK K
        try simp only [Act.put, List.setIfInBounds_toArray, List.set_cons_zero, List.set_cons_succ]
        refine wpAnyH_ready (rs := [13]) (by kernel_rfl) (by simp) (AllReadyH.cons rfl (fun K hK => ?_) AllReadyH.nil)
        go_simp
        have HY := Lib.hid (Below.setCell HX.out (p := ⟨W0.heap.size, 0, none⟩) hB0 (.int .i64 (fx : Int)))
        have HHeld := KS.out _ HY.out
        refine hK.out _ _ HHeld (fun _ => ?_)
        clear hK K
        try simp only [Act.put, List.setIfInBounds_toArray, List.set_cons_zero, List.set_cons_succ]
        refine wpAnyH_done (by kernel_rfl) ?_ _
        go_wp2_with fail
        go_meet
        exact ⟨W1.heap.size, W0.heap.size, g9, c9, rfl, rfl, (World.cell?_setCell_far _ _ _ _ (Ne.symm hAB)).trans xz, World.cell?_setCell_same _ _ _ xy, ri_far r9 hB9, HY.out⟩
  obtain ⟨ba, bb, g9, c9, rfl, rfl, xa, xb, r9, bX⟩ := hcut
  rename World => wc
  have Bc := HB1.out.trans (bX.mono HB1.out.size)
  have HAL := atAlB m bb ba (w.heap.size + 1) (some ⟨g9, 0, none⟩) A c9 c cs ms (fx : Int) wc r9 (h.below Bc) xb xa (HBM.out.below bX).1 HM.out.2.1 HM.out.2.2
  have HCK := Lib.hid (countKeys_any m HM.out.1 125 _ (atAl cs ms (fx : Int)) wc HAL)
  obtain ⟨nk, hnk⟩ : ∃ nk : Nat, nk = (keysG m (atAl cs ms (fx : Int)) [] m.c.toNat [] false).length := ⟨_, rfl⟩
  rw [← hnk] at HCK HKC
  have HR := Lib.hid (show ((nk : Int), 0) = countAtR m ms ls ps by rw [← HY0.out, HKC.out])
  obtain ⟨q0, q1, q2, q3, q4, _⟩ := HBX.out.below bX
  have HBC := Lib.hid Bc
  clear hnk HAL xa xb r9
  go_wp2_with fail
  refine HCK.out.mono ?_
  rintro e w3 ⟨rfl, b3⟩
  go_wp2_with fail
  go_ret2
  exact resNC_of HR.out (HBC.out.trans (b3.mono HBC.out.size))
end Go.Proofs.Ytdkkkkfcpgkcnaa
