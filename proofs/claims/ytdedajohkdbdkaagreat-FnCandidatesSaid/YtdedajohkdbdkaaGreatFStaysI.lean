/- Contract of staysOpen (of the program). Printed by wip/gen_stays.py. -/
import Derived.Test.YtdedajohkdbdkaaGreatFGhost
namespace Go.Proofs.YtdedajohkdbdkaaGreat
set_option linter.unusedVariables false
open Go.RowKit
theorem OLS.mono {w : World} {B C B' C' : Nat} {v : Value} {ls : List (List (List Int))} (h : OLS w B C v ls) (hB : B' ≤ B) (hC : C ≤ C') : OLS w B' C' v ls := h.wide hB hC
/-- A function that tells which keys stay open: in each world that keeps to w but for F. -/
def StaysFn (F : Nat → Prop) (m : Mk) (t cuts : List (List Int)) (kc : FuncId) (cap : Array Value) (w : World) : Prop :=
  ∀ w', KeepF F w w' → ∀ (K : Option Addr) (q : Nat) (key : List Int), RI w' K key → key.length ≤ q → (key.length : Int) = m.c →
    Calls Tryz.prog kc (#[.slice K key.length q] ++ cap) w' fun e w'' => e = .returned (.bool (staysF m t cuts key)) ∧ Below w'.heap.size w' w''
set_option maxRecDepth 100000 in
set_option maxHeartbeats 8000000 in
theorem staysOpen_any (F : Nat → Prop) (m : Mk) (A : Option Addr) (c : Nat) (t : List (List Int)) (B : Option Addr) (d : Nat) (cuts : List (List Int)) (w : World) (h : RIIn F w A t) (g : RIIn F w B cuts) (hF : ∀ x, F x → x < w.heap.size) (hp : PartOK m t cuts) (hlt : cuts.length < t.length) :
    Calls Tryz.prog 126 #[.agg #[.int .i64 m.c, .int .i64 m.d, .int .i64 m.s, .int .i64 m.a, .int .i64 m.l, .slice A t.length c], .slice B cuts.length d] w fun e w' => ∃ cap, e = .returned (.func (.func 157) #[] cap) ∧ StaysFn F m t cuts 157 cap w' ∧ Below w.heap.size w w' := by
  obtain ⟨w0, hw0⟩ : ∃ w0, w0 = (w.alloc (.cells #[.int .i64 m.c, .int .i64 m.d, .int .i64 m.s, .int .i64 m.a, .int .i64 m.l, .slice A t.length c] 45)).alloc (.cells #[.slice B cuts.length d] 26) := ⟨_, rfl⟩
  have B0 : Below w.heap.size w w0 := by rw [hw0]; exact ((Below.refl w.heap.size w).alloc (Nat.le_refl _) _).alloc (by simp) _
  have hz0 : w0.heap.size = w.heap.size + 2 := by rw [hw0]; simp
  have bS : BoxC w0 w.heap.size 0 [.int .i64 m.c, .int .i64 m.d, .int .i64 m.s, .int .i64 m.a, .int .i64 m.l, .slice A t.length c] := by
    have : BoxC (w.alloc (.cells #[.int .i64 m.c, .int .i64 m.d, .int .i64 m.s, .int .i64 m.a, .int .i64 m.l, .slice A t.length c] 45)) w.heap.size 0 [.int .i64 m.c, .int .i64 m.d, .int .i64 m.s, .int .i64 m.a, .int .i64 m.l, .slice A t.length c] := by simp [BoxC, Go.World.cell?_alloc_at]
    rw [hw0]; exact this.below ((Below.refl _ _).alloc (Nat.le_refl _) _)
  have bC : w0.cell? ⟨w.heap.size + 1, 0, none⟩ = some (.slice B cuts.length d) := by rw [hw0]; simp
  obtain ⟨bT, oT, AR, cR, rfl, hcT0, hccT, hrT, hnT, hbT, hnR⟩ := h.row hlt
  obtain ⟨row, hrow⟩ : ∃ row, row = t[cuts.length] := ⟨_, rfl⟩
  rw [← hrow] at hcT0 hccT hrT hnR
  obtain ⟨ls, hls⟩ : ∃ ls, ls = locksF m t cuts := ⟨_, rfl⟩
  have HTW := Lib.hid (show ∀ k (hk : k < t.length), t[k].length = ls.length from fun k hk => by rw [hls, locksF_len]; exact (hp.row k hk).1)
  have HLL := Lib.hid (show ∀ n (hn : n < ls.length), (ls[n].length : Int) = m.c by subst hls; exact fun n hn => hp.lock_len hn)
  have HCL := Lib.hid (show ∀ k (hk : k < cuts.length), (cuts[k].length : Int) = m.c from fun k hk => hp.len hk)
  have hl12 : ls.length ≤ 12 := by rw [← HTW.out cuts.length hlt]; exact (hp.row _ hlt).2.2
  have HL12 := Lib.hid hl12
  have HST := Lib.hid (show ∀ key, staysL t cuts ls key = staysF m t cuts key from fun key => by rw [hls]; rfl)
  have HPL := Lib.hid (show ∀ W, Below w.heap.size w W → Calls Tryz.prog 87 #[.agg #[.int .i64 m.c, .int .i64 m.d, .int .i64 m.s, .int .i64 m.a, .int .i64 m.l, .slice (some ⟨bT, oT, none⟩) t.length c], .slice B cuts.length d] W (ResLS W ls) from fun W hW => by
    rw [hls]; exact partLocks_any m _ c t B d cuts W (h.rii.below hW) (g.rii.below hW) hp)
  have HROW := Lib.hid hrow; have HLT := Lib.hid hlt
  have HH := Lib.hid h; have HG := Lib.hid g; have HFF := Lib.hid hF; have HRT := Lib.hid hrT; have HNR := Lib.hid hnR
  have HFIN := Lib.hid (show ∀ (Y : World) (gA gB lo hi : Nat) (AL : Option Addr) (cL : Nat), Below w0.heap.size w0 Y → Y.cell? ⟨gA, 0, none⟩ = some (.slice AL ls.length cL) → Y.cell? ⟨gB, 0, none⟩ = some (.slice AR row.length cR) → OLS Y lo hi (.slice AL ls.length cL) ls →
      w0.heap.size ≤ gA → gA < Y.heap.size → w0.heap.size ≤ gB → gB < Y.heap.size → w0.heap.size ≤ lo → hi ≤ Y.heap.size →
      ∃ cap, Ending.returned (.func (.func 157) #[] #[.pointer (some ⟨gA, 0, none⟩), .pointer (some ⟨gB, 0, none⟩), .pointer (some ⟨w.heap.size + 1, 0, none⟩), .pointer (some ⟨w.heap.size, 0, none⟩)]) = .returned (.func (.func 157) #[] cap) ∧ StaysFn F m t cuts 157 cap Y ∧ Below w.heap.size w Y from
    fun Y gA gB lo hi AL cL bY ya yb yo h1 h2 h3 h4 h5 h6 => by
      have hsz := bY.size
      have BY := B0.trans (bY.mono B0.size)
      have kY : KeepF F w Y := KeepF.ofBelow BY
      have sm : StMem F m (some ⟨bT, oT, none⟩) c t B d cuts ls row w.heap.size Y.heap.size gA gB (w.heap.size + 1) w.heap.size AL cL AR cR Y :=
        ⟨ya, yb, cell_in bY (by simp only; omega) bC, bS.keep fun i v hv => cell_in bY (by simp only; omega) hv, yo.mono (by omega) h6, RI.keepN HRT.out kY HNR.out, HNR.out, HH.out.keepF kY, HG.out.keepF kY, ⟨by omega, h2, by omega, h4, by omega, by omega, by omega, by omega⟩, fun x hx _ hf => by have := HFF.out x hf; omega, Nat.le_refl _⟩
      refine ⟨_, rfl, fun w' k K q key hk hq hkl => ?_, BY⟩
      rw [← HST.out key]
      exact staysClo_any F m _ c t B d cuts ls row _ _ _ _ _ _ AL cL AR cR w' (sm.keepF k) K q key hk hq hkl HLT.out HROW.out HTW.out HLL.out HCL.out HL12.out)
  have hcT := cell_in B0 hbT hcT0
  have hle1 := h.rii.le; have hle2 := g.rii.le
  have i0 : (0 : Int) ≤ (cuts.length : Int) := by omega
  have i1 : (cuts.length : Int) < (t.length : Int) := by omega
  have KS := Lib.hid (show ∀ w' : World, Below w0.heap.size w0 w' → ((w'.cell? ⟨w.heap.size, 0, none⟩ = some (.int .i64 m.c) ∧ w'.cell? ⟨w.heap.size, 1, none⟩ = some (.int .i64 m.d) ∧ w'.cell? ⟨w.heap.size, 2, none⟩ = some (.int .i64 m.s) ∧ w'.cell? ⟨w.heap.size, 3, none⟩ = some (.int .i64 m.a) ∧ w'.cell? ⟨w.heap.size, 4, none⟩ = some (.int .i64 m.l) ∧ w'.cell? ⟨w.heap.size, 5, none⟩ = some (.slice (some ⟨bT, oT, none⟩) t.length c) ∧ True) ∧ w'.cell? ⟨w.heap.size + 1, 0, none⟩ = some (.slice B cuts.length d) ∧ w'.cell? ⟨bT, oT + cuts.length, none⟩ = some (.slice AR row.length cR)) from fun w' hw =>
    ⟨bS.keep fun i v hv => cell_in hw (by simp only; omega) hv, cell_in hw (by simp only; omega) bC, cell_in hw (by simp only; omega) hcT⟩)
  have HBZ := Lib.hid B0
  clear h g hF hp hrow hls hrT hnR hcT0 hnT bS bC hcT
  obtain ⟨q00, q01, q02⟩ := KS.out w0 (Below.refl _ _)
  clear q00 q01 q02
  go_enter Tryz.func126, Tryz.ntmps126
  go_wp2_with fail
  rw [← hw0]
  clear hw0
  obtain ⟨W0, hW0⟩ : ∃ W0, W0 = w0.drew := ⟨_, rfl⟩
  have HW0 := Lib.hid (show Below w0.heap.size w0 W0 by rw [hW0]; exact belowDrew0 _)
  refine wp_region_held_drew (S := (fun w' => ((w'.cell? ⟨w.heap.size, 0, none⟩ = some (.int .i64 m.c) ∧ w'.cell? ⟨w.heap.size, 1, none⟩ = some (.int .i64 m.d) ∧ w'.cell? ⟨w.heap.size, 2, none⟩ = some (.int .i64 m.s) ∧ w'.cell? ⟨w.heap.size, 3, none⟩ = some (.int .i64 m.a) ∧ w'.cell? ⟨w.heap.size, 4, none⟩ = some (.int .i64 m.l) ∧ w'.cell? ⟨w.heap.size, 5, none⟩ = some (.slice (some ⟨bT, oT, none⟩) t.length c) ∧ True) ∧ w'.cell? ⟨w.heap.size + 1, 0, none⟩ = some (.slice B cuts.length d) ∧ w'.cell? ⟨bT, oT + cuts.length, none⟩ = some (.slice AR row.length cR)))) (by kernel_rfl) (KS.out _ (belowDrew0 _)) (fun hHeld => ?_)
  rw [← hW0]
  have HHeld0 := KS.out W0 HW0.out
  clear hW0
  refine takeD (i := 0) (some 7) (.agg #[.int .i64 m.c, .int .i64 m.d, .int .i64 m.s, .int .i64 m.a, .int .i64 m.l, .slice (some ⟨bT, oT, none⟩) t.length c]) rfl (by kernel_rfl) (by kernel_rfl) (by kernel_rfl) (by kernel_rfl) (fun _ _ _ h => h) (by assumption) (Or.inl ⟨by rfl, fun w hSw => by (try dsimp only at hSw); go_simp⟩) ?_
  simp only [Act.put, List.setIfInBounds_toArray, List.set_cons_zero, List.set_cons_succ]
  refine takeD (i := 1) (some 8) (.slice B cuts.length d) rfl (by kernel_rfl) (by kernel_rfl) (by kernel_rfl) (by kernel_rfl) (fun _ _ _ h => h) (by assumption) (Or.inl ⟨by rfl, fun w hSw => by (try dsimp only at hSw); go_simp⟩) ?_
  simp only [Act.put, List.setIfInBounds_toArray, List.set_cons_zero, List.set_cons_succ]
  refine takeD (i := 3) (some 10) (.pointer (some ⟨w.heap.size, 5, none⟩)) rfl (by kernel_rfl) (by kernel_rfl) (by kernel_rfl) (by kernel_rfl) (fun _ _ _ h => h) (by assumption) (Or.inl ⟨by rfl, fun w hSw => by (try dsimp only at hSw); go_simp⟩) ?_
  simp only [Act.put, List.setIfInBounds_toArray, List.set_cons_zero, List.set_cons_succ]
  refine takeD (i := 4) (some 11) (.slice (some ⟨bT, oT, none⟩) t.length c) rfl (by kernel_rfl) (by kernel_rfl) (by kernel_rfl) (by kernel_rfl) (fun _ _ _ h => h) (by assumption) (Or.inl ⟨by rfl, fun w hSw => by (try dsimp only at hSw); go_simp⟩) ?_
  simp only [Act.put, List.setIfInBounds_toArray, List.set_cons_zero, List.set_cons_succ]
  refine takeD (i := 5) (some 12) (.slice B cuts.length d) rfl (by kernel_rfl) (by kernel_rfl) (by kernel_rfl) (by kernel_rfl) (fun _ _ _ h => h) (by assumption) (Or.inl ⟨by rfl, fun w hSw => by (try dsimp only at hSw); go_simp⟩) ?_
  simp only [Act.put, List.setIfInBounds_toArray, List.set_cons_zero, List.set_cons_succ]
  refine takeD (i := 6) (some 13) (.int .i64 (cuts.length : Int)) rfl (by kernel_rfl) (by kernel_rfl) (by kernel_rfl) (by kernel_rfl) (fun _ _ _ h => h) (by assumption) (Or.inl ⟨by rfl, fun w hSw => by (try dsimp only at hSw); go_simp⟩) ?_
  simp only [Act.put, List.setIfInBounds_toArray, List.set_cons_zero, List.set_cons_succ]
  refine takeD (i := 7) (some 14) (.pointer (some ⟨bT, oT + cuts.length, none⟩)) rfl (by kernel_rfl) (by kernel_rfl) (by kernel_rfl) (by kernel_rfl) (fun _ _ _ h => h) (by assumption) (Or.inl ⟨by rfl, fun w hSw => by (try dsimp only at hSw); go_simp⟩) ?_
  simp only [Act.put, List.setIfInBounds_toArray, List.set_cons_zero, List.set_cons_succ]
  refine takeD (i := 8) (some 15) (.slice AR row.length cR) rfl (by kernel_rfl) (by kernel_rfl) (by kernel_rfl) (by kernel_rfl) (fun _ _ _ h => h) (by assumption) (Or.inl ⟨by rfl, fun w hSw => by (try dsimp only at hSw); go_simp⟩) ?_
  simp only [Act.put, List.setIfInBounds_toArray, List.set_cons_zero, List.set_cons_succ]
  refine wpAnyH_ready (rs := [2, 9, 10]) (by kernel_rfl) (by simp) (AllReadyH.cons rfl (fun K hK => ?_) (AllReadyH.cons rfl (fun K hK => ?_) (AllReadyH.cons rfl (fun K hK => ?_) AllReadyH.nil)))
  · go_simp
    refine (HPL.out W0 (B0.trans (HW0.out.mono B0.size))).mono ?_
    rintro e W1 ⟨AL, cL, rfl, hcL, -, oL, b1⟩
    have s1 := b1.size
    have oL := Lib.hid oL
    have HW1 := Lib.hid (HW0.out.trans (b1.mono HW0.out.size))
    have HHeld := KS.out _ HW1.out
    refine hK.out _ _ HHeld (fun _ => ?_)
    clear hK K
    try simp only [Act.put, List.setIfInBounds_toArray, List.set_cons_zero, List.set_cons_succ]
    clear b1
    refine wpAnyH_ready (rs := [9, 10]) (by kernel_rfl) (by simp) (AllReadyH.cons rfl (fun K hK => ?_) (AllReadyH.cons rfl (fun K hK => ?_) AllReadyH.nil))
    · go_simp
      obtain ⟨W2, hW2⟩ : ∃ W, W = W1.alloc (.cells #[.slice none 0 0] 104) := ⟨_, rfl⟩
      have b2 : Below W1.heap.size W1 W2 := by rw [hW2]; exact (Below.refl _ _).alloc (Nat.le_refl _) _
      have s2 : W1.heap.size < W2.heap.size := by rw [hW2]; simp
      have Z9 := Lib.hid (show W2.cell? ⟨W1.heap.size, 0, none⟩ = some (.slice none 0 0) ∧ W2.frozen? ⟨W1.heap.size, 0, none⟩ = false ∧ W1.heap.size < W2.heap.size by rw [hW2]; simp)
      rw [← hW2]
      have HW2 := Lib.hid (HW1.out.trans (b2.mono HW1.out.size))
      have oL := Lib.hid (oL.out.below (b2.mono (by omega)))
      have HHeld := KS.out _ HW2.out
      refine hK.out _ _ HHeld (fun _ => ?_)
      clear hK K
      try simp only [Act.put, List.setIfInBounds_toArray, List.set_cons_zero, List.set_cons_succ]
      clear b2 hW2
      refine wpAnyH_ready (rs := [10]) (by kernel_rfl) (by simp) (AllReadyH.cons rfl (fun K hK => ?_) AllReadyH.nil)
      go_simp
      obtain ⟨W3, hW3⟩ : ∃ W, W = W2.alloc (.cells #[.slice none 0 0] 33) := ⟨_, rfl⟩
      have b3 : Below W2.heap.size W2 W3 := by rw [hW3]; exact (Below.refl _ _).alloc (Nat.le_refl _) _
      have s3 : W2.heap.size < W3.heap.size := by rw [hW3]; simp
      have Z10 := Lib.hid (show W3.cell? ⟨W2.heap.size, 0, none⟩ = some (.slice none 0 0) ∧ W3.frozen? ⟨W2.heap.size, 0, none⟩ = false ∧ W2.heap.size < W3.heap.size by rw [hW3]; simp)
      rw [← hW3]
      have HW3 := Lib.hid (HW2.out.trans (b3.mono HW2.out.size))
      have Z9 := Lib.hid (And.intro (cell_in b3 Z9.out.2.2 Z9.out.1) (And.intro ((b3.frozen (p := ⟨W1.heap.size, 0, none⟩) Z9.out.2.2).trans Z9.out.2.1) (Nat.lt_of_lt_of_le Z9.out.2.2 b3.size)))
      have oL := Lib.hid (oL.out.below (b3.mono (by omega)))
      have HHeld := KS.out _ HW3.out
      refine hK.out _ _ HHeld (fun _ => ?_)
      clear hK K
      try simp only [Act.put, List.setIfInBounds_toArray, List.set_cons_zero, List.set_cons_succ]
      clear b3 hW3
      have hAB : W1.heap.size ≠ W2.heap.size := by omega
      have hA0 : w0.heap.size ≤ W1.heap.size := by have := HW1.out.size; omega
      have hB0 : w0.heap.size ≤ W2.heap.size := by have := HW2.out.size; omega
      have hAL : W1.heap.size < W0.heap.size ∨ W1.heap.size ≤ W1.heap.size := by omega
      have hBL : W2.heap.size < W0.heap.size ∨ W1.heap.size ≤ W2.heap.size := by omega
      have hlo : w0.heap.size ≤ W0.heap.size := by have := HW0.out.size; omega
      obtain ⟨cz, fz, lz⟩ := Z9.out
      obtain ⟨cy, fy, ly⟩ := Z10.out
      refine wpAnyH_ready (rs := [11]) (by kernel_rfl) (by simp) (AllReadyH.cons rfl (fun K hK => ?_) AllReadyH.nil)
      go_simp
      obtain ⟨X, hX⟩ : ∃ X, X = W3.setCell ⟨W1.heap.size, 0, none⟩ (.slice AL ls.length cL) := ⟨_, rfl⟩
      have HX := Lib.hid (show Below w0.heap.size w0 X by rw [hX]; exact Below.setCell HW3.out (p := ⟨W1.heap.size, 0, none⟩) hA0 _)
      have xz : X.cell? ⟨W1.heap.size, 0, none⟩ = some (.slice AL ls.length cL) := by rw [hX]; exact World.cell?_setCell_same _ _ _ cz
      have xy : X.cell? ⟨W2.heap.size, 0, none⟩ = some (.slice none 0 0) := by rw [hX]; exact (World.cell?_setCell_far _ _ _ _ hAB).trans cy
      have xf : X.frozen? ⟨W2.heap.size, 0, none⟩ = false := by rw [hX]; exact (World.frozen?_setCell _ _ _ _).trans fy
      have xo := Lib.hid (show OLS X W0.heap.size W1.heap.size (.slice AL ls.length cL) ls by rw [hX]; exact oL.out.keep fun x h1 h2 => Below.heap_setCell _ _ _ _ (by show x ≠ W1.heap.size; omega))
      have xs := Lib.hid (show X.heap.size = W3.heap.size by rw [hX]; simp)
      rw [← hX]
      clear cz fz cy fy hX
      have HHeld := KS.out _ HX.out
      refine hK.out _ _ HHeld (fun _ => ?_)
      clear hK K
      try simp only [Act.put, List.setIfInBounds_toArray, List.set_cons_zero, List.set_cons_succ]
      refine wpAnyH_ready (rs := [12]) (by kernel_rfl) (by simp) (AllReadyH.cons rfl (fun K hK => ?_) AllReadyH.nil)
      go_simp
      obtain ⟨Y, hY⟩ : ∃ Y, Y = X.setCell ⟨W2.heap.size, 0, none⟩ (.slice AR row.length cR) := ⟨_, rfl⟩
      have HY := Lib.hid (show Below w0.heap.size w0 Y by rw [hY]; exact Below.setCell HX.out (p := ⟨W2.heap.size, 0, none⟩) hB0 _)
      have ya := Lib.hid (show Y.cell? ⟨W1.heap.size, 0, none⟩ = some (.slice AL ls.length cL) by rw [hY]; exact (World.cell?_setCell_far _ _ _ _ (Ne.symm hAB)).trans xz)
      have yb := Lib.hid (show Y.cell? ⟨W2.heap.size, 0, none⟩ = some (.slice AR row.length cR) by rw [hY]; exact World.cell?_setCell_same _ _ _ xy)
      have yo := Lib.hid (show OLS Y W0.heap.size W1.heap.size (.slice AL ls.length cL) ls by rw [hY]; exact xo.out.keep fun x h1 h2 => Below.heap_setCell _ _ _ _ (by show x ≠ W2.heap.size; omega))
      have ys : Y.heap.size = W3.heap.size := by rw [hY]; simp only [World.size_setCell]; exact xs.out
      have YS := Lib.hid ys
      have GA := Lib.hid (show W1.heap.size < Y.heap.size ∧ W2.heap.size < Y.heap.size ∧ W1.heap.size ≤ Y.heap.size by omega)
      rw [← hY]
      clear xz xy xf hY ys
      have HHeld := KS.out _ HY.out
      refine hK.out _ _ HHeld (fun _ => ?_)
      clear hK K
      try simp only [Act.put, List.setIfInBounds_toArray, List.set_cons_zero, List.set_cons_succ]
      refine wpAnyH_done (by kernel_rfl) ?_ _
      go_wp2_with fail
      go_ret
      exact HFIN.out Y W1.heap.size W2.heap.size W0.heap.size W1.heap.size AL cL HY.out ya.out yb.out yo.out hA0 GA.out.1 hB0 GA.out.2.1 hlo GA.out.2.2
    · go_simp
      obtain ⟨W2, hW2⟩ : ∃ W, W = W1.alloc (.cells #[.slice none 0 0] 33) := ⟨_, rfl⟩
      have b2 : Below W1.heap.size W1 W2 := by rw [hW2]; exact (Below.refl _ _).alloc (Nat.le_refl _) _
      have s2 : W1.heap.size < W2.heap.size := by rw [hW2]; simp
      have Z10 := Lib.hid (show W2.cell? ⟨W1.heap.size, 0, none⟩ = some (.slice none 0 0) ∧ W2.frozen? ⟨W1.heap.size, 0, none⟩ = false ∧ W1.heap.size < W2.heap.size by rw [hW2]; simp)
      rw [← hW2]
      have HW2 := Lib.hid (HW1.out.trans (b2.mono HW1.out.size))
      have oL := Lib.hid (oL.out.below (b2.mono (by omega)))
      have HHeld := KS.out _ HW2.out
      refine hK.out _ _ HHeld (fun _ => ?_)
      clear hK K
      try simp only [Act.put, List.setIfInBounds_toArray, List.set_cons_zero, List.set_cons_succ]
      clear b2 hW2
      refine wpAnyH_ready (rs := [9]) (by kernel_rfl) (by simp) (AllReadyH.cons rfl (fun K hK => ?_) AllReadyH.nil)
      go_simp
      obtain ⟨W3, hW3⟩ : ∃ W, W = W2.alloc (.cells #[.slice none 0 0] 104) := ⟨_, rfl⟩
      have b3 : Below W2.heap.size W2 W3 := by rw [hW3]; exact (Below.refl _ _).alloc (Nat.le_refl _) _
      have s3 : W2.heap.size < W3.heap.size := by rw [hW3]; simp
      have Z9 := Lib.hid (show W3.cell? ⟨W2.heap.size, 0, none⟩ = some (.slice none 0 0) ∧ W3.frozen? ⟨W2.heap.size, 0, none⟩ = false ∧ W2.heap.size < W3.heap.size by rw [hW3]; simp)
      rw [← hW3]
      have HW3 := Lib.hid (HW2.out.trans (b3.mono HW2.out.size))
      have Z10 := Lib.hid (And.intro (cell_in b3 Z10.out.2.2 Z10.out.1) (And.intro ((b3.frozen (p := ⟨W1.heap.size, 0, none⟩) Z10.out.2.2).trans Z10.out.2.1) (Nat.lt_of_lt_of_le Z10.out.2.2 b3.size)))
      have oL := Lib.hid (oL.out.below (b3.mono (by omega)))
      have HHeld := KS.out _ HW3.out
      refine hK.out _ _ HHeld (fun _ => ?_)
      clear hK K
      try simp only [Act.put, List.setIfInBounds_toArray, List.set_cons_zero, List.set_cons_succ]
      clear b3 hW3
      have hAB : W2.heap.size ≠ W1.heap.size := by omega
      have hA0 : w0.heap.size ≤ W2.heap.size := by have := HW2.out.size; omega
      have hB0 : w0.heap.size ≤ W1.heap.size := by have := HW1.out.size; omega
      have hAL : W2.heap.size < W0.heap.size ∨ W1.heap.size ≤ W2.heap.size := by omega
      have hBL : W1.heap.size < W0.heap.size ∨ W1.heap.size ≤ W1.heap.size := by omega
      have hlo : w0.heap.size ≤ W0.heap.size := by have := HW0.out.size; omega
      obtain ⟨cz, fz, lz⟩ := Z9.out
      obtain ⟨cy, fy, ly⟩ := Z10.out
      refine wpAnyH_ready (rs := [11]) (by kernel_rfl) (by simp) (AllReadyH.cons rfl (fun K hK => ?_) AllReadyH.nil)
      go_simp
      obtain ⟨X, hX⟩ : ∃ X, X = W3.setCell ⟨W2.heap.size, 0, none⟩ (.slice AL ls.length cL) := ⟨_, rfl⟩
      have HX := Lib.hid (show Below w0.heap.size w0 X by rw [hX]; exact Below.setCell HW3.out (p := ⟨W2.heap.size, 0, none⟩) hA0 _)
      have xz : X.cell? ⟨W2.heap.size, 0, none⟩ = some (.slice AL ls.length cL) := by rw [hX]; exact World.cell?_setCell_same _ _ _ cz
      have xy : X.cell? ⟨W1.heap.size, 0, none⟩ = some (.slice none 0 0) := by rw [hX]; exact (World.cell?_setCell_far _ _ _ _ hAB).trans cy
      have xf : X.frozen? ⟨W1.heap.size, 0, none⟩ = false := by rw [hX]; exact (World.frozen?_setCell _ _ _ _).trans fy
      have xo := Lib.hid (show OLS X W0.heap.size W1.heap.size (.slice AL ls.length cL) ls by rw [hX]; exact oL.out.keep fun x h1 h2 => Below.heap_setCell _ _ _ _ (by show x ≠ W2.heap.size; omega))
      have xs := Lib.hid (show X.heap.size = W3.heap.size by rw [hX]; simp)
      rw [← hX]
      clear cz fz cy fy hX
      have HHeld := KS.out _ HX.out
      refine hK.out _ _ HHeld (fun _ => ?_)
      clear hK K
      try simp only [Act.put, List.setIfInBounds_toArray, List.set_cons_zero, List.set_cons_succ]
      refine wpAnyH_ready (rs := [12]) (by kernel_rfl) (by simp) (AllReadyH.cons rfl (fun K hK => ?_) AllReadyH.nil)
      go_simp
      obtain ⟨Y, hY⟩ : ∃ Y, Y = X.setCell ⟨W1.heap.size, 0, none⟩ (.slice AR row.length cR) := ⟨_, rfl⟩
      have HY := Lib.hid (show Below w0.heap.size w0 Y by rw [hY]; exact Below.setCell HX.out (p := ⟨W1.heap.size, 0, none⟩) hB0 _)
      have ya := Lib.hid (show Y.cell? ⟨W2.heap.size, 0, none⟩ = some (.slice AL ls.length cL) by rw [hY]; exact (World.cell?_setCell_far _ _ _ _ (Ne.symm hAB)).trans xz)
      have yb := Lib.hid (show Y.cell? ⟨W1.heap.size, 0, none⟩ = some (.slice AR row.length cR) by rw [hY]; exact World.cell?_setCell_same _ _ _ xy)
      have yo := Lib.hid (show OLS Y W0.heap.size W1.heap.size (.slice AL ls.length cL) ls by rw [hY]; exact xo.out.keep fun x h1 h2 => Below.heap_setCell _ _ _ _ (by show x ≠ W1.heap.size; omega))
      have ys : Y.heap.size = W3.heap.size := by rw [hY]; simp only [World.size_setCell]; exact xs.out
      have YS := Lib.hid ys
      have GA := Lib.hid (show W2.heap.size < Y.heap.size ∧ W1.heap.size < Y.heap.size ∧ W1.heap.size ≤ Y.heap.size by omega)
      rw [← hY]
      clear xz xy xf hY ys
      have HHeld := KS.out _ HY.out
      refine hK.out _ _ HHeld (fun _ => ?_)
      clear hK K
      try simp only [Act.put, List.setIfInBounds_toArray, List.set_cons_zero, List.set_cons_succ]
      refine wpAnyH_done (by kernel_rfl) ?_ _
      go_wp2_with fail
      go_ret
      exact HFIN.out Y W2.heap.size W1.heap.size W0.heap.size W1.heap.size AL cL HY.out ya.out yb.out yo.out hA0 GA.out.1 hB0 GA.out.2.1 hlo GA.out.2.2
  · go_simp
    obtain ⟨W1, hW1⟩ : ∃ W, W = W0.alloc (.cells #[.slice none 0 0] 104) := ⟨_, rfl⟩
    have b1 : Below W0.heap.size W0 W1 := by rw [hW1]; exact (Below.refl _ _).alloc (Nat.le_refl _) _
    have s1 : W0.heap.size < W1.heap.size := by rw [hW1]; simp
    have Z9 := Lib.hid (show W1.cell? ⟨W0.heap.size, 0, none⟩ = some (.slice none 0 0) ∧ W1.frozen? ⟨W0.heap.size, 0, none⟩ = false ∧ W0.heap.size < W1.heap.size by rw [hW1]; simp)
    rw [← hW1]
    have HW1 := Lib.hid (HW0.out.trans (b1.mono HW0.out.size))
    have HHeld := KS.out _ HW1.out
    refine hK.out _ _ HHeld (fun _ => ?_)
    clear hK K
    try simp only [Act.put, List.setIfInBounds_toArray, List.set_cons_zero, List.set_cons_succ]
    clear b1 hW1
    refine wpAnyH_ready (rs := [2, 10]) (by kernel_rfl) (by simp) (AllReadyH.cons rfl (fun K hK => ?_) (AllReadyH.cons rfl (fun K hK => ?_) AllReadyH.nil))
    · go_simp
      refine (HPL.out W1 (B0.trans (HW1.out.mono B0.size))).mono ?_
      rintro e W2 ⟨AL, cL, rfl, hcL, -, oL, b2⟩
      have s2 := b2.size
      have oL := Lib.hid oL
      have HW2 := Lib.hid (HW1.out.trans (b2.mono HW1.out.size))
      have Z9 := Lib.hid (And.intro (cell_in b2 Z9.out.2.2 Z9.out.1) (And.intro ((b2.frozen (p := ⟨W0.heap.size, 0, none⟩) Z9.out.2.2).trans Z9.out.2.1) (Nat.lt_of_lt_of_le Z9.out.2.2 b2.size)))
      have HHeld := KS.out _ HW2.out
      refine hK.out _ _ HHeld (fun _ => ?_)
      clear hK K
      try simp only [Act.put, List.setIfInBounds_toArray, List.set_cons_zero, List.set_cons_succ]
      clear b2
      refine wpAnyH_ready (rs := [10]) (by kernel_rfl) (by simp) (AllReadyH.cons rfl (fun K hK => ?_) AllReadyH.nil)
      go_simp
      obtain ⟨W3, hW3⟩ : ∃ W, W = W2.alloc (.cells #[.slice none 0 0] 33) := ⟨_, rfl⟩
      have b3 : Below W2.heap.size W2 W3 := by rw [hW3]; exact (Below.refl _ _).alloc (Nat.le_refl _) _
      have s3 : W2.heap.size < W3.heap.size := by rw [hW3]; simp
      have Z10 := Lib.hid (show W3.cell? ⟨W2.heap.size, 0, none⟩ = some (.slice none 0 0) ∧ W3.frozen? ⟨W2.heap.size, 0, none⟩ = false ∧ W2.heap.size < W3.heap.size by rw [hW3]; simp)
      rw [← hW3]
      have HW3 := Lib.hid (HW2.out.trans (b3.mono HW2.out.size))
      have Z9 := Lib.hid (And.intro (cell_in b3 Z9.out.2.2 Z9.out.1) (And.intro ((b3.frozen (p := ⟨W0.heap.size, 0, none⟩) Z9.out.2.2).trans Z9.out.2.1) (Nat.lt_of_lt_of_le Z9.out.2.2 b3.size)))
      have oL := Lib.hid (oL.out.below (b3.mono (by omega)))
      have HHeld := KS.out _ HW3.out
      refine hK.out _ _ HHeld (fun _ => ?_)
      clear hK K
      try simp only [Act.put, List.setIfInBounds_toArray, List.set_cons_zero, List.set_cons_succ]
      clear b3 hW3
      have hAB : W0.heap.size ≠ W2.heap.size := by omega
      have hA0 : w0.heap.size ≤ W0.heap.size := by have := HW0.out.size; omega
      have hB0 : w0.heap.size ≤ W2.heap.size := by have := HW2.out.size; omega
      have hAL : W0.heap.size < W1.heap.size ∨ W2.heap.size ≤ W0.heap.size := by omega
      have hBL : W2.heap.size < W1.heap.size ∨ W2.heap.size ≤ W2.heap.size := by omega
      have hlo : w0.heap.size ≤ W1.heap.size := by have := HW1.out.size; omega
      obtain ⟨cz, fz, lz⟩ := Z9.out
      obtain ⟨cy, fy, ly⟩ := Z10.out
      refine wpAnyH_ready (rs := [11]) (by kernel_rfl) (by simp) (AllReadyH.cons rfl (fun K hK => ?_) AllReadyH.nil)
      go_simp
      obtain ⟨X, hX⟩ : ∃ X, X = W3.setCell ⟨W0.heap.size, 0, none⟩ (.slice AL ls.length cL) := ⟨_, rfl⟩
      have HX := Lib.hid (show Below w0.heap.size w0 X by rw [hX]; exact Below.setCell HW3.out (p := ⟨W0.heap.size, 0, none⟩) hA0 _)
      have xz : X.cell? ⟨W0.heap.size, 0, none⟩ = some (.slice AL ls.length cL) := by rw [hX]; exact World.cell?_setCell_same _ _ _ cz
      have xy : X.cell? ⟨W2.heap.size, 0, none⟩ = some (.slice none 0 0) := by rw [hX]; exact (World.cell?_setCell_far _ _ _ _ hAB).trans cy
      have xf : X.frozen? ⟨W2.heap.size, 0, none⟩ = false := by rw [hX]; exact (World.frozen?_setCell _ _ _ _).trans fy
      have xo := Lib.hid (show OLS X W1.heap.size W2.heap.size (.slice AL ls.length cL) ls by rw [hX]; exact oL.out.keep fun x h1 h2 => Below.heap_setCell _ _ _ _ (by show x ≠ W0.heap.size; omega))
      have xs := Lib.hid (show X.heap.size = W3.heap.size by rw [hX]; simp)
      rw [← hX]
      clear cz fz cy fy hX
      have HHeld := KS.out _ HX.out
      refine hK.out _ _ HHeld (fun _ => ?_)
      clear hK K
      try simp only [Act.put, List.setIfInBounds_toArray, List.set_cons_zero, List.set_cons_succ]
      refine wpAnyH_ready (rs := [12]) (by kernel_rfl) (by simp) (AllReadyH.cons rfl (fun K hK => ?_) AllReadyH.nil)
      go_simp
      obtain ⟨Y, hY⟩ : ∃ Y, Y = X.setCell ⟨W2.heap.size, 0, none⟩ (.slice AR row.length cR) := ⟨_, rfl⟩
      have HY := Lib.hid (show Below w0.heap.size w0 Y by rw [hY]; exact Below.setCell HX.out (p := ⟨W2.heap.size, 0, none⟩) hB0 _)
      have ya := Lib.hid (show Y.cell? ⟨W0.heap.size, 0, none⟩ = some (.slice AL ls.length cL) by rw [hY]; exact (World.cell?_setCell_far _ _ _ _ (Ne.symm hAB)).trans xz)
      have yb := Lib.hid (show Y.cell? ⟨W2.heap.size, 0, none⟩ = some (.slice AR row.length cR) by rw [hY]; exact World.cell?_setCell_same _ _ _ xy)
      have yo := Lib.hid (show OLS Y W1.heap.size W2.heap.size (.slice AL ls.length cL) ls by rw [hY]; exact xo.out.keep fun x h1 h2 => Below.heap_setCell _ _ _ _ (by show x ≠ W2.heap.size; omega))
      have ys : Y.heap.size = W3.heap.size := by rw [hY]; simp only [World.size_setCell]; exact xs.out
      have YS := Lib.hid ys
      have GA := Lib.hid (show W0.heap.size < Y.heap.size ∧ W2.heap.size < Y.heap.size ∧ W2.heap.size ≤ Y.heap.size by omega)
      rw [← hY]
      clear xz xy xf hY ys
      have HHeld := KS.out _ HY.out
      refine hK.out _ _ HHeld (fun _ => ?_)
      clear hK K
      try simp only [Act.put, List.setIfInBounds_toArray, List.set_cons_zero, List.set_cons_succ]
      refine wpAnyH_done (by kernel_rfl) ?_ _
      go_wp2_with fail
      go_ret
      exact HFIN.out Y W0.heap.size W2.heap.size W1.heap.size W2.heap.size AL cL HY.out ya.out yb.out yo.out hA0 GA.out.1 hB0 GA.out.2.1 hlo GA.out.2.2
    · go_simp
      obtain ⟨W2, hW2⟩ : ∃ W, W = W1.alloc (.cells #[.slice none 0 0] 33) := ⟨_, rfl⟩
      have b2 : Below W1.heap.size W1 W2 := by rw [hW2]; exact (Below.refl _ _).alloc (Nat.le_refl _) _
      have s2 : W1.heap.size < W2.heap.size := by rw [hW2]; simp
      have Z10 := Lib.hid (show W2.cell? ⟨W1.heap.size, 0, none⟩ = some (.slice none 0 0) ∧ W2.frozen? ⟨W1.heap.size, 0, none⟩ = false ∧ W1.heap.size < W2.heap.size by rw [hW2]; simp)
      rw [← hW2]
      have HW2 := Lib.hid (HW1.out.trans (b2.mono HW1.out.size))
      have Z9 := Lib.hid (And.intro (cell_in b2 Z9.out.2.2 Z9.out.1) (And.intro ((b2.frozen (p := ⟨W0.heap.size, 0, none⟩) Z9.out.2.2).trans Z9.out.2.1) (Nat.lt_of_lt_of_le Z9.out.2.2 b2.size)))
      have HHeld := KS.out _ HW2.out
      refine hK.out _ _ HHeld (fun _ => ?_)
      clear hK K
      try simp only [Act.put, List.setIfInBounds_toArray, List.set_cons_zero, List.set_cons_succ]
      clear b2 hW2
      refine wpAnyH_ready (rs := [2]) (by kernel_rfl) (by simp) (AllReadyH.cons rfl (fun K hK => ?_) AllReadyH.nil)
      go_simp
      refine (HPL.out W2 (B0.trans (HW2.out.mono B0.size))).mono ?_
      rintro e W3 ⟨AL, cL, rfl, hcL, -, oL, b3⟩
      have s3 := b3.size
      have oL := Lib.hid oL
      have HW3 := Lib.hid (HW2.out.trans (b3.mono HW2.out.size))
      have Z9 := Lib.hid (And.intro (cell_in b3 Z9.out.2.2 Z9.out.1) (And.intro ((b3.frozen (p := ⟨W0.heap.size, 0, none⟩) Z9.out.2.2).trans Z9.out.2.1) (Nat.lt_of_lt_of_le Z9.out.2.2 b3.size)))
      have Z10 := Lib.hid (And.intro (cell_in b3 Z10.out.2.2 Z10.out.1) (And.intro ((b3.frozen (p := ⟨W1.heap.size, 0, none⟩) Z10.out.2.2).trans Z10.out.2.1) (Nat.lt_of_lt_of_le Z10.out.2.2 b3.size)))
      have HHeld := KS.out _ HW3.out
      refine hK.out _ _ HHeld (fun _ => ?_)
      clear hK K
      try simp only [Act.put, List.setIfInBounds_toArray, List.set_cons_zero, List.set_cons_succ]
      clear b3
      have hAB : W0.heap.size ≠ W1.heap.size := by omega
      have hA0 : w0.heap.size ≤ W0.heap.size := by have := HW0.out.size; omega
      have hB0 : w0.heap.size ≤ W1.heap.size := by have := HW1.out.size; omega
      have hAL : W0.heap.size < W2.heap.size ∨ W3.heap.size ≤ W0.heap.size := by omega
      have hBL : W1.heap.size < W2.heap.size ∨ W3.heap.size ≤ W1.heap.size := by omega
      have hlo : w0.heap.size ≤ W2.heap.size := by have := HW2.out.size; omega
      obtain ⟨cz, fz, lz⟩ := Z9.out
      obtain ⟨cy, fy, ly⟩ := Z10.out
      refine wpAnyH_ready (rs := [11]) (by kernel_rfl) (by simp) (AllReadyH.cons rfl (fun K hK => ?_) AllReadyH.nil)
      go_simp
      obtain ⟨X, hX⟩ : ∃ X, X = W3.setCell ⟨W0.heap.size, 0, none⟩ (.slice AL ls.length cL) := ⟨_, rfl⟩
      have HX := Lib.hid (show Below w0.heap.size w0 X by rw [hX]; exact Below.setCell HW3.out (p := ⟨W0.heap.size, 0, none⟩) hA0 _)
      have xz : X.cell? ⟨W0.heap.size, 0, none⟩ = some (.slice AL ls.length cL) := by rw [hX]; exact World.cell?_setCell_same _ _ _ cz
      have xy : X.cell? ⟨W1.heap.size, 0, none⟩ = some (.slice none 0 0) := by rw [hX]; exact (World.cell?_setCell_far _ _ _ _ hAB).trans cy
      have xf : X.frozen? ⟨W1.heap.size, 0, none⟩ = false := by rw [hX]; exact (World.frozen?_setCell _ _ _ _).trans fy
      have xo := Lib.hid (show OLS X W2.heap.size W3.heap.size (.slice AL ls.length cL) ls by rw [hX]; exact oL.out.keep fun x h1 h2 => Below.heap_setCell _ _ _ _ (by show x ≠ W0.heap.size; omega))
      have xs := Lib.hid (show X.heap.size = W3.heap.size by rw [hX]; simp)
      rw [← hX]
      clear cz fz cy fy hX
      have HHeld := KS.out _ HX.out
      refine hK.out _ _ HHeld (fun _ => ?_)
      clear hK K
      try simp only [Act.put, List.setIfInBounds_toArray, List.set_cons_zero, List.set_cons_succ]
      refine wpAnyH_ready (rs := [12]) (by kernel_rfl) (by simp) (AllReadyH.cons rfl (fun K hK => ?_) AllReadyH.nil)
      go_simp
      obtain ⟨Y, hY⟩ : ∃ Y, Y = X.setCell ⟨W1.heap.size, 0, none⟩ (.slice AR row.length cR) := ⟨_, rfl⟩
      have HY := Lib.hid (show Below w0.heap.size w0 Y by rw [hY]; exact Below.setCell HX.out (p := ⟨W1.heap.size, 0, none⟩) hB0 _)
      have ya := Lib.hid (show Y.cell? ⟨W0.heap.size, 0, none⟩ = some (.slice AL ls.length cL) by rw [hY]; exact (World.cell?_setCell_far _ _ _ _ (Ne.symm hAB)).trans xz)
      have yb := Lib.hid (show Y.cell? ⟨W1.heap.size, 0, none⟩ = some (.slice AR row.length cR) by rw [hY]; exact World.cell?_setCell_same _ _ _ xy)
      have yo := Lib.hid (show OLS Y W2.heap.size W3.heap.size (.slice AL ls.length cL) ls by rw [hY]; exact xo.out.keep fun x h1 h2 => Below.heap_setCell _ _ _ _ (by show x ≠ W1.heap.size; omega))
      have ys : Y.heap.size = W3.heap.size := by rw [hY]; simp only [World.size_setCell]; exact xs.out
      have YS := Lib.hid ys
      have GA := Lib.hid (show W0.heap.size < Y.heap.size ∧ W1.heap.size < Y.heap.size ∧ W3.heap.size ≤ Y.heap.size by omega)
      rw [← hY]
      clear xz xy xf hY ys
      have HHeld := KS.out _ HY.out
      refine hK.out _ _ HHeld (fun _ => ?_)
      clear hK K
      try simp only [Act.put, List.setIfInBounds_toArray, List.set_cons_zero, List.set_cons_succ]
      refine wpAnyH_done (by kernel_rfl) ?_ _
      go_wp2_with fail
      go_ret
      exact HFIN.out Y W0.heap.size W1.heap.size W2.heap.size W3.heap.size AL cL HY.out ya.out yb.out yo.out hA0 GA.out.1 hB0 GA.out.2.1 hlo GA.out.2.2
  · go_simp
    obtain ⟨W1, hW1⟩ : ∃ W, W = W0.alloc (.cells #[.slice none 0 0] 33) := ⟨_, rfl⟩
    have b1 : Below W0.heap.size W0 W1 := by rw [hW1]; exact (Below.refl _ _).alloc (Nat.le_refl _) _
    have s1 : W0.heap.size < W1.heap.size := by rw [hW1]; simp
    have Z10 := Lib.hid (show W1.cell? ⟨W0.heap.size, 0, none⟩ = some (.slice none 0 0) ∧ W1.frozen? ⟨W0.heap.size, 0, none⟩ = false ∧ W0.heap.size < W1.heap.size by rw [hW1]; simp)
    rw [← hW1]
    have HW1 := Lib.hid (HW0.out.trans (b1.mono HW0.out.size))
    have HHeld := KS.out _ HW1.out
    refine hK.out _ _ HHeld (fun _ => ?_)
    clear hK K
    try simp only [Act.put, List.setIfInBounds_toArray, List.set_cons_zero, List.set_cons_succ]
    clear b1 hW1
    refine wpAnyH_ready (rs := [2, 9]) (by kernel_rfl) (by simp) (AllReadyH.cons rfl (fun K hK => ?_) (AllReadyH.cons rfl (fun K hK => ?_) AllReadyH.nil))
    · go_simp
      refine (HPL.out W1 (B0.trans (HW1.out.mono B0.size))).mono ?_
      rintro e W2 ⟨AL, cL, rfl, hcL, -, oL, b2⟩
      have s2 := b2.size
      have oL := Lib.hid oL
      have HW2 := Lib.hid (HW1.out.trans (b2.mono HW1.out.size))
      have Z10 := Lib.hid (And.intro (cell_in b2 Z10.out.2.2 Z10.out.1) (And.intro ((b2.frozen (p := ⟨W0.heap.size, 0, none⟩) Z10.out.2.2).trans Z10.out.2.1) (Nat.lt_of_lt_of_le Z10.out.2.2 b2.size)))
      have HHeld := KS.out _ HW2.out
      refine hK.out _ _ HHeld (fun _ => ?_)
      clear hK K
      try simp only [Act.put, List.setIfInBounds_toArray, List.set_cons_zero, List.set_cons_succ]
      clear b2
      refine wpAnyH_ready (rs := [9]) (by kernel_rfl) (by simp) (AllReadyH.cons rfl (fun K hK => ?_) AllReadyH.nil)
      go_simp
      obtain ⟨W3, hW3⟩ : ∃ W, W = W2.alloc (.cells #[.slice none 0 0] 104) := ⟨_, rfl⟩
      have b3 : Below W2.heap.size W2 W3 := by rw [hW3]; exact (Below.refl _ _).alloc (Nat.le_refl _) _
      have s3 : W2.heap.size < W3.heap.size := by rw [hW3]; simp
      have Z9 := Lib.hid (show W3.cell? ⟨W2.heap.size, 0, none⟩ = some (.slice none 0 0) ∧ W3.frozen? ⟨W2.heap.size, 0, none⟩ = false ∧ W2.heap.size < W3.heap.size by rw [hW3]; simp)
      rw [← hW3]
      have HW3 := Lib.hid (HW2.out.trans (b3.mono HW2.out.size))
      have Z10 := Lib.hid (And.intro (cell_in b3 Z10.out.2.2 Z10.out.1) (And.intro ((b3.frozen (p := ⟨W0.heap.size, 0, none⟩) Z10.out.2.2).trans Z10.out.2.1) (Nat.lt_of_lt_of_le Z10.out.2.2 b3.size)))
      have oL := Lib.hid (oL.out.below (b3.mono (by omega)))
      have HHeld := KS.out _ HW3.out
      refine hK.out _ _ HHeld (fun _ => ?_)
      clear hK K
      try simp only [Act.put, List.setIfInBounds_toArray, List.set_cons_zero, List.set_cons_succ]
      clear b3 hW3
      have hAB : W2.heap.size ≠ W0.heap.size := by omega
      have hA0 : w0.heap.size ≤ W2.heap.size := by have := HW2.out.size; omega
      have hB0 : w0.heap.size ≤ W0.heap.size := by have := HW0.out.size; omega
      have hAL : W2.heap.size < W1.heap.size ∨ W2.heap.size ≤ W2.heap.size := by omega
      have hBL : W0.heap.size < W1.heap.size ∨ W2.heap.size ≤ W0.heap.size := by omega
      have hlo : w0.heap.size ≤ W1.heap.size := by have := HW1.out.size; omega
      obtain ⟨cz, fz, lz⟩ := Z9.out
      obtain ⟨cy, fy, ly⟩ := Z10.out
      refine wpAnyH_ready (rs := [11]) (by kernel_rfl) (by simp) (AllReadyH.cons rfl (fun K hK => ?_) AllReadyH.nil)
      go_simp
      obtain ⟨X, hX⟩ : ∃ X, X = W3.setCell ⟨W2.heap.size, 0, none⟩ (.slice AL ls.length cL) := ⟨_, rfl⟩
      have HX := Lib.hid (show Below w0.heap.size w0 X by rw [hX]; exact Below.setCell HW3.out (p := ⟨W2.heap.size, 0, none⟩) hA0 _)
      have xz : X.cell? ⟨W2.heap.size, 0, none⟩ = some (.slice AL ls.length cL) := by rw [hX]; exact World.cell?_setCell_same _ _ _ cz
      have xy : X.cell? ⟨W0.heap.size, 0, none⟩ = some (.slice none 0 0) := by rw [hX]; exact (World.cell?_setCell_far _ _ _ _ hAB).trans cy
      have xf : X.frozen? ⟨W0.heap.size, 0, none⟩ = false := by rw [hX]; exact (World.frozen?_setCell _ _ _ _).trans fy
      have xo := Lib.hid (show OLS X W1.heap.size W2.heap.size (.slice AL ls.length cL) ls by rw [hX]; exact oL.out.keep fun x h1 h2 => Below.heap_setCell _ _ _ _ (by show x ≠ W2.heap.size; omega))
      have xs := Lib.hid (show X.heap.size = W3.heap.size by rw [hX]; simp)
      rw [← hX]
      clear cz fz cy fy hX
      have HHeld := KS.out _ HX.out
      refine hK.out _ _ HHeld (fun _ => ?_)
      clear hK K
      try simp only [Act.put, List.setIfInBounds_toArray, List.set_cons_zero, List.set_cons_succ]
      refine wpAnyH_ready (rs := [12]) (by kernel_rfl) (by simp) (AllReadyH.cons rfl (fun K hK => ?_) AllReadyH.nil)
      go_simp
      obtain ⟨Y, hY⟩ : ∃ Y, Y = X.setCell ⟨W0.heap.size, 0, none⟩ (.slice AR row.length cR) := ⟨_, rfl⟩
      have HY := Lib.hid (show Below w0.heap.size w0 Y by rw [hY]; exact Below.setCell HX.out (p := ⟨W0.heap.size, 0, none⟩) hB0 _)
      have ya := Lib.hid (show Y.cell? ⟨W2.heap.size, 0, none⟩ = some (.slice AL ls.length cL) by rw [hY]; exact (World.cell?_setCell_far _ _ _ _ (Ne.symm hAB)).trans xz)
      have yb := Lib.hid (show Y.cell? ⟨W0.heap.size, 0, none⟩ = some (.slice AR row.length cR) by rw [hY]; exact World.cell?_setCell_same _ _ _ xy)
      have yo := Lib.hid (show OLS Y W1.heap.size W2.heap.size (.slice AL ls.length cL) ls by rw [hY]; exact xo.out.keep fun x h1 h2 => Below.heap_setCell _ _ _ _ (by show x ≠ W0.heap.size; omega))
      have ys : Y.heap.size = W3.heap.size := by rw [hY]; simp only [World.size_setCell]; exact xs.out
      have YS := Lib.hid ys
      have GA := Lib.hid (show W2.heap.size < Y.heap.size ∧ W0.heap.size < Y.heap.size ∧ W2.heap.size ≤ Y.heap.size by omega)
      rw [← hY]
      clear xz xy xf hY ys
      have HHeld := KS.out _ HY.out
      refine hK.out _ _ HHeld (fun _ => ?_)
      clear hK K
      try simp only [Act.put, List.setIfInBounds_toArray, List.set_cons_zero, List.set_cons_succ]
      refine wpAnyH_done (by kernel_rfl) ?_ _
      go_wp2_with fail
      go_ret
      exact HFIN.out Y W2.heap.size W0.heap.size W1.heap.size W2.heap.size AL cL HY.out ya.out yb.out yo.out hA0 GA.out.1 hB0 GA.out.2.1 hlo GA.out.2.2
    · go_simp
      obtain ⟨W2, hW2⟩ : ∃ W, W = W1.alloc (.cells #[.slice none 0 0] 104) := ⟨_, rfl⟩
      have b2 : Below W1.heap.size W1 W2 := by rw [hW2]; exact (Below.refl _ _).alloc (Nat.le_refl _) _
      have s2 : W1.heap.size < W2.heap.size := by rw [hW2]; simp
      have Z9 := Lib.hid (show W2.cell? ⟨W1.heap.size, 0, none⟩ = some (.slice none 0 0) ∧ W2.frozen? ⟨W1.heap.size, 0, none⟩ = false ∧ W1.heap.size < W2.heap.size by rw [hW2]; simp)
      rw [← hW2]
      have HW2 := Lib.hid (HW1.out.trans (b2.mono HW1.out.size))
      have Z10 := Lib.hid (And.intro (cell_in b2 Z10.out.2.2 Z10.out.1) (And.intro ((b2.frozen (p := ⟨W0.heap.size, 0, none⟩) Z10.out.2.2).trans Z10.out.2.1) (Nat.lt_of_lt_of_le Z10.out.2.2 b2.size)))
      have HHeld := KS.out _ HW2.out
      refine hK.out _ _ HHeld (fun _ => ?_)
      clear hK K
      try simp only [Act.put, List.setIfInBounds_toArray, List.set_cons_zero, List.set_cons_succ]
      clear b2 hW2
      refine wpAnyH_ready (rs := [2]) (by kernel_rfl) (by simp) (AllReadyH.cons rfl (fun K hK => ?_) AllReadyH.nil)
      go_simp
      refine (HPL.out W2 (B0.trans (HW2.out.mono B0.size))).mono ?_
      rintro e W3 ⟨AL, cL, rfl, hcL, -, oL, b3⟩
      have s3 := b3.size
      have oL := Lib.hid oL
      have HW3 := Lib.hid (HW2.out.trans (b3.mono HW2.out.size))
      have Z9 := Lib.hid (And.intro (cell_in b3 Z9.out.2.2 Z9.out.1) (And.intro ((b3.frozen (p := ⟨W1.heap.size, 0, none⟩) Z9.out.2.2).trans Z9.out.2.1) (Nat.lt_of_lt_of_le Z9.out.2.2 b3.size)))
      have Z10 := Lib.hid (And.intro (cell_in b3 Z10.out.2.2 Z10.out.1) (And.intro ((b3.frozen (p := ⟨W0.heap.size, 0, none⟩) Z10.out.2.2).trans Z10.out.2.1) (Nat.lt_of_lt_of_le Z10.out.2.2 b3.size)))
      have HHeld := KS.out _ HW3.out
      refine hK.out _ _ HHeld (fun _ => ?_)
      clear hK K
      try simp only [Act.put, List.setIfInBounds_toArray, List.set_cons_zero, List.set_cons_succ]
      clear b3
      have hAB : W1.heap.size ≠ W0.heap.size := by omega
      have hA0 : w0.heap.size ≤ W1.heap.size := by have := HW1.out.size; omega
      have hB0 : w0.heap.size ≤ W0.heap.size := by have := HW0.out.size; omega
      have hAL : W1.heap.size < W2.heap.size ∨ W3.heap.size ≤ W1.heap.size := by omega
      have hBL : W0.heap.size < W2.heap.size ∨ W3.heap.size ≤ W0.heap.size := by omega
      have hlo : w0.heap.size ≤ W2.heap.size := by have := HW2.out.size; omega
      obtain ⟨cz, fz, lz⟩ := Z9.out
      obtain ⟨cy, fy, ly⟩ := Z10.out
      refine wpAnyH_ready (rs := [11]) (by kernel_rfl) (by simp) (AllReadyH.cons rfl (fun K hK => ?_) AllReadyH.nil)
      go_simp
      obtain ⟨X, hX⟩ : ∃ X, X = W3.setCell ⟨W1.heap.size, 0, none⟩ (.slice AL ls.length cL) := ⟨_, rfl⟩
      have HX := Lib.hid (show Below w0.heap.size w0 X by rw [hX]; exact Below.setCell HW3.out (p := ⟨W1.heap.size, 0, none⟩) hA0 _)
      have xz : X.cell? ⟨W1.heap.size, 0, none⟩ = some (.slice AL ls.length cL) := by rw [hX]; exact World.cell?_setCell_same _ _ _ cz
      have xy : X.cell? ⟨W0.heap.size, 0, none⟩ = some (.slice none 0 0) := by rw [hX]; exact (World.cell?_setCell_far _ _ _ _ hAB).trans cy
      have xf : X.frozen? ⟨W0.heap.size, 0, none⟩ = false := by rw [hX]; exact (World.frozen?_setCell _ _ _ _).trans fy
      have xo := Lib.hid (show OLS X W2.heap.size W3.heap.size (.slice AL ls.length cL) ls by rw [hX]; exact oL.out.keep fun x h1 h2 => Below.heap_setCell _ _ _ _ (by show x ≠ W1.heap.size; omega))
      have xs := Lib.hid (show X.heap.size = W3.heap.size by rw [hX]; simp)
      rw [← hX]
      clear cz fz cy fy hX
      have HHeld := KS.out _ HX.out
      refine hK.out _ _ HHeld (fun _ => ?_)
      clear hK K
      try simp only [Act.put, List.setIfInBounds_toArray, List.set_cons_zero, List.set_cons_succ]
      refine wpAnyH_ready (rs := [12]) (by kernel_rfl) (by simp) (AllReadyH.cons rfl (fun K hK => ?_) AllReadyH.nil)
      go_simp
      obtain ⟨Y, hY⟩ : ∃ Y, Y = X.setCell ⟨W0.heap.size, 0, none⟩ (.slice AR row.length cR) := ⟨_, rfl⟩
      have HY := Lib.hid (show Below w0.heap.size w0 Y by rw [hY]; exact Below.setCell HX.out (p := ⟨W0.heap.size, 0, none⟩) hB0 _)
      have ya := Lib.hid (show Y.cell? ⟨W1.heap.size, 0, none⟩ = some (.slice AL ls.length cL) by rw [hY]; exact (World.cell?_setCell_far _ _ _ _ (Ne.symm hAB)).trans xz)
      have yb := Lib.hid (show Y.cell? ⟨W0.heap.size, 0, none⟩ = some (.slice AR row.length cR) by rw [hY]; exact World.cell?_setCell_same _ _ _ xy)
      have yo := Lib.hid (show OLS Y W2.heap.size W3.heap.size (.slice AL ls.length cL) ls by rw [hY]; exact xo.out.keep fun x h1 h2 => Below.heap_setCell _ _ _ _ (by show x ≠ W0.heap.size; omega))
      have ys : Y.heap.size = W3.heap.size := by rw [hY]; simp only [World.size_setCell]; exact xs.out
      have YS := Lib.hid ys
      have GA := Lib.hid (show W1.heap.size < Y.heap.size ∧ W0.heap.size < Y.heap.size ∧ W3.heap.size ≤ Y.heap.size by omega)
      rw [← hY]
      clear xz xy xf hY ys
      have HHeld := KS.out _ HY.out
      refine hK.out _ _ HHeld (fun _ => ?_)
      clear hK K
      try simp only [Act.put, List.setIfInBounds_toArray, List.set_cons_zero, List.set_cons_succ]
      refine wpAnyH_done (by kernel_rfl) ?_ _
      go_wp2_with fail
      go_ret
      exact HFIN.out Y W1.heap.size W0.heap.size W2.heap.size W3.heap.size AL cL HY.out ya.out yb.out yo.out hA0 GA.out.1 hB0 GA.out.2.1 hlo GA.out.2.2
end Go.Proofs.YtdedajohkdbdkaaGreat
