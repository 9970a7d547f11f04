/- Draws of systems: l15Draw. -/
import Derived.Test.YtdedajohkdbdkaaGreatDoorDrSys2
namespace Go.Proofs.YtdedajohkdbdkaaGreatDoor
set_option linter.unusedVariables false
open Go.RowKit
/-- a drawn system with cuts, in new memory -/
def ResSC (S : Nat) (A : Option Addr) (c : Nat) (bs : List Int) (w : World) (e : Ending) (w' : World) : Prop :=
  ∃ (m : Mk) (T : Option Addr) (t : List (List Int)) (cT : Nat) (K : Option Addr) (q : Nat) (cs : List (List Int)), e = .returned (.tuple #[.agg #[.int .i64 m.c, .int .i64 m.d, .int .i64 m.s, .int .i64 m.a, .int .i64 m.l, .slice T t.length cT], .slice K cs.length q]) ∧ MkD m ∧ t.length ≤ 20 ∧ cs.length ≤ q ∧ cs.length ≤ 20 ∧ RIIb w.heap.size w' T t ∧ RIIb w.heap.size w' K cs ∧ Dr S A c bs w w'
theorem TAB.riib {B : Nat} {w : World} {T : Option Addr} {cT : Nat} {t : List (List Int)} (h : TAB B w (.slice T t.length cT) t) : RIIb B w T t := by
  obtain ⟨us, hn⟩ := h.own.nest
  obtain ⟨K, q, e, hq, hr⟩ := hn.riib
  injection e with e1 e2 e3
  subst e1; exact hr
set_option maxRecDepth 100000 in
set_option maxHeartbeats 8000000 in
theorem l15Draw_any (S : Nat) (A : Option Addr) (c : Nat) (bs : List Int) (w : World) (h : Src S A c bs w) :
    Calls Tryz.prog 16 #[.pointer (some ⟨S, 0, none⟩)] w (ResSC S A c bs w) := by
  obtain ⟨w0, hw0⟩ : ∃ w0, w0 = w.alloc (.cells #[.int .i64 0, .int .i64 0, .int .i64 0, .int .i64 0, .int .i64 0, .slice none 0 0] 28) := ⟨_, rfl⟩
  have hz0 : w0.heap.size = w.heap.size + 1 := by rw [hw0]; simp
  have B0 : Below w.heap.size w w0 := by rw [hw0]; exact (Below.refl _ _).alloc (Nat.le_refl _) _
  have HR0 := Lib.hid (show w0.heap[w.heap.size]? = some (.cells #[.int .i64 0, .int .i64 0, .int .i64 0, .int .i64 0, .int .i64 0, .slice none 0 0] 28 (0, 0)) by
    have h1 := heap_alloc_new w (.cells #[.int .i64 0, .int .i64 0, .int .i64 0, .int .i64 0, .int .i64 0, .slice none 0 0] 28)
    rw [hw0]; simpa using h1)
  have HD0 := Lib.hid (show Dr S A c bs w w0 by rw [hw0]; exact (Dr.refl h).alloc _)
  have hSl : S < w.heap.size := h.xl
  have HN0 := Lib.hid (l15Valid_any S A c bs w0 HD0.out.src)
  clear h B0
  go_enter Tryz.func16, Tryz.ntmps16
  go_wp2_with fail
  rw [← hw0]
  clear hw0
  refine HN0.out.mono ?_
  rintro e w1 ⟨m, T, t, cT, rfl, hm, ht1, ht4, hT, hd1⟩
  have HMS := Lib.hid hm
  obtain ⟨gT, cT', g, cg, eT, hcT, hgT, hgT2, hhd, hcg, hg, hg2, hne, hcell, hfr, hput⟩ := hT.open_ (k := 0) (by omega)
  obtain ⟨n0, hn0⟩ : ∃ n, n = t[0].length := ⟨_, rfl⟩
  have hx0 : 0 < t[0].length := hT.rows _ (List.getElem_mem _)
  rw [← hn0] at hhd hcg hx0
  have HNN0 := Lib.hid hn0
  injection eT with eT1 eT2 eT3
  subst eT1 eT3
  clear hput hfr hcell hn0 hcg hcT HN0 eT2
  obtain ⟨w2, hw2⟩ : ∃ w2, w2 = w1.alloc (.cells #[.int .i64 m.c, .int .i64 m.d, .int .i64 m.s, .int .i64 m.a, .int .i64 m.l, .slice (some ⟨gT, 0, none⟩) t.length cT] 28) := ⟨_, rfl⟩
  have hb2 : Below w1.heap.size w1 w2 := by rw [hw2]; exact (Below.refl _ _).alloc (Nat.le_refl _) _
  have hs1 := hd1.size
  have hz2 : w2.heap.size = w1.heap.size + 1 := by rw [hw2]; simp
  have HBX := Lib.hid (show BoxC w2 w1.heap.size 0 [.int .i64 m.c, .int .i64 m.d, .int .i64 m.s, .int .i64 m.a, .int .i64 m.l, .slice (some ⟨gT, 0, none⟩) t.length cT] by rw [hw2]; exact BoxC.new [.int .i64 m.c, .int .i64 m.d, .int .i64 m.s, .int .i64 m.a, .int .i64 m.l, .slice (some ⟨gT, 0, none⟩) t.length cT] rfl)
  have HT2 := Lib.hid (hT.below hb2)
  have HD2 := Lib.hid (hd1.below hb2)
  have hhd2 : w2.cell? ⟨gT, 0, none⟩ = some (.slice (some ⟨g, 0, none⟩) n0 cg) := (hb2.cell (p := ⟨gT, 0, none⟩) hgT2).trans hhd
  have HHD := Lib.hid hhd2
  have HCU := Lib.hid (l15DrawCuts_any S A c bs m (some ⟨gT, 0, none⟩) t cT w2 HD2.out.src (mkS_maker hm) (mkS_is hm) ht1 ht4)
  clear hT hd1 hb2 hm hhd hhd2
  go_wp2_with fail
  rw [← hw2]
  clear hw2
  refine HCU.out.mono ?_
  rintro e w3 ⟨K, q, cs, rfl, hq, hc5, hk, hd3⟩
  have HQ := Lib.hid (And.intro hq hc5)
  have HC20 := Lib.hid (show cs.length ≤ 20 by omega)
  have HK3 := Lib.hid hk
  have HT3 := Lib.hid (HT2.out.dr (by omega) hd3)
  have HD3 := Lib.hid (HD2.out.trans hd3)
  have HD23 := Lib.hid hd3
  have HB3 := Lib.hid (HBX.out.dr (by omega) (by omega) hd3)
  have HN3 := Lib.hid (l01Next_dr hd3.src 30)
  have hs3 := hd3.size
  clear hq hc5 hk hd3 HCU
  go_wp2_with fail
  refine HN3.out.mono ?_
  rintro e w4 ⟨r, rfl, r0, r1, hd4, -⟩
  have HT4 := Lib.hid (HT3.out.dr (by omega) hd4)
  have HK4 := Lib.hid (HK3.out.dr (by omega) hd4)
  have HD4 := Lib.hid (HD3.out.trans hd4)
  have HD24 := Lib.hid (HD23.out.trans hd4)
  have HB4 := Lib.hid (HB3.out.dr (by omega) (by omega) hd4)
  have hs4 := hd4.size
  clear r1 hd4 HN3

  by_cases q0 : r = 0
  · subst q0
    have i0 : (0 : Int) < (t.length : Int) := by omega
    have htne : t ≠ [] := by rintro rfl; simp at ht1
    have i1 : (0 : Int) < (n0 : Int) := by omega
    have KS := Lib.hid (show ∀ w' : World, KeepF (fun x => x = S ∨ x = g) w4 w' → (w'.cell? ⟨w1.heap.size, 5, none⟩ = some (.slice (some ⟨gT, 0, none⟩) t.length cT) ∧ w'.cell? ⟨gT, 0, none⟩ = some (.slice (some ⟨g, 0, none⟩) n0 cg)) from fun w' hw =>
      ⟨(hw.cell (p := ⟨w1.heap.size, 5, none⟩) (by simp only; omega) (by simp only; omega)).trans HB4.out.2.2.2.2.2.1, (hw.cell (p := ⟨gT, 0, none⟩) (by simp only; omega) (by simp only; omega)).trans ((HD24.out.keep.cell (p := ⟨gT, 0, none⟩) (by simp only; omega) (by simp only; omega)).trans HHD.out)⟩)
    go_wp2_with fail
    refine wp_region_held_drew (S := (fun w' => (w'.cell? ⟨w1.heap.size, 5, none⟩ = some (.slice (some ⟨gT, 0, none⟩) t.length cT) ∧ w'.cell? ⟨gT, 0, none⟩ = some (.slice (some ⟨g, 0, none⟩) n0 cg)))) (by kernel_rfl) (KS.out _ (KeepF.ofBelow (belowDrew0 _))) (fun hHeld => ?_)
    refine takeD (i := 0) (some 15) (.pointer (some ⟨w1.heap.size, 5, none⟩)) rfl (by kernel_rfl) (by kernel_rfl) (by kernel_rfl) (by kernel_rfl) (fun _ _ _ h => h) (by assumption) (Or.inl ⟨by rfl, fun w hSw => by (try dsimp only at hSw); go_simp⟩) ?_
    simp only [Act.put, List.setIfInBounds_toArray, List.set_cons_zero, List.set_cons_succ]
    refine takeD (i := 1) (some 16) (.slice (some ⟨gT, 0, none⟩) t.length cT) rfl (by kernel_rfl) (by kernel_rfl) (by kernel_rfl) (by kernel_rfl) (fun _ _ _ h => h) (by assumption) (Or.inl ⟨by rfl, fun w hSw => by (try dsimp only at hSw); go_simp⟩) ?_
    simp only [Act.put, List.setIfInBounds_toArray, List.set_cons_zero, List.set_cons_succ]
    refine takeD (i := 2) (some 17) (.pointer (some ⟨gT, 0, none⟩)) rfl (by kernel_rfl) (by kernel_rfl) (by kernel_rfl) (by kernel_rfl) (fun _ _ _ h => h) (by assumption) (Or.inl ⟨by rfl, fun w hSw => by (try dsimp only at hSw); go_simp⟩) ?_
    simp only [Act.put, List.setIfInBounds_toArray, List.set_cons_zero, List.set_cons_succ]
    refine takeD (i := 3) (some 18) (.slice (some ⟨g, 0, none⟩) n0 cg) rfl (by kernel_rfl) (by kernel_rfl) (by kernel_rfl) (by kernel_rfl) (fun _ _ _ h => h) (by assumption) (Or.inl ⟨by rfl, fun w hSw => by (try dsimp only at hSw); go_simp⟩) ?_
    simp only [Act.put, List.setIfInBounds_toArray, List.set_cons_zero, List.set_cons_succ]
    refine takeD (i := 4) (some 19) (.pointer (some ⟨S, 0, none⟩)) rfl (by kernel_rfl) (by kernel_rfl) (by kernel_rfl) (by kernel_rfl) (fun _ _ _ h => h) (by assumption) (Or.inl ⟨by rfl, fun w hSw => by (try dsimp only at hSw); go_simp⟩) ?_
    simp only [Act.put, List.setIfInBounds_toArray, List.set_cons_zero, List.set_cons_succ]
    refine wpAnyH_ready (rs := [5]) (by kernel_rfl) (by simp) (AllReadyH.cons rfl (fun K hK => ?_) AllReadyH.nil)
    go_simp
    have hb5 : Below w4.heap.size w4 (w4.drew.alloc (.cells #[.int .i64 (-1), .int .i64 0, .int .i64 2] 2)) := (belowDrew0 w4).alloc (Nat.le_refl _) _
    have HHeld := KS.out _ (KeepF.ofBelow hb5)
    refine hK.out _ _ HHeld (fun _ => ?_)
    clear hK K
    try simp only [Act.put, List.setIfInBounds_toArray, List.set_cons_zero, List.set_cons_succ]
    refine wpAnyH_ready (rs := [6]) (by kernel_rfl) (by simp) (AllReadyH.cons rfl (fun K hK => ?_) AllReadyH.nil)
    go_simp
    refine (show Calls Tryz.prog 37 #[.pointer (some ⟨S, 0, none⟩), .slice (some ⟨w4.drew.heap.size, 0, none⟩) 3 3] (w4.drew.alloc (.cells #[.int .i64 (-1), .int .i64 0, .int .i64 2] 2)) _ from l01Pick_new (HD4.out.drew).src [-1, 0, 2] (by simp) (by simp)).mono ?_
    rintro e w5 ⟨x, rfl, hx, hd5, -⟩
    have HD45 := Lib.hid ((Dr.refl HD4.out.src).drew.trans hd5)
    have KX := Lib.hid (HD45.out.keep.mono (fun y (e : y = S) => Or.inl e : ∀ y, y = S → (y = S ∨ y = g)))
    clear hx hd5
    have HHeld := KS.out _ KX.out
    refine hK.out _ _ HHeld (fun _ => ?_)
    clear hK K
    try simp only [Act.put, List.setIfInBounds_toArray, List.set_cons_zero, List.set_cons_succ]
    refine takeD (i := 7) (some 22) (.pointer (some ⟨g, 0, none⟩)) rfl (by kernel_rfl) (by kernel_rfl) (by kernel_rfl) (by kernel_rfl) (fun _ _ _ h => h) (by assumption) (Or.inl ⟨by rfl, fun w hSw => by (try dsimp only at hSw); go_simp⟩) ?_
    simp only [Act.put, List.setIfInBounds_toArray, List.set_cons_zero, List.set_cons_succ]
    obtain ⟨gT', cT', g', cg', e1, hcT', hgT', hgT2', hhd', hcg', hg', hg2', hne', hcell', hfr', hput'⟩ := (HT4.out.dr (by omega) HD45.out).open_ (k := 0) (by omega)
    have e2 : gT' = gT := by injection e1 with e1; injection e1 with e1; injection e1 with e1 _ _; exact e1.symm
    subst e2
    have e3 : g' = g := by
      have := (KS.out _ KX.out).2
      rw [hhd'] at this; injection this with this; injection this with this; injection this with this; injection this with this _ _
    subst e3
    have e4 : cT' = cT := by injection e1 with _ _ e1; exact e1.symm
    subst e4
    have y0 := hcell' 0 (by have := HNN0.out; omega)
    have f0 := hfr' 0
    have HP := Lib.hid (hput' 0 x)
    have hs5 := HD45.out.size
    have kg := (KeepF.refl (fun y => y = g') w5).setCell (p := ⟨g', 0, none⟩) (.inl rfl) (.int .i64 x)
    have HKG := Lib.hid kg
    have HD5 := Lib.hid ((HD4.out.trans HD45.out).set ⟨g', 0, none⟩ hg' (.int .i64 x))
    have HB5 := Lib.hid ((HB4.out.dr (by omega) (by omega) HD45.out).keepF kg (by omega) (by omega))
    have HK5 := Lib.hid ((HK4.out.dr (by omega) HD45.out).keepB kg (fun y e => by omega))
    clear hcell' hfr' hput' kg
    refine wpAnyH_ready (rs := [8]) (by kernel_rfl) (by simp) (AllReadyH.cons rfl (fun K hK => ?_) AllReadyH.nil)
    go_simp
    have hh5 := KS.out _ (KX.out.trans (HKG.out.mono (fun y (e : y = g') => Or.inr e : ∀ y, y = g' → (y = S ∨ y = g'))) (fun _ _ e => e))
    have HHeld := hh5
    refine hK.out _ _ HHeld (fun _ => ?_)
    clear hK K
    try simp only [Act.put, List.setIfInBounds_toArray, List.set_cons_zero, List.set_cons_succ]
    refine wpAnyH_done (by kernel_rfl) ?_ _
    clear hh5 y0 f0
    obtain ⟨wv, hwv⟩ : ∃ wv, wv = w5.setCell ⟨g', 0, none⟩ (.int .i64 x) := ⟨_, rfl⟩
    rw [← hwv] at HP HD5 HB5 HK5 HKG ⊢
    obtain ⟨t2, ht2⟩ : ∃ z, z = t.set 0 (t[0].set 0 x) := ⟨_, rfl⟩
    rw [← ht2] at HP
    have HTL := Lib.hid (show t2.length = t.length by rw [ht2, List.length_set])
    have HTR := Lib.hid (show RIIb w0.heap.size wv (some ⟨gT', 0, none⟩) t2 from by
      have h := HP.out
      rw [← HTL.out] at h
      exact h.riib)
    clear ht2 hwv KS KX
    obtain ⟨x0, x1, x2, x3, x4, x5, _⟩ := HB5.out
    simp only [Nat.zero_add] at x1 x2 x3 x4 x5
    have hsW := HD5.out.size
    have lb0 := (HD5.out.keep.block w.heap.size (by omega) (by omega)).trans HR0.out
    have n0_0 := boxC_of_heap lb0 0 _ rfl
    have n0_1 := boxC_of_heap lb0 1 _ rfl
    have n0_2 := boxC_of_heap lb0 2 _ rfl
    have n0_3 := boxC_of_heap lb0 3 _ rfl
    have n0_4 := boxC_of_heap lb0 4 _ rfl
    have n0_5 := boxC_of_heap lb0 5 _ rfl
    have fr0 := frozen_of_heap lb0
    have f0_0 := fr0 0
    have f0_1 := fr0 1
    have f0_2 := fr0 2
    have f0_3 := fr0 3
    have f0_4 := fr0 4
    have f0_5 := fr0 5
    have HLB0 := Lib.hid lb0
    clear lb0 fr0
    go_wp2_with fail
    have lb0 := HLB0.out
    obtain ⟨wz, hwz⟩ : ∃ wz, wz = (((((wv.setCell ⟨w.heap.size, 0, none⟩ (.int .i64 m.c)).setCell ⟨w.heap.size, 1, none⟩ (.int .i64 m.d)).setCell ⟨w.heap.size, 2, none⟩ (.int .i64 m.s)).setCell ⟨w.heap.size, 3, none⟩ (.int .i64 m.a)).setCell ⟨w.heap.size, 4, none⟩ (.int .i64 m.l)).setCell ⟨w.heap.size, 5, none⟩ (.slice (some ⟨gT', 0, none⟩) t.length cT') := ⟨_, rfl⟩
    rw [← hwz]
    have kz : KeepF (fun x => x = w.heap.size) wv wz := by rw [hwz]; exact ((((((KeepF.refl (fun x => x = w.heap.size) wv).setCell (p := ⟨w.heap.size, 0, none⟩) (.inl rfl) _).setCell (p := ⟨w.heap.size, 1, none⟩) (.inl rfl) _).setCell (p := ⟨w.heap.size, 2, none⟩) (.inl rfl) _).setCell (p := ⟨w.heap.size, 3, none⟩) (.inl rfl) _).setCell (p := ⟨w.heap.size, 4, none⟩) (.inl rfl) _).setCell (p := ⟨w.heap.size, 5, none⟩) (.inl rfl) _
    have e0 : wz.heap[w.heap.size]? = some (.cells #[.int .i64 m.c, .int .i64 m.d, .int .i64 m.s, .int .i64 m.a, .int .i64 m.l, .slice (some ⟨gT', 0, none⟩) t.length cT'] 28 (0, 0)) := by rw [hwz]; simp [World.setCell, Array.getElem?_modify, lb0]
    (try simp only [Exit.inBlock, Exit.then])
    refine bodyPost_ret (results_one1 rfl _ _ (w.heap.size) 28 #[.int .i64 m.c, .int .i64 m.d, .int .i64 m.s, .int .i64 m.a, .int .i64 m.l, .slice (some ⟨gT', 0, none⟩) t.length cT'] (0, 0) _ (by rfl) e0 Tryz.underlying28 rfl (by kernel_rfl)) rfl ?_
    have hTr := HTR.out
    exact ⟨m, some ⟨gT', 0, none⟩, t2, cT', K, q, cs, by rw [HTL.out]; rfl, mkS_is HMS.out, by rw [HTL.out]; omega, HQ.out.1, HC20.out, (hTr.keepB kz (fun x e => by omega)).mono (fun g hg => by omega), (HK5.out.keepB kz (fun x e => by omega)).mono (fun g hg => by omega), (HD0.out.trans HD5.out).keepF kz (fun x e => by omega)⟩

  have p0 : (r == 0) = false := by simpa using q0
  by_cases q1 : r = 1
  · subst q1

    have KS := Lib.hid (show ∀ w' : World, KeepF (fun x => x = S ∨ (w.heap.size ≤ x ∧ x < w.heap.size + 1)) w4 w' → (w'.cell? ⟨w1.heap.size, 0, none⟩ = some (.int .i64 m.c) ∧ w'.cell? ⟨w1.heap.size, 1, none⟩ = some (.int .i64 m.d) ∧ w'.cell? ⟨w1.heap.size, 2, none⟩ = some (.int .i64 m.s) ∧ w'.cell? ⟨w1.heap.size, 3, none⟩ = some (.int .i64 m.a) ∧ w'.cell? ⟨w1.heap.size, 4, none⟩ = some (.int .i64 m.l) ∧ w'.cell? ⟨w1.heap.size, 5, none⟩ = some (.slice (some ⟨gT, 0, none⟩) t.length cT)) from fun w' hw => by
      have hb0 := HB4.out
      obtain ⟨z0_0, z0_1, z0_2, z0_3, z0_4, z0_5, _⟩ := hb0.keepF hw (World.block_lt_of_cell? _ _ hb0.1) (by omega)
      exact ⟨z0_0, z0_1, z0_2, z0_3, z0_4, z0_5⟩)
    go_wp2_with fail
    refine wp_region_held_drew (S := (fun w' => w'.cell? ⟨w1.heap.size, 0, none⟩ = some (.int .i64 m.c) ∧ w'.cell? ⟨w1.heap.size, 1, none⟩ = some (.int .i64 m.d) ∧ w'.cell? ⟨w1.heap.size, 2, none⟩ = some (.int .i64 m.s) ∧ w'.cell? ⟨w1.heap.size, 3, none⟩ = some (.int .i64 m.a) ∧ w'.cell? ⟨w1.heap.size, 4, none⟩ = some (.int .i64 m.l) ∧ w'.cell? ⟨w1.heap.size, 5, none⟩ = some (.slice (some ⟨gT, 0, none⟩) t.length cT))) (by kernel_rfl) (KS.out _ (KeepF.ofBelow (belowDrew0 _))) (fun hHeld => ?_)
    refine takeD (i := 0) (some 25) (.pointer (some ⟨S, 0, none⟩)) rfl (by kernel_rfl) (by kernel_rfl) (by kernel_rfl) (by kernel_rfl) (fun _ _ _ h => h) (by assumption) (Or.inl ⟨by rfl, fun w hSw => by (try dsimp only at hSw); go_simp⟩) ?_
    simp only [Act.put, List.setIfInBounds_toArray, List.set_cons_zero, List.set_cons_succ]
    refine takeD (i := 2) (some 27) (.pointer (some ⟨w1.heap.size, 5, none⟩)) rfl (by kernel_rfl) (by kernel_rfl) (by kernel_rfl) (by kernel_rfl) (fun _ _ _ h => h) (by assumption) (Or.inl ⟨by rfl, fun w hSw => by (try dsimp only at hSw); go_simp⟩) ?_
    simp only [Act.put, List.setIfInBounds_toArray, List.set_cons_zero, List.set_cons_succ]
    refine takeD (i := 3) (some 28) (.slice (some ⟨gT, 0, none⟩) t.length cT) rfl (by kernel_rfl) (by kernel_rfl) (by kernel_rfl) (by kernel_rfl) (fun _ _ _ h => h) (by assumption) (Or.inl ⟨by rfl, fun w hSw => by (try dsimp only at hSw); go_simp⟩) ?_
    simp only [Act.put, List.setIfInBounds_toArray, List.set_cons_zero, List.set_cons_succ]
    refine takeD (i := 5) (some 30) (.slice K cs.length q) rfl (by kernel_rfl) (by kernel_rfl) (by kernel_rfl) (by kernel_rfl) (fun _ _ _ h => h) (by assumption) (Or.inl ⟨by rfl, fun w hSw => by (try dsimp only at hSw); go_simp⟩) ?_
    simp only [Act.put, List.setIfInBounds_toArray, List.set_cons_zero, List.set_cons_succ]
    refine wpAnyH_ready (rs := [1]) (by kernel_rfl) (by simp) (AllReadyH.cons rfl (fun K hK => ?_) AllReadyH.nil)
    go_simp
    refine (l02Draw_any S A c bs w4.drew (HD4.out.drew).src).mono ?_
    rintro e w5 ⟨m2, rfl, hm2, hS5, hK5⟩
    have HM2 := Lib.hid hm2
    have HD45 := Lib.hid (((Dr.refl HD4.out.src).drew).next hS5 hK5)
    have HK5 := Lib.hid HD45.out.keep
    have hs5 := HD45.out.size
    clear hm2 hS5 hK5
    have HHeld := KS.out _ (HK5.out.mono (fun x e => .inl e))
    refine hK.out _ _ HHeld (fun _ => ?_)
    clear hK K
    try simp only [Act.put, List.setIfInBounds_toArray, List.set_cons_zero, List.set_cons_succ]
    refine takeD (i := 4) (some 29) (.agg #[.int .i64 m2.c, .int .i64 m2.d, .int .i64 m2.s, .int .i64 m2.a, .int .i64 m2.l, .slice (some ⟨gT, 0, none⟩) t.length cT]) rfl (by kernel_rfl) (by kernel_rfl) (by kernel_rfl) (by kernel_rfl) (fun _ _ _ h => h) (by assumption) (Or.inl ⟨by rfl, fun w hSw => by (try dsimp only at hSw); go_simp⟩) ?_
    simp only [Act.put, List.setIfInBounds_toArray, List.set_cons_zero, List.set_cons_succ]
    have lb0 := (((HD4.out.keep).trans (HK5.out) (fun _ _ e => e)).block (w.heap.size) (by omega) (by omega)).trans HR0.out
    have n0_0 := boxC_of_heap lb0 0 _ rfl
    have n0_1 := boxC_of_heap lb0 1 _ rfl
    have n0_2 := boxC_of_heap lb0 2 _ rfl
    have n0_3 := boxC_of_heap lb0 3 _ rfl
    have n0_4 := boxC_of_heap lb0 4 _ rfl
    have n0_5 := boxC_of_heap lb0 5 _ rfl
    have fr0 := frozen_of_heap lb0
    have f0_0 := fr0 0
    have f0_1 := fr0 1
    have f0_2 := fr0 2
    have f0_3 := fr0 3
    have f0_4 := fr0 4
    have f0_5 := fr0 5
    have HLB0 := Lib.hid lb0
    clear lb0 fr0
    refine wpAnyH_ready (rs := [6]) (by kernel_rfl) (by simp) (AllReadyH.cons rfl (fun K hK => ?_) AllReadyH.nil)
    go_simp
    have HHeld := KS.out _ (((HK5.out).mono (fun x e => .inl e)).trans (((((((KeepF.refl (fun x => x = S ∨ (w.heap.size ≤ x ∧ x < w.heap.size + 1)) w5).setCell (p := ⟨w.heap.size, 0, none⟩) (.inl (.inr ⟨by simp only; omega, by simp only; omega⟩)) (.int .i64 m2.c)).setCell (p := ⟨w.heap.size, 1, none⟩) (.inl (.inr ⟨by simp only; omega, by simp only; omega⟩)) (.int .i64 m2.d)).setCell (p := ⟨w.heap.size, 2, none⟩) (.inl (.inr ⟨by simp only; omega, by simp only; omega⟩)) (.int .i64 m2.s)).setCell (p := ⟨w.heap.size, 3, none⟩) (.inl (.inr ⟨by simp only; omega, by simp only; omega⟩)) (.int .i64 m2.a)).setCell (p := ⟨w.heap.size, 4, none⟩) (.inl (.inr ⟨by simp only; omega, by simp only; omega⟩)) (.int .i64 m2.l)).setCell (p := ⟨w.heap.size, 5, none⟩) (.inl (.inr ⟨by simp only; omega, by simp only; omega⟩)) (.slice (some ⟨gT, 0, none⟩) t.length cT)) (fun _ _ e => e))
    refine hK.out _ _ HHeld (fun _ => ?_)
    clear hK K
    try simp only [Act.put, List.setIfInBounds_toArray, List.set_cons_zero, List.set_cons_succ]
    refine takeD (i := 7) (some 3) (.slice K cs.length q) rfl (by kernel_rfl) (by kernel_rfl) (by kernel_rfl) (by kernel_rfl) (fun _ _ _ h => h) (by assumption) (Or.inl ⟨by rfl, fun w hSw => by (try dsimp only at hSw); go_simp⟩) ?_
    simp only [Act.put, List.setIfInBounds_toArray, List.set_cons_zero, List.set_cons_succ]
    refine wpAnyH_done (by kernel_rfl) ?_ _
    clear KS
    go_wp2_with fail
    have lb0 := HLB0.out
    obtain ⟨wz, hwz⟩ : ∃ wz, wz = (((((w5.setCell ⟨w.heap.size, 0, none⟩ (.int .i64 m2.c)).setCell ⟨w.heap.size, 1, none⟩ (.int .i64 m2.d)).setCell ⟨w.heap.size, 2, none⟩ (.int .i64 m2.s)).setCell ⟨w.heap.size, 3, none⟩ (.int .i64 m2.a)).setCell ⟨w.heap.size, 4, none⟩ (.int .i64 m2.l)).setCell ⟨w.heap.size, 5, none⟩ (.slice (some ⟨gT, 0, none⟩) t.length cT) := ⟨_, rfl⟩
    rw [← hwz]
    have kz : KeepF (fun x => w.heap.size ≤ x ∧ x < w.heap.size + 1) w5 wz := by rw [hwz]; exact ((((((KeepF.refl (fun x => w.heap.size ≤ x ∧ x < w.heap.size + 1) w5).setCell (p := ⟨w.heap.size, 0, none⟩) (.inl ⟨by simp only; omega, by simp only; omega⟩) _).setCell (p := ⟨w.heap.size, 1, none⟩) (.inl ⟨by simp only; omega, by simp only; omega⟩) _).setCell (p := ⟨w.heap.size, 2, none⟩) (.inl ⟨by simp only; omega, by simp only; omega⟩) _).setCell (p := ⟨w.heap.size, 3, none⟩) (.inl ⟨by simp only; omega, by simp only; omega⟩) _).setCell (p := ⟨w.heap.size, 4, none⟩) (.inl ⟨by simp only; omega, by simp only; omega⟩) _).setCell (p := ⟨w.heap.size, 5, none⟩) (.inl ⟨by simp only; omega, by simp only; omega⟩) _
    have e0 : wz.heap[w.heap.size]? = some (.cells #[.int .i64 m2.c, .int .i64 m2.d, .int .i64 m2.s, .int .i64 m2.a, .int .i64 m2.l, .slice (some ⟨gT, 0, none⟩) t.length cT] 28 (0, 0)) := by rw [hwz]; simp [World.setCell, Array.getElem?_modify, lb0]
    (try simp only [Exit.inBlock, Exit.then])
    refine bodyPost_ret (results_one1 rfl _ _ (w.heap.size) 28 #[.int .i64 m2.c, .int .i64 m2.d, .int .i64 m2.s, .int .i64 m2.a, .int .i64 m2.l, .slice (some ⟨gT, 0, none⟩) t.length cT] (0, 0) _ (by rfl) e0 Tryz.underlying28 rfl (by kernel_rfl)) rfl ?_

    exact ⟨m2, some ⟨gT, 0, none⟩, t, cT, K, q, cs, rfl, HM2.out, by omega, HQ.out.1, HC20.out, (((HT4.out.dr (by omega) HD45.out).riib).keepB kz (fun x e => by omega)).mono (fun g hg => by omega), ((HK4.out.dr (by omega) HD45.out).keepB kz (fun x e => by omega)).mono (fun g hg => by omega), (HD0.out.trans (HD4.out.trans HD45.out)).keepF kz (fun x e => by omega)⟩
  have p1 : (r == 1) = false := by simpa using q1
  by_cases q2 : r = 2
  · subst q2

    have KS := Lib.hid (show ∀ w' : World, KeepF (fun x => x = S ∨ (w.heap.size ≤ x ∧ x < w.heap.size + 1)) w4 w' → (w'.cell? ⟨w1.heap.size, 0, none⟩ = some (.int .i64 m.c) ∧ w'.cell? ⟨w1.heap.size, 1, none⟩ = some (.int .i64 m.d) ∧ w'.cell? ⟨w1.heap.size, 2, none⟩ = some (.int .i64 m.s) ∧ w'.cell? ⟨w1.heap.size, 3, none⟩ = some (.int .i64 m.a) ∧ w'.cell? ⟨w1.heap.size, 4, none⟩ = some (.int .i64 m.l) ∧ w'.cell? ⟨w1.heap.size, 5, none⟩ = some (.slice (some ⟨gT, 0, none⟩) t.length cT)) from fun w' hw => by
      have hb0 := HB4.out
      obtain ⟨z0_0, z0_1, z0_2, z0_3, z0_4, z0_5, _⟩ := hb0.keepF hw (World.block_lt_of_cell? _ _ hb0.1) (by omega)
      exact ⟨z0_0, z0_1, z0_2, z0_3, z0_4, z0_5⟩)
    go_wp2_with fail
    refine wp_region_held_drew (S := (fun w' => w'.cell? ⟨w1.heap.size, 0, none⟩ = some (.int .i64 m.c) ∧ w'.cell? ⟨w1.heap.size, 1, none⟩ = some (.int .i64 m.d) ∧ w'.cell? ⟨w1.heap.size, 2, none⟩ = some (.int .i64 m.s) ∧ w'.cell? ⟨w1.heap.size, 3, none⟩ = some (.int .i64 m.a) ∧ w'.cell? ⟨w1.heap.size, 4, none⟩ = some (.int .i64 m.l) ∧ w'.cell? ⟨w1.heap.size, 5, none⟩ = some (.slice (some ⟨gT, 0, none⟩) t.length cT))) (by kernel_rfl) (KS.out _ (KeepF.ofBelow (belowDrew0 _))) (fun hHeld => ?_)
    refine takeD (i := 0) (some 33) (.pointer (some ⟨w1.heap.size, 0, none⟩)) rfl (by kernel_rfl) (by kernel_rfl) (by kernel_rfl) (by kernel_rfl) (fun _ _ _ h => h) (by assumption) (Or.inl ⟨by rfl, fun w hSw => by (try dsimp only at hSw); go_simp⟩) ?_
    simp only [Act.put, List.setIfInBounds_toArray, List.set_cons_zero, List.set_cons_succ]
    refine takeD (i := 1) (some 34) (.agg #[.int .i64 m.c, .int .i64 m.d, .int .i64 m.s, .int .i64 m.a, .int .i64 m.l]) rfl (by kernel_rfl) (by kernel_rfl) (by kernel_rfl) (by kernel_rfl) (fun _ _ _ h => h) (by assumption) (Or.inl ⟨by rfl, fun w hSw => by (try dsimp only at hSw); go_simp⟩) ?_
    simp only [Act.put, List.setIfInBounds_toArray, List.set_cons_zero, List.set_cons_succ]
    refine takeD (i := 2) (some 35) (.pointer (some ⟨S, 0, none⟩)) rfl (by kernel_rfl) (by kernel_rfl) (by kernel_rfl) (by kernel_rfl) (fun _ _ _ h => h) (by assumption) (Or.inl ⟨by rfl, fun w hSw => by (try dsimp only at hSw); go_simp⟩) ?_
    simp only [Act.put, List.setIfInBounds_toArray, List.set_cons_zero, List.set_cons_succ]
    refine takeD (i := 5) (some 38) (.slice K cs.length q) rfl (by kernel_rfl) (by kernel_rfl) (by kernel_rfl) (by kernel_rfl) (fun _ _ _ h => h) (by assumption) (Or.inl ⟨by rfl, fun w hSw => by (try dsimp only at hSw); go_simp⟩) ?_
    simp only [Act.put, List.setIfInBounds_toArray, List.set_cons_zero, List.set_cons_succ]
    refine wpAnyH_ready (rs := [3]) (by kernel_rfl) (by simp) (AllReadyH.cons rfl (fun K hK => ?_) AllReadyH.nil)
    go_simp
    refine (l11Draw_any S A c bs w4.drew (HD4.out.drew).src).mono ?_
    rintro e w5 ⟨T2, d2, t2, rfl, hd2, ht2, hl2, hd5⟩
    have HT5 := Lib.hid (show RIIb w0.heap.size w5 T2 t2 from ht2.mono (fun x hx => by rw [show w4.drew.heap.size = w4.heap.size from rfl]; omega))
    have HD45 := Lib.hid ((Dr.refl HD4.out.src).drew.trans hd5)
    have HK5 := Lib.hid HD45.out.keep
    have hs5 := HD45.out.size
    clear hd2 ht2 hd5
    have HHeld := KS.out _ (HK5.out.mono (fun x e => .inl e))
    refine hK.out _ _ HHeld (fun _ => ?_)
    clear hK K
    try simp only [Act.put, List.setIfInBounds_toArray, List.set_cons_zero, List.set_cons_succ]
    refine takeD (i := 4) (some 37) (.agg #[.int .i64 m.c, .int .i64 m.d, .int .i64 m.s, .int .i64 m.a, .int .i64 m.l, .slice T2 t2.length d2]) rfl (by kernel_rfl) (by kernel_rfl) (by kernel_rfl) (by kernel_rfl) (fun _ _ _ h => h) (by assumption) (Or.inl ⟨by rfl, fun w hSw => by (try dsimp only at hSw); go_simp⟩) ?_
    simp only [Act.put, List.setIfInBounds_toArray, List.set_cons_zero, List.set_cons_succ]
    have lb0 := (((HD4.out.keep).trans (HK5.out) (fun _ _ e => e)).block (w.heap.size) (by omega) (by omega)).trans HR0.out
    have n0_0 := boxC_of_heap lb0 0 _ rfl
    have n0_1 := boxC_of_heap lb0 1 _ rfl
    have n0_2 := boxC_of_heap lb0 2 _ rfl
    have n0_3 := boxC_of_heap lb0 3 _ rfl
    have n0_4 := boxC_of_heap lb0 4 _ rfl
    have n0_5 := boxC_of_heap lb0 5 _ rfl
    have fr0 := frozen_of_heap lb0
    have f0_0 := fr0 0
    have f0_1 := fr0 1
    have f0_2 := fr0 2
    have f0_3 := fr0 3
    have f0_4 := fr0 4
    have f0_5 := fr0 5
    have HLB0 := Lib.hid lb0
    clear lb0 fr0
    refine wpAnyH_ready (rs := [6]) (by kernel_rfl) (by simp) (AllReadyH.cons rfl (fun K hK => ?_) AllReadyH.nil)
    go_simp
    have HHeld := KS.out _ (((HK5.out).mono (fun x e => .inl e)).trans (((((((KeepF.refl (fun x => x = S ∨ (w.heap.size ≤ x ∧ x < w.heap.size + 1)) w5).setCell (p := ⟨w.heap.size, 0, none⟩) (.inl (.inr ⟨by simp only; omega, by simp only; omega⟩)) (.int .i64 m.c)).setCell (p := ⟨w.heap.size, 1, none⟩) (.inl (.inr ⟨by simp only; omega, by simp only; omega⟩)) (.int .i64 m.d)).setCell (p := ⟨w.heap.size, 2, none⟩) (.inl (.inr ⟨by simp only; omega, by simp only; omega⟩)) (.int .i64 m.s)).setCell (p := ⟨w.heap.size, 3, none⟩) (.inl (.inr ⟨by simp only; omega, by simp only; omega⟩)) (.int .i64 m.a)).setCell (p := ⟨w.heap.size, 4, none⟩) (.inl (.inr ⟨by simp only; omega, by simp only; omega⟩)) (.int .i64 m.l)).setCell (p := ⟨w.heap.size, 5, none⟩) (.inl (.inr ⟨by simp only; omega, by simp only; omega⟩)) (.slice T2 t2.length d2)) (fun _ _ e => e))
    refine hK.out _ _ HHeld (fun _ => ?_)
    clear hK K
    try simp only [Act.put, List.setIfInBounds_toArray, List.set_cons_zero, List.set_cons_succ]
    refine takeD (i := 7) (some 3) (.slice K cs.length q) rfl (by kernel_rfl) (by kernel_rfl) (by kernel_rfl) (by kernel_rfl) (fun _ _ _ h => h) (by assumption) (Or.inl ⟨by rfl, fun w hSw => by (try dsimp only at hSw); go_simp⟩) ?_
    simp only [Act.put, List.setIfInBounds_toArray, List.set_cons_zero, List.set_cons_succ]
    refine wpAnyH_done (by kernel_rfl) ?_ _
    clear KS
    go_wp2_with fail
    have lb0 := HLB0.out
    obtain ⟨wz, hwz⟩ : ∃ wz, wz = (((((w5.setCell ⟨w.heap.size, 0, none⟩ (.int .i64 m.c)).setCell ⟨w.heap.size, 1, none⟩ (.int .i64 m.d)).setCell ⟨w.heap.size, 2, none⟩ (.int .i64 m.s)).setCell ⟨w.heap.size, 3, none⟩ (.int .i64 m.a)).setCell ⟨w.heap.size, 4, none⟩ (.int .i64 m.l)).setCell ⟨w.heap.size, 5, none⟩ (.slice T2 t2.length d2) := ⟨_, rfl⟩
    rw [← hwz]
    have kz : KeepF (fun x => w.heap.size ≤ x ∧ x < w.heap.size + 1) w5 wz := by rw [hwz]; exact ((((((KeepF.refl (fun x => w.heap.size ≤ x ∧ x < w.heap.size + 1) w5).setCell (p := ⟨w.heap.size, 0, none⟩) (.inl ⟨by simp only; omega, by simp only; omega⟩) _).setCell (p := ⟨w.heap.size, 1, none⟩) (.inl ⟨by simp only; omega, by simp only; omega⟩) _).setCell (p := ⟨w.heap.size, 2, none⟩) (.inl ⟨by simp only; omega, by simp only; omega⟩) _).setCell (p := ⟨w.heap.size, 3, none⟩) (.inl ⟨by simp only; omega, by simp only; omega⟩) _).setCell (p := ⟨w.heap.size, 4, none⟩) (.inl ⟨by simp only; omega, by simp only; omega⟩) _).setCell (p := ⟨w.heap.size, 5, none⟩) (.inl ⟨by simp only; omega, by simp only; omega⟩) _
    have e0 : wz.heap[w.heap.size]? = some (.cells #[.int .i64 m.c, .int .i64 m.d, .int .i64 m.s, .int .i64 m.a, .int .i64 m.l, .slice T2 t2.length d2] 28 (0, 0)) := by rw [hwz]; simp [World.setCell, Array.getElem?_modify, lb0]
    (try simp only [Exit.inBlock, Exit.then])
    refine bodyPost_ret (results_one1 rfl _ _ (w.heap.size) 28 #[.int .i64 m.c, .int .i64 m.d, .int .i64 m.s, .int .i64 m.a, .int .i64 m.l, .slice T2 t2.length d2] (0, 0) _ (by rfl) e0 Tryz.underlying28 rfl (by kernel_rfl)) rfl ?_

    exact ⟨m, T2, t2, d2, K, q, cs, rfl, mkS_is HMS.out, hl2, HQ.out.1, HC20.out, (HT5.out.keepB kz (fun x e => by omega)).mono (fun g hg => by omega), ((HK4.out.dr (by omega) HD45.out).keepB kz (fun x e => by omega)).mono (fun g hg => by omega), (HD0.out.trans (HD4.out.trans HD45.out)).keepF kz (fun x e => by omega)⟩
  · have p2 : (r == 2) = false := by simpa using q2
    obtain ⟨x0, x1, x2, x3, x4, x5, _⟩ := HB4.out
    simp only [Nat.zero_add] at x1 x2 x3 x4 x5
    have hsW := HD4.out.size
    have lb0 := (HD4.out.keep.block w.heap.size (by omega) (by omega)).trans HR0.out
    have n0_0 := boxC_of_heap lb0 0 _ rfl
    have n0_1 := boxC_of_heap lb0 1 _ rfl
    have n0_2 := boxC_of_heap lb0 2 _ rfl
    have n0_3 := boxC_of_heap lb0 3 _ rfl
    have n0_4 := boxC_of_heap lb0 4 _ rfl
    have n0_5 := boxC_of_heap lb0 5 _ rfl
    have fr0 := frozen_of_heap lb0
    have f0_0 := fr0 0
    have f0_1 := fr0 1
    have f0_2 := fr0 2
    have f0_3 := fr0 3
    have f0_4 := fr0 4
    have f0_5 := fr0 5
    have HLB0 := Lib.hid lb0
    clear lb0 fr0
    go_wp2_with fail
    have lb0 := HLB0.out
    obtain ⟨wz, hwz⟩ : ∃ wz, wz = (((((w4.setCell ⟨w.heap.size, 0, none⟩ (.int .i64 m.c)).setCell ⟨w.heap.size, 1, none⟩ (.int .i64 m.d)).setCell ⟨w.heap.size, 2, none⟩ (.int .i64 m.s)).setCell ⟨w.heap.size, 3, none⟩ (.int .i64 m.a)).setCell ⟨w.heap.size, 4, none⟩ (.int .i64 m.l)).setCell ⟨w.heap.size, 5, none⟩ (.slice (some ⟨gT, 0, none⟩) t.length cT) := ⟨_, rfl⟩
    rw [← hwz]
    have kz : KeepF (fun x => x = w.heap.size) w4 wz := by rw [hwz]; exact ((((((KeepF.refl (fun x => x = w.heap.size) w4).setCell (p := ⟨w.heap.size, 0, none⟩) (.inl rfl) _).setCell (p := ⟨w.heap.size, 1, none⟩) (.inl rfl) _).setCell (p := ⟨w.heap.size, 2, none⟩) (.inl rfl) _).setCell (p := ⟨w.heap.size, 3, none⟩) (.inl rfl) _).setCell (p := ⟨w.heap.size, 4, none⟩) (.inl rfl) _).setCell (p := ⟨w.heap.size, 5, none⟩) (.inl rfl) _
    have e0 : wz.heap[w.heap.size]? = some (.cells #[.int .i64 m.c, .int .i64 m.d, .int .i64 m.s, .int .i64 m.a, .int .i64 m.l, .slice (some ⟨gT, 0, none⟩) t.length cT] 28 (0, 0)) := by rw [hwz]; simp [World.setCell, Array.getElem?_modify, lb0]
    (try simp only [Exit.inBlock, Exit.then])
    refine bodyPost_ret (results_one1 rfl _ _ (w.heap.size) 28 #[.int .i64 m.c, .int .i64 m.d, .int .i64 m.s, .int .i64 m.a, .int .i64 m.l, .slice (some ⟨gT, 0, none⟩) t.length cT] (0, 0) _ (by rfl) e0 Tryz.underlying28 rfl (by kernel_rfl)) rfl ?_
    have hTr := HT4.out.riib
    exact ⟨m, some ⟨gT, 0, none⟩, t, cT, K, q, cs, rfl, mkS_is HMS.out, by omega, HQ.out.1, HC20.out, (hTr.keepB kz (fun x e => by omega)).mono (fun g hg => by omega), (HK4.out.keepB kz (fun x e => by omega)).mono (fun g hg => by omega), (HD0.out.trans HD4.out).keepF kz (fun x e => by omega)⟩
end Go.Proofs.YtdedajohkdbdkaaGreatDoor
