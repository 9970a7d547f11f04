/- Draws of systems that the statements call, on l16Draw. -/
import Derived.Test.YtdedajohkdbdkaaGreatDrSys5
import Derived.Laws.BitsLemmas
namespace Go.Proofs.YtdedajohkdbdkaaGreat
set_option linter.unusedVariables false
open Go.RowKit


set_option maxRecDepth 100000 in
set_option maxHeartbeats 8000000 in
theorem drawCountCand_any (A : Option Addr) (c : Nat) (bs : List Int) (w : World) (h : RCode w A bs) : Calls Tryz.prog 30 #[.slice A bs.length c] w (DrSC w) := by
  obtain ⟨w0, hw0⟩ : ∃ w0, w0 = w.alloc (.cells #[.int .i64 0, .int .i64 0, .int .i64 0, .int .i64 0, .int .i64 0, .slice none 0 0] 45) := ⟨_, rfl⟩
  have hz0 : w0.heap.size = w.heap.size + 1 := by rw [hw0]; simp
  have B0 : Below w.heap.size w w0 := by rw [hw0]; exact (Below.refl _ _).alloc (Nat.le_refl _) _
  have HR0 := Lib.hid (show w0.heap[w.heap.size]? = some (.cells #[.int .i64 0, .int .i64 0, .int .i64 0, .int .i64 0, .int .i64 0, .slice none 0 0] 45 (0, 0)) by
    have h1 := heap_alloc_new w (.cells #[.int .i64 0, .int .i64 0, .int .i64 0, .int .i64 0, .int .i64 0, .slice none 0 0] 45)
    rw [hw0]; simpa using h1)
  have hw00 := hz0
  have HF := Lib.hid (l01From_any A c bs w0 (RV.below h.1 B0) h.2)
  have HB0 := Lib.hid B0
  clear h B0
  go_enter Tryz.func30, Tryz.ntmps30
  go_wp2_with fail
  rw [← hw0]
  clear hw0
  refine HF.out.mono ?_
  rintro e w1 ⟨rfl, hS, hb1, hz1⟩
  obtain ⟨S, hSe⟩ : ∃ S, S = w0.heap.size := ⟨_, rfl⟩
  rw [← hSe] at hS hz1 ⊢
  have hSw : w.heap.size + 1 = S := by omega
  have hs1 : S < w1.heap.size := by omega
  have HB1 := Lib.hid (HB0.out.trans (hb1.mono (by omega)))
  have HK1 := Lib.hid (KeepF.ofBelow (F := fun x => x = S) hb1)
  have HDR := Lib.hid (l16Draw_any S A c bs w1 hS)
  clear hS hb1 hSe hz1 hw00 HF
  go_wp2_with fail
  refine HDR.out.mono ?_
  rintro e w2 ⟨m, T, t, cT, K, q, cs, rfl, hm, ht, hq, hc, hT, hK, hd2⟩
  have hs2 := hd2.size
  have HMD := Lib.hid hm; have HQ := Lib.hid hq; have HC := Lib.hid hc; have HTL := Lib.hid ht
  have HLT := Lib.hid hT; have HLK := Lib.hid hK; have HD2 := Lib.hid hd2
  have hk2 := HK1.out.trans hd2.keep (fun _ _ e => e)
  have lb0 := (hk2.block (w.heap.size) (by omega) (by omega)).trans HR0.out
  have n0_0 := boxC_of_heap lb0 0 _ rfl
  have n0_1 := boxC_of_heap lb0 1 _ rfl
  have n0_2 := boxC_of_heap lb0 2 _ rfl
  have n0_3 := boxC_of_heap lb0 3 _ rfl
  have n0_4 := boxC_of_heap lb0 4 _ rfl
  have n0_5 := boxC_of_heap lb0 5 _ rfl
  have fr0 := frozen_of_heap lb0
  have f0_0 := fr0 0
  have f0_1 := fr0 1
  have f0_2 := fr0 2
  have f0_3 := fr0 3
  have f0_4 := fr0 4
  have f0_5 := fr0 5
  have HLB0 := Lib.hid lb0
  clear lb0 fr0 hk2 hq hc ht hT hK hd2 hm HDR
  go_wp2_with fail
  have lb0 := HLB0.out
  obtain ⟨wz, hwz⟩ : ∃ wz, wz = (((((w2.setCell ⟨w.heap.size, 0, none⟩ (.int .i64 m.c)).setCell ⟨w.heap.size, 1, none⟩ (.int .i64 m.d)).setCell ⟨w.heap.size, 2, none⟩ (.int .i64 m.s)).setCell ⟨w.heap.size, 3, none⟩ (.int .i64 m.a)).setCell ⟨w.heap.size, 4, none⟩ (.int .i64 m.l)).setCell ⟨w.heap.size, 5, none⟩ (.slice T t.length cT) := ⟨_, rfl⟩
  rw [← hwz]
  have kz : KeepF (fun x => w.heap.size ≤ x ∧ x < w.heap.size + 1) w2 wz := by rw [hwz]; exact ((((((KeepF.refl (fun x => w.heap.size ≤ x ∧ x < w.heap.size + 1) w2).setCell (p := ⟨w.heap.size, 0, none⟩) (.inl ⟨by simp only; omega, by simp only; omega⟩) _).setCell (p := ⟨w.heap.size, 1, none⟩) (.inl ⟨by simp only; omega, by simp only; omega⟩) _).setCell (p := ⟨w.heap.size, 2, none⟩) (.inl ⟨by simp only; omega, by simp only; omega⟩) _).setCell (p := ⟨w.heap.size, 3, none⟩) (.inl ⟨by simp only; omega, by simp only; omega⟩) _).setCell (p := ⟨w.heap.size, 4, none⟩) (.inl ⟨by simp only; omega, by simp only; omega⟩) _).setCell (p := ⟨w.heap.size, 5, none⟩) (.inl ⟨by simp only; omega, by simp only; omega⟩) _
  have e0 : wz.heap[w.heap.size]? = some (.cells #[.int .i64 m.c, .int .i64 m.d, .int .i64 m.s, .int .i64 m.a, .int .i64 m.l, .slice T t.length cT] 45 (0, 0)) := by rw [hwz]; simp [World.setCell, Array.getElem?_modify, lb0]
  refine bodyPost_ret (results_one1 rfl _ _ (w.heap.size) 45 #[.int .i64 m.c, .int .i64 m.d, .int .i64 m.s, .int .i64 m.a, .int .i64 m.l, .slice T t.length cT] (0, 0) _ (by rfl) e0 Tryz.underlying45 rfl (by kernel_rfl)) rfl ?_
  have hdz := HD2.out
  have kt : KeepF (fun x => w.heap.size ≤ x) w wz := ((KeepF.ofBelow (F := fun x => w.heap.size ≤ x) (HB1.out.mono (Nat.le_refl _))).trans (hdz.keep.mono fun x e => by omega) (fun _ _ e => e)).trans (kz.mono fun x e => e.1) (fun _ _ e => e)
  exact ⟨m, T, t, cT, K, q, cs, rfl, HTL.out, HQ.out, by have := HC.out; omega, (HLT.out.keepB kz (fun x e => by omega)).rii, (HLK.out.keepB kz (fun x e => by omega)).rii, kt.toBelow (Nat.le_refl _) (fun x hx e => by omega)⟩

set_option maxRecDepth 100000 in
set_option maxHeartbeats 8000000 in
theorem drawNextCand_any (A : Option Addr) (c : Nat) (bs : List Int) (w : World) (h : RCode w A bs) : Calls Tryz.prog 27 #[.slice A bs.length c] w (DrSCn w) := by
  obtain ⟨w0, hw0⟩ : ∃ w0, w0 = w.alloc (.cells #[.int .i64 0, .int .i64 0, .int .i64 0, .int .i64 0, .int .i64 0, .slice none 0 0] 45) := ⟨_, rfl⟩
  have hz0 : w0.heap.size = w.heap.size + 1 := by rw [hw0]; simp
  have B0 : Below w.heap.size w w0 := by rw [hw0]; exact (Below.refl _ _).alloc (Nat.le_refl _) _
  have HR0 := Lib.hid (show w0.heap[w.heap.size]? = some (.cells #[.int .i64 0, .int .i64 0, .int .i64 0, .int .i64 0, .int .i64 0, .slice none 0 0] 45 (0, 0)) by
    have h1 := heap_alloc_new w (.cells #[.int .i64 0, .int .i64 0, .int .i64 0, .int .i64 0, .int .i64 0, .slice none 0 0] 45)
    rw [hw0]; simpa using h1)
  have hw00 := hz0
  have HF := Lib.hid (l01From_any A c bs w0 (RV.below h.1 B0) h.2)
  have HB0 := Lib.hid B0
  clear h B0
  go_enter Tryz.func27, Tryz.ntmps27
  go_wp2_with fail
  rw [← hw0]
  clear hw0
  refine HF.out.mono ?_
  rintro e w1 ⟨rfl, hS, hb1, hz1⟩
  obtain ⟨S, hSe⟩ : ∃ S, S = w0.heap.size := ⟨_, rfl⟩
  rw [← hSe] at hS hz1 ⊢
  have hSw : w.heap.size + 1 = S := by omega
  have hs1 : S < w1.heap.size := by omega
  have HB1 := Lib.hid (HB0.out.trans (hb1.mono (by omega)))
  have HK1 := Lib.hid (KeepF.ofBelow (F := fun x => x = S) hb1)
  have HDR := Lib.hid (l16Draw_any S A c bs w1 hS)
  clear hS hb1 hSe hz1 hw00 HF
  go_wp2_with fail
  refine HDR.out.mono ?_
  rintro e w2 ⟨m, T, t, cT, K, q, cs, rfl, hm, ht, hq, hc, hT, hK, hd2⟩
  have hs2 := hd2.size
  have HMD := Lib.hid hm; have HQ := Lib.hid hq; have HC := Lib.hid hc; have HTL := Lib.hid ht
  obtain ⟨w3, hwb⟩ : ∃ wb, wb = w2.alloc (.cells #[.int .i64 m.c, .int .i64 m.d, .int .i64 m.s, .int .i64 m.a, .int .i64 m.l, .slice T t.length cT] 45) := ⟨_, rfl⟩
  have hbb : Below w2.heap.size w2 w3 := by rw [hwb]; exact (Below.refl _ _).alloc (Nat.le_refl _) _
  have hs3 : w2.heap.size < w3.heap.size := by rw [hwb]; simp
  have HBX := Lib.hid (show BoxC w3 w2.heap.size 0 [.int .i64 m.c, .int .i64 m.d, .int .i64 m.s, .int .i64 m.a, .int .i64 m.l, .slice T t.length cT] by rw [hwb]; exact BoxC.new [.int .i64 m.c, .int .i64 m.d, .int .i64 m.s, .int .i64 m.a, .int .i64 m.l, .slice T t.length cT] rfl)
  have HLT := Lib.hid (hT.below hbb); have HLK := Lib.hid (hK.below hbb)
  have HD3 := Lib.hid (hd2.below hbb)
  clear hm hq hc ht hT hK hd2 hbb HDR
  have KS := Lib.hid (show ∀ w' : World, KeepF (fun x => x = S ∨ (w.heap.size ≤ x ∧ x < w.heap.size + 1)) w3 w' → (w'.cell? ⟨w2.heap.size, 0, none⟩ = some (.int .i64 m.c) ∧ w'.cell? ⟨w2.heap.size, 1, none⟩ = some (.int .i64 m.d) ∧ w'.cell? ⟨w2.heap.size, 2, none⟩ = some (.int .i64 m.s) ∧ w'.cell? ⟨w2.heap.size, 3, none⟩ = some (.int .i64 m.a) ∧ w'.cell? ⟨w2.heap.size, 4, none⟩ = some (.int .i64 m.l) ∧ w'.cell? ⟨w2.heap.size, 5, none⟩ = some (.slice T t.length cT)) from fun w' hw => by
    have hb0 := HBX.out
    obtain ⟨z0_0, z0_1, z0_2, z0_3, z0_4, z0_5, _⟩ := hb0.keepF hw (World.block_lt_of_cell? _ _ hb0.1) (by omega)
    exact ⟨z0_0, z0_1, z0_2, z0_3, z0_4, z0_5⟩)
  go_wp2_with fail
  rw [← hwb]
  clear hwb
  refine wp_region_held_drew (S := (fun w' => w'.cell? ⟨w2.heap.size, 0, none⟩ = some (.int .i64 m.c) ∧ w'.cell? ⟨w2.heap.size, 1, none⟩ = some (.int .i64 m.d) ∧ w'.cell? ⟨w2.heap.size, 2, none⟩ = some (.int .i64 m.s) ∧ w'.cell? ⟨w2.heap.size, 3, none⟩ = some (.int .i64 m.a) ∧ w'.cell? ⟨w2.heap.size, 4, none⟩ = some (.int .i64 m.l) ∧ w'.cell? ⟨w2.heap.size, 5, none⟩ = some (.slice T t.length cT))) (by kernel_rfl) (KS.out _ (KeepF.ofBelow (belowDrew0 _))) (fun hHeld => ?_)
  refine takeD (i := 0) (some 15) (.agg #[.int .i64 m.c, .int .i64 m.d, .int .i64 m.s, .int .i64 m.a, .int .i64 m.l, .slice T t.length cT]) rfl (by kernel_rfl) (by kernel_rfl) (by kernel_rfl) (by kernel_rfl) (fun _ _ _ h => h) (by assumption) (Or.inl ⟨by rfl, fun w hSw => by (try dsimp only at hSw); go_simp⟩) ?_
  simp only [Act.put, List.setIfInBounds_toArray, List.set_cons_zero, List.set_cons_succ]
  refine takeD (i := 1) (some 16) (.slice K cs.length q) rfl (by kernel_rfl) (by kernel_rfl) (by kernel_rfl) (by kernel_rfl) (fun _ _ _ h => h) (by assumption) (Or.inl ⟨by rfl, fun w hSw => by (try dsimp only at hSw); go_simp⟩) ?_
  simp only [Act.put, List.setIfInBounds_toArray, List.set_cons_zero, List.set_cons_succ]
  refine takeD (i := 2) (some 17) (.pointer (some ⟨S, 0, none⟩)) rfl (by kernel_rfl) (by kernel_rfl) (by kernel_rfl) (by kernel_rfl) (fun _ _ _ h => h) (by assumption) (Or.inl ⟨by rfl, fun w hSw => by (try dsimp only at hSw); go_simp⟩) ?_
  simp only [Act.put, List.setIfInBounds_toArray, List.set_cons_zero, List.set_cons_succ]
  refine wpAnyH_ready (rs := [3]) (by kernel_rfl) (by simp) (AllReadyH.cons rfl (fun K hK => ?_) AllReadyH.nil)
  go_simp
  have hb4 : Below w3.heap.size w3 (w3.drew.alloc (.cells #[.int .i64 0, .int .i64 1, .int .i64 3, .int .i64 20, .int .i64 300, .int .i64 301, .int .i64 (-1)] 2)) := (belowDrew0 w3).alloc (Nat.le_refl _) _
  have HHeld := KS.out _ (KeepF.ofBelow hb4)
  refine hK.out _ _ HHeld (fun _ => ?_)
  clear hK K
  try simp only [Act.put, List.setIfInBounds_toArray, List.set_cons_zero, List.set_cons_succ]
  refine wpAnyH_ready (rs := [4]) (by kernel_rfl) (by simp) (AllReadyH.cons rfl (fun K hK => ?_) AllReadyH.nil)
  go_simp
  refine (show Calls Tryz.prog 77 #[.pointer (some ⟨S, 0, none⟩), .slice (some ⟨w3.drew.heap.size, 0, none⟩) 7 7] (w3.drew.alloc (.cells #[.int .i64 0, .int .i64 1, .int .i64 3, .int .i64 20, .int .i64 300, .int .i64 301, .int .i64 (-1)] 2)) _ from l01Pick_new (HD3.out.drew).src [0, 1, 3, 20, 300, 301, -1] (by simp) (by simp)).mono ?_
  rintro e w4 ⟨n, rfl, hx, hd4, -⟩
  have HX := Lib.hid hx
  have HD34 := Lib.hid ((Dr.refl HD3.out.src).drew.trans hd4)
  have HK34 := Lib.hid HD34.out.keep
  have hs4 := HD34.out.size
  clear hx hd4
  have HHeld := KS.out _ (HK34.out.mono (fun x e => .inl e))
  refine hK.out _ _ HHeld (fun _ => ?_)
  clear hK K
  try simp only [Act.put, List.setIfInBounds_toArray, List.set_cons_zero, List.set_cons_succ]
  have lb0 := (((HK1.out.trans HD3.out.keep (fun _ _ e => e)).trans (HK34.out) (fun _ _ e => e)).block (w.heap.size) (by omega) (by omega)).trans HR0.out
  have n0_0 := boxC_of_heap lb0 0 _ rfl
  have n0_1 := boxC_of_heap lb0 1 _ rfl
  have n0_2 := boxC_of_heap lb0 2 _ rfl
  have n0_3 := boxC_of_heap lb0 3 _ rfl
  have n0_4 := boxC_of_heap lb0 4 _ rfl
  have n0_5 := boxC_of_heap lb0 5 _ rfl
  have fr0 := frozen_of_heap lb0
  have f0_0 := fr0 0
  have f0_1 := fr0 1
  have f0_2 := fr0 2
  have f0_3 := fr0 3
  have f0_4 := fr0 4
  have f0_5 := fr0 5
  have HLB0 := Lib.hid lb0
  clear lb0 fr0
  refine wpAnyH_ready (rs := [5]) (by kernel_rfl) (by simp) (AllReadyH.cons rfl (fun K hK => ?_) AllReadyH.nil)
  go_simp
  have HHeld := KS.out _ (((HK34.out).mono (fun x e => .inl e)).trans (((((((KeepF.refl (fun x => x = S ∨ (w.heap.size ≤ x ∧ x < w.heap.size + 1)) w4).setCell (p := ⟨w.heap.size, 0, none⟩) (.inl (.inr ⟨by simp only; omega, by simp only; omega⟩)) (.int .i64 m.c)).setCell (p := ⟨w.heap.size, 1, none⟩) (.inl (.inr ⟨by simp only; omega, by simp only; omega⟩)) (.int .i64 m.d)).setCell (p := ⟨w.heap.size, 2, none⟩) (.inl (.inr ⟨by simp only; omega, by simp only; omega⟩)) (.int .i64 m.s)).setCell (p := ⟨w.heap.size, 3, none⟩) (.inl (.inr ⟨by simp only; omega, by simp only; omega⟩)) (.int .i64 m.a)).setCell (p := ⟨w.heap.size, 4, none⟩) (.inl (.inr ⟨by simp only; omega, by simp only; omega⟩)) (.int .i64 m.l)).setCell (p := ⟨w.heap.size, 5, none⟩) (.inl (.inr ⟨by simp only; omega, by simp only; omega⟩)) (.slice T t.length cT)) (fun _ _ e => e))
  refine hK.out _ _ HHeld (fun _ => ?_)
  clear hK K
  try simp only [Act.put, List.setIfInBounds_toArray, List.set_cons_zero, List.set_cons_succ]
  refine takeD (i := 6) (some 3) (.slice K cs.length q) rfl (by kernel_rfl) (by kernel_rfl) (by kernel_rfl) (by kernel_rfl) (fun _ _ _ h => h) (by assumption) (Or.inl ⟨by rfl, fun w hSw => by (try dsimp only at hSw); go_simp⟩) ?_
  simp only [Act.put, List.setIfInBounds_toArray, List.set_cons_zero, List.set_cons_succ]
  refine takeD (i := 7) (some 4) (.int .i64 n) rfl (by kernel_rfl) (by kernel_rfl) (by kernel_rfl) (by kernel_rfl) (fun _ _ _ h => h) (by assumption) (Or.inl ⟨by rfl, fun w hSw => by (try dsimp only at hSw); go_simp⟩) ?_
  simp only [Act.put, List.setIfInBounds_toArray, List.set_cons_zero, List.set_cons_succ]
  refine wpAnyH_done (by kernel_rfl) ?_ _
  clear KS
  go_wp2_with fail
  have lb0 := HLB0.out
  obtain ⟨wz, hwz⟩ : ∃ wz, wz = (((((w4.setCell ⟨w.heap.size, 0, none⟩ (.int .i64 m.c)).setCell ⟨w.heap.size, 1, none⟩ (.int .i64 m.d)).setCell ⟨w.heap.size, 2, none⟩ (.int .i64 m.s)).setCell ⟨w.heap.size, 3, none⟩ (.int .i64 m.a)).setCell ⟨w.heap.size, 4, none⟩ (.int .i64 m.l)).setCell ⟨w.heap.size, 5, none⟩ (.slice T t.length cT) := ⟨_, rfl⟩
  rw [← hwz]
  have kz : KeepF (fun x => w.heap.size ≤ x ∧ x < w.heap.size + 1) w4 wz := by rw [hwz]; exact ((((((KeepF.refl (fun x => w.heap.size ≤ x ∧ x < w.heap.size + 1) w4).setCell (p := ⟨w.heap.size, 0, none⟩) (.inl ⟨by simp only; omega, by simp only; omega⟩) _).setCell (p := ⟨w.heap.size, 1, none⟩) (.inl ⟨by simp only; omega, by simp only; omega⟩) _).setCell (p := ⟨w.heap.size, 2, none⟩) (.inl ⟨by simp only; omega, by simp only; omega⟩) _).setCell (p := ⟨w.heap.size, 3, none⟩) (.inl ⟨by simp only; omega, by simp only; omega⟩) _).setCell (p := ⟨w.heap.size, 4, none⟩) (.inl ⟨by simp only; omega, by simp only; omega⟩) _).setCell (p := ⟨w.heap.size, 5, none⟩) (.inl ⟨by simp only; omega, by simp only; omega⟩) _
  have e0 : wz.heap[w.heap.size]? = some (.cells #[.int .i64 m.c, .int .i64 m.d, .int .i64 m.s, .int .i64 m.a, .int .i64 m.l, .slice T t.length cT] 45 (0, 0)) := by rw [hwz]; simp [World.setCell, Array.getElem?_modify, lb0]
  (try simp only [Exit.inBlock, Exit.then])
  refine bodyPost_ret (results_one2 rfl _ _ (w.heap.size) 45 #[.int .i64 m.c, .int .i64 m.d, .int .i64 m.s, .int .i64 m.a, .int .i64 m.l, .slice T t.length cT] (0, 0) _ (by rfl) e0 Tryz.underlying45 rfl (by kernel_rfl)) rfl ?_
  have hdz := HD3.out.trans HD34.out
  have kt : KeepF (fun x => w.heap.size ≤ x) w wz := ((KeepF.ofBelow (F := fun x => w.heap.size ≤ x) (HB1.out.mono (Nat.le_refl _))).trans (hdz.keep.mono fun x e => by omega) (fun _ _ e => e)).trans (kz.mono fun x e => e.1) (fun _ _ e => e)
  exact ⟨m, T, t, cT, K, q, cs, n, rfl, HTL.out, HQ.out, by have := HC.out; omega, ((HLT.out.dr (by omega) (HD34.out)).keepB kz (fun x e => by omega)).rii, ((HLK.out.dr (by omega) (HD34.out)).keepB kz (fun x e => by omega)).rii, by have := HX.out; simp at this; omega, kt.toBelow (Nat.le_refl _) (fun x hx e => by omega)⟩

set_option maxRecDepth 100000 in
set_option maxHeartbeats 8000000 in
theorem drawDoors_any (A : Option Addr) (c : Nat) (bs : List Int) (w : World) (h : RCode w A bs) : Calls Tryz.prog 33 #[.slice A bs.length c] w (DrSCk w) := by
  obtain ⟨w0, hw0⟩ : ∃ w0, w0 = w.alloc (.cells #[.int .i64 0, .int .i64 0, .int .i64 0, .int .i64 0, .int .i64 0, .slice none 0 0] 45) := ⟨_, rfl⟩
  have hz0 : w0.heap.size = w.heap.size + 1 := by rw [hw0]; simp
  have B0 : Below w.heap.size w w0 := by rw [hw0]; exact (Below.refl _ _).alloc (Nat.le_refl _) _
  have HR0 := Lib.hid (show w0.heap[w.heap.size]? = some (.cells #[.int .i64 0, .int .i64 0, .int .i64 0, .int .i64 0, .int .i64 0, .slice none 0 0] 45 (0, 0)) by
    have h1 := heap_alloc_new w (.cells #[.int .i64 0, .int .i64 0, .int .i64 0, .int .i64 0, .int .i64 0, .slice none 0 0] 45)
    rw [hw0]; simpa using h1)
  have hw00 := hz0
  have HF := Lib.hid (l01From_any A c bs w0 (RV.below h.1 B0) h.2)
  have HB0 := Lib.hid B0
  clear h B0
  go_enter Tryz.func33, Tryz.ntmps33
  go_wp2_with fail
  rw [← hw0]
  clear hw0
  refine HF.out.mono ?_
  rintro e w1 ⟨rfl, hS, hb1, hz1⟩
  obtain ⟨S, hSe⟩ : ∃ S, S = w0.heap.size := ⟨_, rfl⟩
  rw [← hSe] at hS hz1 ⊢
  have hSw : w.heap.size + 1 = S := by omega
  have hs1 : S < w1.heap.size := by omega
  have HB1 := Lib.hid (HB0.out.trans (hb1.mono (by omega)))
  have HK1 := Lib.hid (KeepF.ofBelow (F := fun x => x = S) hb1)
  have HDR := Lib.hid (l16Draw_any S A c bs w1 hS)
  clear hS hb1 hSe hz1 hw00 HF
  go_wp2_with fail
  refine HDR.out.mono ?_
  rintro e w2 ⟨m, T, t, cT, K, q, cs, rfl, hm, ht, hq, hc, hT, hK, hd2⟩
  have hs2 := hd2.size
  have HMD := Lib.hid hm; have HQ := Lib.hid hq; have HC := Lib.hid hc; have HTL := Lib.hid ht
  obtain ⟨w3, hwb⟩ : ∃ wb, wb = w2.alloc (.cells #[.int .i64 m.c, .int .i64 m.d, .int .i64 m.s, .int .i64 m.a, .int .i64 m.l, .slice T t.length cT] 45) := ⟨_, rfl⟩
  have hbb : Below w2.heap.size w2 w3 := by rw [hwb]; exact (Below.refl _ _).alloc (Nat.le_refl _) _
  have hs3 : w2.heap.size < w3.heap.size := by rw [hwb]; simp
  have HBX := Lib.hid (show BoxC w3 w2.heap.size 0 [.int .i64 m.c, .int .i64 m.d, .int .i64 m.s, .int .i64 m.a, .int .i64 m.l, .slice T t.length cT] by rw [hwb]; exact BoxC.new [.int .i64 m.c, .int .i64 m.d, .int .i64 m.s, .int .i64 m.a, .int .i64 m.l, .slice T t.length cT] rfl)
  have HLT := Lib.hid (hT.below hbb); have HLK := Lib.hid (hK.below hbb)
  have HD3 := Lib.hid (hd2.below hbb)
  clear hm hq hc ht hT hK hd2 hbb HDR
  by_cases hc0 : 0 < cs.length
  · have hc0i : (0 : Int) < (cs.length : Int) := by omega
    have hcne : cs ≠ [] := by rintro rfl; simp at hc0
    have HN1 := Lib.hid (l01Next_dr HD3.out.src 3)
    go_wp2_with fail
    rw [← hwb]
    clear hwb
    refine HN1.out.mono ?_
    rintro e w4 ⟨z, rfl, z0, z1, hd4, -⟩
    have HD34 := Lib.hid hd4
    have HD4 := Lib.hid (HD3.out.trans hd4)
    have hs4 := HD34.out.size
    clear hd4 z1 HN1
    by_cases hz : z = 0
    · subst hz
      obtain ⟨bK, oK, Y, qy, rfl, hcell, hqy, hry, hbk, -, hnf⟩ := (HLK.out.dr (by omega) HD34.out).row hc0
      obtain ⟨ys, hys⟩ : ∃ ys, ys = cs[0] := ⟨_, rfl⟩
      rw [← hys] at hcell hqy hry hnf
      rw [Nat.add_zero] at hcell
      have HBK := Lib.hid (show w1.heap.size ≤ bK from Nat.le_of_not_lt hbk)
      have HQY := Lib.hid hqy
      have HRY := Lib.hid (show RIn w1.heap.size w4 Y ys from RIn.mono ⟨hry, hnf⟩ (by omega))
      clear hys hqy hry hnf
      have KS := Lib.hid (show ∀ w' : World, KeepF (fun x => x = S ∨ (w.heap.size ≤ x ∧ x < w.heap.size + 1)) w4 w' → (w'.cell? ⟨w2.heap.size, 0, none⟩ = some (.int .i64 m.c) ∧ w'.cell? ⟨w2.heap.size, 1, none⟩ = some (.int .i64 m.d) ∧ w'.cell? ⟨w2.heap.size, 2, none⟩ = some (.int .i64 m.s) ∧ w'.cell? ⟨w2.heap.size, 3, none⟩ = some (.int .i64 m.a) ∧ w'.cell? ⟨w2.heap.size, 4, none⟩ = some (.int .i64 m.l) ∧ w'.cell? ⟨w2.heap.size, 5, none⟩ = some (.slice T t.length cT) ∧ w'.cell? ⟨bK, oK, none⟩ = some (.slice Y ys.length qy)) from fun w' hw => by
        have hb0 := HBX.out.dr (by omega) (by omega) HD34.out
        obtain ⟨z0_0, z0_1, z0_2, z0_3, z0_4, z0_5, _⟩ := hb0.keepF hw (World.block_lt_of_cell? _ _ hb0.1) (by omega)
        exact ⟨z0_0, z0_1, z0_2, z0_3, z0_4, z0_5, (hw.cell (p := ⟨bK, oK, none⟩) (World.block_lt_of_cell? _ _ hcell) (by have := HBK.out; simp only; omega)).trans hcell⟩)
      go_wp2_with fail
      refine wp_region_held_drew (S := (fun w' => w'.cell? ⟨w2.heap.size, 0, none⟩ = some (.int .i64 m.c) ∧ w'.cell? ⟨w2.heap.size, 1, none⟩ = some (.int .i64 m.d) ∧ w'.cell? ⟨w2.heap.size, 2, none⟩ = some (.int .i64 m.s) ∧ w'.cell? ⟨w2.heap.size, 3, none⟩ = some (.int .i64 m.a) ∧ w'.cell? ⟨w2.heap.size, 4, none⟩ = some (.int .i64 m.l) ∧ w'.cell? ⟨w2.heap.size, 5, none⟩ = some (.slice T t.length cT) ∧ w'.cell? ⟨bK, oK, none⟩ = some (.slice Y ys.length qy))) (by kernel_rfl) (KS.out _ (KeepF.ofBelow (belowDrew0 _))) (fun hHeld => ?_)
      refine takeD (i := 0) (some 23) (.agg #[.int .i64 m.c, .int .i64 m.d, .int .i64 m.s, .int .i64 m.a, .int .i64 m.l, .slice T t.length cT]) rfl (by kernel_rfl) (by kernel_rfl) (by kernel_rfl) (by kernel_rfl) (fun _ _ _ h => h) (by assumption) (Or.inl ⟨by rfl, fun w hSw => by (try dsimp only at hSw); go_simp⟩) ?_
      simp only [Act.put, List.setIfInBounds_toArray, List.set_cons_zero, List.set_cons_succ]
      refine takeD (i := 1) (some 24) (.slice (some ⟨bK, oK, none⟩) cs.length q) rfl (by kernel_rfl) (by kernel_rfl) (by kernel_rfl) (by kernel_rfl) (fun _ _ _ h => h) (by assumption) (Or.inl ⟨by rfl, fun w hSw => by (try dsimp only at hSw); go_simp⟩) ?_
      simp only [Act.put, List.setIfInBounds_toArray, List.set_cons_zero, List.set_cons_succ]
      refine takeD (i := 2) (some 25) (.slice (some ⟨bK, oK, none⟩) cs.length q) rfl (by kernel_rfl) (by kernel_rfl) (by kernel_rfl) (by kernel_rfl) (fun _ _ _ h => h) (by assumption) (Or.inl ⟨by rfl, fun w hSw => by (try dsimp only at hSw); go_simp⟩) ?_
      simp only [Act.put, List.setIfInBounds_toArray, List.set_cons_zero, List.set_cons_succ]
      refine takeD (i := 3) (some 26) (.pointer (some ⟨bK, oK, none⟩)) rfl (by kernel_rfl) (by kernel_rfl) (by kernel_rfl) (by kernel_rfl) (fun _ _ _ h => h) (by assumption) (Or.inl ⟨by rfl, fun w hSw => by (try dsimp only at hSw); go_simp⟩) ?_
      simp only [Act.put, List.setIfInBounds_toArray, List.set_cons_zero, List.set_cons_succ]
      refine takeD (i := 4) (some 27) (.slice Y ys.length qy) rfl (by kernel_rfl) (by kernel_rfl) (by kernel_rfl) (by kernel_rfl) (fun _ _ _ h => h) (by assumption) (Or.inl ⟨by rfl, fun w hSw => by (try dsimp only at hSw); go_simp⟩) ?_
      simp only [Act.put, List.setIfInBounds_toArray, List.set_cons_zero, List.set_cons_succ]
      have lb0 := ((HK1.out.trans HD4.out.keep (fun _ _ e => e)).block (w.heap.size) (by omega) (by omega)).trans HR0.out
      have n0_0 := boxC_of_heap lb0 0 _ rfl
      have n0_1 := boxC_of_heap lb0 1 _ rfl
      have n0_2 := boxC_of_heap lb0 2 _ rfl
      have n0_3 := boxC_of_heap lb0 3 _ rfl
      have n0_4 := boxC_of_heap lb0 4 _ rfl
      have n0_5 := boxC_of_heap lb0 5 _ rfl
      have fr0 := frozen_of_heap lb0
      have f0_0 := fr0 0
      have f0_1 := fr0 1
      have f0_2 := fr0 2
      have f0_3 := fr0 3
      have f0_4 := fr0 4
      have f0_5 := fr0 5
      have HLB0 := Lib.hid lb0
      clear lb0 fr0
      refine wpAnyH_ready (rs := [5]) (by kernel_rfl) (by simp) (AllReadyH.cons rfl (fun K hK => ?_) AllReadyH.nil)
      go_simp
      have HHeld := KS.out _ ((((((((KeepF.refl (fun x => x = S ∨ (w.heap.size ≤ x ∧ x < w.heap.size + 1)) w4).setCell (p := ⟨w.heap.size, 0, none⟩) (.inl (.inr ⟨by simp only; omega, by simp only; omega⟩)) (.int .i64 m.c)).setCell (p := ⟨w.heap.size, 1, none⟩) (.inl (.inr ⟨by simp only; omega, by simp only; omega⟩)) (.int .i64 m.d)).setCell (p := ⟨w.heap.size, 2, none⟩) (.inl (.inr ⟨by simp only; omega, by simp only; omega⟩)) (.int .i64 m.s)).setCell (p := ⟨w.heap.size, 3, none⟩) (.inl (.inr ⟨by simp only; omega, by simp only; omega⟩)) (.int .i64 m.a)).setCell (p := ⟨w.heap.size, 4, none⟩) (.inl (.inr ⟨by simp only; omega, by simp only; omega⟩)) (.int .i64 m.l)).setCell (p := ⟨w.heap.size, 5, none⟩) (.inl (.inr ⟨by simp only; omega, by simp only; omega⟩)) (.slice T t.length cT)).trans (KeepF.ofBelow (F := (fun x => x = S ∨ (w.heap.size ≤ x ∧ x < w.heap.size + 1))) (belowDrew0 _)) (fun _ _ e => e))
      refine hK.out _ _ HHeld (fun _ => ?_)
      clear hK K
      try simp only [Act.put, List.setIfInBounds_toArray, List.set_cons_zero, List.set_cons_succ]
      refine takeD (i := 6) (some 3) (.slice (some ⟨bK, oK, none⟩) cs.length q) rfl (by kernel_rfl) (by kernel_rfl) (by kernel_rfl) (by kernel_rfl) (fun _ _ _ h => h) (by assumption) (Or.inl ⟨by rfl, fun w hSw => by (try dsimp only at hSw); go_simp⟩) ?_
      simp only [Act.put, List.setIfInBounds_toArray, List.set_cons_zero, List.set_cons_succ]
      refine takeD (i := 7) (some 4) (.slice Y ys.length qy) rfl (by kernel_rfl) (by kernel_rfl) (by kernel_rfl) (by kernel_rfl) (fun _ _ _ h => h) (by assumption) (Or.inl ⟨by rfl, fun w hSw => by (try dsimp only at hSw); go_simp⟩) ?_
      simp only [Act.put, List.setIfInBounds_toArray, List.set_cons_zero, List.set_cons_succ]
      refine wpAnyH_done (by kernel_rfl) ?_ _
      clear KS
      go_wp2_with fail
      have lb0 := HLB0.out
      obtain ⟨wz, hwz⟩ : ∃ wz, wz = ((((((w4.setCell ⟨w.heap.size, 0, none⟩ (.int .i64 m.c)).setCell ⟨w.heap.size, 1, none⟩ (.int .i64 m.d)).setCell ⟨w.heap.size, 2, none⟩ (.int .i64 m.s)).setCell ⟨w.heap.size, 3, none⟩ (.int .i64 m.a)).setCell ⟨w.heap.size, 4, none⟩ (.int .i64 m.l)).setCell ⟨w.heap.size, 5, none⟩ (.slice T t.length cT)).drew := ⟨_, rfl⟩
      rw [← hwz]
      have kz : KeepF (fun x => w.heap.size ≤ x ∧ x < w.heap.size + 1) w4 wz := by rw [hwz]; exact (((((((KeepF.refl (fun x => w.heap.size ≤ x ∧ x < w.heap.size + 1) w4).setCell (p := ⟨w.heap.size, 0, none⟩) (.inl ⟨by simp only; omega, by simp only; omega⟩) _).setCell (p := ⟨w.heap.size, 1, none⟩) (.inl ⟨by simp only; omega, by simp only; omega⟩) _).setCell (p := ⟨w.heap.size, 2, none⟩) (.inl ⟨by simp only; omega, by simp only; omega⟩) _).setCell (p := ⟨w.heap.size, 3, none⟩) (.inl ⟨by simp only; omega, by simp only; omega⟩) _).setCell (p := ⟨w.heap.size, 4, none⟩) (.inl ⟨by simp only; omega, by simp only; omega⟩) _).setCell (p := ⟨w.heap.size, 5, none⟩) (.inl ⟨by simp only; omega, by simp only; omega⟩) _).trans (KeepF.ofBelow (F := (fun x => w.heap.size ≤ x ∧ x < w.heap.size + 1)) (belowDrew0 _)) (fun _ _ e => e)
      have e0 : wz.heap[w.heap.size]? = some (.cells #[.int .i64 m.c, .int .i64 m.d, .int .i64 m.s, .int .i64 m.a, .int .i64 m.l, .slice T t.length cT] 45 (0, 0)) := by rw [hwz]; simp [World.setCell, World.drew, Array.getElem?_modify, lb0]
      (try simp only [Exit.inBlock, Exit.then])
      refine bodyPost_ret (results_one2 rfl _ _ (w.heap.size) 45 #[.int .i64 m.c, .int .i64 m.d, .int .i64 m.s, .int .i64 m.a, .int .i64 m.l, .slice T t.length cT] (0, 0) _ (by rfl) e0 Tryz.underlying45 rfl (by kernel_rfl)) rfl ?_
      have hdz := HD4.out
      have kt : KeepF (fun x => w.heap.size ≤ x) w wz := ((KeepF.ofBelow (F := fun x => w.heap.size ≤ x) (HB1.out.mono (Nat.le_refl _))).trans (hdz.keep.mono fun x e => by omega) (fun _ _ e => e)).trans (kz.mono fun x e => e.1) (fun _ _ e => e)
      exact ⟨m, T, t, cT, some ⟨bK, oK, none⟩, q, cs, Y, qy, ys, rfl, HTL.out, HQ.out, by have := HC.out; omega, ((HLT.out.dr (by omega) (HD34.out)).keepB kz (fun x e => by omega)).rii, ((HLK.out.dr (by omega) (HD34.out)).keepB kz (fun x e => by omega)).rii, ((HRY.out).keepF kz (fun x e => by omega)).1, HQY.out, kt.toBelow (Nat.le_refl _) (fun x hx e => by omega)⟩
    · have hz' : (z == 0) = false := by simpa using hz
      have KS := Lib.hid (show ∀ w' : World, KeepF (fun x => x = S ∨ (w.heap.size ≤ x ∧ x < w.heap.size + 1)) w4 w' → (w'.cell? ⟨w2.heap.size, 0, none⟩ = some (.int .i64 m.c) ∧ w'.cell? ⟨w2.heap.size, 1, none⟩ = some (.int .i64 m.d) ∧ w'.cell? ⟨w2.heap.size, 2, none⟩ = some (.int .i64 m.s) ∧ w'.cell? ⟨w2.heap.size, 3, none⟩ = some (.int .i64 m.a) ∧ w'.cell? ⟨w2.heap.size, 4, none⟩ = some (.int .i64 m.l) ∧ w'.cell? ⟨w2.heap.size, 5, none⟩ = some (.slice T t.length cT)) from fun w' hw => by
        have hb0 := HBX.out.dr (by omega) (by omega) HD34.out
        obtain ⟨z0_0, z0_1, z0_2, z0_3, z0_4, z0_5, _⟩ := hb0.keepF hw (World.block_lt_of_cell? _ _ hb0.1) (by omega)
        exact ⟨z0_0, z0_1, z0_2, z0_3, z0_4, z0_5⟩)
      go_wp2_with fail
      refine wp_region_held_drew (S := (fun w' => w'.cell? ⟨w2.heap.size, 0, none⟩ = some (.int .i64 m.c) ∧ w'.cell? ⟨w2.heap.size, 1, none⟩ = some (.int .i64 m.d) ∧ w'.cell? ⟨w2.heap.size, 2, none⟩ = some (.int .i64 m.s) ∧ w'.cell? ⟨w2.heap.size, 3, none⟩ = some (.int .i64 m.a) ∧ w'.cell? ⟨w2.heap.size, 4, none⟩ = some (.int .i64 m.l) ∧ w'.cell? ⟨w2.heap.size, 5, none⟩ = some (.slice T t.length cT))) (by kernel_rfl) (KS.out _ (KeepF.ofBelow (belowDrew0 _))) (fun hHeld => ?_)
      refine takeD (i := 0) (some 28) (.agg #[.int .i64 m.c, .int .i64 m.d, .int .i64 m.s, .int .i64 m.a, .int .i64 m.l, .slice T t.length cT]) rfl (by kernel_rfl) (by kernel_rfl) (by kernel_rfl) (by kernel_rfl) (fun _ _ _ h => h) (by assumption) (Or.inl ⟨by rfl, fun w hSw => by (try dsimp only at hSw); go_simp⟩) ?_
      simp only [Act.put, List.setIfInBounds_toArray, List.set_cons_zero, List.set_cons_succ]
      refine takeD (i := 1) (some 29) (.slice K cs.length q) rfl (by kernel_rfl) (by kernel_rfl) (by kernel_rfl) (by kernel_rfl) (fun _ _ _ h => h) (by assumption) (Or.inl ⟨by rfl, fun w hSw => by (try dsimp only at hSw); go_simp⟩) ?_
      simp only [Act.put, List.setIfInBounds_toArray, List.set_cons_zero, List.set_cons_succ]
      refine takeD (i := 2) (some 30) (.pointer (some ⟨S, 0, none⟩)) rfl (by kernel_rfl) (by kernel_rfl) (by kernel_rfl) (by kernel_rfl) (fun _ _ _ h => h) (by assumption) (Or.inl ⟨by rfl, fun w hSw => by (try dsimp only at hSw); go_simp⟩) ?_
      simp only [Act.put, List.setIfInBounds_toArray, List.set_cons_zero, List.set_cons_succ]
      refine takeD (i := 3) (some 31) (.pointer (some ⟨w2.heap.size, 0, none⟩)) rfl (by kernel_rfl) (by kernel_rfl) (by kernel_rfl) (by kernel_rfl) (fun _ _ _ h => h) (by assumption) (Or.inl ⟨by rfl, fun w hSw => by (try dsimp only at hSw); go_simp⟩) ?_
      simp only [Act.put, List.setIfInBounds_toArray, List.set_cons_zero, List.set_cons_succ]
      refine takeD (i := 4) (some 32) (.agg #[.int .i64 m.c, .int .i64 m.d, .int .i64 m.s, .int .i64 m.a, .int .i64 m.l]) rfl (by kernel_rfl) (by kernel_rfl) (by kernel_rfl) (by kernel_rfl) (fun _ _ _ h => h) (by assumption) (Or.inl ⟨by rfl, fun w hSw => by (try dsimp only at hSw); go_simp⟩) ?_
      simp only [Act.put, List.setIfInBounds_toArray, List.set_cons_zero, List.set_cons_succ]
      refine wpAnyH_ready (rs := [5]) (by kernel_rfl) (by simp) (AllReadyH.cons rfl (fun K hK => ?_) AllReadyH.nil)
      go_simp
      refine (l02DrawKey_any S A c bs m w4.drew (HD4.out.drew).src HMD.out).mono ?_
      rintro e w9 ⟨Y, qy, ys, rfl, hqy, hy9, hry, hdy⟩
      have HQY := Lib.hid hqy; have HRY := Lib.hid (show RIn w1.heap.size w9 Y ys from hry.mono (show w1.heap.size ≤ w4.heap.size by omega))
      have HD9 := Lib.hid ((Dr.refl HD4.out.src).drew.trans hdy)
      have HK9 := Lib.hid HD9.out.keep
      have hs9 := HD9.out.size
      clear hqy hy9 hry hdy
      have HHeld := KS.out _ (HK9.out.mono (fun x e => .inl e))
      refine hK.out _ _ HHeld (fun _ => ?_)
      clear hK K
      try simp only [Act.put, List.setIfInBounds_toArray, List.set_cons_zero, List.set_cons_succ]
      have lb0 := (((HK1.out.trans HD4.out.keep (fun _ _ e => e)).trans (HK9.out) (fun _ _ e => e)).block (w.heap.size) (by omega) (by omega)).trans HR0.out
      have n0_0 := boxC_of_heap lb0 0 _ rfl
      have n0_1 := boxC_of_heap lb0 1 _ rfl
      have n0_2 := boxC_of_heap lb0 2 _ rfl
      have n0_3 := boxC_of_heap lb0 3 _ rfl
      have n0_4 := boxC_of_heap lb0 4 _ rfl
      have n0_5 := boxC_of_heap lb0 5 _ rfl
      have fr0 := frozen_of_heap lb0
      have f0_0 := fr0 0
      have f0_1 := fr0 1
      have f0_2 := fr0 2
      have f0_3 := fr0 3
      have f0_4 := fr0 4
      have f0_5 := fr0 5
      have HLB0 := Lib.hid lb0
      clear lb0 fr0
      refine wpAnyH_ready (rs := [6]) (by kernel_rfl) (by simp) (AllReadyH.cons rfl (fun K hK => ?_) AllReadyH.nil)
      go_simp
      have HHeld := KS.out _ (((HK9.out).mono (fun x e => .inl e)).trans (((((((KeepF.refl (fun x => x = S ∨ (w.heap.size ≤ x ∧ x < w.heap.size + 1)) w9).setCell (p := ⟨w.heap.size, 0, none⟩) (.inl (.inr ⟨by simp only; omega, by simp only; omega⟩)) (.int .i64 m.c)).setCell (p := ⟨w.heap.size, 1, none⟩) (.inl (.inr ⟨by simp only; omega, by simp only; omega⟩)) (.int .i64 m.d)).setCell (p := ⟨w.heap.size, 2, none⟩) (.inl (.inr ⟨by simp only; omega, by simp only; omega⟩)) (.int .i64 m.s)).setCell (p := ⟨w.heap.size, 3, none⟩) (.inl (.inr ⟨by simp only; omega, by simp only; omega⟩)) (.int .i64 m.a)).setCell (p := ⟨w.heap.size, 4, none⟩) (.inl (.inr ⟨by simp only; omega, by simp only; omega⟩)) (.int .i64 m.l)).setCell (p := ⟨w.heap.size, 5, none⟩) (.inl (.inr ⟨by simp only; omega, by simp only; omega⟩)) (.slice T t.length cT)) (fun _ _ e => e))
      refine hK.out _ _ HHeld (fun _ => ?_)
      clear hK K
      try simp only [Act.put, List.setIfInBounds_toArray, List.set_cons_zero, List.set_cons_succ]
      refine takeD (i := 7) (some 3) (.slice K cs.length q) rfl (by kernel_rfl) (by kernel_rfl) (by kernel_rfl) (by kernel_rfl) (fun _ _ _ h => h) (by assumption) (Or.inl ⟨by rfl, fun w hSw => by (try dsimp only at hSw); go_simp⟩) ?_
      simp only [Act.put, List.setIfInBounds_toArray, List.set_cons_zero, List.set_cons_succ]
      refine takeD (i := 8) (some 4) (.slice Y ys.length qy) rfl (by kernel_rfl) (by kernel_rfl) (by kernel_rfl) (by kernel_rfl) (fun _ _ _ h => h) (by assumption) (Or.inl ⟨by rfl, fun w hSw => by (try dsimp only at hSw); go_simp⟩) ?_
      simp only [Act.put, List.setIfInBounds_toArray, List.set_cons_zero, List.set_cons_succ]
      refine wpAnyH_done (by kernel_rfl) ?_ _
      clear KS
      go_wp2_with fail
      have lb0 := HLB0.out
      obtain ⟨wz, hwz⟩ : ∃ wz, wz = (((((w9.setCell ⟨w.heap.size, 0, none⟩ (.int .i64 m.c)).setCell ⟨w.heap.size, 1, none⟩ (.int .i64 m.d)).setCell ⟨w.heap.size, 2, none⟩ (.int .i64 m.s)).setCell ⟨w.heap.size, 3, none⟩ (.int .i64 m.a)).setCell ⟨w.heap.size, 4, none⟩ (.int .i64 m.l)).setCell ⟨w.heap.size, 5, none⟩ (.slice T t.length cT) := ⟨_, rfl⟩
      rw [← hwz]
      have kz : KeepF (fun x => w.heap.size ≤ x ∧ x < w.heap.size + 1) w9 wz := by rw [hwz]; exact ((((((KeepF.refl (fun x => w.heap.size ≤ x ∧ x < w.heap.size + 1) w9).setCell (p := ⟨w.heap.size, 0, none⟩) (.inl ⟨by simp only; omega, by simp only; omega⟩) _).setCell (p := ⟨w.heap.size, 1, none⟩) (.inl ⟨by simp only; omega, by simp only; omega⟩) _).setCell (p := ⟨w.heap.size, 2, none⟩) (.inl ⟨by simp only; omega, by simp only; omega⟩) _).setCell (p := ⟨w.heap.size, 3, none⟩) (.inl ⟨by simp only; omega, by simp only; omega⟩) _).setCell (p := ⟨w.heap.size, 4, none⟩) (.inl ⟨by simp only; omega, by simp only; omega⟩) _).setCell (p := ⟨w.heap.size, 5, none⟩) (.inl ⟨by simp only; omega, by simp only; omega⟩) _
      have e0 : wz.heap[w.heap.size]? = some (.cells #[.int .i64 m.c, .int .i64 m.d, .int .i64 m.s, .int .i64 m.a, .int .i64 m.l, .slice T t.length cT] 45 (0, 0)) := by rw [hwz]; simp [World.setCell, Array.getElem?_modify, lb0]
      (try simp only [Exit.inBlock, Exit.then])
      refine bodyPost_ret (results_one2 rfl _ _ (w.heap.size) 45 #[.int .i64 m.c, .int .i64 m.d, .int .i64 m.s, .int .i64 m.a, .int .i64 m.l, .slice T t.length cT] (0, 0) _ (by rfl) e0 Tryz.underlying45 rfl (by kernel_rfl)) rfl ?_
      have hdz := HD4.out.trans HD9.out
      have kt : KeepF (fun x => w.heap.size ≤ x) w wz := ((KeepF.ofBelow (F := fun x => w.heap.size ≤ x) (HB1.out.mono (Nat.le_refl _))).trans (hdz.keep.mono fun x e => by omega) (fun _ _ e => e)).trans (kz.mono fun x e => e.1) (fun _ _ e => e)
      exact ⟨m, T, t, cT, K, q, cs, Y, qy, ys, rfl, HTL.out, HQ.out, by have := HC.out; omega, ((HLT.out.dr (by omega) (HD34.out.trans HD9.out)).keepB kz (fun x e => by omega)).rii, ((HLK.out.dr (by omega) (HD34.out.trans HD9.out)).keepB kz (fun x e => by omega)).rii, ((HRY.out).keepF kz (fun x e => by omega)).1, HQY.out, kt.toBelow (Nat.le_refl _) (fun x hx e => by omega)⟩
  · have hd1 : decide (0 < cs.length) = false := decide_eq_false hc0
    have hd2 : decide ((0 : Int) < (cs.length : Int)) = false := decide_eq_false (by omega)
    clear hc0
    have KS := Lib.hid (show ∀ w' : World, KeepF (fun x => x = S ∨ (w.heap.size ≤ x ∧ x < w.heap.size + 1)) w3 w' → (w'.cell? ⟨w2.heap.size, 0, none⟩ = some (.int .i64 m.c) ∧ w'.cell? ⟨w2.heap.size, 1, none⟩ = some (.int .i64 m.d) ∧ w'.cell? ⟨w2.heap.size, 2, none⟩ = some (.int .i64 m.s) ∧ w'.cell? ⟨w2.heap.size, 3, none⟩ = some (.int .i64 m.a) ∧ w'.cell? ⟨w2.heap.size, 4, none⟩ = some (.int .i64 m.l) ∧ w'.cell? ⟨w2.heap.size, 5, none⟩ = some (.slice T t.length cT)) from fun w' hw => by
      have hb0 := HBX.out
      obtain ⟨z0_0, z0_1, z0_2, z0_3, z0_4, z0_5, _⟩ := hb0.keepF hw (World.block_lt_of_cell? _ _ hb0.1) (by omega)
      exact ⟨z0_0, z0_1, z0_2, z0_3, z0_4, z0_5⟩)
    go_wp2_with fail
    rw [← hwb]
    clear hwb
    refine wp_region_held_drew (S := (fun w' => w'.cell? ⟨w2.heap.size, 0, none⟩ = some (.int .i64 m.c) ∧ w'.cell? ⟨w2.heap.size, 1, none⟩ = some (.int .i64 m.d) ∧ w'.cell? ⟨w2.heap.size, 2, none⟩ = some (.int .i64 m.s) ∧ w'.cell? ⟨w2.heap.size, 3, none⟩ = some (.int .i64 m.a) ∧ w'.cell? ⟨w2.heap.size, 4, none⟩ = some (.int .i64 m.l) ∧ w'.cell? ⟨w2.heap.size, 5, none⟩ = some (.slice T t.length cT))) (by kernel_rfl) (KS.out _ (KeepF.ofBelow (belowDrew0 _))) (fun hHeld => ?_)
    refine takeD (i := 0) (some 28) (.agg #[.int .i64 m.c, .int .i64 m.d, .int .i64 m.s, .int .i64 m.a, .int .i64 m.l, .slice T t.length cT]) rfl (by kernel_rfl) (by kernel_rfl) (by kernel_rfl) (by kernel_rfl) (fun _ _ _ h => h) (by assumption) (Or.inl ⟨by rfl, fun w hSw => by (try dsimp only at hSw); go_simp⟩) ?_
    simp only [Act.put, List.setIfInBounds_toArray, List.set_cons_zero, List.set_cons_succ]
    refine takeD (i := 1) (some 29) (.slice K cs.length q) rfl (by kernel_rfl) (by kernel_rfl) (by kernel_rfl) (by kernel_rfl) (fun _ _ _ h => h) (by assumption) (Or.inl ⟨by rfl, fun w hSw => by (try dsimp only at hSw); go_simp⟩) ?_
    simp only [Act.put, List.setIfInBounds_toArray, List.set_cons_zero, List.set_cons_succ]
    refine takeD (i := 2) (some 30) (.pointer (some ⟨S, 0, none⟩)) rfl (by kernel_rfl) (by kernel_rfl) (by kernel_rfl) (by kernel_rfl) (fun _ _ _ h => h) (by assumption) (Or.inl ⟨by rfl, fun w hSw => by (try dsimp only at hSw); go_simp⟩) ?_
    simp only [Act.put, List.setIfInBounds_toArray, List.set_cons_zero, List.set_cons_succ]
    refine takeD (i := 3) (some 31) (.pointer (some ⟨w2.heap.size, 0, none⟩)) rfl (by kernel_rfl) (by kernel_rfl) (by kernel_rfl) (by kernel_rfl) (fun _ _ _ h => h) (by assumption) (Or.inl ⟨by rfl, fun w hSw => by (try dsimp only at hSw); go_simp⟩) ?_
    simp only [Act.put, List.setIfInBounds_toArray, List.set_cons_zero, List.set_cons_succ]
    refine takeD (i := 4) (some 32) (.agg #[.int .i64 m.c, .int .i64 m.d, .int .i64 m.s, .int .i64 m.a, .int .i64 m.l]) rfl (by kernel_rfl) (by kernel_rfl) (by kernel_rfl) (by kernel_rfl) (fun _ _ _ h => h) (by assumption) (Or.inl ⟨by rfl, fun w hSw => by (try dsimp only at hSw); go_simp⟩) ?_
    simp only [Act.put, List.setIfInBounds_toArray, List.set_cons_zero, List.set_cons_succ]
    refine wpAnyH_ready (rs := [5]) (by kernel_rfl) (by simp) (AllReadyH.cons rfl (fun K hK => ?_) AllReadyH.nil)
    go_simp
    refine (l02DrawKey_any S A c bs m w3.drew (HD3.out.drew).src HMD.out).mono ?_
    rintro e w9 ⟨Y, qy, ys, rfl, hqy, hy9, hry, hdy⟩
    have HQY := Lib.hid hqy; have HRY := Lib.hid (show RIn w1.heap.size w9 Y ys from hry.mono (show w1.heap.size ≤ w3.heap.size by omega))
    have HD9 := Lib.hid ((Dr.refl HD3.out.src).drew.trans hdy)
    have HK9 := Lib.hid HD9.out.keep
    have hs9 := HD9.out.size
    clear hqy hy9 hry hdy
    have HHeld := KS.out _ (HK9.out.mono (fun x e => .inl e))
    refine hK.out _ _ HHeld (fun _ => ?_)
    clear hK K
    try simp only [Act.put, List.setIfInBounds_toArray, List.set_cons_zero, List.set_cons_succ]
    have lb0 := (((HK1.out.trans HD3.out.keep (fun _ _ e => e)).trans (HK9.out) (fun _ _ e => e)).block (w.heap.size) (by omega) (by omega)).trans HR0.out
    have n0_0 := boxC_of_heap lb0 0 _ rfl
    have n0_1 := boxC_of_heap lb0 1 _ rfl
    have n0_2 := boxC_of_heap lb0 2 _ rfl
    have n0_3 := boxC_of_heap lb0 3 _ rfl
    have n0_4 := boxC_of_heap lb0 4 _ rfl
    have n0_5 := boxC_of_heap lb0 5 _ rfl
    have fr0 := frozen_of_heap lb0
    have f0_0 := fr0 0
    have f0_1 := fr0 1
    have f0_2 := fr0 2
    have f0_3 := fr0 3
    have f0_4 := fr0 4
    have f0_5 := fr0 5
    have HLB0 := Lib.hid lb0
    clear lb0 fr0
    refine wpAnyH_ready (rs := [6]) (by kernel_rfl) (by simp) (AllReadyH.cons rfl (fun K hK => ?_) AllReadyH.nil)
    go_simp
    have HHeld := KS.out _ (((HK9.out).mono (fun x e => .inl e)).trans (((((((KeepF.refl (fun x => x = S ∨ (w.heap.size ≤ x ∧ x < w.heap.size + 1)) w9).setCell (p := ⟨w.heap.size, 0, none⟩) (.inl (.inr ⟨by simp only; omega, by simp only; omega⟩)) (.int .i64 m.c)).setCell (p := ⟨w.heap.size, 1, none⟩) (.inl (.inr ⟨by simp only; omega, by simp only; omega⟩)) (.int .i64 m.d)).setCell (p := ⟨w.heap.size, 2, none⟩) (.inl (.inr ⟨by simp only; omega, by simp only; omega⟩)) (.int .i64 m.s)).setCell (p := ⟨w.heap.size, 3, none⟩) (.inl (.inr ⟨by simp only; omega, by simp only; omega⟩)) (.int .i64 m.a)).setCell (p := ⟨w.heap.size, 4, none⟩) (.inl (.inr ⟨by simp only; omega, by simp only; omega⟩)) (.int .i64 m.l)).setCell (p := ⟨w.heap.size, 5, none⟩) (.inl (.inr ⟨by simp only; omega, by simp only; omega⟩)) (.slice T t.length cT)) (fun _ _ e => e))
    refine hK.out _ _ HHeld (fun _ => ?_)
    clear hK K
    try simp only [Act.put, List.setIfInBounds_toArray, List.set_cons_zero, List.set_cons_succ]
    refine takeD (i := 7) (some 3) (.slice K cs.length q) rfl (by kernel_rfl) (by kernel_rfl) (by kernel_rfl) (by kernel_rfl) (fun _ _ _ h => h) (by assumption) (Or.inl ⟨by rfl, fun w hSw => by (try dsimp only at hSw); go_simp⟩) ?_
    simp only [Act.put, List.setIfInBounds_toArray, List.set_cons_zero, List.set_cons_succ]
    refine takeD (i := 8) (some 4) (.slice Y ys.length qy) rfl (by kernel_rfl) (by kernel_rfl) (by kernel_rfl) (by kernel_rfl) (fun _ _ _ h => h) (by assumption) (Or.inl ⟨by rfl, fun w hSw => by (try dsimp only at hSw); go_simp⟩) ?_
    simp only [Act.put, List.setIfInBounds_toArray, List.set_cons_zero, List.set_cons_succ]
    refine wpAnyH_done (by kernel_rfl) ?_ _
    clear KS
    go_wp2_with fail
    have lb0 := HLB0.out
    obtain ⟨wz, hwz⟩ : ∃ wz, wz = (((((w9.setCell ⟨w.heap.size, 0, none⟩ (.int .i64 m.c)).setCell ⟨w.heap.size, 1, none⟩ (.int .i64 m.d)).setCell ⟨w.heap.size, 2, none⟩ (.int .i64 m.s)).setCell ⟨w.heap.size, 3, none⟩ (.int .i64 m.a)).setCell ⟨w.heap.size, 4, none⟩ (.int .i64 m.l)).setCell ⟨w.heap.size, 5, none⟩ (.slice T t.length cT) := ⟨_, rfl⟩
    rw [← hwz]
    have kz : KeepF (fun x => w.heap.size ≤ x ∧ x < w.heap.size + 1) w9 wz := by rw [hwz]; exact ((((((KeepF.refl (fun x => w.heap.size ≤ x ∧ x < w.heap.size + 1) w9).setCell (p := ⟨w.heap.size, 0, none⟩) (.inl ⟨by simp only; omega, by simp only; omega⟩) _).setCell (p := ⟨w.heap.size, 1, none⟩) (.inl ⟨by simp only; omega, by simp only; omega⟩) _).setCell (p := ⟨w.heap.size, 2, none⟩) (.inl ⟨by simp only; omega, by simp only; omega⟩) _).setCell (p := ⟨w.heap.size, 3, none⟩) (.inl ⟨by simp only; omega, by simp only; omega⟩) _).setCell (p := ⟨w.heap.size, 4, none⟩) (.inl ⟨by simp only; omega, by simp only; omega⟩) _).setCell (p := ⟨w.heap.size, 5, none⟩) (.inl ⟨by simp only; omega, by simp only; omega⟩) _
    have e0 : wz.heap[w.heap.size]? = some (.cells #[.int .i64 m.c, .int .i64 m.d, .int .i64 m.s, .int .i64 m.a, .int .i64 m.l, .slice T t.length cT] 45 (0, 0)) := by rw [hwz]; simp [World.setCell, Array.getElem?_modify, lb0]
    (try simp only [Exit.inBlock, Exit.then])
    refine bodyPost_ret (results_one2 rfl _ _ (w.heap.size) 45 #[.int .i64 m.c, .int .i64 m.d, .int .i64 m.s, .int .i64 m.a, .int .i64 m.l, .slice T t.length cT] (0, 0) _ (by rfl) e0 Tryz.underlying45 rfl (by kernel_rfl)) rfl ?_
    have hdz := HD3.out.trans HD9.out
    have kt : KeepF (fun x => w.heap.size ≤ x) w wz := ((KeepF.ofBelow (F := fun x => w.heap.size ≤ x) (HB1.out.mono (Nat.le_refl _))).trans (hdz.keep.mono fun x e => by omega) (fun _ _ e => e)).trans (kz.mono fun x e => e.1) (fun _ _ e => e)
    exact ⟨m, T, t, cT, K, q, cs, Y, qy, ys, rfl, HTL.out, HQ.out, by have := HC.out; omega, ((HLT.out.dr (by omega) (HD9.out)).keepB kz (fun x e => by omega)).rii, ((HLK.out.dr (by omega) (HD9.out)).keepB kz (fun x e => by omega)).rii, ((HRY.out).keepF kz (fun x e => by omega)).1, HQY.out, kt.toBelow (Nat.le_refl _) (fun x hx e => by omega)⟩

end Go.Proofs.YtdedajohkdbdkaaGreat
