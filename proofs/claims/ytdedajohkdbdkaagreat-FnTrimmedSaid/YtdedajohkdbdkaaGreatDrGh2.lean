/- Contracts of the draws that the statements on ghosts call. -/
import Derived.Test.YtdedajohkdbdkaaGreatDrGh
namespace Go.Proofs.YtdedajohkdbdkaaGreat
set_option linter.unusedVariables false
open Go.RowKit
/-- a drawn maker, lock and allowed keys; with a number; with a key -/
def Dr14 (w : World) (e : Ending) (w' : World) : Prop :=
  ∃ (m : Mk) (D : Option Addr) (q : Nat) (l : List (List Int)) (K : Option Addr) (qk : Nat) (al : List (List Int)), e = .returned (.tuple #[.agg #[.int .i64 m.c, .int .i64 m.d, .int .i64 m.s, .int .i64 m.a, .int .i64 m.l], .agg #[.slice D l.length q], .slice K al.length qk]) ∧ RII w' D l ∧ RII w' K al ∧ Below w.heap.size w w'
def Dr14n (w : World) (e : Ending) (w' : World) : Prop :=
  ∃ (m : Mk) (D : Option Addr) (q : Nat) (l : List (List Int)) (K : Option Addr) (qk : Nat) (al : List (List Int)) (n : Int), e = .returned (.tuple #[.agg #[.int .i64 m.c, .int .i64 m.d, .int .i64 m.s, .int .i64 m.a, .int .i64 m.l], .agg #[.slice D l.length q], .slice K al.length qk, .int .i64 n]) ∧ RII w' D l ∧ RII w' K al ∧ (-1 ≤ n ∧ n ≤ 1001) ∧ Below w.heap.size w w'
def Dr14k (w : World) (e : Ending) (w' : World) : Prop :=
  ∃ (m : Mk) (D : Option Addr) (q : Nat) (l : List (List Int)) (K : Option Addr) (qk : Nat) (al : List (List Int)) (Y : Option Addr) (qy : Nat) (ys : List Int), e = .returned (.tuple #[.agg #[.int .i64 m.c, .int .i64 m.d, .int .i64 m.s, .int .i64 m.a, .int .i64 m.l], .agg #[.slice D l.length q], .slice K al.length qk, .slice Y ys.length qy]) ∧ RIIb w.heap.size w' D l ∧ RIIb w.heap.size w' K al ∧ RIn w.heap.size w' Y ys ∧ ys.length ≤ qy ∧ Below w.heap.size w w'



set_option maxRecDepth 100000 in
set_option maxHeartbeats 8000000 in
theorem drawTrim_any (A : Option Addr) (c : Nat) (bs : List Int) (w : World) (h : RCode w A bs) : Calls Tryz.prog 7 #[.slice A bs.length c] w (Dr14 w) := by
  obtain ⟨w0, hw0⟩ : ∃ w0, w0 = (w.alloc (.cells #[.int .i64 0, .int .i64 0, .int .i64 0, .int .i64 0, .int .i64 0] 25)).alloc (.cells #[.slice none 0 0] 28) := ⟨_, rfl⟩
  have hz0 : w0.heap.size = w.heap.size + 2 := by rw [hw0]; simp
  have B0 : Below w.heap.size w w0 := by rw [hw0]; exact ((Below.refl _ _).alloc (Nat.le_refl _) _).alloc (by simp only [World.size_alloc]; omega) _
  have HR0 := Lib.hid (show w0.heap[w.heap.size]? = some (.cells #[.int .i64 0, .int .i64 0, .int .i64 0, .int .i64 0, .int .i64 0] 25 (0, 0)) by
    have h1 := heap_alloc_new w (.cells #[.int .i64 0, .int .i64 0, .int .i64 0, .int .i64 0, .int .i64 0] 25)
    have h2 := ((Below.refl (w.heap.size + 1) (w.alloc (.cells #[.int .i64 0, .int .i64 0, .int .i64 0, .int .i64 0, .int .i64 0] 25))).alloc (by simp) (.cells #[.slice none 0 0] 28)).block (w.heap.size) (by omega)
    rw [hw0]; exact h2.trans (by simpa using h1))
  have HR1 := Lib.hid (show w0.heap[w.heap.size + 1]? = some (.cells #[.slice none 0 0] 28 (0, 0)) by
    have h1 := heap_alloc_new (w.alloc (.cells #[.int .i64 0, .int .i64 0, .int .i64 0, .int .i64 0, .int .i64 0] 25)) (.cells #[.slice none 0 0] 28)
    rw [hw0]; simpa using h1)
  have hw00 := hz0
  have HF := Lib.hid (l01From_any A c bs w0 (RV.below h.1 B0) h.2)
  have HB0 := Lib.hid B0
  clear h B0
  go_enter Tryz.func7, Tryz.ntmps7
  go_wp2_with fail
  rw [← hw0]
  clear hw0
  refine HF.out.mono ?_
  rintro e w1 ⟨rfl, hS, hb1, hz1⟩
  obtain ⟨S, hSe⟩ : ∃ S, S = w0.heap.size := ⟨_, rfl⟩
  rw [← hSe] at hS hz1 ⊢
  have hSw : w.heap.size + 2 = S := by omega
  have hs1 : S < w1.heap.size := by omega
  have HB1 := Lib.hid (HB0.out.trans (hb1.mono (by omega)))
  have HK1 := Lib.hid (KeepF.ofBelow (F := fun x => x = S) hb1)
  have HDR := Lib.hid (l14Draw_any S A c bs w1 hS)
  clear hS hb1 hSe hz1 hw00 HF
  go_wp2_with fail
  refine HDR.out.mono ?_
  rintro e w2 ⟨m, D, q, l, K, qk, al, rfl, hm, hq, hqk, hl, hal, hd2⟩
  have hs2 := hd2.size
  have HQL := Lib.hid hq; have HQK := Lib.hid hqk; have HLL := Lib.hid hl; have HAL := Lib.hid hal; have HD2 := Lib.hid hd2
  have hk2 := HK1.out.trans hd2.keep (fun _ _ e => e)
  have lb0 := (hk2.block (w.heap.size) (by omega) (by omega)).trans HR0.out
  have lb1 := (hk2.block (w.heap.size + 1) (by omega) (by omega)).trans HR1.out
  have n0_0 := boxC_of_heap lb0 0 _ rfl
  have n0_1 := boxC_of_heap lb0 1 _ rfl
  have n0_2 := boxC_of_heap lb0 2 _ rfl
  have n0_3 := boxC_of_heap lb0 3 _ rfl
  have n0_4 := boxC_of_heap lb0 4 _ rfl
  have fr0 := frozen_of_heap lb0
  have f0_0 := fr0 0
  have f0_1 := fr0 1
  have f0_2 := fr0 2
  have f0_3 := fr0 3
  have f0_4 := fr0 4
  have HLB0 := Lib.hid lb0
  have n1_0 := boxC_of_heap lb1 0 _ rfl
  have fr1 := frozen_of_heap lb1
  have f1_0 := fr1 0
  have HLB1 := Lib.hid lb1
  clear lb0 lb1 fr0 fr1 hk2 hq hqk hl hal hd2 hm HDR
  go_wp2_with fail
  have lb0 := HLB0.out
  have lb1 := HLB1.out
  obtain ⟨wz, hwz⟩ : ∃ wz, wz = (((((w2.setCell ⟨w.heap.size, 0, none⟩ (.int .i64 m.c)).setCell ⟨w.heap.size, 1, none⟩ (.int .i64 m.d)).setCell ⟨w.heap.size, 2, none⟩ (.int .i64 m.s)).setCell ⟨w.heap.size, 3, none⟩ (.int .i64 m.a)).setCell ⟨w.heap.size, 4, none⟩ (.int .i64 m.l)).setCell ⟨w.heap.size + 1, 0, none⟩ (.slice D l.length q) := ⟨_, rfl⟩
  rw [← hwz]
  have kz : KeepF (fun x => w.heap.size ≤ x ∧ x < w.heap.size + 2) w2 wz := by rw [hwz]; exact ((((((KeepF.refl (fun x => w.heap.size ≤ x ∧ x < w.heap.size + 2) w2).setCell (p := ⟨w.heap.size, 0, none⟩) (.inl ⟨by simp only; omega, by simp only; omega⟩) _).setCell (p := ⟨w.heap.size, 1, none⟩) (.inl ⟨by simp only; omega, by simp only; omega⟩) _).setCell (p := ⟨w.heap.size, 2, none⟩) (.inl ⟨by simp only; omega, by simp only; omega⟩) _).setCell (p := ⟨w.heap.size, 3, none⟩) (.inl ⟨by simp only; omega, by simp only; omega⟩) _).setCell (p := ⟨w.heap.size, 4, none⟩) (.inl ⟨by simp only; omega, by simp only; omega⟩) _).setCell (p := ⟨w.heap.size + 1, 0, none⟩) (.inl ⟨by simp only; omega, by simp only; omega⟩) _
  have e0 : wz.heap[w.heap.size]? = some (.cells #[.int .i64 m.c, .int .i64 m.d, .int .i64 m.s, .int .i64 m.a, .int .i64 m.l] 25 (0, 0)) := by rw [hwz]; simp [World.setCell, Array.getElem?_modify, lb0]
  have e1 : wz.heap[w.heap.size + 1]? = some (.cells #[.slice D l.length q] 28 (0, 0)) := by rw [hwz]; simp [World.setCell, Array.getElem?_modify, lb1]
  refine bodyPost_ret (results_two1 rfl _ _ (w.heap.size) 25 #[.int .i64 m.c, .int .i64 m.d, .int .i64 m.s, .int .i64 m.a, .int .i64 m.l] (0, 0) _ (by rfl) e0 Tryz.underlying25 rfl (by kernel_rfl) (w.heap.size + 1) 28 #[.slice D l.length q] (0, 0) _ (by rfl) e1 Tryz.underlying28 rfl (by kernel_rfl)) rfl ?_
  have kt : KeepF (fun x => w.heap.size ≤ x) w wz := ((KeepF.ofBelow (F := fun x => w.heap.size ≤ x) (HB1.out.mono (Nat.le_refl _))).trans (HD2.out.keep.mono fun x e => by omega) (fun _ _ e => e)).trans (kz.mono fun x e => e.1) (fun _ _ e => e)
  exact ⟨m, D, q, l, K, qk, al, rfl, (HLL.out.keepB kz (fun x e => by omega)).rii, (HAL.out.keepB kz (fun x e => by omega)).rii, kt.toBelow (Nat.le_refl _) (fun x hx e => by omega)⟩

set_option maxRecDepth 100000 in
set_option maxHeartbeats 8000000 in
theorem drawIsGhost_any (A : Option Addr) (c : Nat) (bs : List Int) (w : World) (h : RCode w A bs) : Calls Tryz.prog 50 #[.slice A bs.length c] w (Dr14k w) := by
  obtain ⟨w0, hw0⟩ : ∃ w0, w0 = (w.alloc (.cells #[.int .i64 0, .int .i64 0, .int .i64 0, .int .i64 0, .int .i64 0] 25)).alloc (.cells #[.slice none 0 0] 28) := ⟨_, rfl⟩
  have hz0 : w0.heap.size = w.heap.size + 2 := by rw [hw0]; simp
  have B0 : Below w.heap.size w w0 := by rw [hw0]; exact ((Below.refl _ _).alloc (Nat.le_refl _) _).alloc (by simp only [World.size_alloc]; omega) _
  have HR0 := Lib.hid (show w0.heap[w.heap.size]? = some (.cells #[.int .i64 0, .int .i64 0, .int .i64 0, .int .i64 0, .int .i64 0] 25 (0, 0)) by
    have h1 := heap_alloc_new w (.cells #[.int .i64 0, .int .i64 0, .int .i64 0, .int .i64 0, .int .i64 0] 25)
    have h2 := ((Below.refl (w.heap.size + 1) (w.alloc (.cells #[.int .i64 0, .int .i64 0, .int .i64 0, .int .i64 0, .int .i64 0] 25))).alloc (by simp) (.cells #[.slice none 0 0] 28)).block (w.heap.size) (by omega)
    rw [hw0]; exact h2.trans (by simpa using h1))
  have HR1 := Lib.hid (show w0.heap[w.heap.size + 1]? = some (.cells #[.slice none 0 0] 28 (0, 0)) by
    have h1 := heap_alloc_new (w.alloc (.cells #[.int .i64 0, .int .i64 0, .int .i64 0, .int .i64 0, .int .i64 0] 25)) (.cells #[.slice none 0 0] 28)
    rw [hw0]; simpa using h1)
  have hw00 := hz0
  have HF := Lib.hid (l01From_any A c bs w0 (RV.below h.1 B0) h.2)
  have HB0 := Lib.hid B0
  clear h B0
  go_enter Tryz.func50, Tryz.ntmps50
  go_wp2_with fail
  rw [← hw0]
  clear hw0
  refine HF.out.mono ?_
  rintro e w1 ⟨rfl, hS, hb1, hz1⟩
  obtain ⟨S, hSe⟩ : ∃ S, S = w0.heap.size := ⟨_, rfl⟩
  rw [← hSe] at hS hz1 ⊢
  have hSw : w.heap.size + 2 = S := by omega
  have hs1 : S < w1.heap.size := by omega
  have HB1 := Lib.hid (HB0.out.trans (hb1.mono (by omega)))
  have HK1 := Lib.hid (KeepF.ofBelow (F := fun x => x = S) hb1)
  have HDR := Lib.hid (l14Draw_any S A c bs w1 hS)
  clear hS hb1 hSe hz1 hw00 HF
  go_wp2_with fail
  refine HDR.out.mono ?_
  rintro e w2 ⟨m, D, q, l, K, qk, al, rfl, hm, hq, hqk, hl, hal, hd2⟩
  obtain ⟨w3, hwb⟩ : ∃ wb, wb = (w2.alloc (.cells #[.int .i64 m.c, .int .i64 m.d, .int .i64 m.s, .int .i64 m.a, .int .i64 m.l] 25)).alloc (.cells #[.slice D l.length q] 28) := ⟨_, rfl⟩
  have hbb : Below w2.heap.size w2 w3 := by rw [hwb]; exact ((Below.refl _ _).alloc (Nat.le_refl _) _).alloc (by simp only [World.size_alloc]; omega) _
  have hs3 : w2.heap.size + 1 < w3.heap.size := by rw [hwb]; simp
  have HBX := Lib.hid (show BoxC w3 w2.heap.size 0 (mkCells m) by rw [hwb]; exact (BoxC.new (mkCells m) rfl).below ((Below.refl _ _).alloc (Nat.le_refl _) _))
  have HLX := Lib.hid (show BoxC w3 (w2.heap.size + 1) 0 [.slice D l.length q] by rw [hwb]; exact BoxC.new (w := w2.alloc (.cells #[.int .i64 m.c, .int .i64 m.d, .int .i64 m.s, .int .i64 m.a, .int .i64 m.l] 25)) [.slice D l.length q] (by simp))
  have hs2 := hd2.size
  have HMD := Lib.hid hm; have HQL := Lib.hid hq; have HQK := Lib.hid hqk
  have HLL := Lib.hid (hl.below hbb); have HAL := Lib.hid (hal.below hbb)
  have HD3 := Lib.hid (hd2.below hbb)
  clear hm hq hqk hl hal hd2 hbb HDR
  by_cases ha0 : 0 < al.length
  · have ha0i : (0 : Int) < (al.length : Int) := by omega
    have hane : al ≠ [] := by rintro rfl; simp at ha0
    have HN1 := Lib.hid (l01Next_dr HD3.out.src 4)
    go_wp2_with fail
    rw [← hwb]
    clear hwb
    refine HN1.out.mono ?_
    rintro e w4 ⟨z, rfl, z0, z1, hd4, -⟩
    have HD4 := Lib.hid ((Dr.refl HD3.out.src).trans hd4)
    have hs4 := HD4.out.size
    clear hd4 z1 HN1
    by_cases hz : z = 0
    · subst hz
      obtain ⟨bK, oK, Y, qy, rfl, hcell, hqy, hry, hnf⟩ := (HAL.out.dr (by omega) HD4.out).at_ ha0
      obtain ⟨ys, hys⟩ : ∃ ys, ys = al[0] := ⟨_, rfl⟩
      rw [← hys] at hcell hqy hry hnf
      rw [Nat.add_zero] at hcell
      have HBK := Lib.hid ((HAL.out.hdrs ha0).elim fun b h => h.elim fun o h => (show w1.heap.size ≤ bK from by obtain ⟨e, hn, _⟩ := h; injection e with e; injection e with e1 _ _; omega))
      have HQY := Lib.hid hqy
      have HRY := Lib.hid (show RIn (w0.heap.size + 1) w4 Y ys from RIn.mono ⟨hry, hnf⟩ (by omega))
      clear hys hqy hry hnf
      have HDW := Lib.hid (HD3.out.trans HD4.out)
      have hsW := HDW.out.size
      have KS := Lib.hid (show ∀ w' : World, KeepF (fun x => x = S ∨ (w.heap.size ≤ x ∧ x < w.heap.size + 2)) w4 w' → (w'.cell? ⟨w2.heap.size, 0, none⟩ = some (.int .i64 m.c) ∧ w'.cell? ⟨w2.heap.size, 1, none⟩ = some (.int .i64 m.d) ∧ w'.cell? ⟨w2.heap.size, 2, none⟩ = some (.int .i64 m.s) ∧ w'.cell? ⟨w2.heap.size, 3, none⟩ = some (.int .i64 m.a) ∧ w'.cell? ⟨w2.heap.size, 4, none⟩ = some (.int .i64 m.l) ∧ w'.cell? ⟨w2.heap.size + 1, 0, none⟩ = some (.slice D l.length q) ∧ w'.cell? ⟨bK, oK, none⟩ = some (.slice Y ys.length qy)) from fun w' hw => by
        have hb0 := HBX.out.dr (by omega) (by omega) HD4.out
        obtain ⟨z0_0, z0_1, z0_2, z0_3, z0_4, _⟩ := hb0.keepF hw (World.block_lt_of_cell? _ _ hb0.1) (by omega)
        have hb1 := HLX.out.dr (by omega) (by omega) HD4.out
        obtain ⟨z1_0, _⟩ := hb1.keepF hw (World.block_lt_of_cell? _ _ hb1.1) (by omega)
        exact ⟨z0_0, z0_1, z0_2, z0_3, z0_4, z1_0, (hw.cell (p := ⟨bK, oK, none⟩) (World.block_lt_of_cell? _ _ hcell) (by have := HBK.out; simp only; omega)).trans hcell⟩)
      go_wp2_with fail
      refine wp_region_held_drew (S := (fun w' => w'.cell? ⟨w2.heap.size, 0, none⟩ = some (.int .i64 m.c) ∧ w'.cell? ⟨w2.heap.size, 1, none⟩ = some (.int .i64 m.d) ∧ w'.cell? ⟨w2.heap.size, 2, none⟩ = some (.int .i64 m.s) ∧ w'.cell? ⟨w2.heap.size, 3, none⟩ = some (.int .i64 m.a) ∧ w'.cell? ⟨w2.heap.size, 4, none⟩ = some (.int .i64 m.l) ∧ w'.cell? ⟨w2.heap.size + 1, 0, none⟩ = some (.slice D l.length q) ∧ w'.cell? ⟨bK, oK, none⟩ = some (.slice Y ys.length qy))) (by kernel_rfl) (KS.out _ (KeepF.ofBelow (belowDrew0 _))) (fun hHeld => ?_)
      refine takeD (i := 0) (some 27) (.agg #[.int .i64 m.c, .int .i64 m.d, .int .i64 m.s, .int .i64 m.a, .int .i64 m.l]) rfl (by kernel_rfl) (by kernel_rfl) (by kernel_rfl) (by kernel_rfl) (fun _ _ _ h => h) (by assumption) (Or.inl ⟨by rfl, fun w hSw => by (try dsimp only at hSw); go_simp⟩) ?_
      simp only [Act.put, List.setIfInBounds_toArray, List.set_cons_zero, List.set_cons_succ]
      refine takeD (i := 1) (some 28) (.agg #[.slice D l.length q]) rfl (by kernel_rfl) (by kernel_rfl) (by kernel_rfl) (by kernel_rfl) (fun _ _ _ h => h) (by assumption) (Or.inl ⟨by rfl, fun w hSw => by (try dsimp only at hSw); go_simp⟩) ?_
      simp only [Act.put, List.setIfInBounds_toArray, List.set_cons_zero, List.set_cons_succ]
      refine takeD (i := 2) (some 29) (.slice (some ⟨bK, oK, none⟩) al.length qk) rfl (by kernel_rfl) (by kernel_rfl) (by kernel_rfl) (by kernel_rfl) (fun _ _ _ h => h) (by assumption) (Or.inl ⟨by rfl, fun w hSw => by (try dsimp only at hSw); go_simp⟩) ?_
      simp only [Act.put, List.setIfInBounds_toArray, List.set_cons_zero, List.set_cons_succ]
      refine takeD (i := 3) (some 30) (.slice (some ⟨bK, oK, none⟩) al.length qk) rfl (by kernel_rfl) (by kernel_rfl) (by kernel_rfl) (by kernel_rfl) (fun _ _ _ h => h) (by assumption) (Or.inl ⟨by rfl, fun w hSw => by (try dsimp only at hSw); go_simp⟩) ?_
      simp only [Act.put, List.setIfInBounds_toArray, List.set_cons_zero, List.set_cons_succ]
      refine takeD (i := 4) (some 31) (.pointer (some ⟨bK, oK, none⟩)) rfl (by kernel_rfl) (by kernel_rfl) (by kernel_rfl) (by kernel_rfl) (fun _ _ _ h => h) (by assumption) (Or.inl ⟨by rfl, fun w hSw => by (try dsimp only at hSw); go_simp⟩) ?_
      simp only [Act.put, List.setIfInBounds_toArray, List.set_cons_zero, List.set_cons_succ]
      refine takeD (i := 5) (some 32) (.slice Y ys.length qy) rfl (by kernel_rfl) (by kernel_rfl) (by kernel_rfl) (by kernel_rfl) (fun _ _ _ h => h) (by assumption) (Or.inl ⟨by rfl, fun w hSw => by (try dsimp only at hSw); go_simp⟩) ?_
      simp only [Act.put, List.setIfInBounds_toArray, List.set_cons_zero, List.set_cons_succ]
      have lb0 := ((HK1.out.trans HDW.out.keep (fun _ _ e => e)).block (w.heap.size) (by omega) (by omega)).trans HR0.out
      have n0_0 := boxC_of_heap lb0 0 _ rfl
      have n0_1 := boxC_of_heap lb0 1 _ rfl
      have n0_2 := boxC_of_heap lb0 2 _ rfl
      have n0_3 := boxC_of_heap lb0 3 _ rfl
      have n0_4 := boxC_of_heap lb0 4 _ rfl
      have fr0 := frozen_of_heap lb0
      have f0_0 := fr0 0
      have f0_1 := fr0 1
      have f0_2 := fr0 2
      have f0_3 := fr0 3
      have f0_4 := fr0 4
      have HLB0 := Lib.hid lb0
      clear lb0 fr0
      have lb1 := ((HK1.out.trans HDW.out.keep (fun _ _ e => e)).block (w.heap.size + 1) (by omega) (by omega)).trans HR1.out
      have n1_0 := boxC_of_heap lb1 0 _ rfl
      have fr1 := frozen_of_heap lb1
      have f1_0 := fr1 0
      have HLB1 := Lib.hid lb1
      clear lb1 fr1
      refine wpAnyH_ready (rs := [6]) (by kernel_rfl) (by simp) (AllReadyH.cons rfl (fun K hK => ?_) AllReadyH.nil)
      go_simp
      have HHeld := KS.out _ (((((((KeepF.refl (fun x => x = S ∨ (w.heap.size ≤ x ∧ x < w.heap.size + 2)) w4).setCell (p := ⟨w.heap.size, 0, none⟩) (.inl (.inr ⟨by simp only; omega, by simp only; omega⟩)) (.int .i64 m.c)).setCell (p := ⟨w.heap.size, 1, none⟩) (.inl (.inr ⟨by simp only; omega, by simp only; omega⟩)) (.int .i64 m.d)).setCell (p := ⟨w.heap.size, 2, none⟩) (.inl (.inr ⟨by simp only; omega, by simp only; omega⟩)) (.int .i64 m.s)).setCell (p := ⟨w.heap.size, 3, none⟩) (.inl (.inr ⟨by simp only; omega, by simp only; omega⟩)) (.int .i64 m.a)).setCell (p := ⟨w.heap.size, 4, none⟩) (.inl (.inr ⟨by simp only; omega, by simp only; omega⟩)) (.int .i64 m.l)).trans (KeepF.ofBelow (F := (fun x => x = S ∨ (w.heap.size ≤ x ∧ x < w.heap.size + 2))) (belowDrew0 _)) (fun _ _ e => e))
      refine hK.out _ _ HHeld (fun _ => ?_)
      clear hK K
      try simp only [Act.put, List.setIfInBounds_toArray, List.set_cons_zero, List.set_cons_succ]
      refine wpAnyH_ready (rs := [7]) (by kernel_rfl) (by simp) (AllReadyH.cons rfl (fun K hK => ?_) AllReadyH.nil)
      go_simp
      have HHeld := KS.out _ ((((((((KeepF.refl (fun x => x = S ∨ (w.heap.size ≤ x ∧ x < w.heap.size + 2)) w4).setCell (p := ⟨w.heap.size, 0, none⟩) (.inl (.inr ⟨by simp only; omega, by simp only; omega⟩)) (.int .i64 m.c)).setCell (p := ⟨w.heap.size, 1, none⟩) (.inl (.inr ⟨by simp only; omega, by simp only; omega⟩)) (.int .i64 m.d)).setCell (p := ⟨w.heap.size, 2, none⟩) (.inl (.inr ⟨by simp only; omega, by simp only; omega⟩)) (.int .i64 m.s)).setCell (p := ⟨w.heap.size, 3, none⟩) (.inl (.inr ⟨by simp only; omega, by simp only; omega⟩)) (.int .i64 m.a)).setCell (p := ⟨w.heap.size, 4, none⟩) (.inl (.inr ⟨by simp only; omega, by simp only; omega⟩)) (.int .i64 m.l)).setCell (p := ⟨w.heap.size + 1, 0, none⟩) (.inl (.inr ⟨by simp only; omega, by simp only; omega⟩)) (.slice D l.length q)).trans (KeepF.ofBelow (F := (fun x => x = S ∨ (w.heap.size ≤ x ∧ x < w.heap.size + 2))) (belowDrew0 _)) (fun _ _ e => e))
      refine hK.out _ _ HHeld (fun _ => ?_)
      clear hK K
      try simp only [Act.put, List.setIfInBounds_toArray, List.set_cons_zero, List.set_cons_succ]
      refine takeD (i := 8) (some 4) (.slice (some ⟨bK, oK, none⟩) al.length qk) rfl (by kernel_rfl) (by kernel_rfl) (by kernel_rfl) (by kernel_rfl) (fun _ _ _ h => h) (by assumption) (Or.inl ⟨by rfl, fun w hSw => by (try dsimp only at hSw); go_simp⟩) ?_
      simp only [Act.put, List.setIfInBounds_toArray, List.set_cons_zero, List.set_cons_succ]
      refine takeD (i := 9) (some 5) (.slice Y ys.length qy) rfl (by kernel_rfl) (by kernel_rfl) (by kernel_rfl) (by kernel_rfl) (fun _ _ _ h => h) (by assumption) (Or.inl ⟨by rfl, fun w hSw => by (try dsimp only at hSw); go_simp⟩) ?_
      simp only [Act.put, List.setIfInBounds_toArray, List.set_cons_zero, List.set_cons_succ]
      refine wpAnyH_done (by kernel_rfl) ?_ _
      clear KS
      go_wp2_with fail
      have lb0 := HLB0.out
      have lb1 := HLB1.out
      obtain ⟨wz, hwz⟩ : ∃ wz, wz = ((((((w4.setCell ⟨w.heap.size, 0, none⟩ (.int .i64 m.c)).setCell ⟨w.heap.size, 1, none⟩ (.int .i64 m.d)).setCell ⟨w.heap.size, 2, none⟩ (.int .i64 m.s)).setCell ⟨w.heap.size, 3, none⟩ (.int .i64 m.a)).setCell ⟨w.heap.size, 4, none⟩ (.int .i64 m.l)).setCell ⟨w.heap.size + 1, 0, none⟩ (.slice D l.length q)).drew := ⟨_, rfl⟩
      rw [← hwz]
      have kz : KeepF (fun x => w.heap.size ≤ x ∧ x < w.heap.size + 2) w4 wz := by rw [hwz]; exact (((((((KeepF.refl (fun x => w.heap.size ≤ x ∧ x < w.heap.size + 2) w4).setCell (p := ⟨w.heap.size, 0, none⟩) (.inl ⟨by simp only; omega, by simp only; omega⟩) _).setCell (p := ⟨w.heap.size, 1, none⟩) (.inl ⟨by simp only; omega, by simp only; omega⟩) _).setCell (p := ⟨w.heap.size, 2, none⟩) (.inl ⟨by simp only; omega, by simp only; omega⟩) _).setCell (p := ⟨w.heap.size, 3, none⟩) (.inl ⟨by simp only; omega, by simp only; omega⟩) _).setCell (p := ⟨w.heap.size, 4, none⟩) (.inl ⟨by simp only; omega, by simp only; omega⟩) _).setCell (p := ⟨w.heap.size + 1, 0, none⟩) (.inl ⟨by simp only; omega, by simp only; omega⟩) _).trans (KeepF.ofBelow (F := (fun x => w.heap.size ≤ x ∧ x < w.heap.size + 2)) (belowDrew0 _)) (fun _ _ e => e)
      have e0 : wz.heap[w.heap.size]? = some (.cells #[.int .i64 m.c, .int .i64 m.d, .int .i64 m.s, .int .i64 m.a, .int .i64 m.l] 25 (0, 0)) := by rw [hwz]; simp [World.setCell, World.drew, Array.getElem?_modify, lb0]
      have e1 : wz.heap[w.heap.size + 1]? = some (.cells #[.slice D l.length q] 28 (0, 0)) := by rw [hwz]; simp [World.setCell, World.drew, Array.getElem?_modify, lb1]
      (try simp only [Exit.inBlock, Exit.then])
      refine bodyPost_ret (results_two2 rfl _ _ (w.heap.size) 25 #[.int .i64 m.c, .int .i64 m.d, .int .i64 m.s, .int .i64 m.a, .int .i64 m.l] (0, 0) _ (by rfl) e0 Tryz.underlying25 rfl (by kernel_rfl) (w.heap.size + 1) 28 #[.slice D l.length q] (0, 0) _ (by rfl) e1 Tryz.underlying28 rfl (by kernel_rfl)) rfl ?_
      have hdz := HDW.out
      have kt : KeepF (fun x => w.heap.size ≤ x) w wz := ((KeepF.ofBelow (F := fun x => w.heap.size ≤ x) (HB1.out.mono (Nat.le_refl _))).trans (hdz.keep.mono fun x e => by omega) (fun _ _ e => e)).trans (kz.mono fun x e => e.1) (fun _ _ e => e)
      have hl4 := (HLL.out.dr (by omega) HD4.out).keepB kz (fun x e => by omega)
      have ha4 := (HAL.out.dr (by omega) HD4.out).keepB kz (fun x e => by omega)
      have hy4 := (HRY.out).keepF kz (fun x e => by omega)
      exact ⟨m, D, q, l, some ⟨bK, oK, none⟩, qk, al, Y, qy, ys, rfl, hl4.mono (fun g hg => by omega), ha4.mono (fun g hg => by omega), hy4.mono (by omega), HQY.out, kt.toBelow (Nat.le_refl _) (fun x hx e => by omega)⟩
    · have hz' : (z == 0) = false := by simpa using hz
      have HIL := Lib.hid (specIsLock_any m D q l w4 (HLL.out.dr (by omega) HD4.out).rii)
      obtain ⟨x0, x1, x2, x3, x4, _⟩ := HBX.out.dr (by omega) (by omega) HD4.out
      obtain ⟨y0, _⟩ := HLX.out.dr (by omega) (by omega) HD4.out
      simp only [Nat.zero_add] at x1 x2 x3 x4
      go_wp2_with fail
      clear x0 x1 x2 x3 x4 y0
      refine HIL.out.mono ?_
      rintro e w5 ⟨rfl, hb5⟩
      have HD5 := Lib.hid (HD4.out.below hb5)
      have hs5 := HD5.out.size
      clear hb5 HIL
      cases hlk : isLockF m l with
      | false =>
        have HDW := Lib.hid (HD3.out.trans HD5.out)
        have hsW := HDW.out.size
        have KS := Lib.hid (show ∀ w' : World, KeepF (fun x => x = S ∨ (w.heap.size ≤ x ∧ x < w.heap.size + 2)) w5 w' → (w'.cell? ⟨w2.heap.size, 0, none⟩ = some (.int .i64 m.c) ∧ w'.cell? ⟨w2.heap.size, 1, none⟩ = some (.int .i64 m.d) ∧ w'.cell? ⟨w2.heap.size, 2, none⟩ = some (.int .i64 m.s) ∧ w'.cell? ⟨w2.heap.size, 3, none⟩ = some (.int .i64 m.a) ∧ w'.cell? ⟨w2.heap.size, 4, none⟩ = some (.int .i64 m.l) ∧ w'.cell? ⟨w2.heap.size + 1, 0, none⟩ = some (.slice D l.length q)) from fun w' hw => by
          have hb0 := HBX.out.dr (by omega) (by omega) HD5.out
          obtain ⟨z0_0, z0_1, z0_2, z0_3, z0_4, _⟩ := hb0.keepF hw (World.block_lt_of_cell? _ _ hb0.1) (by omega)
          have hb1 := HLX.out.dr (by omega) (by omega) HD5.out
          obtain ⟨z1_0, _⟩ := hb1.keepF hw (World.block_lt_of_cell? _ _ hb1.1) (by omega)
          exact ⟨z0_0, z0_1, z0_2, z0_3, z0_4, z1_0⟩)
        go_wp2_with fail
        refine wp_region_held_drew (S := (fun w' => w'.cell? ⟨w2.heap.size, 0, none⟩ = some (.int .i64 m.c) ∧ w'.cell? ⟨w2.heap.size, 1, none⟩ = some (.int .i64 m.d) ∧ w'.cell? ⟨w2.heap.size, 2, none⟩ = some (.int .i64 m.s) ∧ w'.cell? ⟨w2.heap.size, 3, none⟩ = some (.int .i64 m.a) ∧ w'.cell? ⟨w2.heap.size, 4, none⟩ = some (.int .i64 m.l) ∧ w'.cell? ⟨w2.heap.size + 1, 0, none⟩ = some (.slice D l.length q))) (by kernel_rfl) (KS.out _ (KeepF.ofBelow (belowDrew0 _))) (fun hHeld => ?_)
        refine takeD (i := 0) (some 57) (.agg #[.int .i64 m.c, .int .i64 m.d, .int .i64 m.s, .int .i64 m.a, .int .i64 m.l]) rfl (by kernel_rfl) (by kernel_rfl) (by kernel_rfl) (by kernel_rfl) (fun _ _ _ h => h) (by assumption) (Or.inl ⟨by rfl, fun w hSw => by (try dsimp only at hSw); go_simp⟩) ?_
        simp only [Act.put, List.setIfInBounds_toArray, List.set_cons_zero, List.set_cons_succ]
        refine takeD (i := 1) (some 58) (.agg #[.slice D l.length q]) rfl (by kernel_rfl) (by kernel_rfl) (by kernel_rfl) (by kernel_rfl) (fun _ _ _ h => h) (by assumption) (Or.inl ⟨by rfl, fun w hSw => by (try dsimp only at hSw); go_simp⟩) ?_
        simp only [Act.put, List.setIfInBounds_toArray, List.set_cons_zero, List.set_cons_succ]
        refine takeD (i := 2) (some 59) (.slice K al.length qk) rfl (by kernel_rfl) (by kernel_rfl) (by kernel_rfl) (by kernel_rfl) (fun _ _ _ h => h) (by assumption) (Or.inl ⟨by rfl, fun w hSw => by (try dsimp only at hSw); go_simp⟩) ?_
        simp only [Act.put, List.setIfInBounds_toArray, List.set_cons_zero, List.set_cons_succ]
        refine takeD (i := 3) (some 60) (.pointer (some ⟨S, 0, none⟩)) rfl (by kernel_rfl) (by kernel_rfl) (by kernel_rfl) (by kernel_rfl) (fun _ _ _ h => h) (by assumption) (Or.inl ⟨by rfl, fun w hSw => by (try dsimp only at hSw); go_simp⟩) ?_
        simp only [Act.put, List.setIfInBounds_toArray, List.set_cons_zero, List.set_cons_succ]
        refine takeD (i := 4) (some 61) (.agg #[.int .i64 m.c, .int .i64 m.d, .int .i64 m.s, .int .i64 m.a, .int .i64 m.l]) rfl (by kernel_rfl) (by kernel_rfl) (by kernel_rfl) (by kernel_rfl) (fun _ _ _ h => h) (by assumption) (Or.inl ⟨by rfl, fun w hSw => by (try dsimp only at hSw); go_simp⟩) ?_
        simp only [Act.put, List.setIfInBounds_toArray, List.set_cons_zero, List.set_cons_succ]
        refine wpAnyH_ready (rs := [5]) (by kernel_rfl) (by simp) (AllReadyH.cons rfl (fun K hK => ?_) AllReadyH.nil)
        go_simp
        refine (l02DrawKey_any S A c bs m _ (HDW.out.drew).src HMD.out).mono ?_
        rintro e w9 ⟨Y, qy, ys, rfl, hqy, hy9, hry, hdy⟩
        have HQY := Lib.hid hqy; have HRY := Lib.hid (show RIn (w0.heap.size + 1) w9 Y ys from hry.mono (show w0.heap.size + 1 ≤ w5.heap.size by omega))
        have HDY := Lib.hid ((Dr.refl HDW.out.src).drew.trans hdy)
        have HKY := Lib.hid HDY.out.keep
        have hs9 := HDY.out.size
        clear hqy hy9 hry hdy
        have HHeld := KS.out _ (HKY.out.mono (fun x e => .inl e))
        refine hK.out _ _ HHeld (fun _ => ?_)
        clear hK K
        try simp only [Act.put, List.setIfInBounds_toArray, List.set_cons_zero, List.set_cons_succ]
        have lb0 := (((HK1.out.trans HDW.out.keep (fun _ _ e => e)).trans (HKY.out) (fun _ _ e => e)).block (w.heap.size) (by omega) (by omega)).trans HR0.out
        have n0_0 := boxC_of_heap lb0 0 _ rfl
        have n0_1 := boxC_of_heap lb0 1 _ rfl
        have n0_2 := boxC_of_heap lb0 2 _ rfl
        have n0_3 := boxC_of_heap lb0 3 _ rfl
        have n0_4 := boxC_of_heap lb0 4 _ rfl
        have fr0 := frozen_of_heap lb0
        have f0_0 := fr0 0
        have f0_1 := fr0 1
        have f0_2 := fr0 2
        have f0_3 := fr0 3
        have f0_4 := fr0 4
        have HLB0 := Lib.hid lb0
        clear lb0 fr0
        have lb1 := (((HK1.out.trans HDW.out.keep (fun _ _ e => e)).trans (HKY.out) (fun _ _ e => e)).block (w.heap.size + 1) (by omega) (by omega)).trans HR1.out
        have n1_0 := boxC_of_heap lb1 0 _ rfl
        have fr1 := frozen_of_heap lb1
        have f1_0 := fr1 0
        have HLB1 := Lib.hid lb1
        clear lb1 fr1
        refine wpAnyH_ready (rs := [6]) (by kernel_rfl) (by simp) (AllReadyH.cons rfl (fun K hK => ?_) AllReadyH.nil)
        go_simp
        have HHeld := KS.out _ (((HKY.out).mono (fun x e => .inl e)).trans ((((((KeepF.refl (fun x => x = S ∨ (w.heap.size ≤ x ∧ x < w.heap.size + 2)) w9).setCell (p := ⟨w.heap.size, 0, none⟩) (.inl (.inr ⟨by simp only; omega, by simp only; omega⟩)) (.int .i64 m.c)).setCell (p := ⟨w.heap.size, 1, none⟩) (.inl (.inr ⟨by simp only; omega, by simp only; omega⟩)) (.int .i64 m.d)).setCell (p := ⟨w.heap.size, 2, none⟩) (.inl (.inr ⟨by simp only; omega, by simp only; omega⟩)) (.int .i64 m.s)).setCell (p := ⟨w.heap.size, 3, none⟩) (.inl (.inr ⟨by simp only; omega, by simp only; omega⟩)) (.int .i64 m.a)).setCell (p := ⟨w.heap.size, 4, none⟩) (.inl (.inr ⟨by simp only; omega, by simp only; omega⟩)) (.int .i64 m.l)) (fun _ _ e => e))
        refine hK.out _ _ HHeld (fun _ => ?_)
        clear hK K
        try simp only [Act.put, List.setIfInBounds_toArray, List.set_cons_zero, List.set_cons_succ]
        refine wpAnyH_ready (rs := [7]) (by kernel_rfl) (by simp) (AllReadyH.cons rfl (fun K hK => ?_) AllReadyH.nil)
        go_simp
        have HHeld := KS.out _ (((HKY.out).mono (fun x e => .inl e)).trans (((((((KeepF.refl (fun x => x = S ∨ (w.heap.size ≤ x ∧ x < w.heap.size + 2)) w9).setCell (p := ⟨w.heap.size, 0, none⟩) (.inl (.inr ⟨by simp only; omega, by simp only; omega⟩)) (.int .i64 m.c)).setCell (p := ⟨w.heap.size, 1, none⟩) (.inl (.inr ⟨by simp only; omega, by simp only; omega⟩)) (.int .i64 m.d)).setCell (p := ⟨w.heap.size, 2, none⟩) (.inl (.inr ⟨by simp only; omega, by simp only; omega⟩)) (.int .i64 m.s)).setCell (p := ⟨w.heap.size, 3, none⟩) (.inl (.inr ⟨by simp only; omega, by simp only; omega⟩)) (.int .i64 m.a)).setCell (p := ⟨w.heap.size, 4, none⟩) (.inl (.inr ⟨by simp only; omega, by simp only; omega⟩)) (.int .i64 m.l)).setCell (p := ⟨w.heap.size + 1, 0, none⟩) (.inl (.inr ⟨by simp only; omega, by simp only; omega⟩)) (.slice D l.length q)) (fun _ _ e => e))
        refine hK.out _ _ HHeld (fun _ => ?_)
        clear hK K
        try simp only [Act.put, List.setIfInBounds_toArray, List.set_cons_zero, List.set_cons_succ]
        refine takeD (i := 8) (some 4) (.slice K al.length qk) rfl (by kernel_rfl) (by kernel_rfl) (by kernel_rfl) (by kernel_rfl) (fun _ _ _ h => h) (by assumption) (Or.inl ⟨by rfl, fun w hSw => by (try dsimp only at hSw); go_simp⟩) ?_
        simp only [Act.put, List.setIfInBounds_toArray, List.set_cons_zero, List.set_cons_succ]
        refine takeD (i := 9) (some 5) (.slice Y ys.length qy) rfl (by kernel_rfl) (by kernel_rfl) (by kernel_rfl) (by kernel_rfl) (fun _ _ _ h => h) (by assumption) (Or.inl ⟨by rfl, fun w hSw => by (try dsimp only at hSw); go_simp⟩) ?_
        simp only [Act.put, List.setIfInBounds_toArray, List.set_cons_zero, List.set_cons_succ]
        refine wpAnyH_done (by kernel_rfl) ?_ _
        clear KS
        go_wp2_with fail
        have lb0 := HLB0.out
        have lb1 := HLB1.out
        obtain ⟨wz, hwz⟩ : ∃ wz, wz = (((((w9.setCell ⟨w.heap.size, 0, none⟩ (.int .i64 m.c)).setCell ⟨w.heap.size, 1, none⟩ (.int .i64 m.d)).setCell ⟨w.heap.size, 2, none⟩ (.int .i64 m.s)).setCell ⟨w.heap.size, 3, none⟩ (.int .i64 m.a)).setCell ⟨w.heap.size, 4, none⟩ (.int .i64 m.l)).setCell ⟨w.heap.size + 1, 0, none⟩ (.slice D l.length q) := ⟨_, rfl⟩
        rw [← hwz]
        have kz : KeepF (fun x => w.heap.size ≤ x ∧ x < w.heap.size + 2) w9 wz := by rw [hwz]; exact ((((((KeepF.refl (fun x => w.heap.size ≤ x ∧ x < w.heap.size + 2) w9).setCell (p := ⟨w.heap.size, 0, none⟩) (.inl ⟨by simp only; omega, by simp only; omega⟩) _).setCell (p := ⟨w.heap.size, 1, none⟩) (.inl ⟨by simp only; omega, by simp only; omega⟩) _).setCell (p := ⟨w.heap.size, 2, none⟩) (.inl ⟨by simp only; omega, by simp only; omega⟩) _).setCell (p := ⟨w.heap.size, 3, none⟩) (.inl ⟨by simp only; omega, by simp only; omega⟩) _).setCell (p := ⟨w.heap.size, 4, none⟩) (.inl ⟨by simp only; omega, by simp only; omega⟩) _).setCell (p := ⟨w.heap.size + 1, 0, none⟩) (.inl ⟨by simp only; omega, by simp only; omega⟩) _
        have e0 : wz.heap[w.heap.size]? = some (.cells #[.int .i64 m.c, .int .i64 m.d, .int .i64 m.s, .int .i64 m.a, .int .i64 m.l] 25 (0, 0)) := by rw [hwz]; simp [World.setCell, Array.getElem?_modify, lb0]
        have e1 : wz.heap[w.heap.size + 1]? = some (.cells #[.slice D l.length q] 28 (0, 0)) := by rw [hwz]; simp [World.setCell, Array.getElem?_modify, lb1]
        (try simp only [Exit.inBlock, Exit.then])
        refine bodyPost_ret (results_two2 rfl _ _ (w.heap.size) 25 #[.int .i64 m.c, .int .i64 m.d, .int .i64 m.s, .int .i64 m.a, .int .i64 m.l] (0, 0) _ (by rfl) e0 Tryz.underlying25 rfl (by kernel_rfl) (w.heap.size + 1) 28 #[.slice D l.length q] (0, 0) _ (by rfl) e1 Tryz.underlying28 rfl (by kernel_rfl)) rfl ?_
        have hdz := HDW.out.trans HDY.out
        have kt : KeepF (fun x => w.heap.size ≤ x) w wz := ((KeepF.ofBelow (F := fun x => w.heap.size ≤ x) (HB1.out.mono (Nat.le_refl _))).trans (hdz.keep.mono fun x e => by omega) (fun _ _ e => e)).trans (kz.mono fun x e => e.1) (fun _ _ e => e)
        have hl4 := (HLL.out.dr (by omega) (HD5.out.trans HDY.out)).keepB kz (fun x e => by omega)
        have ha4 := (HAL.out.dr (by omega) (HD5.out.trans HDY.out)).keepB kz (fun x e => by omega)
        have hy4 := (HRY.out).keepF kz (fun x e => by omega)
        exact ⟨m, D, q, l, K, qk, al, Y, qy, ys, rfl, hl4.mono (fun g hg => by omega), ha4.mono (fun g hg => by omega), hy4.mono (by omega), HQY.out, kt.toBelow (Nat.le_refl _) (fun x hx e => by omega)⟩
      | true =>
        have HLK := Lib.hid hlk
        have HN2 := Lib.hid (l01Next_dr HD5.out.src 2)
        go_wp2_with fail
        refine HN2.out.mono ?_
        rintro e w6 ⟨r, rfl, r0, r1, hd6, -⟩
        have HD6 := Lib.hid (HD5.out.trans hd6)
        have hs6 := HD6.out.size
        clear hd6 r1 HN2
        by_cases hr : r = 0
        · subst hr
          have hmk := isLock_mk HLK.out
          have hmb := mk_bounds hmk
          have hln := isLock_len HLK.out
          obtain ⟨ls, hls⟩ : ∃ ls, ls = openF m l m.c.toNat [] 9 := ⟨_, rfl⟩
          have hll : ls.length ≤ 9 := by have := openF_len m l (lock_inc HLK.out) m.c.toNat [] 9; rw [hls]; exact this
          have HO := Lib.hid (show Calls Tryz.prog 96 _ w6 (ResK w6 _ ls) by rw [hls]; exact l04Openers_go m hmk l hln (lock_inc HLK.out) m.c.toNat [] 9 D q none 0 w6 (HLL.out.dr (by omega) HD6.out).rii RI.nil (Nat.le_refl _) (by simp; omega) rfl (by omega) (by omega))
          obtain ⟨x0, x1, x2, x3, x4, _⟩ := HBX.out.dr (by omega) (by omega) HD6.out
          obtain ⟨y0, _⟩ := HLX.out.dr (by omega) (by omega) HD6.out
          simp only [Nat.zero_add] at x1 x2 x3 x4
          clear hmk hmb hln hls hlk
          go_wp2_with fail
          clear x0 x1 x2 x3 x4 y0
          refine HO.out.mono ?_
          rintro e w7 ⟨AO, qO, us7, rfl, hqO, hr7, hk7, hb7, na7⟩
          have HLS := Lib.hid (RowsK.riib hr7 (hk7.mono' fun b hb => by rcases hb with hb | ⟨o, e⟩; exact hb; cases e) na7)
          have HD7 := Lib.hid (HD6.out.below hb7)
          have hs7 := hb7.size
          clear hr7 hk7 hb7 na7 HO
          by_cases h0 : 0 < ls.length
          · have h0i : (0 : Int) < (ls.length : Int) := by omega
            have hne : ls ≠ [] := by rintro rfl; simp at h0
            have HDW := Lib.hid (HD3.out.trans HD7.out)
            have hsW := HDW.out.size
            obtain ⟨bO, oO, rfl, hbO, fO, hcO, hrO⟩ := HLS.out.hdrs h0
            have HRW := Lib.hid hrO
            clear hrO
            have KS := Lib.hid (show ∀ w' : World, KeepF (fun x => x = S ∨ (w.heap.size ≤ x ∧ x < w.heap.size + 2)) w7 w' → (w'.cell? ⟨w2.heap.size, 0, none⟩ = some (.int .i64 m.c) ∧ w'.cell? ⟨w2.heap.size, 1, none⟩ = some (.int .i64 m.d) ∧ w'.cell? ⟨w2.heap.size, 2, none⟩ = some (.int .i64 m.s) ∧ w'.cell? ⟨w2.heap.size, 3, none⟩ = some (.int .i64 m.a) ∧ w'.cell? ⟨w2.heap.size, 4, none⟩ = some (.int .i64 m.l) ∧ w'.cell? ⟨w2.heap.size + 1, 0, none⟩ = some (.slice D l.length q) ∧ ∀ j, j < ls.length → w'.cell? ⟨bO, oO + j, none⟩ = some (fO j)) from fun w' hw => by
              have hb0 := HBX.out.dr (by omega) (by omega) HD7.out
              obtain ⟨z0_0, z0_1, z0_2, z0_3, z0_4, _⟩ := hb0.keepF hw (World.block_lt_of_cell? _ _ hb0.1) (by omega)
              have hb1 := HLX.out.dr (by omega) (by omega) HD7.out
              obtain ⟨z1_0, _⟩ := hb1.keepF hw (World.block_lt_of_cell? _ _ hb1.1) (by omega)
              exact ⟨z0_0, z0_1, z0_2, z0_3, z0_4, z1_0, fun j hj => (hw.cell (p := ⟨bO, oO + j, none⟩) (World.block_lt_of_cell? w7 _ (hcO j hj)) (by simp only; omega)).trans (hcO j hj)⟩)
            go_wp2_with fail
            refine wp_region_held_drew (S := (fun w' => w'.cell? ⟨w2.heap.size, 0, none⟩ = some (.int .i64 m.c) ∧ w'.cell? ⟨w2.heap.size, 1, none⟩ = some (.int .i64 m.d) ∧ w'.cell? ⟨w2.heap.size, 2, none⟩ = some (.int .i64 m.s) ∧ w'.cell? ⟨w2.heap.size, 3, none⟩ = some (.int .i64 m.a) ∧ w'.cell? ⟨w2.heap.size, 4, none⟩ = some (.int .i64 m.l) ∧ w'.cell? ⟨w2.heap.size + 1, 0, none⟩ = some (.slice D l.length q) ∧ ∀ j, j < ls.length → w'.cell? ⟨bO, oO + j, none⟩ = some (fO j))) (by kernel_rfl) (KS.out _ (KeepF.ofBelow (belowDrew0 _))) (fun hHeld => ?_)
            refine takeD (i := 0) (some 47) (.agg #[.int .i64 m.c, .int .i64 m.d, .int .i64 m.s, .int .i64 m.a, .int .i64 m.l]) rfl (by kernel_rfl) (by kernel_rfl) (by kernel_rfl) (by kernel_rfl) (fun _ _ _ h => h) (by assumption) (Or.inl ⟨by rfl, fun w hSw => by (try dsimp only at hSw); go_simp⟩) ?_
            simp only [Act.put, List.setIfInBounds_toArray, List.set_cons_zero, List.set_cons_succ]
            refine takeD (i := 1) (some 48) (.agg #[.slice D l.length q]) rfl (by kernel_rfl) (by kernel_rfl) (by kernel_rfl) (by kernel_rfl) (fun _ _ _ h => h) (by assumption) (Or.inl ⟨by rfl, fun w hSw => by (try dsimp only at hSw); go_simp⟩) ?_
            simp only [Act.put, List.setIfInBounds_toArray, List.set_cons_zero, List.set_cons_succ]
            refine takeD (i := 2) (some 49) (.slice K al.length qk) rfl (by kernel_rfl) (by kernel_rfl) (by kernel_rfl) (by kernel_rfl) (fun _ _ _ h => h) (by assumption) (Or.inl ⟨by rfl, fun w hSw => by (try dsimp only at hSw); go_simp⟩) ?_
            simp only [Act.put, List.setIfInBounds_toArray, List.set_cons_zero, List.set_cons_succ]
            refine takeD (i := 3) (some 50) (.slice (some ⟨bO, oO, none⟩) ls.length qO) rfl (by kernel_rfl) (by kernel_rfl) (by kernel_rfl) (by kernel_rfl) (fun _ _ _ h => h) (by assumption) (Or.inl ⟨by rfl, fun w hSw => by (try dsimp only at hSw); go_simp⟩) ?_
            simp only [Act.put, List.setIfInBounds_toArray, List.set_cons_zero, List.set_cons_succ]
            refine takeD (i := 4) (some 51) (.pointer (some ⟨S, 0, none⟩)) rfl (by kernel_rfl) (by kernel_rfl) (by kernel_rfl) (by kernel_rfl) (fun _ _ _ h => h) (by assumption) (Or.inl ⟨by rfl, fun w hSw => by (try dsimp only at hSw); go_simp⟩) ?_
            simp only [Act.put, List.setIfInBounds_toArray, List.set_cons_zero, List.set_cons_succ]
            refine takeD (i := 5) (some 52) (.slice (some ⟨bO, oO, none⟩) ls.length qO) rfl (by kernel_rfl) (by kernel_rfl) (by kernel_rfl) (by kernel_rfl) (fun _ _ _ h => h) (by assumption) (Or.inl ⟨by rfl, fun w hSw => by (try dsimp only at hSw); go_simp⟩) ?_
            simp only [Act.put, List.setIfInBounds_toArray, List.set_cons_zero, List.set_cons_succ]
            refine takeD (i := 6) (some 53) (.int .i64 (ls.length : Int)) rfl (by kernel_rfl) (by kernel_rfl) (by kernel_rfl) (by kernel_rfl) (fun _ _ _ h => h) (by assumption) (Or.inl ⟨by rfl, fun w hSw => by (try dsimp only at hSw); go_simp⟩) ?_
            simp only [Act.put, List.setIfInBounds_toArray, List.set_cons_zero, List.set_cons_succ]
            refine wpAnyH_ready (rs := [7]) (by kernel_rfl) (by simp) (AllReadyH.cons rfl (fun K hK => ?_) AllReadyH.nil)
            go_simp
            refine (l01Next_dr (HDW.out.drew).src (ls.length : Int)).mono ?_
            rintro e w9 ⟨x, rfl, x0, x1, hd8, -⟩
            obtain ⟨j, rfl⟩ : ∃ j : Nat, x = j := ⟨x.toNat, by omega⟩
            have hj : j < ls.length := by omega
            have HD8 := Lib.hid ((Dr.refl HDW.out.src).drew.trans hd8)
            have HK8 := Lib.hid HD8.out.keep
            have hs9 := HD8.out.size
            have i0 : (0 : Int) ≤ (j : Int) := by omega
            have i1 : (j : Int) < (ls.length : Int) := by omega
            clear hd8 x1
            obtain ⟨Y, qy, hfe, hqy, hry, hnf⟩ := HRW.out j hj
            obtain ⟨ys, hys⟩ : ∃ ys, ys = ls[j] := ⟨_, rfl⟩
            rw [← hys] at hfe hqy hry hnf
            have HQY := Lib.hid hqy
            have HRY := Lib.hid (show RIn (w0.heap.size + 1) w9 Y ys from (RIn.mono ⟨hry, hnf⟩ (show w0.heap.size + 1 ≤ w6.heap.size by omega)).dr (by omega) HD8.out)
            have HFE := Lib.hid hfe
            clear hys hqy hry hnf hfe
            have HHeld := KS.out _ (HK8.out.mono (fun x e => .inl e))
            refine hK.out _ _ HHeld (fun _ => ?_)
            clear hK K
            try simp only [Act.put, List.setIfInBounds_toArray, List.set_cons_zero, List.set_cons_succ]
            refine takeD (i := 8) (some 55) (.pointer (some ⟨bO, oO + j, none⟩)) rfl (by kernel_rfl) (by kernel_rfl) (by kernel_rfl) (by kernel_rfl) (fun _ _ _ h => h) (by assumption) (Or.inl ⟨by rfl, fun w hSw => by (try dsimp only at hSw); go_simp⟩) ?_
            simp only [Act.put, List.setIfInBounds_toArray, List.set_cons_zero, List.set_cons_succ]
            refine takeD (i := 9) (some 56) (.slice Y ys.length qy) rfl (by kernel_rfl) (by kernel_rfl) (by kernel_rfl) (by kernel_rfl) (fun _ _ _ h => h) (by assumption) (Or.inl ⟨by rfl, fun w hSw => by have hjj := (hSw.2.2.2.2.2.2 j hj).trans (congrArg some HFE.out); clear hSw; go_simp⟩) ?_
            simp only [Act.put, List.setIfInBounds_toArray, List.set_cons_zero, List.set_cons_succ]
            have lb0 := (((HK1.out.trans HDW.out.keep (fun _ _ e => e)).trans (HK8.out) (fun _ _ e => e)).block (w.heap.size) (by omega) (by omega)).trans HR0.out
            have n0_0 := boxC_of_heap lb0 0 _ rfl
            have n0_1 := boxC_of_heap lb0 1 _ rfl
            have n0_2 := boxC_of_heap lb0 2 _ rfl
            have n0_3 := boxC_of_heap lb0 3 _ rfl
            have n0_4 := boxC_of_heap lb0 4 _ rfl
            have fr0 := frozen_of_heap lb0
            have f0_0 := fr0 0
            have f0_1 := fr0 1
            have f0_2 := fr0 2
            have f0_3 := fr0 3
            have f0_4 := fr0 4
            have HLB0 := Lib.hid lb0
            clear lb0 fr0
            have lb1 := (((HK1.out.trans HDW.out.keep (fun _ _ e => e)).trans (HK8.out) (fun _ _ e => e)).block (w.heap.size + 1) (by omega) (by omega)).trans HR1.out
            have n1_0 := boxC_of_heap lb1 0 _ rfl
            have fr1 := frozen_of_heap lb1
            have f1_0 := fr1 0
            have HLB1 := Lib.hid lb1
            clear lb1 fr1
            refine wpAnyH_ready (rs := [10]) (by kernel_rfl) (by simp) (AllReadyH.cons rfl (fun K hK => ?_) AllReadyH.nil)
            go_simp
            have HHeld := KS.out _ (((HK8.out).mono (fun x e => .inl e)).trans ((((((KeepF.refl (fun x => x = S ∨ (w.heap.size ≤ x ∧ x < w.heap.size + 2)) w9).setCell (p := ⟨w.heap.size, 0, none⟩) (.inl (.inr ⟨by simp only; omega, by simp only; omega⟩)) (.int .i64 m.c)).setCell (p := ⟨w.heap.size, 1, none⟩) (.inl (.inr ⟨by simp only; omega, by simp only; omega⟩)) (.int .i64 m.d)).setCell (p := ⟨w.heap.size, 2, none⟩) (.inl (.inr ⟨by simp only; omega, by simp only; omega⟩)) (.int .i64 m.s)).setCell (p := ⟨w.heap.size, 3, none⟩) (.inl (.inr ⟨by simp only; omega, by simp only; omega⟩)) (.int .i64 m.a)).setCell (p := ⟨w.heap.size, 4, none⟩) (.inl (.inr ⟨by simp only; omega, by simp only; omega⟩)) (.int .i64 m.l)) (fun _ _ e => e))
            refine hK.out _ _ HHeld (fun _ => ?_)
            clear hK K
            try simp only [Act.put, List.setIfInBounds_toArray, List.set_cons_zero, List.set_cons_succ]
            refine wpAnyH_ready (rs := [11]) (by kernel_rfl) (by simp) (AllReadyH.cons rfl (fun K hK => ?_) AllReadyH.nil)
            go_simp
            have HHeld := KS.out _ (((HK8.out).mono (fun x e => .inl e)).trans (((((((KeepF.refl (fun x => x = S ∨ (w.heap.size ≤ x ∧ x < w.heap.size + 2)) w9).setCell (p := ⟨w.heap.size, 0, none⟩) (.inl (.inr ⟨by simp only; omega, by simp only; omega⟩)) (.int .i64 m.c)).setCell (p := ⟨w.heap.size, 1, none⟩) (.inl (.inr ⟨by simp only; omega, by simp only; omega⟩)) (.int .i64 m.d)).setCell (p := ⟨w.heap.size, 2, none⟩) (.inl (.inr ⟨by simp only; omega, by simp only; omega⟩)) (.int .i64 m.s)).setCell (p := ⟨w.heap.size, 3, none⟩) (.inl (.inr ⟨by simp only; omega, by simp only; omega⟩)) (.int .i64 m.a)).setCell (p := ⟨w.heap.size, 4, none⟩) (.inl (.inr ⟨by simp only; omega, by simp only; omega⟩)) (.int .i64 m.l)).setCell (p := ⟨w.heap.size + 1, 0, none⟩) (.inl (.inr ⟨by simp only; omega, by simp only; omega⟩)) (.slice D l.length q)) (fun _ _ e => e))
            refine hK.out _ _ HHeld (fun _ => ?_)
            clear hK K
            try simp only [Act.put, List.setIfInBounds_toArray, List.set_cons_zero, List.set_cons_succ]
            refine takeD (i := 12) (some 4) (.slice K al.length qk) rfl (by kernel_rfl) (by kernel_rfl) (by kernel_rfl) (by kernel_rfl) (fun _ _ _ h => h) (by assumption) (Or.inl ⟨by rfl, fun w hSw => by (try dsimp only at hSw); go_simp⟩) ?_
            simp only [Act.put, List.setIfInBounds_toArray, List.set_cons_zero, List.set_cons_succ]
            refine takeD (i := 13) (some 5) (.slice Y ys.length qy) rfl (by kernel_rfl) (by kernel_rfl) (by kernel_rfl) (by kernel_rfl) (fun _ _ _ h => h) (by assumption) (Or.inl ⟨by rfl, fun w hSw => by (try dsimp only at hSw); go_simp⟩) ?_
            simp only [Act.put, List.setIfInBounds_toArray, List.set_cons_zero, List.set_cons_succ]
            refine wpAnyH_done (by kernel_rfl) ?_ _
            clear KS
            go_wp2_with fail
            have lb0 := HLB0.out
            have lb1 := HLB1.out
            obtain ⟨wz, hwz⟩ : ∃ wz, wz = (((((w9.setCell ⟨w.heap.size, 0, none⟩ (.int .i64 m.c)).setCell ⟨w.heap.size, 1, none⟩ (.int .i64 m.d)).setCell ⟨w.heap.size, 2, none⟩ (.int .i64 m.s)).setCell ⟨w.heap.size, 3, none⟩ (.int .i64 m.a)).setCell ⟨w.heap.size, 4, none⟩ (.int .i64 m.l)).setCell ⟨w.heap.size + 1, 0, none⟩ (.slice D l.length q) := ⟨_, rfl⟩
            rw [← hwz]
            have kz : KeepF (fun x => w.heap.size ≤ x ∧ x < w.heap.size + 2) w9 wz := by rw [hwz]; exact ((((((KeepF.refl (fun x => w.heap.size ≤ x ∧ x < w.heap.size + 2) w9).setCell (p := ⟨w.heap.size, 0, none⟩) (.inl ⟨by simp only; omega, by simp only; omega⟩) _).setCell (p := ⟨w.heap.size, 1, none⟩) (.inl ⟨by simp only; omega, by simp only; omega⟩) _).setCell (p := ⟨w.heap.size, 2, none⟩) (.inl ⟨by simp only; omega, by simp only; omega⟩) _).setCell (p := ⟨w.heap.size, 3, none⟩) (.inl ⟨by simp only; omega, by simp only; omega⟩) _).setCell (p := ⟨w.heap.size, 4, none⟩) (.inl ⟨by simp only; omega, by simp only; omega⟩) _).setCell (p := ⟨w.heap.size + 1, 0, none⟩) (.inl ⟨by simp only; omega, by simp only; omega⟩) _
            have e0 : wz.heap[w.heap.size]? = some (.cells #[.int .i64 m.c, .int .i64 m.d, .int .i64 m.s, .int .i64 m.a, .int .i64 m.l] 25 (0, 0)) := by rw [hwz]; simp [World.setCell, Array.getElem?_modify, lb0]
            have e1 : wz.heap[w.heap.size + 1]? = some (.cells #[.slice D l.length q] 28 (0, 0)) := by rw [hwz]; simp [World.setCell, Array.getElem?_modify, lb1]
            (try simp only [Exit.inBlock, Exit.then])
            refine bodyPost_ret (results_two2 rfl _ _ (w.heap.size) 25 #[.int .i64 m.c, .int .i64 m.d, .int .i64 m.s, .int .i64 m.a, .int .i64 m.l] (0, 0) _ (by rfl) e0 Tryz.underlying25 rfl (by kernel_rfl) (w.heap.size + 1) 28 #[.slice D l.length q] (0, 0) _ (by rfl) e1 Tryz.underlying28 rfl (by kernel_rfl)) rfl ?_
            have hdz := HDW.out.trans HD8.out
            have kt : KeepF (fun x => w.heap.size ≤ x) w wz := ((KeepF.ofBelow (F := fun x => w.heap.size ≤ x) (HB1.out.mono (Nat.le_refl _))).trans (hdz.keep.mono fun x e => by omega) (fun _ _ e => e)).trans (kz.mono fun x e => e.1) (fun _ _ e => e)
            have hl4 := (HLL.out.dr (by omega) (HD7.out.trans HD8.out)).keepB kz (fun x e => by omega)
            have ha4 := (HAL.out.dr (by omega) (HD7.out.trans HD8.out)).keepB kz (fun x e => by omega)
            have hy4 := (HRY.out).keepF kz (fun x e => by omega)
            exact ⟨m, D, q, l, K, qk, al, Y, qy, ys, rfl, hl4.mono (fun g hg => by omega), ha4.mono (fun g hg => by omega), hy4.mono (by omega), HQY.out, kt.toBelow (Nat.le_refl _) (fun x hx e => by omega)⟩
          · have hd1 : decide (0 < ls.length) = false := decide_eq_false h0
            have hd2 : decide ((0 : Int) < (ls.length : Int)) = false := decide_eq_false (by omega)
            clear h0
            have HDW := Lib.hid (HD3.out.trans HD7.out)
            have hsW := HDW.out.size
            have KS := Lib.hid (show ∀ w' : World, KeepF (fun x => x = S ∨ (w.heap.size ≤ x ∧ x < w.heap.size + 2)) w7 w' → (w'.cell? ⟨w2.heap.size, 0, none⟩ = some (.int .i64 m.c) ∧ w'.cell? ⟨w2.heap.size, 1, none⟩ = some (.int .i64 m.d) ∧ w'.cell? ⟨w2.heap.size, 2, none⟩ = some (.int .i64 m.s) ∧ w'.cell? ⟨w2.heap.size, 3, none⟩ = some (.int .i64 m.a) ∧ w'.cell? ⟨w2.heap.size, 4, none⟩ = some (.int .i64 m.l) ∧ w'.cell? ⟨w2.heap.size + 1, 0, none⟩ = some (.slice D l.length q)) from fun w' hw => by
              have hb0 := HBX.out.dr (by omega) (by omega) HD7.out
              obtain ⟨z0_0, z0_1, z0_2, z0_3, z0_4, _⟩ := hb0.keepF hw (World.block_lt_of_cell? _ _ hb0.1) (by omega)
              have hb1 := HLX.out.dr (by omega) (by omega) HD7.out
              obtain ⟨z1_0, _⟩ := hb1.keepF hw (World.block_lt_of_cell? _ _ hb1.1) (by omega)
              exact ⟨z0_0, z0_1, z0_2, z0_3, z0_4, z1_0⟩)
            go_wp2_with fail
            refine wp_region_held_drew (S := (fun w' => w'.cell? ⟨w2.heap.size, 0, none⟩ = some (.int .i64 m.c) ∧ w'.cell? ⟨w2.heap.size, 1, none⟩ = some (.int .i64 m.d) ∧ w'.cell? ⟨w2.heap.size, 2, none⟩ = some (.int .i64 m.s) ∧ w'.cell? ⟨w2.heap.size, 3, none⟩ = some (.int .i64 m.a) ∧ w'.cell? ⟨w2.heap.size, 4, none⟩ = some (.int .i64 m.l) ∧ w'.cell? ⟨w2.heap.size + 1, 0, none⟩ = some (.slice D l.length q))) (by kernel_rfl) (KS.out _ (KeepF.ofBelow (belowDrew0 _))) (fun hHeld => ?_)
            refine takeD (i := 0) (some 57) (.agg #[.int .i64 m.c, .int .i64 m.d, .int .i64 m.s, .int .i64 m.a, .int .i64 m.l]) rfl (by kernel_rfl) (by kernel_rfl) (by kernel_rfl) (by kernel_rfl) (fun _ _ _ h => h) (by assumption) (Or.inl ⟨by rfl, fun w hSw => by (try dsimp only at hSw); go_simp⟩) ?_
            simp only [Act.put, List.setIfInBounds_toArray, List.set_cons_zero, List.set_cons_succ]
            refine takeD (i := 1) (some 58) (.agg #[.slice D l.length q]) rfl (by kernel_rfl) (by kernel_rfl) (by kernel_rfl) (by kernel_rfl) (fun _ _ _ h => h) (by assumption) (Or.inl ⟨by rfl, fun w hSw => by (try dsimp only at hSw); go_simp⟩) ?_
            simp only [Act.put, List.setIfInBounds_toArray, List.set_cons_zero, List.set_cons_succ]
            refine takeD (i := 2) (some 59) (.slice K al.length qk) rfl (by kernel_rfl) (by kernel_rfl) (by kernel_rfl) (by kernel_rfl) (fun _ _ _ h => h) (by assumption) (Or.inl ⟨by rfl, fun w hSw => by (try dsimp only at hSw); go_simp⟩) ?_
            simp only [Act.put, List.setIfInBounds_toArray, List.set_cons_zero, List.set_cons_succ]
            refine takeD (i := 3) (some 60) (.pointer (some ⟨S, 0, none⟩)) rfl (by kernel_rfl) (by kernel_rfl) (by kernel_rfl) (by kernel_rfl) (fun _ _ _ h => h) (by assumption) (Or.inl ⟨by rfl, fun w hSw => by (try dsimp only at hSw); go_simp⟩) ?_
            simp only [Act.put, List.setIfInBounds_toArray, List.set_cons_zero, List.set_cons_succ]
            refine takeD (i := 4) (some 61) (.agg #[.int .i64 m.c, .int .i64 m.d, .int .i64 m.s, .int .i64 m.a, .int .i64 m.l]) rfl (by kernel_rfl) (by kernel_rfl) (by kernel_rfl) (by kernel_rfl) (fun _ _ _ h => h) (by assumption) (Or.inl ⟨by rfl, fun w hSw => by (try dsimp only at hSw); go_simp⟩) ?_
            simp only [Act.put, List.setIfInBounds_toArray, List.set_cons_zero, List.set_cons_succ]
            refine wpAnyH_ready (rs := [5]) (by kernel_rfl) (by simp) (AllReadyH.cons rfl (fun K hK => ?_) AllReadyH.nil)
            go_simp
            refine (l02DrawKey_any S A c bs m _ (HDW.out.drew).src HMD.out).mono ?_
            rintro e w9 ⟨Y, qy, ys, rfl, hqy, hy9, hry, hdy⟩
            have HQY := Lib.hid hqy; have HRY := Lib.hid (show RIn (w0.heap.size + 1) w9 Y ys from hry.mono (show w0.heap.size + 1 ≤ w7.heap.size by omega))
            have HDY := Lib.hid ((Dr.refl HDW.out.src).drew.trans hdy)
            have HKY := Lib.hid HDY.out.keep
            have hs9 := HDY.out.size
            clear hqy hy9 hry hdy
            have HHeld := KS.out _ (HKY.out.mono (fun x e => .inl e))
            refine hK.out _ _ HHeld (fun _ => ?_)
            clear hK K
            try simp only [Act.put, List.setIfInBounds_toArray, List.set_cons_zero, List.set_cons_succ]
            have lb0 := (((HK1.out.trans HDW.out.keep (fun _ _ e => e)).trans (HKY.out) (fun _ _ e => e)).block (w.heap.size) (by omega) (by omega)).trans HR0.out
            have n0_0 := boxC_of_heap lb0 0 _ rfl
            have n0_1 := boxC_of_heap lb0 1 _ rfl
            have n0_2 := boxC_of_heap lb0 2 _ rfl
            have n0_3 := boxC_of_heap lb0 3 _ rfl
            have n0_4 := boxC_of_heap lb0 4 _ rfl
            have fr0 := frozen_of_heap lb0
            have f0_0 := fr0 0
            have f0_1 := fr0 1
            have f0_2 := fr0 2
            have f0_3 := fr0 3
            have f0_4 := fr0 4
            have HLB0 := Lib.hid lb0
            clear lb0 fr0
            have lb1 := (((HK1.out.trans HDW.out.keep (fun _ _ e => e)).trans (HKY.out) (fun _ _ e => e)).block (w.heap.size + 1) (by omega) (by omega)).trans HR1.out
            have n1_0 := boxC_of_heap lb1 0 _ rfl
            have fr1 := frozen_of_heap lb1
            have f1_0 := fr1 0
            have HLB1 := Lib.hid lb1
            clear lb1 fr1
            refine wpAnyH_ready (rs := [6]) (by kernel_rfl) (by simp) (AllReadyH.cons rfl (fun K hK => ?_) AllReadyH.nil)
            go_simp
            have HHeld := KS.out _ (((HKY.out).mono (fun x e => .inl e)).trans ((((((KeepF.refl (fun x => x = S ∨ (w.heap.size ≤ x ∧ x < w.heap.size + 2)) w9).setCell (p := ⟨w.heap.size, 0, none⟩) (.inl (.inr ⟨by simp only; omega, by simp only; omega⟩)) (.int .i64 m.c)).setCell (p := ⟨w.heap.size, 1, none⟩) (.inl (.inr ⟨by simp only; omega, by simp only; omega⟩)) (.int .i64 m.d)).setCell (p := ⟨w.heap.size, 2, none⟩) (.inl (.inr ⟨by simp only; omega, by simp only; omega⟩)) (.int .i64 m.s)).setCell (p := ⟨w.heap.size, 3, none⟩) (.inl (.inr ⟨by simp only; omega, by simp only; omega⟩)) (.int .i64 m.a)).setCell (p := ⟨w.heap.size, 4, none⟩) (.inl (.inr ⟨by simp only; omega, by simp only; omega⟩)) (.int .i64 m.l)) (fun _ _ e => e))
            refine hK.out _ _ HHeld (fun _ => ?_)
            clear hK K
            try simp only [Act.put, List.setIfInBounds_toArray, List.set_cons_zero, List.set_cons_succ]
            refine wpAnyH_ready (rs := [7]) (by kernel_rfl) (by simp) (AllReadyH.cons rfl (fun K hK => ?_) AllReadyH.nil)
            go_simp
            have HHeld := KS.out _ (((HKY.out).mono (fun x e => .inl e)).trans (((((((KeepF.refl (fun x => x = S ∨ (w.heap.size ≤ x ∧ x < w.heap.size + 2)) w9).setCell (p := ⟨w.heap.size, 0, none⟩) (.inl (.inr ⟨by simp only; omega, by simp only; omega⟩)) (.int .i64 m.c)).setCell (p := ⟨w.heap.size, 1, none⟩) (.inl (.inr ⟨by simp only; omega, by simp only; omega⟩)) (.int .i64 m.d)).setCell (p := ⟨w.heap.size, 2, none⟩) (.inl (.inr ⟨by simp only; omega, by simp only; omega⟩)) (.int .i64 m.s)).setCell (p := ⟨w.heap.size, 3, none⟩) (.inl (.inr ⟨by simp only; omega, by simp only; omega⟩)) (.int .i64 m.a)).setCell (p := ⟨w.heap.size, 4, none⟩) (.inl (.inr ⟨by simp only; omega, by simp only; omega⟩)) (.int .i64 m.l)).setCell (p := ⟨w.heap.size + 1, 0, none⟩) (.inl (.inr ⟨by simp only; omega, by simp only; omega⟩)) (.slice D l.length q)) (fun _ _ e => e))
            refine hK.out _ _ HHeld (fun _ => ?_)
            clear hK K
            try simp only [Act.put, List.setIfInBounds_toArray, List.set_cons_zero, List.set_cons_succ]
            refine takeD (i := 8) (some 4) (.slice K al.length qk) rfl (by kernel_rfl) (by kernel_rfl) (by kernel_rfl) (by kernel_rfl) (fun _ _ _ h => h) (by assumption) (Or.inl ⟨by rfl, fun w hSw => by (try dsimp only at hSw); go_simp⟩) ?_
            simp only [Act.put, List.setIfInBounds_toArray, List.set_cons_zero, List.set_cons_succ]
            refine takeD (i := 9) (some 5) (.slice Y ys.length qy) rfl (by kernel_rfl) (by kernel_rfl) (by kernel_rfl) (by kernel_rfl) (fun _ _ _ h => h) (by assumption) (Or.inl ⟨by rfl, fun w hSw => by (try dsimp only at hSw); go_simp⟩) ?_
            simp only [Act.put, List.setIfInBounds_toArray, List.set_cons_zero, List.set_cons_succ]
            refine wpAnyH_done (by kernel_rfl) ?_ _
            clear KS
            go_wp2_with fail
            have lb0 := HLB0.out
            have lb1 := HLB1.out
            obtain ⟨wz, hwz⟩ : ∃ wz, wz = (((((w9.setCell ⟨w.heap.size, 0, none⟩ (.int .i64 m.c)).setCell ⟨w.heap.size, 1, none⟩ (.int .i64 m.d)).setCell ⟨w.heap.size, 2, none⟩ (.int .i64 m.s)).setCell ⟨w.heap.size, 3, none⟩ (.int .i64 m.a)).setCell ⟨w.heap.size, 4, none⟩ (.int .i64 m.l)).setCell ⟨w.heap.size + 1, 0, none⟩ (.slice D l.length q) := ⟨_, rfl⟩
            rw [← hwz]
            have kz : KeepF (fun x => w.heap.size ≤ x ∧ x < w.heap.size + 2) w9 wz := by rw [hwz]; exact ((((((KeepF.refl (fun x => w.heap.size ≤ x ∧ x < w.heap.size + 2) w9).setCell (p := ⟨w.heap.size, 0, none⟩) (.inl ⟨by simp only; omega, by simp only; omega⟩) _).setCell (p := ⟨w.heap.size, 1, none⟩) (.inl ⟨by simp only; omega, by simp only; omega⟩) _).setCell (p := ⟨w.heap.size, 2, none⟩) (.inl ⟨by simp only; omega, by simp only; omega⟩) _).setCell (p := ⟨w.heap.size, 3, none⟩) (.inl ⟨by simp only; omega, by simp only; omega⟩) _).setCell (p := ⟨w.heap.size, 4, none⟩) (.inl ⟨by simp only; omega, by simp only; omega⟩) _).setCell (p := ⟨w.heap.size + 1, 0, none⟩) (.inl ⟨by simp only; omega, by simp only; omega⟩) _
            have e0 : wz.heap[w.heap.size]? = some (.cells #[.int .i64 m.c, .int .i64 m.d, .int .i64 m.s, .int .i64 m.a, .int .i64 m.l] 25 (0, 0)) := by rw [hwz]; simp [World.setCell, Array.getElem?_modify, lb0]
            have e1 : wz.heap[w.heap.size + 1]? = some (.cells #[.slice D l.length q] 28 (0, 0)) := by rw [hwz]; simp [World.setCell, Array.getElem?_modify, lb1]
            (try simp only [Exit.inBlock, Exit.then])
            refine bodyPost_ret (results_two2 rfl _ _ (w.heap.size) 25 #[.int .i64 m.c, .int .i64 m.d, .int .i64 m.s, .int .i64 m.a, .int .i64 m.l] (0, 0) _ (by rfl) e0 Tryz.underlying25 rfl (by kernel_rfl) (w.heap.size + 1) 28 #[.slice D l.length q] (0, 0) _ (by rfl) e1 Tryz.underlying28 rfl (by kernel_rfl)) rfl ?_
            have hdz := HDW.out.trans HDY.out
            have kt : KeepF (fun x => w.heap.size ≤ x) w wz := ((KeepF.ofBelow (F := fun x => w.heap.size ≤ x) (HB1.out.mono (Nat.le_refl _))).trans (hdz.keep.mono fun x e => by omega) (fun _ _ e => e)).trans (kz.mono fun x e => e.1) (fun _ _ e => e)
            have hl4 := (HLL.out.dr (by omega) (HD7.out.trans HDY.out)).keepB kz (fun x e => by omega)
            have ha4 := (HAL.out.dr (by omega) (HD7.out.trans HDY.out)).keepB kz (fun x e => by omega)
            have hy4 := (HRY.out).keepF kz (fun x e => by omega)
            exact ⟨m, D, q, l, K, qk, al, Y, qy, ys, rfl, hl4.mono (fun g hg => by omega), ha4.mono (fun g hg => by omega), hy4.mono (by omega), HQY.out, kt.toBelow (Nat.le_refl _) (fun x hx e => by omega)⟩
        · have hr' : (r == 0) = false := by simpa using hr
          have HDW := Lib.hid (HD3.out.trans HD6.out)
          have hsW := HDW.out.size
          have KS := Lib.hid (show ∀ w' : World, KeepF (fun x => x = S ∨ (w.heap.size ≤ x ∧ x < w.heap.size + 2)) w6 w' → (w'.cell? ⟨w2.heap.size, 0, none⟩ = some (.int .i64 m.c) ∧ w'.cell? ⟨w2.heap.size, 1, none⟩ = some (.int .i64 m.d) ∧ w'.cell? ⟨w2.heap.size, 2, none⟩ = some (.int .i64 m.s) ∧ w'.cell? ⟨w2.heap.size, 3, none⟩ = some (.int .i64 m.a) ∧ w'.cell? ⟨w2.heap.size, 4, none⟩ = some (.int .i64 m.l) ∧ w'.cell? ⟨w2.heap.size + 1, 0, none⟩ = some (.slice D l.length q)) from fun w' hw => by
            have hb0 := HBX.out.dr (by omega) (by omega) HD6.out
            obtain ⟨z0_0, z0_1, z0_2, z0_3, z0_4, _⟩ := hb0.keepF hw (World.block_lt_of_cell? _ _ hb0.1) (by omega)
            have hb1 := HLX.out.dr (by omega) (by omega) HD6.out
            obtain ⟨z1_0, _⟩ := hb1.keepF hw (World.block_lt_of_cell? _ _ hb1.1) (by omega)
            exact ⟨z0_0, z0_1, z0_2, z0_3, z0_4, z1_0⟩)
          go_wp2_with fail
          refine wp_region_held_drew (S := (fun w' => w'.cell? ⟨w2.heap.size, 0, none⟩ = some (.int .i64 m.c) ∧ w'.cell? ⟨w2.heap.size, 1, none⟩ = some (.int .i64 m.d) ∧ w'.cell? ⟨w2.heap.size, 2, none⟩ = some (.int .i64 m.s) ∧ w'.cell? ⟨w2.heap.size, 3, none⟩ = some (.int .i64 m.a) ∧ w'.cell? ⟨w2.heap.size, 4, none⟩ = some (.int .i64 m.l) ∧ w'.cell? ⟨w2.heap.size + 1, 0, none⟩ = some (.slice D l.length q))) (by kernel_rfl) (KS.out _ (KeepF.ofBelow (belowDrew0 _))) (fun hHeld => ?_)
          refine takeD (i := 0) (some 57) (.agg #[.int .i64 m.c, .int .i64 m.d, .int .i64 m.s, .int .i64 m.a, .int .i64 m.l]) rfl (by kernel_rfl) (by kernel_rfl) (by kernel_rfl) (by kernel_rfl) (fun _ _ _ h => h) (by assumption) (Or.inl ⟨by rfl, fun w hSw => by (try dsimp only at hSw); go_simp⟩) ?_
          simp only [Act.put, List.setIfInBounds_toArray, List.set_cons_zero, List.set_cons_succ]
          refine takeD (i := 1) (some 58) (.agg #[.slice D l.length q]) rfl (by kernel_rfl) (by kernel_rfl) (by kernel_rfl) (by kernel_rfl) (fun _ _ _ h => h) (by assumption) (Or.inl ⟨by rfl, fun w hSw => by (try dsimp only at hSw); go_simp⟩) ?_
          simp only [Act.put, List.setIfInBounds_toArray, List.set_cons_zero, List.set_cons_succ]
          refine takeD (i := 2) (some 59) (.slice K al.length qk) rfl (by kernel_rfl) (by kernel_rfl) (by kernel_rfl) (by kernel_rfl) (fun _ _ _ h => h) (by assumption) (Or.inl ⟨by rfl, fun w hSw => by (try dsimp only at hSw); go_simp⟩) ?_
          simp only [Act.put, List.setIfInBounds_toArray, List.set_cons_zero, List.set_cons_succ]
          refine takeD (i := 3) (some 60) (.pointer (some ⟨S, 0, none⟩)) rfl (by kernel_rfl) (by kernel_rfl) (by kernel_rfl) (by kernel_rfl) (fun _ _ _ h => h) (by assumption) (Or.inl ⟨by rfl, fun w hSw => by (try dsimp only at hSw); go_simp⟩) ?_
          simp only [Act.put, List.setIfInBounds_toArray, List.set_cons_zero, List.set_cons_succ]
          refine takeD (i := 4) (some 61) (.agg #[.int .i64 m.c, .int .i64 m.d, .int .i64 m.s, .int .i64 m.a, .int .i64 m.l]) rfl (by kernel_rfl) (by kernel_rfl) (by kernel_rfl) (by kernel_rfl) (fun _ _ _ h => h) (by assumption) (Or.inl ⟨by rfl, fun w hSw => by (try dsimp only at hSw); go_simp⟩) ?_
          simp only [Act.put, List.setIfInBounds_toArray, List.set_cons_zero, List.set_cons_succ]
          refine wpAnyH_ready (rs := [5]) (by kernel_rfl) (by simp) (AllReadyH.cons rfl (fun K hK => ?_) AllReadyH.nil)
          go_simp
          refine (l02DrawKey_any S A c bs m _ (HDW.out.drew).src HMD.out).mono ?_
          rintro e w9 ⟨Y, qy, ys, rfl, hqy, hy9, hry, hdy⟩
          have HQY := Lib.hid hqy; have HRY := Lib.hid (show RIn (w0.heap.size + 1) w9 Y ys from hry.mono (show w0.heap.size + 1 ≤ w6.heap.size by omega))
          have HDY := Lib.hid ((Dr.refl HDW.out.src).drew.trans hdy)
          have HKY := Lib.hid HDY.out.keep
          have hs9 := HDY.out.size
          clear hqy hy9 hry hdy
          have HHeld := KS.out _ (HKY.out.mono (fun x e => .inl e))
          refine hK.out _ _ HHeld (fun _ => ?_)
          clear hK K
          try simp only [Act.put, List.setIfInBounds_toArray, List.set_cons_zero, List.set_cons_succ]
          have lb0 := (((HK1.out.trans HDW.out.keep (fun _ _ e => e)).trans (HKY.out) (fun _ _ e => e)).block (w.heap.size) (by omega) (by omega)).trans HR0.out
          have n0_0 := boxC_of_heap lb0 0 _ rfl
          have n0_1 := boxC_of_heap lb0 1 _ rfl
          have n0_2 := boxC_of_heap lb0 2 _ rfl
          have n0_3 := boxC_of_heap lb0 3 _ rfl
          have n0_4 := boxC_of_heap lb0 4 _ rfl
          have fr0 := frozen_of_heap lb0
          have f0_0 := fr0 0
          have f0_1 := fr0 1
          have f0_2 := fr0 2
          have f0_3 := fr0 3
          have f0_4 := fr0 4
          have HLB0 := Lib.hid lb0
          clear lb0 fr0
          have lb1 := (((HK1.out.trans HDW.out.keep (fun _ _ e => e)).trans (HKY.out) (fun _ _ e => e)).block (w.heap.size + 1) (by omega) (by omega)).trans HR1.out
          have n1_0 := boxC_of_heap lb1 0 _ rfl
          have fr1 := frozen_of_heap lb1
          have f1_0 := fr1 0
          have HLB1 := Lib.hid lb1
          clear lb1 fr1
          refine wpAnyH_ready (rs := [6]) (by kernel_rfl) (by simp) (AllReadyH.cons rfl (fun K hK => ?_) AllReadyH.nil)
          go_simp
          have HHeld := KS.out _ (((HKY.out).mono (fun x e => .inl e)).trans ((((((KeepF.refl (fun x => x = S ∨ (w.heap.size ≤ x ∧ x < w.heap.size + 2)) w9).setCell (p := ⟨w.heap.size, 0, none⟩) (.inl (.inr ⟨by simp only; omega, by simp only; omega⟩)) (.int .i64 m.c)).setCell (p := ⟨w.heap.size, 1, none⟩) (.inl (.inr ⟨by simp only; omega, by simp only; omega⟩)) (.int .i64 m.d)).setCell (p := ⟨w.heap.size, 2, none⟩) (.inl (.inr ⟨by simp only; omega, by simp only; omega⟩)) (.int .i64 m.s)).setCell (p := ⟨w.heap.size, 3, none⟩) (.inl (.inr ⟨by simp only; omega, by simp only; omega⟩)) (.int .i64 m.a)).setCell (p := ⟨w.heap.size, 4, none⟩) (.inl (.inr ⟨by simp only; omega, by simp only; omega⟩)) (.int .i64 m.l)) (fun _ _ e => e))
          refine hK.out _ _ HHeld (fun _ => ?_)
          clear hK K
          try simp only [Act.put, List.setIfInBounds_toArray, List.set_cons_zero, List.set_cons_succ]
          refine wpAnyH_ready (rs := [7]) (by kernel_rfl) (by simp) (AllReadyH.cons rfl (fun K hK => ?_) AllReadyH.nil)
          go_simp
          have HHeld := KS.out _ (((HKY.out).mono (fun x e => .inl e)).trans (((((((KeepF.refl (fun x => x = S ∨ (w.heap.size ≤ x ∧ x < w.heap.size + 2)) w9).setCell (p := ⟨w.heap.size, 0, none⟩) (.inl (.inr ⟨by simp only; omega, by simp only; omega⟩)) (.int .i64 m.c)).setCell (p := ⟨w.heap.size, 1, none⟩) (.inl (.inr ⟨by simp only; omega, by simp only; omega⟩)) (.int .i64 m.d)).setCell (p := ⟨w.heap.size, 2, none⟩) (.inl (.inr ⟨by simp only; omega, by simp only; omega⟩)) (.int .i64 m.s)).setCell (p := ⟨w.heap.size, 3, none⟩) (.inl (.inr ⟨by simp only; omega, by simp only; omega⟩)) (.int .i64 m.a)).setCell (p := ⟨w.heap.size, 4, none⟩) (.inl (.inr ⟨by simp only; omega, by simp only; omega⟩)) (.int .i64 m.l)).setCell (p := ⟨w.heap.size + 1, 0, none⟩) (.inl (.inr ⟨by simp only; omega, by simp only; omega⟩)) (.slice D l.length q)) (fun _ _ e => e))
          refine hK.out _ _ HHeld (fun _ => ?_)
          clear hK K
          try simp only [Act.put, List.setIfInBounds_toArray, List.set_cons_zero, List.set_cons_succ]
          refine takeD (i := 8) (some 4) (.slice K al.length qk) rfl (by kernel_rfl) (by kernel_rfl) (by kernel_rfl) (by kernel_rfl) (fun _ _ _ h => h) (by assumption) (Or.inl ⟨by rfl, fun w hSw => by (try dsimp only at hSw); go_simp⟩) ?_
          simp only [Act.put, List.setIfInBounds_toArray, List.set_cons_zero, List.set_cons_succ]
          refine takeD (i := 9) (some 5) (.slice Y ys.length qy) rfl (by kernel_rfl) (by kernel_rfl) (by kernel_rfl) (by kernel_rfl) (fun _ _ _ h => h) (by assumption) (Or.inl ⟨by rfl, fun w hSw => by (try dsimp only at hSw); go_simp⟩) ?_
          simp only [Act.put, List.setIfInBounds_toArray, List.set_cons_zero, List.set_cons_succ]
          refine wpAnyH_done (by kernel_rfl) ?_ _
          clear KS
          go_wp2_with fail
          have lb0 := HLB0.out
          have lb1 := HLB1.out
          obtain ⟨wz, hwz⟩ : ∃ wz, wz = (((((w9.setCell ⟨w.heap.size, 0, none⟩ (.int .i64 m.c)).setCell ⟨w.heap.size, 1, none⟩ (.int .i64 m.d)).setCell ⟨w.heap.size, 2, none⟩ (.int .i64 m.s)).setCell ⟨w.heap.size, 3, none⟩ (.int .i64 m.a)).setCell ⟨w.heap.size, 4, none⟩ (.int .i64 m.l)).setCell ⟨w.heap.size + 1, 0, none⟩ (.slice D l.length q) := ⟨_, rfl⟩
          rw [← hwz]
          have kz : KeepF (fun x => w.heap.size ≤ x ∧ x < w.heap.size + 2) w9 wz := by rw [hwz]; exact ((((((KeepF.refl (fun x => w.heap.size ≤ x ∧ x < w.heap.size + 2) w9).setCell (p := ⟨w.heap.size, 0, none⟩) (.inl ⟨by simp only; omega, by simp only; omega⟩) _).setCell (p := ⟨w.heap.size, 1, none⟩) (.inl ⟨by simp only; omega, by simp only; omega⟩) _).setCell (p := ⟨w.heap.size, 2, none⟩) (.inl ⟨by simp only; omega, by simp only; omega⟩) _).setCell (p := ⟨w.heap.size, 3, none⟩) (.inl ⟨by simp only; omega, by simp only; omega⟩) _).setCell (p := ⟨w.heap.size, 4, none⟩) (.inl ⟨by simp only; omega, by simp only; omega⟩) _).setCell (p := ⟨w.heap.size + 1, 0, none⟩) (.inl ⟨by simp only; omega, by simp only; omega⟩) _
          have e0 : wz.heap[w.heap.size]? = some (.cells #[.int .i64 m.c, .int .i64 m.d, .int .i64 m.s, .int .i64 m.a, .int .i64 m.l] 25 (0, 0)) := by rw [hwz]; simp [World.setCell, Array.getElem?_modify, lb0]
          have e1 : wz.heap[w.heap.size + 1]? = some (.cells #[.slice D l.length q] 28 (0, 0)) := by rw [hwz]; simp [World.setCell, Array.getElem?_modify, lb1]
          (try simp only [Exit.inBlock, Exit.then])
          refine bodyPost_ret (results_two2 rfl _ _ (w.heap.size) 25 #[.int .i64 m.c, .int .i64 m.d, .int .i64 m.s, .int .i64 m.a, .int .i64 m.l] (0, 0) _ (by rfl) e0 Tryz.underlying25 rfl (by kernel_rfl) (w.heap.size + 1) 28 #[.slice D l.length q] (0, 0) _ (by rfl) e1 Tryz.underlying28 rfl (by kernel_rfl)) rfl ?_
          have hdz := HDW.out.trans HDY.out
          have kt : KeepF (fun x => w.heap.size ≤ x) w wz := ((KeepF.ofBelow (F := fun x => w.heap.size ≤ x) (HB1.out.mono (Nat.le_refl _))).trans (hdz.keep.mono fun x e => by omega) (fun _ _ e => e)).trans (kz.mono fun x e => e.1) (fun _ _ e => e)
          have hl4 := (HLL.out.dr (by omega) (HD6.out.trans HDY.out)).keepB kz (fun x e => by omega)
          have ha4 := (HAL.out.dr (by omega) (HD6.out.trans HDY.out)).keepB kz (fun x e => by omega)
          have hy4 := (HRY.out).keepF kz (fun x e => by omega)
          exact ⟨m, D, q, l, K, qk, al, Y, qy, ys, rfl, hl4.mono (fun g hg => by omega), ha4.mono (fun g hg => by omega), hy4.mono (by omega), HQY.out, kt.toBelow (Nat.le_refl _) (fun x hx e => by omega)⟩
  · have hd1 : decide (0 < al.length) = false := decide_eq_false ha0
    have hd2 : decide ((0 : Int) < (al.length : Int)) = false := decide_eq_false (by omega)
    clear ha0
    have HDX := Lib.hid (Dr.refl HD3.out.src)
    have HIL := Lib.hid (specIsLock_any m D q l w3 (HLL.out.dr (by omega) HDX.out).rii)
    go_wp2_with fail
    rw [← hwb]
    clear hwb
    refine HIL.out.mono ?_
    rintro e w5 ⟨rfl, hb5⟩
    have HD5 := Lib.hid (HDX.out.below hb5)
    have hs5 := HD5.out.size
    clear hb5 HIL
    cases hlk : isLockF m l with
    | false =>
      have HDW := Lib.hid (HD3.out.trans HD5.out)
      have hsW := HDW.out.size
      have KS := Lib.hid (show ∀ w' : World, KeepF (fun x => x = S ∨ (w.heap.size ≤ x ∧ x < w.heap.size + 2)) w5 w' → (w'.cell? ⟨w2.heap.size, 0, none⟩ = some (.int .i64 m.c) ∧ w'.cell? ⟨w2.heap.size, 1, none⟩ = some (.int .i64 m.d) ∧ w'.cell? ⟨w2.heap.size, 2, none⟩ = some (.int .i64 m.s) ∧ w'.cell? ⟨w2.heap.size, 3, none⟩ = some (.int .i64 m.a) ∧ w'.cell? ⟨w2.heap.size, 4, none⟩ = some (.int .i64 m.l) ∧ w'.cell? ⟨w2.heap.size + 1, 0, none⟩ = some (.slice D l.length q)) from fun w' hw => by
        have hb0 := HBX.out.dr (by omega) (by omega) HD5.out
        obtain ⟨z0_0, z0_1, z0_2, z0_3, z0_4, _⟩ := hb0.keepF hw (World.block_lt_of_cell? _ _ hb0.1) (by omega)
        have hb1 := HLX.out.dr (by omega) (by omega) HD5.out
        obtain ⟨z1_0, _⟩ := hb1.keepF hw (World.block_lt_of_cell? _ _ hb1.1) (by omega)
        exact ⟨z0_0, z0_1, z0_2, z0_3, z0_4, z1_0⟩)
      go_wp2_with fail
      refine wp_region_held_drew (S := (fun w' => w'.cell? ⟨w2.heap.size, 0, none⟩ = some (.int .i64 m.c) ∧ w'.cell? ⟨w2.heap.size, 1, none⟩ = some (.int .i64 m.d) ∧ w'.cell? ⟨w2.heap.size, 2, none⟩ = some (.int .i64 m.s) ∧ w'.cell? ⟨w2.heap.size, 3, none⟩ = some (.int .i64 m.a) ∧ w'.cell? ⟨w2.heap.size, 4, none⟩ = some (.int .i64 m.l) ∧ w'.cell? ⟨w2.heap.size + 1, 0, none⟩ = some (.slice D l.length q))) (by kernel_rfl) (KS.out _ (KeepF.ofBelow (belowDrew0 _))) (fun hHeld => ?_)
      refine takeD (i := 0) (some 57) (.agg #[.int .i64 m.c, .int .i64 m.d, .int .i64 m.s, .int .i64 m.a, .int .i64 m.l]) rfl (by kernel_rfl) (by kernel_rfl) (by kernel_rfl) (by kernel_rfl) (fun _ _ _ h => h) (by assumption) (Or.inl ⟨by rfl, fun w hSw => by (try dsimp only at hSw); go_simp⟩) ?_
      simp only [Act.put, List.setIfInBounds_toArray, List.set_cons_zero, List.set_cons_succ]
      refine takeD (i := 1) (some 58) (.agg #[.slice D l.length q]) rfl (by kernel_rfl) (by kernel_rfl) (by kernel_rfl) (by kernel_rfl) (fun _ _ _ h => h) (by assumption) (Or.inl ⟨by rfl, fun w hSw => by (try dsimp only at hSw); go_simp⟩) ?_
      simp only [Act.put, List.setIfInBounds_toArray, List.set_cons_zero, List.set_cons_succ]
      refine takeD (i := 2) (some 59) (.slice K al.length qk) rfl (by kernel_rfl) (by kernel_rfl) (by kernel_rfl) (by kernel_rfl) (fun _ _ _ h => h) (by assumption) (Or.inl ⟨by rfl, fun w hSw => by (try dsimp only at hSw); go_simp⟩) ?_
      simp only [Act.put, List.setIfInBounds_toArray, List.set_cons_zero, List.set_cons_succ]
      refine takeD (i := 3) (some 60) (.pointer (some ⟨S, 0, none⟩)) rfl (by kernel_rfl) (by kernel_rfl) (by kernel_rfl) (by kernel_rfl) (fun _ _ _ h => h) (by assumption) (Or.inl ⟨by rfl, fun w hSw => by (try dsimp only at hSw); go_simp⟩) ?_
      simp only [Act.put, List.setIfInBounds_toArray, List.set_cons_zero, List.set_cons_succ]
      refine takeD (i := 4) (some 61) (.agg #[.int .i64 m.c, .int .i64 m.d, .int .i64 m.s, .int .i64 m.a, .int .i64 m.l]) rfl (by kernel_rfl) (by kernel_rfl) (by kernel_rfl) (by kernel_rfl) (fun _ _ _ h => h) (by assumption) (Or.inl ⟨by rfl, fun w hSw => by (try dsimp only at hSw); go_simp⟩) ?_
      simp only [Act.put, List.setIfInBounds_toArray, List.set_cons_zero, List.set_cons_succ]
      refine wpAnyH_ready (rs := [5]) (by kernel_rfl) (by simp) (AllReadyH.cons rfl (fun K hK => ?_) AllReadyH.nil)
      go_simp
      refine (l02DrawKey_any S A c bs m _ (HDW.out.drew).src HMD.out).mono ?_
      rintro e w9 ⟨Y, qy, ys, rfl, hqy, hy9, hry, hdy⟩
      have HQY := Lib.hid hqy; have HRY := Lib.hid (show RIn (w0.heap.size + 1) w9 Y ys from hry.mono (show w0.heap.size + 1 ≤ w5.heap.size by omega))
      have HDY := Lib.hid ((Dr.refl HDW.out.src).drew.trans hdy)
      have HKY := Lib.hid HDY.out.keep
      have hs9 := HDY.out.size
      clear hqy hy9 hry hdy
      have HHeld := KS.out _ (HKY.out.mono (fun x e => .inl e))
      refine hK.out _ _ HHeld (fun _ => ?_)
      clear hK K
      try simp only [Act.put, List.setIfInBounds_toArray, List.set_cons_zero, List.set_cons_succ]
      have lb0 := (((HK1.out.trans HDW.out.keep (fun _ _ e => e)).trans (HKY.out) (fun _ _ e => e)).block (w.heap.size) (by omega) (by omega)).trans HR0.out
      have n0_0 := boxC_of_heap lb0 0 _ rfl
      have n0_1 := boxC_of_heap lb0 1 _ rfl
      have n0_2 := boxC_of_heap lb0 2 _ rfl
      have n0_3 := boxC_of_heap lb0 3 _ rfl
      have n0_4 := boxC_of_heap lb0 4 _ rfl
      have fr0 := frozen_of_heap lb0
      have f0_0 := fr0 0
      have f0_1 := fr0 1
      have f0_2 := fr0 2
      have f0_3 := fr0 3
      have f0_4 := fr0 4
      have HLB0 := Lib.hid lb0
      clear lb0 fr0
      have lb1 := (((HK1.out.trans HDW.out.keep (fun _ _ e => e)).trans (HKY.out) (fun _ _ e => e)).block (w.heap.size + 1) (by omega) (by omega)).trans HR1.out
      have n1_0 := boxC_of_heap lb1 0 _ rfl
      have fr1 := frozen_of_heap lb1
      have f1_0 := fr1 0
      have HLB1 := Lib.hid lb1
      clear lb1 fr1
      refine wpAnyH_ready (rs := [6]) (by kernel_rfl) (by simp) (AllReadyH.cons rfl (fun K hK => ?_) AllReadyH.nil)
      go_simp
      have HHeld := KS.out _ (((HKY.out).mono (fun x e => .inl e)).trans ((((((KeepF.refl (fun x => x = S ∨ (w.heap.size ≤ x ∧ x < w.heap.size + 2)) w9).setCell (p := ⟨w.heap.size, 0, none⟩) (.inl (.inr ⟨by simp only; omega, by simp only; omega⟩)) (.int .i64 m.c)).setCell (p := ⟨w.heap.size, 1, none⟩) (.inl (.inr ⟨by simp only; omega, by simp only; omega⟩)) (.int .i64 m.d)).setCell (p := ⟨w.heap.size, 2, none⟩) (.inl (.inr ⟨by simp only; omega, by simp only; omega⟩)) (.int .i64 m.s)).setCell (p := ⟨w.heap.size, 3, none⟩) (.inl (.inr ⟨by simp only; omega, by simp only; omega⟩)) (.int .i64 m.a)).setCell (p := ⟨w.heap.size, 4, none⟩) (.inl (.inr ⟨by simp only; omega, by simp only; omega⟩)) (.int .i64 m.l)) (fun _ _ e => e))
      refine hK.out _ _ HHeld (fun _ => ?_)
      clear hK K
      try simp only [Act.put, List.setIfInBounds_toArray, List.set_cons_zero, List.set_cons_succ]
      refine wpAnyH_ready (rs := [7]) (by kernel_rfl) (by simp) (AllReadyH.cons rfl (fun K hK => ?_) AllReadyH.nil)
      go_simp
      have HHeld := KS.out _ (((HKY.out).mono (fun x e => .inl e)).trans (((((((KeepF.refl (fun x => x = S ∨ (w.heap.size ≤ x ∧ x < w.heap.size + 2)) w9).setCell (p := ⟨w.heap.size, 0, none⟩) (.inl (.inr ⟨by simp only; omega, by simp only; omega⟩)) (.int .i64 m.c)).setCell (p := ⟨w.heap.size, 1, none⟩) (.inl (.inr ⟨by simp only; omega, by simp only; omega⟩)) (.int .i64 m.d)).setCell (p := ⟨w.heap.size, 2, none⟩) (.inl (.inr ⟨by simp only; omega, by simp only; omega⟩)) (.int .i64 m.s)).setCell (p := ⟨w.heap.size, 3, none⟩) (.inl (.inr ⟨by simp only; omega, by simp only; omega⟩)) (.int .i64 m.a)).setCell (p := ⟨w.heap.size, 4, none⟩) (.inl (.inr ⟨by simp only; omega, by simp only; omega⟩)) (.int .i64 m.l)).setCell (p := ⟨w.heap.size + 1, 0, none⟩) (.inl (.inr ⟨by simp only; omega, by simp only; omega⟩)) (.slice D l.length q)) (fun _ _ e => e))
      refine hK.out _ _ HHeld (fun _ => ?_)
      clear hK K
      try simp only [Act.put, List.setIfInBounds_toArray, List.set_cons_zero, List.set_cons_succ]
      refine takeD (i := 8) (some 4) (.slice K al.length qk) rfl (by kernel_rfl) (by kernel_rfl) (by kernel_rfl) (by kernel_rfl) (fun _ _ _ h => h) (by assumption) (Or.inl ⟨by rfl, fun w hSw => by (try dsimp only at hSw); go_simp⟩) ?_
      simp only [Act.put, List.setIfInBounds_toArray, List.set_cons_zero, List.set_cons_succ]
      refine takeD (i := 9) (some 5) (.slice Y ys.length qy) rfl (by kernel_rfl) (by kernel_rfl) (by kernel_rfl) (by kernel_rfl) (fun _ _ _ h => h) (by assumption) (Or.inl ⟨by rfl, fun w hSw => by (try dsimp only at hSw); go_simp⟩) ?_
      simp only [Act.put, List.setIfInBounds_toArray, List.set_cons_zero, List.set_cons_succ]
      refine wpAnyH_done (by kernel_rfl) ?_ _
      clear KS
      go_wp2_with fail
      have lb0 := HLB0.out
      have lb1 := HLB1.out
      obtain ⟨wz, hwz⟩ : ∃ wz, wz = (((((w9.setCell ⟨w.heap.size, 0, none⟩ (.int .i64 m.c)).setCell ⟨w.heap.size, 1, none⟩ (.int .i64 m.d)).setCell ⟨w.heap.size, 2, none⟩ (.int .i64 m.s)).setCell ⟨w.heap.size, 3, none⟩ (.int .i64 m.a)).setCell ⟨w.heap.size, 4, none⟩ (.int .i64 m.l)).setCell ⟨w.heap.size + 1, 0, none⟩ (.slice D l.length q) := ⟨_, rfl⟩
      rw [← hwz]
      have kz : KeepF (fun x => w.heap.size ≤ x ∧ x < w.heap.size + 2) w9 wz := by rw [hwz]; exact ((((((KeepF.refl (fun x => w.heap.size ≤ x ∧ x < w.heap.size + 2) w9).setCell (p := ⟨w.heap.size, 0, none⟩) (.inl ⟨by simp only; omega, by simp only; omega⟩) _).setCell (p := ⟨w.heap.size, 1, none⟩) (.inl ⟨by simp only; omega, by simp only; omega⟩) _).setCell (p := ⟨w.heap.size, 2, none⟩) (.inl ⟨by simp only; omega, by simp only; omega⟩) _).setCell (p := ⟨w.heap.size, 3, none⟩) (.inl ⟨by simp only; omega, by simp only; omega⟩) _).setCell (p := ⟨w.heap.size, 4, none⟩) (.inl ⟨by simp only; omega, by simp only; omega⟩) _).setCell (p := ⟨w.heap.size + 1, 0, none⟩) (.inl ⟨by simp only; omega, by simp only; omega⟩) _
      have e0 : wz.heap[w.heap.size]? = some (.cells #[.int .i64 m.c, .int .i64 m.d, .int .i64 m.s, .int .i64 m.a, .int .i64 m.l] 25 (0, 0)) := by rw [hwz]; simp [World.setCell, Array.getElem?_modify, lb0]
      have e1 : wz.heap[w.heap.size + 1]? = some (.cells #[.slice D l.length q] 28 (0, 0)) := by rw [hwz]; simp [World.setCell, Array.getElem?_modify, lb1]
      (try simp only [Exit.inBlock, Exit.then])
      refine bodyPost_ret (results_two2 rfl _ _ (w.heap.size) 25 #[.int .i64 m.c, .int .i64 m.d, .int .i64 m.s, .int .i64 m.a, .int .i64 m.l] (0, 0) _ (by rfl) e0 Tryz.underlying25 rfl (by kernel_rfl) (w.heap.size + 1) 28 #[.slice D l.length q] (0, 0) _ (by rfl) e1 Tryz.underlying28 rfl (by kernel_rfl)) rfl ?_
      have hdz := HDW.out.trans HDY.out
      have kt : KeepF (fun x => w.heap.size ≤ x) w wz := ((KeepF.ofBelow (F := fun x => w.heap.size ≤ x) (HB1.out.mono (Nat.le_refl _))).trans (hdz.keep.mono fun x e => by omega) (fun _ _ e => e)).trans (kz.mono fun x e => e.1) (fun _ _ e => e)
      have hl4 := (HLL.out.dr (by omega) (HD5.out.trans HDY.out)).keepB kz (fun x e => by omega)
      have ha4 := (HAL.out.dr (by omega) (HD5.out.trans HDY.out)).keepB kz (fun x e => by omega)
      have hy4 := (HRY.out).keepF kz (fun x e => by omega)
      exact ⟨m, D, q, l, K, qk, al, Y, qy, ys, rfl, hl4.mono (fun g hg => by omega), ha4.mono (fun g hg => by omega), hy4.mono (by omega), HQY.out, kt.toBelow (Nat.le_refl _) (fun x hx e => by omega)⟩
    | true =>
      have HLK := Lib.hid hlk
      have HN2 := Lib.hid (l01Next_dr HD5.out.src 2)
      go_wp2_with fail
      refine HN2.out.mono ?_
      rintro e w6 ⟨r, rfl, r0, r1, hd6, -⟩
      have HD6 := Lib.hid (HD5.out.trans hd6)
      have hs6 := HD6.out.size
      clear hd6 r1 HN2
      by_cases hr : r = 0
      · subst hr
        have hmk := isLock_mk HLK.out
        have hmb := mk_bounds hmk
        have hln := isLock_len HLK.out
        obtain ⟨ls, hls⟩ : ∃ ls, ls = openF m l m.c.toNat [] 9 := ⟨_, rfl⟩
        have hll : ls.length ≤ 9 := by have := openF_len m l (lock_inc HLK.out) m.c.toNat [] 9; rw [hls]; exact this
        have HO := Lib.hid (show Calls Tryz.prog 96 _ w6 (ResK w6 _ ls) by rw [hls]; exact l04Openers_go m hmk l hln (lock_inc HLK.out) m.c.toNat [] 9 D q none 0 w6 (HLL.out.dr (by omega) HD6.out).rii RI.nil (Nat.le_refl _) (by simp; omega) rfl (by omega) (by omega))
        obtain ⟨x0, x1, x2, x3, x4, _⟩ := HBX.out.dr (by omega) (by omega) HD6.out
        obtain ⟨y0, _⟩ := HLX.out.dr (by omega) (by omega) HD6.out
        simp only [Nat.zero_add] at x1 x2 x3 x4
        clear hmk hmb hln hls hlk
        go_wp2_with fail
        clear x0 x1 x2 x3 x4 y0
        refine HO.out.mono ?_
        rintro e w7 ⟨AO, qO, us7, rfl, hqO, hr7, hk7, hb7, na7⟩
        have HLS := Lib.hid (RowsK.riib hr7 (hk7.mono' fun b hb => by rcases hb with hb | ⟨o, e⟩; exact hb; cases e) na7)
        have HD7 := Lib.hid (HD6.out.below hb7)
        have hs7 := hb7.size
        clear hr7 hk7 hb7 na7 HO
        by_cases h0 : 0 < ls.length
        · have h0i : (0 : Int) < (ls.length : Int) := by omega
          have hne : ls ≠ [] := by rintro rfl; simp at h0
          have HDW := Lib.hid (HD3.out.trans HD7.out)
          have hsW := HDW.out.size
          obtain ⟨bO, oO, rfl, hbO, fO, hcO, hrO⟩ := HLS.out.hdrs h0
          have HRW := Lib.hid hrO
          clear hrO
          have KS := Lib.hid (show ∀ w' : World, KeepF (fun x => x = S ∨ (w.heap.size ≤ x ∧ x < w.heap.size + 2)) w7 w' → (w'.cell? ⟨w2.heap.size, 0, none⟩ = some (.int .i64 m.c) ∧ w'.cell? ⟨w2.heap.size, 1, none⟩ = some (.int .i64 m.d) ∧ w'.cell? ⟨w2.heap.size, 2, none⟩ = some (.int .i64 m.s) ∧ w'.cell? ⟨w2.heap.size, 3, none⟩ = some (.int .i64 m.a) ∧ w'.cell? ⟨w2.heap.size, 4, none⟩ = some (.int .i64 m.l) ∧ w'.cell? ⟨w2.heap.size + 1, 0, none⟩ = some (.slice D l.length q) ∧ ∀ j, j < ls.length → w'.cell? ⟨bO, oO + j, none⟩ = some (fO j)) from fun w' hw => by
            have hb0 := HBX.out.dr (by omega) (by omega) HD7.out
            obtain ⟨z0_0, z0_1, z0_2, z0_3, z0_4, _⟩ := hb0.keepF hw (World.block_lt_of_cell? _ _ hb0.1) (by omega)
            have hb1 := HLX.out.dr (by omega) (by omega) HD7.out
            obtain ⟨z1_0, _⟩ := hb1.keepF hw (World.block_lt_of_cell? _ _ hb1.1) (by omega)
            exact ⟨z0_0, z0_1, z0_2, z0_3, z0_4, z1_0, fun j hj => (hw.cell (p := ⟨bO, oO + j, none⟩) (World.block_lt_of_cell? w7 _ (hcO j hj)) (by simp only; omega)).trans (hcO j hj)⟩)
          go_wp2_with fail
          refine wp_region_held_drew (S := (fun w' => w'.cell? ⟨w2.heap.size, 0, none⟩ = some (.int .i64 m.c) ∧ w'.cell? ⟨w2.heap.size, 1, none⟩ = some (.int .i64 m.d) ∧ w'.cell? ⟨w2.heap.size, 2, none⟩ = some (.int .i64 m.s) ∧ w'.cell? ⟨w2.heap.size, 3, none⟩ = some (.int .i64 m.a) ∧ w'.cell? ⟨w2.heap.size, 4, none⟩ = some (.int .i64 m.l) ∧ w'.cell? ⟨w2.heap.size + 1, 0, none⟩ = some (.slice D l.length q) ∧ ∀ j, j < ls.length → w'.cell? ⟨bO, oO + j, none⟩ = some (fO j))) (by kernel_rfl) (KS.out _ (KeepF.ofBelow (belowDrew0 _))) (fun hHeld => ?_)
          refine takeD (i := 0) (some 47) (.agg #[.int .i64 m.c, .int .i64 m.d, .int .i64 m.s, .int .i64 m.a, .int .i64 m.l]) rfl (by kernel_rfl) (by kernel_rfl) (by kernel_rfl) (by kernel_rfl) (fun _ _ _ h => h) (by assumption) (Or.inl ⟨by rfl, fun w hSw => by (try dsimp only at hSw); go_simp⟩) ?_
          simp only [Act.put, List.setIfInBounds_toArray, List.set_cons_zero, List.set_cons_succ]
          refine takeD (i := 1) (some 48) (.agg #[.slice D l.length q]) rfl (by kernel_rfl) (by kernel_rfl) (by kernel_rfl) (by kernel_rfl) (fun _ _ _ h => h) (by assumption) (Or.inl ⟨by rfl, fun w hSw => by (try dsimp only at hSw); go_simp⟩) ?_
          simp only [Act.put, List.setIfInBounds_toArray, List.set_cons_zero, List.set_cons_succ]
          refine takeD (i := 2) (some 49) (.slice K al.length qk) rfl (by kernel_rfl) (by kernel_rfl) (by kernel_rfl) (by kernel_rfl) (fun _ _ _ h => h) (by assumption) (Or.inl ⟨by rfl, fun w hSw => by (try dsimp only at hSw); go_simp⟩) ?_
          simp only [Act.put, List.setIfInBounds_toArray, List.set_cons_zero, List.set_cons_succ]
          refine takeD (i := 3) (some 50) (.slice (some ⟨bO, oO, none⟩) ls.length qO) rfl (by kernel_rfl) (by kernel_rfl) (by kernel_rfl) (by kernel_rfl) (fun _ _ _ h => h) (by assumption) (Or.inl ⟨by rfl, fun w hSw => by (try dsimp only at hSw); go_simp⟩) ?_
          simp only [Act.put, List.setIfInBounds_toArray, List.set_cons_zero, List.set_cons_succ]
          refine takeD (i := 4) (some 51) (.pointer (some ⟨S, 0, none⟩)) rfl (by kernel_rfl) (by kernel_rfl) (by kernel_rfl) (by kernel_rfl) (fun _ _ _ h => h) (by assumption) (Or.inl ⟨by rfl, fun w hSw => by (try dsimp only at hSw); go_simp⟩) ?_
          simp only [Act.put, List.setIfInBounds_toArray, List.set_cons_zero, List.set_cons_succ]
          refine takeD (i := 5) (some 52) (.slice (some ⟨bO, oO, none⟩) ls.length qO) rfl (by kernel_rfl) (by kernel_rfl) (by kernel_rfl) (by kernel_rfl) (fun _ _ _ h => h) (by assumption) (Or.inl ⟨by rfl, fun w hSw => by (try dsimp only at hSw); go_simp⟩) ?_
          simp only [Act.put, List.setIfInBounds_toArray, List.set_cons_zero, List.set_cons_succ]
          refine takeD (i := 6) (some 53) (.int .i64 (ls.length : Int)) rfl (by kernel_rfl) (by kernel_rfl) (by kernel_rfl) (by kernel_rfl) (fun _ _ _ h => h) (by assumption) (Or.inl ⟨by rfl, fun w hSw => by (try dsimp only at hSw); go_simp⟩) ?_
          simp only [Act.put, List.setIfInBounds_toArray, List.set_cons_zero, List.set_cons_succ]
          refine wpAnyH_ready (rs := [7]) (by kernel_rfl) (by simp) (AllReadyH.cons rfl (fun K hK => ?_) AllReadyH.nil)
          go_simp
          refine (l01Next_dr (HDW.out.drew).src (ls.length : Int)).mono ?_
          rintro e w9 ⟨x, rfl, x0, x1, hd8, -⟩
          obtain ⟨j, rfl⟩ : ∃ j : Nat, x = j := ⟨x.toNat, by omega⟩
          have hj : j < ls.length := by omega
          have HD8 := Lib.hid ((Dr.refl HDW.out.src).drew.trans hd8)
          have HK8 := Lib.hid HD8.out.keep
          have hs9 := HD8.out.size
          have i0 : (0 : Int) ≤ (j : Int) := by omega
          have i1 : (j : Int) < (ls.length : Int) := by omega
          clear hd8 x1
          obtain ⟨Y, qy, hfe, hqy, hry, hnf⟩ := HRW.out j hj
          obtain ⟨ys, hys⟩ : ∃ ys, ys = ls[j] := ⟨_, rfl⟩
          rw [← hys] at hfe hqy hry hnf
          have HQY := Lib.hid hqy
          have HRY := Lib.hid (show RIn (w0.heap.size + 1) w9 Y ys from (RIn.mono ⟨hry, hnf⟩ (show w0.heap.size + 1 ≤ w6.heap.size by omega)).dr (by omega) HD8.out)
          have HFE := Lib.hid hfe
          clear hys hqy hry hnf hfe
          have HHeld := KS.out _ (HK8.out.mono (fun x e => .inl e))
          refine hK.out _ _ HHeld (fun _ => ?_)
          clear hK K
          try simp only [Act.put, List.setIfInBounds_toArray, List.set_cons_zero, List.set_cons_succ]
          refine takeD (i := 8) (some 55) (.pointer (some ⟨bO, oO + j, none⟩)) rfl (by kernel_rfl) (by kernel_rfl) (by kernel_rfl) (by kernel_rfl) (fun _ _ _ h => h) (by assumption) (Or.inl ⟨by rfl, fun w hSw => by (try dsimp only at hSw); go_simp⟩) ?_
          simp only [Act.put, List.setIfInBounds_toArray, List.set_cons_zero, List.set_cons_succ]
          refine takeD (i := 9) (some 56) (.slice Y ys.length qy) rfl (by kernel_rfl) (by kernel_rfl) (by kernel_rfl) (by kernel_rfl) (fun _ _ _ h => h) (by assumption) (Or.inl ⟨by rfl, fun w hSw => by have hjj := (hSw.2.2.2.2.2.2 j hj).trans (congrArg some HFE.out); clear hSw; go_simp⟩) ?_
          simp only [Act.put, List.setIfInBounds_toArray, List.set_cons_zero, List.set_cons_succ]
          have lb0 := (((HK1.out.trans HDW.out.keep (fun _ _ e => e)).trans (HK8.out) (fun _ _ e => e)).block (w.heap.size) (by omega) (by omega)).trans HR0.out
          have n0_0 := boxC_of_heap lb0 0 _ rfl
          have n0_1 := boxC_of_heap lb0 1 _ rfl
          have n0_2 := boxC_of_heap lb0 2 _ rfl
          have n0_3 := boxC_of_heap lb0 3 _ rfl
          have n0_4 := boxC_of_heap lb0 4 _ rfl
          have fr0 := frozen_of_heap lb0
          have f0_0 := fr0 0
          have f0_1 := fr0 1
          have f0_2 := fr0 2
          have f0_3 := fr0 3
          have f0_4 := fr0 4
          have HLB0 := Lib.hid lb0
          clear lb0 fr0
          have lb1 := (((HK1.out.trans HDW.out.keep (fun _ _ e => e)).trans (HK8.out) (fun _ _ e => e)).block (w.heap.size + 1) (by omega) (by omega)).trans HR1.out
          have n1_0 := boxC_of_heap lb1 0 _ rfl
          have fr1 := frozen_of_heap lb1
          have f1_0 := fr1 0
          have HLB1 := Lib.hid lb1
          clear lb1 fr1
          refine wpAnyH_ready (rs := [10]) (by kernel_rfl) (by simp) (AllReadyH.cons rfl (fun K hK => ?_) AllReadyH.nil)
          go_simp
          have HHeld := KS.out _ (((HK8.out).mono (fun x e => .inl e)).trans ((((((KeepF.refl (fun x => x = S ∨ (w.heap.size ≤ x ∧ x < w.heap.size + 2)) w9).setCell (p := ⟨w.heap.size, 0, none⟩) (.inl (.inr ⟨by simp only; omega, by simp only; omega⟩)) (.int .i64 m.c)).setCell (p := ⟨w.heap.size, 1, none⟩) (.inl (.inr ⟨by simp only; omega, by simp only; omega⟩)) (.int .i64 m.d)).setCell (p := ⟨w.heap.size, 2, none⟩) (.inl (.inr ⟨by simp only; omega, by simp only; omega⟩)) (.int .i64 m.s)).setCell (p := ⟨w.heap.size, 3, none⟩) (.inl (.inr ⟨by simp only; omega, by simp only; omega⟩)) (.int .i64 m.a)).setCell (p := ⟨w.heap.size, 4, none⟩) (.inl (.inr ⟨by simp only; omega, by simp only; omega⟩)) (.int .i64 m.l)) (fun _ _ e => e))
          refine hK.out _ _ HHeld (fun _ => ?_)
          clear hK K
          try simp only [Act.put, List.setIfInBounds_toArray, List.set_cons_zero, List.set_cons_succ]
          refine wpAnyH_ready (rs := [11]) (by kernel_rfl) (by simp) (AllReadyH.cons rfl (fun K hK => ?_) AllReadyH.nil)
          go_simp
          have HHeld := KS.out _ (((HK8.out).mono (fun x e => .inl e)).trans (((((((KeepF.refl (fun x => x = S ∨ (w.heap.size ≤ x ∧ x < w.heap.size + 2)) w9).setCell (p := ⟨w.heap.size, 0, none⟩) (.inl (.inr ⟨by simp only; omega, by simp only; omega⟩)) (.int .i64 m.c)).setCell (p := ⟨w.heap.size, 1, none⟩) (.inl (.inr ⟨by simp only; omega, by simp only; omega⟩)) (.int .i64 m.d)).setCell (p := ⟨w.heap.size, 2, none⟩) (.inl (.inr ⟨by simp only; omega, by simp only; omega⟩)) (.int .i64 m.s)).setCell (p := ⟨w.heap.size, 3, none⟩) (.inl (.inr ⟨by simp only; omega, by simp only; omega⟩)) (.int .i64 m.a)).setCell (p := ⟨w.heap.size, 4, none⟩) (.inl (.inr ⟨by simp only; omega, by simp only; omega⟩)) (.int .i64 m.l)).setCell (p := ⟨w.heap.size + 1, 0, none⟩) (.inl (.inr ⟨by simp only; omega, by simp only; omega⟩)) (.slice D l.length q)) (fun _ _ e => e))
          refine hK.out _ _ HHeld (fun _ => ?_)
          clear hK K
          try simp only [Act.put, List.setIfInBounds_toArray, List.set_cons_zero, List.set_cons_succ]
          refine takeD (i := 12) (some 4) (.slice K al.length qk) rfl (by kernel_rfl) (by kernel_rfl) (by kernel_rfl) (by kernel_rfl) (fun _ _ _ h => h) (by assumption) (Or.inl ⟨by rfl, fun w hSw => by (try dsimp only at hSw); go_simp⟩) ?_
          simp only [Act.put, List.setIfInBounds_toArray, List.set_cons_zero, List.set_cons_succ]
          refine takeD (i := 13) (some 5) (.slice Y ys.length qy) rfl (by kernel_rfl) (by kernel_rfl) (by kernel_rfl) (by kernel_rfl) (fun _ _ _ h => h) (by assumption) (Or.inl ⟨by rfl, fun w hSw => by (try dsimp only at hSw); go_simp⟩) ?_
          simp only [Act.put, List.setIfInBounds_toArray, List.set_cons_zero, List.set_cons_succ]
          refine wpAnyH_done (by kernel_rfl) ?_ _
          clear KS
          go_wp2_with fail
          have lb0 := HLB0.out
          have lb1 := HLB1.out
          obtain ⟨wz, hwz⟩ : ∃ wz, wz = (((((w9.setCell ⟨w.heap.size, 0, none⟩ (.int .i64 m.c)).setCell ⟨w.heap.size, 1, none⟩ (.int .i64 m.d)).setCell ⟨w.heap.size, 2, none⟩ (.int .i64 m.s)).setCell ⟨w.heap.size, 3, none⟩ (.int .i64 m.a)).setCell ⟨w.heap.size, 4, none⟩ (.int .i64 m.l)).setCell ⟨w.heap.size + 1, 0, none⟩ (.slice D l.length q) := ⟨_, rfl⟩
          rw [← hwz]
          have kz : KeepF (fun x => w.heap.size ≤ x ∧ x < w.heap.size + 2) w9 wz := by rw [hwz]; exact ((((((KeepF.refl (fun x => w.heap.size ≤ x ∧ x < w.heap.size + 2) w9).setCell (p := ⟨w.heap.size, 0, none⟩) (.inl ⟨by simp only; omega, by simp only; omega⟩) _).setCell (p := ⟨w.heap.size, 1, none⟩) (.inl ⟨by simp only; omega, by simp only; omega⟩) _).setCell (p := ⟨w.heap.size, 2, none⟩) (.inl ⟨by simp only; omega, by simp only; omega⟩) _).setCell (p := ⟨w.heap.size, 3, none⟩) (.inl ⟨by simp only; omega, by simp only; omega⟩) _).setCell (p := ⟨w.heap.size, 4, none⟩) (.inl ⟨by simp only; omega, by simp only; omega⟩) _).setCell (p := ⟨w.heap.size + 1, 0, none⟩) (.inl ⟨by simp only; omega, by simp only; omega⟩) _
          have e0 : wz.heap[w.heap.size]? = some (.cells #[.int .i64 m.c, .int .i64 m.d, .int .i64 m.s, .int .i64 m.a, .int .i64 m.l] 25 (0, 0)) := by rw [hwz]; simp [World.setCell, Array.getElem?_modify, lb0]
          have e1 : wz.heap[w.heap.size + 1]? = some (.cells #[.slice D l.length q] 28 (0, 0)) := by rw [hwz]; simp [World.setCell, Array.getElem?_modify, lb1]
          (try simp only [Exit.inBlock, Exit.then])
          refine bodyPost_ret (results_two2 rfl _ _ (w.heap.size) 25 #[.int .i64 m.c, .int .i64 m.d, .int .i64 m.s, .int .i64 m.a, .int .i64 m.l] (0, 0) _ (by rfl) e0 Tryz.underlying25 rfl (by kernel_rfl) (w.heap.size + 1) 28 #[.slice D l.length q] (0, 0) _ (by rfl) e1 Tryz.underlying28 rfl (by kernel_rfl)) rfl ?_
          have hdz := HDW.out.trans HD8.out
          have kt : KeepF (fun x => w.heap.size ≤ x) w wz := ((KeepF.ofBelow (F := fun x => w.heap.size ≤ x) (HB1.out.mono (Nat.le_refl _))).trans (hdz.keep.mono fun x e => by omega) (fun _ _ e => e)).trans (kz.mono fun x e => e.1) (fun _ _ e => e)
          have hl4 := (HLL.out.dr (by omega) (HD7.out.trans HD8.out)).keepB kz (fun x e => by omega)
          have ha4 := (HAL.out.dr (by omega) (HD7.out.trans HD8.out)).keepB kz (fun x e => by omega)
          have hy4 := (HRY.out).keepF kz (fun x e => by omega)
          exact ⟨m, D, q, l, K, qk, al, Y, qy, ys, rfl, hl4.mono (fun g hg => by omega), ha4.mono (fun g hg => by omega), hy4.mono (by omega), HQY.out, kt.toBelow (Nat.le_refl _) (fun x hx e => by omega)⟩
        · have hd1 : decide (0 < ls.length) = false := decide_eq_false h0
          have hd2 : decide ((0 : Int) < (ls.length : Int)) = false := decide_eq_false (by omega)
          clear h0
          have HDW := Lib.hid (HD3.out.trans HD7.out)
          have hsW := HDW.out.size
          have KS := Lib.hid (show ∀ w' : World, KeepF (fun x => x = S ∨ (w.heap.size ≤ x ∧ x < w.heap.size + 2)) w7 w' → (w'.cell? ⟨w2.heap.size, 0, none⟩ = some (.int .i64 m.c) ∧ w'.cell? ⟨w2.heap.size, 1, none⟩ = some (.int .i64 m.d) ∧ w'.cell? ⟨w2.heap.size, 2, none⟩ = some (.int .i64 m.s) ∧ w'.cell? ⟨w2.heap.size, 3, none⟩ = some (.int .i64 m.a) ∧ w'.cell? ⟨w2.heap.size, 4, none⟩ = some (.int .i64 m.l) ∧ w'.cell? ⟨w2.heap.size + 1, 0, none⟩ = some (.slice D l.length q)) from fun w' hw => by
            have hb0 := HBX.out.dr (by omega) (by omega) HD7.out
            obtain ⟨z0_0, z0_1, z0_2, z0_3, z0_4, _⟩ := hb0.keepF hw (World.block_lt_of_cell? _ _ hb0.1) (by omega)
            have hb1 := HLX.out.dr (by omega) (by omega) HD7.out
            obtain ⟨z1_0, _⟩ := hb1.keepF hw (World.block_lt_of_cell? _ _ hb1.1) (by omega)
            exact ⟨z0_0, z0_1, z0_2, z0_3, z0_4, z1_0⟩)
          go_wp2_with fail
          refine wp_region_held_drew (S := (fun w' => w'.cell? ⟨w2.heap.size, 0, none⟩ = some (.int .i64 m.c) ∧ w'.cell? ⟨w2.heap.size, 1, none⟩ = some (.int .i64 m.d) ∧ w'.cell? ⟨w2.heap.size, 2, none⟩ = some (.int .i64 m.s) ∧ w'.cell? ⟨w2.heap.size, 3, none⟩ = some (.int .i64 m.a) ∧ w'.cell? ⟨w2.heap.size, 4, none⟩ = some (.int .i64 m.l) ∧ w'.cell? ⟨w2.heap.size + 1, 0, none⟩ = some (.slice D l.length q))) (by kernel_rfl) (KS.out _ (KeepF.ofBelow (belowDrew0 _))) (fun hHeld => ?_)
          refine takeD (i := 0) (some 57) (.agg #[.int .i64 m.c, .int .i64 m.d, .int .i64 m.s, .int .i64 m.a, .int .i64 m.l]) rfl (by kernel_rfl) (by kernel_rfl) (by kernel_rfl) (by kernel_rfl) (fun _ _ _ h => h) (by assumption) (Or.inl ⟨by rfl, fun w hSw => by (try dsimp only at hSw); go_simp⟩) ?_
          simp only [Act.put, List.setIfInBounds_toArray, List.set_cons_zero, List.set_cons_succ]
          refine takeD (i := 1) (some 58) (.agg #[.slice D l.length q]) rfl (by kernel_rfl) (by kernel_rfl) (by kernel_rfl) (by kernel_rfl) (fun _ _ _ h => h) (by assumption) (Or.inl ⟨by rfl, fun w hSw => by (try dsimp only at hSw); go_simp⟩) ?_
          simp only [Act.put, List.setIfInBounds_toArray, List.set_cons_zero, List.set_cons_succ]
          refine takeD (i := 2) (some 59) (.slice K al.length qk) rfl (by kernel_rfl) (by kernel_rfl) (by kernel_rfl) (by kernel_rfl) (fun _ _ _ h => h) (by assumption) (Or.inl ⟨by rfl, fun w hSw => by (try dsimp only at hSw); go_simp⟩) ?_
          simp only [Act.put, List.setIfInBounds_toArray, List.set_cons_zero, List.set_cons_succ]
          refine takeD (i := 3) (some 60) (.pointer (some ⟨S, 0, none⟩)) rfl (by kernel_rfl) (by kernel_rfl) (by kernel_rfl) (by kernel_rfl) (fun _ _ _ h => h) (by assumption) (Or.inl ⟨by rfl, fun w hSw => by (try dsimp only at hSw); go_simp⟩) ?_
          simp only [Act.put, List.setIfInBounds_toArray, List.set_cons_zero, List.set_cons_succ]
          refine takeD (i := 4) (some 61) (.agg #[.int .i64 m.c, .int .i64 m.d, .int .i64 m.s, .int .i64 m.a, .int .i64 m.l]) rfl (by kernel_rfl) (by kernel_rfl) (by kernel_rfl) (by kernel_rfl) (fun _ _ _ h => h) (by assumption) (Or.inl ⟨by rfl, fun w hSw => by (try dsimp only at hSw); go_simp⟩) ?_
          simp only [Act.put, List.setIfInBounds_toArray, List.set_cons_zero, List.set_cons_succ]
          refine wpAnyH_ready (rs := [5]) (by kernel_rfl) (by simp) (AllReadyH.cons rfl (fun K hK => ?_) AllReadyH.nil)
          go_simp
          refine (l02DrawKey_any S A c bs m _ (HDW.out.drew).src HMD.out).mono ?_
          rintro e w9 ⟨Y, qy, ys, rfl, hqy, hy9, hry, hdy⟩
          have HQY := Lib.hid hqy; have HRY := Lib.hid (show RIn (w0.heap.size + 1) w9 Y ys from hry.mono (show w0.heap.size + 1 ≤ w7.heap.size by omega))
          have HDY := Lib.hid ((Dr.refl HDW.out.src).drew.trans hdy)
          have HKY := Lib.hid HDY.out.keep
          have hs9 := HDY.out.size
          clear hqy hy9 hry hdy
          have HHeld := KS.out _ (HKY.out.mono (fun x e => .inl e))
          refine hK.out _ _ HHeld (fun _ => ?_)
          clear hK K
          try simp only [Act.put, List.setIfInBounds_toArray, List.set_cons_zero, List.set_cons_succ]
          have lb0 := (((HK1.out.trans HDW.out.keep (fun _ _ e => e)).trans (HKY.out) (fun _ _ e => e)).block (w.heap.size) (by omega) (by omega)).trans HR0.out
          have n0_0 := boxC_of_heap lb0 0 _ rfl
          have n0_1 := boxC_of_heap lb0 1 _ rfl
          have n0_2 := boxC_of_heap lb0 2 _ rfl
          have n0_3 := boxC_of_heap lb0 3 _ rfl
          have n0_4 := boxC_of_heap lb0 4 _ rfl
          have fr0 := frozen_of_heap lb0
          have f0_0 := fr0 0
          have f0_1 := fr0 1
          have f0_2 := fr0 2
          have f0_3 := fr0 3
          have f0_4 := fr0 4
          have HLB0 := Lib.hid lb0
          clear lb0 fr0
          have lb1 := (((HK1.out.trans HDW.out.keep (fun _ _ e => e)).trans (HKY.out) (fun _ _ e => e)).block (w.heap.size + 1) (by omega) (by omega)).trans HR1.out
          have n1_0 := boxC_of_heap lb1 0 _ rfl
          have fr1 := frozen_of_heap lb1
          have f1_0 := fr1 0
          have HLB1 := Lib.hid lb1
          clear lb1 fr1
          refine wpAnyH_ready (rs := [6]) (by kernel_rfl) (by simp) (AllReadyH.cons rfl (fun K hK => ?_) AllReadyH.nil)
          go_simp
          have HHeld := KS.out _ (((HKY.out).mono (fun x e => .inl e)).trans ((((((KeepF.refl (fun x => x = S ∨ (w.heap.size ≤ x ∧ x < w.heap.size + 2)) w9).setCell (p := ⟨w.heap.size, 0, none⟩) (.inl (.inr ⟨by simp only; omega, by simp only; omega⟩)) (.int .i64 m.c)).setCell (p := ⟨w.heap.size, 1, none⟩) (.inl (.inr ⟨by simp only; omega, by simp only; omega⟩)) (.int .i64 m.d)).setCell (p := ⟨w.heap.size, 2, none⟩) (.inl (.inr ⟨by simp only; omega, by simp only; omega⟩)) (.int .i64 m.s)).setCell (p := ⟨w.heap.size, 3, none⟩) (.inl (.inr ⟨by simp only; omega, by simp only; omega⟩)) (.int .i64 m.a)).setCell (p := ⟨w.heap.size, 4, none⟩) (.inl (.inr ⟨by simp only; omega, by simp only; omega⟩)) (.int .i64 m.l)) (fun _ _ e => e))
          refine hK.out _ _ HHeld (fun _ => ?_)
          clear hK K
          try simp only [Act.put, List.setIfInBounds_toArray, List.set_cons_zero, List.set_cons_succ]
          refine wpAnyH_ready (rs := [7]) (by kernel_rfl) (by simp) (AllReadyH.cons rfl (fun K hK => ?_) AllReadyH.nil)
          go_simp
          have HHeld := KS.out _ (((HKY.out).mono (fun x e => .inl e)).trans (((((((KeepF.refl (fun x => x = S ∨ (w.heap.size ≤ x ∧ x < w.heap.size + 2)) w9).setCell (p := ⟨w.heap.size, 0, none⟩) (.inl (.inr ⟨by simp only; omega, by simp only; omega⟩)) (.int .i64 m.c)).setCell (p := ⟨w.heap.size, 1, none⟩) (.inl (.inr ⟨by simp only; omega, by simp only; omega⟩)) (.int .i64 m.d)).setCell (p := ⟨w.heap.size, 2, none⟩) (.inl (.inr ⟨by simp only; omega, by simp only; omega⟩)) (.int .i64 m.s)).setCell (p := ⟨w.heap.size, 3, none⟩) (.inl (.inr ⟨by simp only; omega, by simp only; omega⟩)) (.int .i64 m.a)).setCell (p := ⟨w.heap.size, 4, none⟩) (.inl (.inr ⟨by simp only; omega, by simp only; omega⟩)) (.int .i64 m.l)).setCell (p := ⟨w.heap.size + 1, 0, none⟩) (.inl (.inr ⟨by simp only; omega, by simp only; omega⟩)) (.slice D l.length q)) (fun _ _ e => e))
          refine hK.out _ _ HHeld (fun _ => ?_)
          clear hK K
          try simp only [Act.put, List.setIfInBounds_toArray, List.set_cons_zero, List.set_cons_succ]
          refine takeD (i := 8) (some 4) (.slice K al.length qk) rfl (by kernel_rfl) (by kernel_rfl) (by kernel_rfl) (by kernel_rfl) (fun _ _ _ h => h) (by assumption) (Or.inl ⟨by rfl, fun w hSw => by (try dsimp only at hSw); go_simp⟩) ?_
          simp only [Act.put, List.setIfInBounds_toArray, List.set_cons_zero, List.set_cons_succ]
          refine takeD (i := 9) (some 5) (.slice Y ys.length qy) rfl (by kernel_rfl) (by kernel_rfl) (by kernel_rfl) (by kernel_rfl) (fun _ _ _ h => h) (by assumption) (Or.inl ⟨by rfl, fun w hSw => by (try dsimp only at hSw); go_simp⟩) ?_
          simp only [Act.put, List.setIfInBounds_toArray, List.set_cons_zero, List.set_cons_succ]
          refine wpAnyH_done (by kernel_rfl) ?_ _
          clear KS
          go_wp2_with fail
          have lb0 := HLB0.out
          have lb1 := HLB1.out
          obtain ⟨wz, hwz⟩ : ∃ wz, wz = (((((w9.setCell ⟨w.heap.size, 0, none⟩ (.int .i64 m.c)).setCell ⟨w.heap.size, 1, none⟩ (.int .i64 m.d)).setCell ⟨w.heap.size, 2, none⟩ (.int .i64 m.s)).setCell ⟨w.heap.size, 3, none⟩ (.int .i64 m.a)).setCell ⟨w.heap.size, 4, none⟩ (.int .i64 m.l)).setCell ⟨w.heap.size + 1, 0, none⟩ (.slice D l.length q) := ⟨_, rfl⟩
          rw [← hwz]
          have kz : KeepF (fun x => w.heap.size ≤ x ∧ x < w.heap.size + 2) w9 wz := by rw [hwz]; exact ((((((KeepF.refl (fun x => w.heap.size ≤ x ∧ x < w.heap.size + 2) w9).setCell (p := ⟨w.heap.size, 0, none⟩) (.inl ⟨by simp only; omega, by simp only; omega⟩) _).setCell (p := ⟨w.heap.size, 1, none⟩) (.inl ⟨by simp only; omega, by simp only; omega⟩) _).setCell (p := ⟨w.heap.size, 2, none⟩) (.inl ⟨by simp only; omega, by simp only; omega⟩) _).setCell (p := ⟨w.heap.size, 3, none⟩) (.inl ⟨by simp only; omega, by simp only; omega⟩) _).setCell (p := ⟨w.heap.size, 4, none⟩) (.inl ⟨by simp only; omega, by simp only; omega⟩) _).setCell (p := ⟨w.heap.size + 1, 0, none⟩) (.inl ⟨by simp only; omega, by simp only; omega⟩) _
          have e0 : wz.heap[w.heap.size]? = some (.cells #[.int .i64 m.c, .int .i64 m.d, .int .i64 m.s, .int .i64 m.a, .int .i64 m.l] 25 (0, 0)) := by rw [hwz]; simp [World.setCell, Array.getElem?_modify, lb0]
          have e1 : wz.heap[w.heap.size + 1]? = some (.cells #[.slice D l.length q] 28 (0, 0)) := by rw [hwz]; simp [World.setCell, Array.getElem?_modify, lb1]
          (try simp only [Exit.inBlock, Exit.then])
          refine bodyPost_ret (results_two2 rfl _ _ (w.heap.size) 25 #[.int .i64 m.c, .int .i64 m.d, .int .i64 m.s, .int .i64 m.a, .int .i64 m.l] (0, 0) _ (by rfl) e0 Tryz.underlying25 rfl (by kernel_rfl) (w.heap.size + 1) 28 #[.slice D l.length q] (0, 0) _ (by rfl) e1 Tryz.underlying28 rfl (by kernel_rfl)) rfl ?_
          have hdz := HDW.out.trans HDY.out
          have kt : KeepF (fun x => w.heap.size ≤ x) w wz := ((KeepF.ofBelow (F := fun x => w.heap.size ≤ x) (HB1.out.mono (Nat.le_refl _))).trans (hdz.keep.mono fun x e => by omega) (fun _ _ e => e)).trans (kz.mono fun x e => e.1) (fun _ _ e => e)
          have hl4 := (HLL.out.dr (by omega) (HD7.out.trans HDY.out)).keepB kz (fun x e => by omega)
          have ha4 := (HAL.out.dr (by omega) (HD7.out.trans HDY.out)).keepB kz (fun x e => by omega)
          have hy4 := (HRY.out).keepF kz (fun x e => by omega)
          exact ⟨m, D, q, l, K, qk, al, Y, qy, ys, rfl, hl4.mono (fun g hg => by omega), ha4.mono (fun g hg => by omega), hy4.mono (by omega), HQY.out, kt.toBelow (Nat.le_refl _) (fun x hx e => by omega)⟩
      · have hr' : (r == 0) = false := by simpa using hr
        have HDW := Lib.hid (HD3.out.trans HD6.out)
        have hsW := HDW.out.size
        have KS := Lib.hid (show ∀ w' : World, KeepF (fun x => x = S ∨ (w.heap.size ≤ x ∧ x < w.heap.size + 2)) w6 w' → (w'.cell? ⟨w2.heap.size, 0, none⟩ = some (.int .i64 m.c) ∧ w'.cell? ⟨w2.heap.size, 1, none⟩ = some (.int .i64 m.d) ∧ w'.cell? ⟨w2.heap.size, 2, none⟩ = some (.int .i64 m.s) ∧ w'.cell? ⟨w2.heap.size, 3, none⟩ = some (.int .i64 m.a) ∧ w'.cell? ⟨w2.heap.size, 4, none⟩ = some (.int .i64 m.l) ∧ w'.cell? ⟨w2.heap.size + 1, 0, none⟩ = some (.slice D l.length q)) from fun w' hw => by
          have hb0 := HBX.out.dr (by omega) (by omega) HD6.out
          obtain ⟨z0_0, z0_1, z0_2, z0_3, z0_4, _⟩ := hb0.keepF hw (World.block_lt_of_cell? _ _ hb0.1) (by omega)
          have hb1 := HLX.out.dr (by omega) (by omega) HD6.out
          obtain ⟨z1_0, _⟩ := hb1.keepF hw (World.block_lt_of_cell? _ _ hb1.1) (by omega)
          exact ⟨z0_0, z0_1, z0_2, z0_3, z0_4, z1_0⟩)
        go_wp2_with fail
        refine wp_region_held_drew (S := (fun w' => w'.cell? ⟨w2.heap.size, 0, none⟩ = some (.int .i64 m.c) ∧ w'.cell? ⟨w2.heap.size, 1, none⟩ = some (.int .i64 m.d) ∧ w'.cell? ⟨w2.heap.size, 2, none⟩ = some (.int .i64 m.s) ∧ w'.cell? ⟨w2.heap.size, 3, none⟩ = some (.int .i64 m.a) ∧ w'.cell? ⟨w2.heap.size, 4, none⟩ = some (.int .i64 m.l) ∧ w'.cell? ⟨w2.heap.size + 1, 0, none⟩ = some (.slice D l.length q))) (by kernel_rfl) (KS.out _ (KeepF.ofBelow (belowDrew0 _))) (fun hHeld => ?_)
        refine takeD (i := 0) (some 57) (.agg #[.int .i64 m.c, .int .i64 m.d, .int .i64 m.s, .int .i64 m.a, .int .i64 m.l]) rfl (by kernel_rfl) (by kernel_rfl) (by kernel_rfl) (by kernel_rfl) (fun _ _ _ h => h) (by assumption) (Or.inl ⟨by rfl, fun w hSw => by (try dsimp only at hSw); go_simp⟩) ?_
        simp only [Act.put, List.setIfInBounds_toArray, List.set_cons_zero, List.set_cons_succ]
        refine takeD (i := 1) (some 58) (.agg #[.slice D l.length q]) rfl (by kernel_rfl) (by kernel_rfl) (by kernel_rfl) (by kernel_rfl) (fun _ _ _ h => h) (by assumption) (Or.inl ⟨by rfl, fun w hSw => by (try dsimp only at hSw); go_simp⟩) ?_
        simp only [Act.put, List.setIfInBounds_toArray, List.set_cons_zero, List.set_cons_succ]
        refine takeD (i := 2) (some 59) (.slice K al.length qk) rfl (by kernel_rfl) (by kernel_rfl) (by kernel_rfl) (by kernel_rfl) (fun _ _ _ h => h) (by assumption) (Or.inl ⟨by rfl, fun w hSw => by (try dsimp only at hSw); go_simp⟩) ?_
        simp only [Act.put, List.setIfInBounds_toArray, List.set_cons_zero, List.set_cons_succ]
        refine takeD (i := 3) (some 60) (.pointer (some ⟨S, 0, none⟩)) rfl (by kernel_rfl) (by kernel_rfl) (by kernel_rfl) (by kernel_rfl) (fun _ _ _ h => h) (by assumption) (Or.inl ⟨by rfl, fun w hSw => by (try dsimp only at hSw); go_simp⟩) ?_
        simp only [Act.put, List.setIfInBounds_toArray, List.set_cons_zero, List.set_cons_succ]
        refine takeD (i := 4) (some 61) (.agg #[.int .i64 m.c, .int .i64 m.d, .int .i64 m.s, .int .i64 m.a, .int .i64 m.l]) rfl (by kernel_rfl) (by kernel_rfl) (by kernel_rfl) (by kernel_rfl) (fun _ _ _ h => h) (by assumption) (Or.inl ⟨by rfl, fun w hSw => by (try dsimp only at hSw); go_simp⟩) ?_
        simp only [Act.put, List.setIfInBounds_toArray, List.set_cons_zero, List.set_cons_succ]
        refine wpAnyH_ready (rs := [5]) (by kernel_rfl) (by simp) (AllReadyH.cons rfl (fun K hK => ?_) AllReadyH.nil)
        go_simp
        refine (l02DrawKey_any S A c bs m _ (HDW.out.drew).src HMD.out).mono ?_
        rintro e w9 ⟨Y, qy, ys, rfl, hqy, hy9, hry, hdy⟩
        have HQY := Lib.hid hqy; have HRY := Lib.hid (show RIn (w0.heap.size + 1) w9 Y ys from hry.mono (show w0.heap.size + 1 ≤ w6.heap.size by omega))
        have HDY := Lib.hid ((Dr.refl HDW.out.src).drew.trans hdy)
        have HKY := Lib.hid HDY.out.keep
        have hs9 := HDY.out.size
        clear hqy hy9 hry hdy
        have HHeld := KS.out _ (HKY.out.mono (fun x e => .inl e))
        refine hK.out _ _ HHeld (fun _ => ?_)
        clear hK K
        try simp only [Act.put, List.setIfInBounds_toArray, List.set_cons_zero, List.set_cons_succ]
        have lb0 := (((HK1.out.trans HDW.out.keep (fun _ _ e => e)).trans (HKY.out) (fun _ _ e => e)).block (w.heap.size) (by omega) (by omega)).trans HR0.out
        have n0_0 := boxC_of_heap lb0 0 _ rfl
        have n0_1 := boxC_of_heap lb0 1 _ rfl
        have n0_2 := boxC_of_heap lb0 2 _ rfl
        have n0_3 := boxC_of_heap lb0 3 _ rfl
        have n0_4 := boxC_of_heap lb0 4 _ rfl
        have fr0 := frozen_of_heap lb0
        have f0_0 := fr0 0
        have f0_1 := fr0 1
        have f0_2 := fr0 2
        have f0_3 := fr0 3
        have f0_4 := fr0 4
        have HLB0 := Lib.hid lb0
        clear lb0 fr0
        have lb1 := (((HK1.out.trans HDW.out.keep (fun _ _ e => e)).trans (HKY.out) (fun _ _ e => e)).block (w.heap.size + 1) (by omega) (by omega)).trans HR1.out
        have n1_0 := boxC_of_heap lb1 0 _ rfl
        have fr1 := frozen_of_heap lb1
        have f1_0 := fr1 0
        have HLB1 := Lib.hid lb1
        clear lb1 fr1
        refine wpAnyH_ready (rs := [6]) (by kernel_rfl) (by simp) (AllReadyH.cons rfl (fun K hK => ?_) AllReadyH.nil)
        go_simp
        have HHeld := KS.out _ (((HKY.out).mono (fun x e => .inl e)).trans ((((((KeepF.refl (fun x => x = S ∨ (w.heap.size ≤ x ∧ x < w.heap.size + 2)) w9).setCell (p := ⟨w.heap.size, 0, none⟩) (.inl (.inr ⟨by simp only; omega, by simp only; omega⟩)) (.int .i64 m.c)).setCell (p := ⟨w.heap.size, 1, none⟩) (.inl (.inr ⟨by simp only; omega, by simp only; omega⟩)) (.int .i64 m.d)).setCell (p := ⟨w.heap.size, 2, none⟩) (.inl (.inr ⟨by simp only; omega, by simp only; omega⟩)) (.int .i64 m.s)).setCell (p := ⟨w.heap.size, 3, none⟩) (.inl (.inr ⟨by simp only; omega, by simp only; omega⟩)) (.int .i64 m.a)).setCell (p := ⟨w.heap.size, 4, none⟩) (.inl (.inr ⟨by simp only; omega, by simp only; omega⟩)) (.int .i64 m.l)) (fun _ _ e => e))
        refine hK.out _ _ HHeld (fun _ => ?_)
        clear hK K
        try simp only [Act.put, List.setIfInBounds_toArray, List.set_cons_zero, List.set_cons_succ]
        refine wpAnyH_ready (rs := [7]) (by kernel_rfl) (by simp) (AllReadyH.cons rfl (fun K hK => ?_) AllReadyH.nil)
        go_simp
        have HHeld := KS.out _ (((HKY.out).mono (fun x e => .inl e)).trans (((((((KeepF.refl (fun x => x = S ∨ (w.heap.size ≤ x ∧ x < w.heap.size + 2)) w9).setCell (p := ⟨w.heap.size, 0, none⟩) (.inl (.inr ⟨by simp only; omega, by simp only; omega⟩)) (.int .i64 m.c)).setCell (p := ⟨w.heap.size, 1, none⟩) (.inl (.inr ⟨by simp only; omega, by simp only; omega⟩)) (.int .i64 m.d)).setCell (p := ⟨w.heap.size, 2, none⟩) (.inl (.inr ⟨by simp only; omega, by simp only; omega⟩)) (.int .i64 m.s)).setCell (p := ⟨w.heap.size, 3, none⟩) (.inl (.inr ⟨by simp only; omega, by simp only; omega⟩)) (.int .i64 m.a)).setCell (p := ⟨w.heap.size, 4, none⟩) (.inl (.inr ⟨by simp only; omega, by simp only; omega⟩)) (.int .i64 m.l)).setCell (p := ⟨w.heap.size + 1, 0, none⟩) (.inl (.inr ⟨by simp only; omega, by simp only; omega⟩)) (.slice D l.length q)) (fun _ _ e => e))
        refine hK.out _ _ HHeld (fun _ => ?_)
        clear hK K
        try simp only [Act.put, List.setIfInBounds_toArray, List.set_cons_zero, List.set_cons_succ]
        refine takeD (i := 8) (some 4) (.slice K al.length qk) rfl (by kernel_rfl) (by kernel_rfl) (by kernel_rfl) (by kernel_rfl) (fun _ _ _ h => h) (by assumption) (Or.inl ⟨by rfl, fun w hSw => by (try dsimp only at hSw); go_simp⟩) ?_
        simp only [Act.put, List.setIfInBounds_toArray, List.set_cons_zero, List.set_cons_succ]
        refine takeD (i := 9) (some 5) (.slice Y ys.length qy) rfl (by kernel_rfl) (by kernel_rfl) (by kernel_rfl) (by kernel_rfl) (fun _ _ _ h => h) (by assumption) (Or.inl ⟨by rfl, fun w hSw => by (try dsimp only at hSw); go_simp⟩) ?_
        simp only [Act.put, List.setIfInBounds_toArray, List.set_cons_zero, List.set_cons_succ]
        refine wpAnyH_done (by kernel_rfl) ?_ _
        clear KS
        go_wp2_with fail
        have lb0 := HLB0.out
        have lb1 := HLB1.out
        obtain ⟨wz, hwz⟩ : ∃ wz, wz = (((((w9.setCell ⟨w.heap.size, 0, none⟩ (.int .i64 m.c)).setCell ⟨w.heap.size, 1, none⟩ (.int .i64 m.d)).setCell ⟨w.heap.size, 2, none⟩ (.int .i64 m.s)).setCell ⟨w.heap.size, 3, none⟩ (.int .i64 m.a)).setCell ⟨w.heap.size, 4, none⟩ (.int .i64 m.l)).setCell ⟨w.heap.size + 1, 0, none⟩ (.slice D l.length q) := ⟨_, rfl⟩
        rw [← hwz]
        have kz : KeepF (fun x => w.heap.size ≤ x ∧ x < w.heap.size + 2) w9 wz := by rw [hwz]; exact ((((((KeepF.refl (fun x => w.heap.size ≤ x ∧ x < w.heap.size + 2) w9).setCell (p := ⟨w.heap.size, 0, none⟩) (.inl ⟨by simp only; omega, by simp only; omega⟩) _).setCell (p := ⟨w.heap.size, 1, none⟩) (.inl ⟨by simp only; omega, by simp only; omega⟩) _).setCell (p := ⟨w.heap.size, 2, none⟩) (.inl ⟨by simp only; omega, by simp only; omega⟩) _).setCell (p := ⟨w.heap.size, 3, none⟩) (.inl ⟨by simp only; omega, by simp only; omega⟩) _).setCell (p := ⟨w.heap.size, 4, none⟩) (.inl ⟨by simp only; omega, by simp only; omega⟩) _).setCell (p := ⟨w.heap.size + 1, 0, none⟩) (.inl ⟨by simp only; omega, by simp only; omega⟩) _
        have e0 : wz.heap[w.heap.size]? = some (.cells #[.int .i64 m.c, .int .i64 m.d, .int .i64 m.s, .int .i64 m.a, .int .i64 m.l] 25 (0, 0)) := by rw [hwz]; simp [World.setCell, Array.getElem?_modify, lb0]
        have e1 : wz.heap[w.heap.size + 1]? = some (.cells #[.slice D l.length q] 28 (0, 0)) := by rw [hwz]; simp [World.setCell, Array.getElem?_modify, lb1]
        (try simp only [Exit.inBlock, Exit.then])
        refine bodyPost_ret (results_two2 rfl _ _ (w.heap.size) 25 #[.int .i64 m.c, .int .i64 m.d, .int .i64 m.s, .int .i64 m.a, .int .i64 m.l] (0, 0) _ (by rfl) e0 Tryz.underlying25 rfl (by kernel_rfl) (w.heap.size + 1) 28 #[.slice D l.length q] (0, 0) _ (by rfl) e1 Tryz.underlying28 rfl (by kernel_rfl)) rfl ?_
        have hdz := HDW.out.trans HDY.out
        have kt : KeepF (fun x => w.heap.size ≤ x) w wz := ((KeepF.ofBelow (F := fun x => w.heap.size ≤ x) (HB1.out.mono (Nat.le_refl _))).trans (hdz.keep.mono fun x e => by omega) (fun _ _ e => e)).trans (kz.mono fun x e => e.1) (fun _ _ e => e)
        have hl4 := (HLL.out.dr (by omega) (HD6.out.trans HDY.out)).keepB kz (fun x e => by omega)
        have ha4 := (HAL.out.dr (by omega) (HD6.out.trans HDY.out)).keepB kz (fun x e => by omega)
        have hy4 := (HRY.out).keepF kz (fun x e => by omega)
        exact ⟨m, D, q, l, K, qk, al, Y, qy, ys, rfl, hl4.mono (fun g hg => by omega), ha4.mono (fun g hg => by omega), hy4.mono (by omega), HQY.out, kt.toBelow (Nat.le_refl _) (fun x hx e => by omega)⟩

set_option maxRecDepth 100000 in
set_option maxHeartbeats 8000000 in
theorem drawNearest_any (A : Option Addr) (c : Nat) (bs : List Int) (w : World) (h : RCode w A bs) : Calls Tryz.prog 10 #[.slice A bs.length c] w (Dr14k w) := by
  obtain ⟨w0, hw0⟩ : ∃ w0, w0 = (w.alloc (.cells #[.int .i64 0, .int .i64 0, .int .i64 0, .int .i64 0, .int .i64 0] 25)).alloc (.cells #[.slice none 0 0] 28) := ⟨_, rfl⟩
  have hz0 : w0.heap.size = w.heap.size + 2 := by rw [hw0]; simp
  have B0 : Below w.heap.size w w0 := by rw [hw0]; exact ((Below.refl _ _).alloc (Nat.le_refl _) _).alloc (by simp only [World.size_alloc]; omega) _
  have HR0 := Lib.hid (show w0.heap[w.heap.size]? = some (.cells #[.int .i64 0, .int .i64 0, .int .i64 0, .int .i64 0, .int .i64 0] 25 (0, 0)) by
    have h1 := heap_alloc_new w (.cells #[.int .i64 0, .int .i64 0, .int .i64 0, .int .i64 0, .int .i64 0] 25)
    have h2 := ((Below.refl (w.heap.size + 1) (w.alloc (.cells #[.int .i64 0, .int .i64 0, .int .i64 0, .int .i64 0, .int .i64 0] 25))).alloc (by simp) (.cells #[.slice none 0 0] 28)).block (w.heap.size) (by omega)
    rw [hw0]; exact h2.trans (by simpa using h1))
  have HR1 := Lib.hid (show w0.heap[w.heap.size + 1]? = some (.cells #[.slice none 0 0] 28 (0, 0)) by
    have h1 := heap_alloc_new (w.alloc (.cells #[.int .i64 0, .int .i64 0, .int .i64 0, .int .i64 0, .int .i64 0] 25)) (.cells #[.slice none 0 0] 28)
    rw [hw0]; simpa using h1)
  have HE := Lib.hid (drawIsGhost_any A c bs w0 ⟨RV.below h.1 B0, h.2⟩)
  have HB0 := Lib.hid B0
  clear h B0
  go_enter Tryz.func10, Tryz.ntmps10
  go_wp2_with fail
  rw [← hw0]
  clear hw0
  refine HE.out.mono ?_
  rintro e w2 ⟨m, D, q, l, K, qk, al, Y, qy, ys, rfl, hl, hal, hy, hqy, hb2⟩
  have hs2 := hb2.size
  have HLL := Lib.hid hl; have HAL := Lib.hid hal; have HYY := Lib.hid hy; have HQY := Lib.hid hqy; have HB2 := Lib.hid (HB0.out.trans (hb2.mono (by omega)))
  have lb0 := (hb2.block (w.heap.size) (by omega)).trans HR0.out
  have lb1 := (hb2.block (w.heap.size + 1) (by omega)).trans HR1.out
  have n0_0 := boxC_of_heap lb0 0 _ rfl
  have n0_1 := boxC_of_heap lb0 1 _ rfl
  have n0_2 := boxC_of_heap lb0 2 _ rfl
  have n0_3 := boxC_of_heap lb0 3 _ rfl
  have n0_4 := boxC_of_heap lb0 4 _ rfl
  have fr0 := frozen_of_heap lb0
  have f0_0 := fr0 0
  have f0_1 := fr0 1
  have f0_2 := fr0 2
  have f0_3 := fr0 3
  have f0_4 := fr0 4
  have HLB0 := Lib.hid lb0
  have n1_0 := boxC_of_heap lb1 0 _ rfl
  have fr1 := frozen_of_heap lb1
  have f1_0 := fr1 0
  have HLB1 := Lib.hid lb1
  clear lb0 lb1 fr0 fr1 hl hal hy hqy hb2 HE
  go_wp2_with fail
  have lb0 := HLB0.out
  have lb1 := HLB1.out
  obtain ⟨wz, hwz⟩ : ∃ wz, wz = (((((w2.setCell ⟨w.heap.size, 0, none⟩ (.int .i64 m.c)).setCell ⟨w.heap.size, 1, none⟩ (.int .i64 m.d)).setCell ⟨w.heap.size, 2, none⟩ (.int .i64 m.s)).setCell ⟨w.heap.size, 3, none⟩ (.int .i64 m.a)).setCell ⟨w.heap.size, 4, none⟩ (.int .i64 m.l)).setCell ⟨w.heap.size + 1, 0, none⟩ (.slice D l.length q) := ⟨_, rfl⟩
  rw [← hwz]
  have kz : KeepF (fun x => w.heap.size ≤ x ∧ x < w.heap.size + 2) w2 wz := by rw [hwz]; exact ((((((KeepF.refl (fun x => w.heap.size ≤ x ∧ x < w.heap.size + 2) w2).setCell (p := ⟨w.heap.size, 0, none⟩) (.inl ⟨by simp only; omega, by simp only; omega⟩) _).setCell (p := ⟨w.heap.size, 1, none⟩) (.inl ⟨by simp only; omega, by simp only; omega⟩) _).setCell (p := ⟨w.heap.size, 2, none⟩) (.inl ⟨by simp only; omega, by simp only; omega⟩) _).setCell (p := ⟨w.heap.size, 3, none⟩) (.inl ⟨by simp only; omega, by simp only; omega⟩) _).setCell (p := ⟨w.heap.size, 4, none⟩) (.inl ⟨by simp only; omega, by simp only; omega⟩) _).setCell (p := ⟨w.heap.size + 1, 0, none⟩) (.inl ⟨by simp only; omega, by simp only; omega⟩) _
  have e0 : wz.heap[w.heap.size]? = some (.cells #[.int .i64 m.c, .int .i64 m.d, .int .i64 m.s, .int .i64 m.a, .int .i64 m.l] 25 (0, 0)) := by rw [hwz]; simp [World.setCell, Array.getElem?_modify, lb0]
  have e1 : wz.heap[w.heap.size + 1]? = some (.cells #[.slice D l.length q] 28 (0, 0)) := by rw [hwz]; simp [World.setCell, Array.getElem?_modify, lb1]
  refine bodyPost_ret (results_two2 rfl _ _ (w.heap.size) 25 #[.int .i64 m.c, .int .i64 m.d, .int .i64 m.s, .int .i64 m.a, .int .i64 m.l] (0, 0) _ (by rfl) e0 Tryz.underlying25 rfl (by kernel_rfl) (w.heap.size + 1) 28 #[.slice D l.length q] (0, 0) _ (by rfl) e1 Tryz.underlying28 rfl (by kernel_rfl)) rfl ?_
  have kt : KeepF (fun x => w.heap.size ≤ x) w wz := ((KeepF.ofBelow (F := fun x => w.heap.size ≤ x) HB2.out)).trans (kz.mono fun x e => e.1) (fun _ _ e => e)
  exact ⟨m, D, q, l, K, qk, al, Y, qy, ys, rfl, (HLL.out.keepB kz (fun x e => by omega)).mono (fun g hg => by omega), (HAL.out.keepB kz (fun x e => by omega)).mono (fun g hg => by omega), (HYY.out.keepF kz (fun x e => by omega)).mono (by omega), HQY.out, kt.toBelow (Nat.le_refl _) (fun x hx e => by omega)⟩

end Go.Proofs.YtdedajohkdbdkaaGreat
