/- Contract of DrawBestChambers. -/
import Derived.Test.YthjfilhcfjpinaaDrRes
namespace Go.Proofs.Ythjfilhcfjpinaa
set_option linter.unusedVariables false
open Go.RowKit
/-- a drawn maker, a list, two numbers -/
def DrBC (w : World) (e : Ending) (w' : World) : Prop :=
  ∃ (m : Mk) (Z : Option Addr) (qz : Nat) (zs : List Int) (n st : Int), e = .returned (.tuple #[.agg #[.int .i64 m.c, .int .i64 m.d, .int .i64 m.s, .int .i64 m.a, .int .i64 m.l], .slice Z zs.length qz, .int .i64 n, .int .i64 st]) ∧ zs.length ≤ qz ∧ RI w' Z zs ∧ (-1 ≤ n ∧ n ≤ 1001) ∧ (-1 ≤ st ∧ st ≤ 1001) ∧ Below w.heap.size w w'

set_option maxRecDepth 100000 in
set_option maxHeartbeats 8000000 in
theorem drawBest_any (A : Option Addr) (c : Nat) (bs : List Int) (w : World) (h : RCode w A bs) : Calls Try.prog 45 #[.slice A bs.length c] w (DrBC w) := by
  obtain ⟨w0, hw0⟩ : ∃ w0, w0 = w.alloc (.cells #[.int .i64 0, .int .i64 0, .int .i64 0, .int .i64 0, .int .i64 0] 25) := ⟨_, rfl⟩
  have hz0 : w0.heap.size = w.heap.size + 1 := by rw [hw0]; simp
  have B0 : Below w.heap.size w w0 := by rw [hw0]; exact (Below.refl _ _).alloc (Nat.le_refl _) _
  have HR0 := Lib.hid (show w0.heap[w.heap.size]? = some (.cells #[.int .i64 0, .int .i64 0, .int .i64 0, .int .i64 0, .int .i64 0] 25 (0, 0)) by
    have h1 := heap_alloc_new w (.cells #[.int .i64 0, .int .i64 0, .int .i64 0, .int .i64 0, .int .i64 0] 25)
    rw [hw0]; simpa using h1)
  have HF := Lib.hid (l01From_any A c bs w0 (RV.below h.1 B0) h.2)
  have HB0 := Lib.hid B0
  clear h B0
  go_enter Try.func45, Try.ntmps45
  go_wp2_with fail
  rw [← hw0]
  clear hw0
  refine HF.out.mono ?_
  rintro e w1 ⟨rfl, hS, hb1, hz1⟩
  obtain ⟨S, hSe⟩ : ∃ S, S = w0.heap.size := ⟨_, rfl⟩
  rw [← hSe] at hS hz1 ⊢
  have hSw : w.heap.size + 1 = S := by omega
  have hs1 : S < w1.heap.size := by omega
  have HB1 := Lib.hid (HB0.out.trans (hb1.mono (by omega)))
  have HK1 := Lib.hid (KeepF.ofBelow (F := fun x => x = S) hb1)
  have HS1 := Lib.hid hS
  have HDR := Lib.hid (l02Draw_any S A c bs w1 hS)
  clear hS hb1 hSe hz1 HF
  go_wp2_with fail
  refine HDR.out.mono ?_
  rintro e w2 ⟨m, rfl, hm, hS2, hK2⟩
  obtain ⟨wb, hwb⟩ : ∃ wb, wb = w2.alloc (.cells #[.int .i64 m.c, .int .i64 m.d, .int .i64 m.s, .int .i64 m.a, .int .i64 m.l] 25) := ⟨_, rfl⟩
  have hbb : Below w2.heap.size w2 wb := by rw [hwb]; exact (Below.refl _ _).alloc (Nat.le_refl _) _
  have hs3 : w2.heap.size < wb.heap.size := by rw [hwb]; simp
  have HBX := Lib.hid (show BoxC wb w2.heap.size 0 (mkCells m) by rw [hwb]; exact BoxC.new (mkCells m) rfl)
  have hs2 : w1.heap.size ≤ w2.heap.size := hK2.size
  have HMD := Lib.hid hm
  have HDB := Lib.hid (((Dr.refl HS1.out).next hS2 hK2).below hbb)
  have HE := Lib.hid (l02DrawKey_any S A c bs m wb HDB.out.src HMD.out)
  clear hm hS2 hK2 hbb HDR
  go_wp2_with fail
  rw [← hwb]
  clear hwb
  refine HE.out.mono ?_
  rintro e w3 ⟨Z, qz, zs, rfl, hqz, hz9, hrz, hd3⟩
  have HZ := Lib.hid (And.intro hqz (show RIn (w0.heap.size + 1) w3 Z zs from hrz.mono (by omega)))
  have HD3 := Lib.hid (HDB.out.trans hd3)
  have HX3 := Lib.hid ((Dr.refl HDB.out.src).trans hd3)
  have hss3 := HX3.out.size
  have hmc : max 1 m.c ≤ 7 ∧ 1 ≤ max 1 m.c := by have := HMD.out; simp only [MkD] at this; omega
  have HN := Lib.hid (l01Next_dr HD3.out.src (max 1 m.c))
  have hmc2 := HMD.out
  simp only [MkD] at hmc2
  obtain ⟨hmc3, hmc4, _⟩ := hmc2
  obtain ⟨x0, _⟩ := HBX.out.dr (by omega) (by omega) HX3.out
  clear hqz hz9 hrz hd3 HE
  go_wp2_with fail
  clear x0
  refine HN.out.mono ?_
  rintro e w4 ⟨a, rfl, a0, a1, hd4, -⟩
  have ha7 : a ≤ 6 := by omega
  have HD4 := Lib.hid (HD3.out.trans hd4)
  have HX4 := Lib.hid (HX3.out.trans hd4)
  have HY4 := Lib.hid ((Dr.refl HD3.out.src).trans hd4)
  have HN2 := Lib.hid (l01Next_dr HD4.out.src 20)
  clear hd4 a1 HN hmc
  go_wp2_with fail
  refine HN2.out.mono ?_
  rintro e w5 ⟨y, rfl, y0, y1, hd5, -⟩
  obtain ⟨z, hz⟩ : ∃ z, z = y / 19 := ⟨_, rfl⟩
  have hzz : y.tdiv 19 = z := by rw [Int.tdiv_eq_ediv_of_nonneg y0]; exact hz.symm
  have z0 : 0 ≤ z := by omega
  have z1 : z ≤ 1 := by omega
  have HD5 := Lib.hid (HD4.out.trans hd5)
  have HX5 := Lib.hid (HX4.out.trans hd5)
  have HY5 := Lib.hid (HY4.out.trans hd5)
  have HN3 := Lib.hid (l01Next_dr HD5.out.src 20)
  clear hd5 y1 hz HN2
  go_wp2_with fail
  refine HN3.out.mono ?_
  rintro e w6 ⟨u, rfl, u0, u1, hd6, -⟩
  have HD6 := Lib.hid (HD5.out.trans hd6)
  have HDX := Lib.hid (HX5.out.trans hd6)
  have HDX3 := Lib.hid (HY5.out.trans hd6)
  have hs6 := HDX3.out.size
  clear hd6 u1 HN3 hzz
  by_cases hu : u = 0
  · subst hu
    obtain ⟨x0, _⟩ := HBX.out.dr (by omega) (by omega) HDX.out
    have HDW := Lib.hid (HD6.out)
    have hsW := HDW.out.size
    have KS := Lib.hid (show ∀ w' : World, KeepF (fun x => x = S ∨ (w.heap.size ≤ x ∧ x < w.heap.size + 1)) w6 w' → (w'.cell? ⟨w2.heap.size, 0, none⟩ = some (.int .i64 m.c) ∧ w'.cell? ⟨w2.heap.size, 1, none⟩ = some (.int .i64 m.d) ∧ w'.cell? ⟨w2.heap.size, 2, none⟩ = some (.int .i64 m.s) ∧ w'.cell? ⟨w2.heap.size, 3, none⟩ = some (.int .i64 m.a) ∧ w'.cell? ⟨w2.heap.size, 4, none⟩ = some (.int .i64 m.l)) from fun w' hw => by
      have hb0 := HBX.out.dr (by omega) (by omega) HDX.out
      obtain ⟨z0_0, z0_1, z0_2, z0_3, z0_4, _⟩ := hb0.keepF hw (World.block_lt_of_cell? _ _ hb0.1) (by omega)
      exact ⟨z0_0, z0_1, z0_2, z0_3, z0_4⟩)
    go_wp2_with fail
    refine wp_region_held_drew (S := (fun w' => w'.cell? ⟨w2.heap.size, 0, none⟩ = some (.int .i64 m.c) ∧ w'.cell? ⟨w2.heap.size, 1, none⟩ = some (.int .i64 m.d) ∧ w'.cell? ⟨w2.heap.size, 2, none⟩ = some (.int .i64 m.s) ∧ w'.cell? ⟨w2.heap.size, 3, none⟩ = some (.int .i64 m.a) ∧ w'.cell? ⟨w2.heap.size, 4, none⟩ = some (.int .i64 m.l))) (by kernel_rfl) (KS.out _ (KeepF.ofBelow (belowDrew0 _))) (fun hHeld => ?_)
    refine takeD (i := 0) (some 33) (.agg #[.int .i64 m.c, .int .i64 m.d, .int .i64 m.s, .int .i64 m.a, .int .i64 m.l]) rfl (by kernel_rfl) (by kernel_rfl) (by kernel_rfl) (by kernel_rfl) (fun _ _ _ h => h) (by assumption) (Or.inl ⟨by rfl, fun w hSw => by (try dsimp only at hSw); go_simp⟩) ?_
    simp only [Act.put, List.setIfInBounds_toArray, List.set_cons_zero, List.set_cons_succ]
    refine takeD (i := 1) (some 34) (.slice Z zs.length qz) rfl (by kernel_rfl) (by kernel_rfl) (by kernel_rfl) (by kernel_rfl) (fun _ _ _ h => h) (by assumption) (Or.inl ⟨by rfl, fun w hSw => by (try dsimp only at hSw); go_simp⟩) ?_
    simp only [Act.put, List.setIfInBounds_toArray, List.set_cons_zero, List.set_cons_succ]
    refine takeD (i := 2) (some 35) (.int .i64 (m.c + 1)) rfl (by kernel_rfl) (by kernel_rfl) (by kernel_rfl) (by kernel_rfl) (fun _ _ _ h => h) (by assumption) (Or.inl ⟨by rfl, fun w hSw => by (try dsimp only at hSw); go_simp⟩) ?_
    simp only [Act.put, List.setIfInBounds_toArray, List.set_cons_zero, List.set_cons_succ]
    refine takeD (i := 3) (some 36) (.pointer (some ⟨S, 0, none⟩)) rfl (by kernel_rfl) (by kernel_rfl) (by kernel_rfl) (by kernel_rfl) (fun _ _ _ h => h) (by assumption) (Or.inl ⟨by rfl, fun w hSw => by (try dsimp only at hSw); go_simp⟩) ?_
    simp only [Act.put, List.setIfInBounds_toArray, List.set_cons_zero, List.set_cons_succ]
    refine wpAnyH_ready (rs := [4]) (by kernel_rfl) (by simp) (AllReadyH.cons rfl (fun K hK => ?_) AllReadyH.nil)
    go_simp
    have hb4 : Below w6.heap.size w6 (w6.drew.alloc (.cells #[.int .i64 1, .int .i64 2, .int .i64 1, .int .i64 2, .int .i64 1, .int .i64 2, .int .i64 0, .int .i64 3] 2)) := (belowDrew0 w6).alloc (Nat.le_refl _) _
    have HHeld := KS.out _ (KeepF.ofBelow hb4)
    refine hK.out _ _ HHeld (fun _ => ?_)
    clear hK K
    try simp only [Act.put, List.setIfInBounds_toArray, List.set_cons_zero, List.set_cons_succ]
    refine wpAnyH_ready (rs := [5]) (by kernel_rfl) (by simp) (AllReadyH.cons rfl (fun K hK => ?_) AllReadyH.nil)
    go_simp
    refine (show Calls Try.prog 67 #[.pointer (some ⟨S, 0, none⟩), .slice (some ⟨w6.drew.heap.size, 0, none⟩) 8 8] (w6.drew.alloc (.cells #[.int .i64 1, .int .i64 2, .int .i64 1, .int .i64 2, .int .i64 1, .int .i64 2, .int .i64 0, .int .i64 3] 2)) _ from l01Pick_new (HDW.out.drew).src [1, 2, 1, 2, 1, 2, 0, 3] (by simp) (by simp)).mono ?_
    rintro e w9 ⟨x, rfl, hx, hd4, -⟩
    have HX := Lib.hid hx
    have HD34 := Lib.hid ((Dr.refl HDW.out.src).drew.trans hd4)
    have HK34 := Lib.hid HD34.out.keep
    have hs4 := HD34.out.size
    clear hx hd4
    have HHeld := KS.out _ (HK34.out.mono (fun x e => .inl e))
    refine hK.out _ _ HHeld (fun _ => ?_)
    clear hK K
    try simp only [Act.put, List.setIfInBounds_toArray, List.set_cons_zero, List.set_cons_succ]
    have lb0 := (((HK1.out.trans HDW.out.keep (fun _ _ e => e)).trans (HK34.out) (fun _ _ e => e)).block (w.heap.size) (by omega) (by omega)).trans HR0.out
    have n0_0 := boxC_of_heap lb0 0 _ rfl
    have n0_1 := boxC_of_heap lb0 1 _ rfl
    have n0_2 := boxC_of_heap lb0 2 _ rfl
    have n0_3 := boxC_of_heap lb0 3 _ rfl
    have n0_4 := boxC_of_heap lb0 4 _ rfl
    have fr0 := frozen_of_heap lb0
    have f0_0 := fr0 0
    have f0_1 := fr0 1
    have f0_2 := fr0 2
    have f0_3 := fr0 3
    have f0_4 := fr0 4
    have HLB0 := Lib.hid lb0
    clear lb0 fr0
    refine wpAnyH_ready (rs := [6]) (by kernel_rfl) (by simp) (AllReadyH.cons rfl (fun K hK => ?_) AllReadyH.nil)
    go_simp
    have HHeld := KS.out _ (((HK34.out).mono (fun x e => .inl e)).trans ((((((KeepF.refl (fun x => x = S ∨ (w.heap.size ≤ x ∧ x < w.heap.size + 1)) w9).setCell (p := ⟨w.heap.size, 0, none⟩) (.inl (.inr ⟨by simp only; omega, by simp only; omega⟩)) (.int .i64 m.c)).setCell (p := ⟨w.heap.size, 1, none⟩) (.inl (.inr ⟨by simp only; omega, by simp only; omega⟩)) (.int .i64 m.d)).setCell (p := ⟨w.heap.size, 2, none⟩) (.inl (.inr ⟨by simp only; omega, by simp only; omega⟩)) (.int .i64 m.s)).setCell (p := ⟨w.heap.size, 3, none⟩) (.inl (.inr ⟨by simp only; omega, by simp only; omega⟩)) (.int .i64 m.a)).setCell (p := ⟨w.heap.size, 4, none⟩) (.inl (.inr ⟨by simp only; omega, by simp only; omega⟩)) (.int .i64 m.l)) (fun _ _ e => e))
    refine hK.out _ _ HHeld (fun _ => ?_)
    clear hK K
    try simp only [Act.put, List.setIfInBounds_toArray, List.set_cons_zero, List.set_cons_succ]
    refine takeD (i := 7) (some 3) (.slice Z zs.length qz) rfl (by kernel_rfl) (by kernel_rfl) (by kernel_rfl) (by kernel_rfl) (fun _ _ _ h => h) (by assumption) (Or.inl ⟨by rfl, fun w hSw => by (try dsimp only at hSw); go_simp⟩) ?_
    simp only [Act.put, List.setIfInBounds_toArray, List.set_cons_zero, List.set_cons_succ]
    refine takeD (i := 8) (some 4) (.int .i64 (m.c + 1)) rfl (by kernel_rfl) (by kernel_rfl) (by kernel_rfl) (by kernel_rfl) (fun _ _ _ h => h) (by assumption) (Or.inl ⟨by rfl, fun w hSw => by (try dsimp only at hSw); go_simp⟩) ?_
    simp only [Act.put, List.setIfInBounds_toArray, List.set_cons_zero, List.set_cons_succ]
    refine takeD (i := 9) (some 5) (.int .i64 x) rfl (by kernel_rfl) (by kernel_rfl) (by kernel_rfl) (by kernel_rfl) (fun _ _ _ h => h) (by assumption) (Or.inl ⟨by rfl, fun w hSw => by (try dsimp only at hSw); go_simp⟩) ?_
    simp only [Act.put, List.setIfInBounds_toArray, List.set_cons_zero, List.set_cons_succ]
    refine wpAnyH_done (by kernel_rfl) ?_ _
    clear KS
    go_wp2_with fail
    have lb0 := HLB0.out
    obtain ⟨wz, hwz⟩ : ∃ wz, wz = ((((w9.setCell ⟨w.heap.size, 0, none⟩ (.int .i64 m.c)).setCell ⟨w.heap.size, 1, none⟩ (.int .i64 m.d)).setCell ⟨w.heap.size, 2, none⟩ (.int .i64 m.s)).setCell ⟨w.heap.size, 3, none⟩ (.int .i64 m.a)).setCell ⟨w.heap.size, 4, none⟩ (.int .i64 m.l) := ⟨_, rfl⟩
    rw [← hwz]
    have kz : KeepF (fun x => w.heap.size ≤ x ∧ x < w.heap.size + 1) w9 wz := by rw [hwz]; exact (((((KeepF.refl (fun x => w.heap.size ≤ x ∧ x < w.heap.size + 1) w9).setCell (p := ⟨w.heap.size, 0, none⟩) (.inl ⟨by simp only; omega, by simp only; omega⟩) _).setCell (p := ⟨w.heap.size, 1, none⟩) (.inl ⟨by simp only; omega, by simp only; omega⟩) _).setCell (p := ⟨w.heap.size, 2, none⟩) (.inl ⟨by simp only; omega, by simp only; omega⟩) _).setCell (p := ⟨w.heap.size, 3, none⟩) (.inl ⟨by simp only; omega, by simp only; omega⟩) _).setCell (p := ⟨w.heap.size, 4, none⟩) (.inl ⟨by simp only; omega, by simp only; omega⟩) _
    have e0 : wz.heap[w.heap.size]? = some (.cells #[.int .i64 m.c, .int .i64 m.d, .int .i64 m.s, .int .i64 m.a, .int .i64 m.l] 25 (0, 0)) := by rw [hwz]; simp [World.setCell, Array.getElem?_modify, lb0]
    (try simp only [Exit.inBlock, Exit.then])
    refine bodyPost_ret (results_one3 rfl _ _ (w.heap.size) 25 #[.int .i64 m.c, .int .i64 m.d, .int .i64 m.s, .int .i64 m.a, .int .i64 m.l] (0, 0) _ (by rfl) e0 Try.underlying25 rfl (by kernel_rfl)) rfl ?_
    have hdz := HDW.out.trans HD34.out
    have kt : KeepF (fun x => w.heap.size ≤ x) w wz := ((KeepF.ofBelow (F := fun x => w.heap.size ≤ x) (HB1.out.mono (Nat.le_refl _))).trans (hdz.keep.mono fun x e => by omega) (fun _ _ e => e)).trans (kz.mono fun x e => e.1) (fun _ _ e => e)
    have hxx := HX.out
    simp at hxx
    exact ⟨m, Z, qz, zs, (m.c + 1), x, rfl, HZ.out.1, (((HZ.out.2.dr (by omega) HDX3.out).dr (by omega) HD34.out).keepF kz (fun x e => by omega)).1, by have := HMD.out; simp only [MkD] at this; omega, by omega, kt.toBelow (Nat.le_refl _) (fun x hx e => by omega)⟩
  · have hu' : (u == 0) = false := by simpa using hu
    obtain ⟨nn, hnn⟩ : ∃ nn, nn = a + 1 - z := ⟨_, rfl⟩
    have hnb : -1 ≤ nn ∧ nn ≤ 1001 := by omega
    try rw [← hnn]
    have HDW := Lib.hid (HD6.out)
    have hsW := HDW.out.size
    have KS := Lib.hid (show ∀ w' : World, KeepF (fun x => x = S ∨ (w.heap.size ≤ x ∧ x < w.heap.size + 1)) w6 w' → (w'.cell? ⟨w2.heap.size, 0, none⟩ = some (.int .i64 m.c) ∧ w'.cell? ⟨w2.heap.size, 1, none⟩ = some (.int .i64 m.d) ∧ w'.cell? ⟨w2.heap.size, 2, none⟩ = some (.int .i64 m.s) ∧ w'.cell? ⟨w2.heap.size, 3, none⟩ = some (.int .i64 m.a) ∧ w'.cell? ⟨w2.heap.size, 4, none⟩ = some (.int .i64 m.l)) from fun w' hw => by
      have hb0 := HBX.out.dr (by omega) (by omega) HDX.out
      obtain ⟨z0_0, z0_1, z0_2, z0_3, z0_4, _⟩ := hb0.keepF hw (World.block_lt_of_cell? _ _ hb0.1) (by omega)
      exact ⟨z0_0, z0_1, z0_2, z0_3, z0_4⟩)
    go_wp2_with fail
    refine wp_region_held_drew (S := (fun w' => w'.cell? ⟨w2.heap.size, 0, none⟩ = some (.int .i64 m.c) ∧ w'.cell? ⟨w2.heap.size, 1, none⟩ = some (.int .i64 m.d) ∧ w'.cell? ⟨w2.heap.size, 2, none⟩ = some (.int .i64 m.s) ∧ w'.cell? ⟨w2.heap.size, 3, none⟩ = some (.int .i64 m.a) ∧ w'.cell? ⟨w2.heap.size, 4, none⟩ = some (.int .i64 m.l))) (by kernel_rfl) (KS.out _ (KeepF.ofBelow (belowDrew0 _))) (fun hHeld => ?_)
    refine takeD (i := 0) (some 33) (.agg #[.int .i64 m.c, .int .i64 m.d, .int .i64 m.s, .int .i64 m.a, .int .i64 m.l]) rfl (by kernel_rfl) (by kernel_rfl) (by kernel_rfl) (by kernel_rfl) (fun _ _ _ h => h) (by assumption) (Or.inl ⟨by rfl, fun w hSw => by (try dsimp only at hSw); go_simp⟩) ?_
    simp only [Act.put, List.setIfInBounds_toArray, List.set_cons_zero, List.set_cons_succ]
    refine takeD (i := 1) (some 34) (.slice Z zs.length qz) rfl (by kernel_rfl) (by kernel_rfl) (by kernel_rfl) (by kernel_rfl) (fun _ _ _ h => h) (by assumption) (Or.inl ⟨by rfl, fun w hSw => by (try dsimp only at hSw); go_simp⟩) ?_
    simp only [Act.put, List.setIfInBounds_toArray, List.set_cons_zero, List.set_cons_succ]
    refine takeD (i := 2) (some 35) (.int .i64 (a + 1 - z)) rfl (by kernel_rfl) (by kernel_rfl) (by kernel_rfl) (by kernel_rfl) (fun _ _ _ h => h) (by assumption) (Or.inl ⟨by rfl, fun w hSw => by (try dsimp only at hSw); go_simp⟩) ?_
    simp only [Act.put, List.setIfInBounds_toArray, List.set_cons_zero, List.set_cons_succ]
    refine takeD (i := 3) (some 36) (.pointer (some ⟨S, 0, none⟩)) rfl (by kernel_rfl) (by kernel_rfl) (by kernel_rfl) (by kernel_rfl) (fun _ _ _ h => h) (by assumption) (Or.inl ⟨by rfl, fun w hSw => by (try dsimp only at hSw); go_simp⟩) ?_
    simp only [Act.put, List.setIfInBounds_toArray, List.set_cons_zero, List.set_cons_succ]
    refine wpAnyH_ready (rs := [4]) (by kernel_rfl) (by simp) (AllReadyH.cons rfl (fun K hK => ?_) AllReadyH.nil)
    go_simp
    have hb4 : Below w6.heap.size w6 (w6.drew.alloc (.cells #[.int .i64 1, .int .i64 2, .int .i64 1, .int .i64 2, .int .i64 1, .int .i64 2, .int .i64 0, .int .i64 3] 2)) := (belowDrew0 w6).alloc (Nat.le_refl _) _
    have HHeld := KS.out _ (KeepF.ofBelow hb4)
    refine hK.out _ _ HHeld (fun _ => ?_)
    clear hK K
    try simp only [Act.put, List.setIfInBounds_toArray, List.set_cons_zero, List.set_cons_succ]
    refine wpAnyH_ready (rs := [5]) (by kernel_rfl) (by simp) (AllReadyH.cons rfl (fun K hK => ?_) AllReadyH.nil)
    go_simp
    refine (show Calls Try.prog 67 #[.pointer (some ⟨S, 0, none⟩), .slice (some ⟨w6.drew.heap.size, 0, none⟩) 8 8] (w6.drew.alloc (.cells #[.int .i64 1, .int .i64 2, .int .i64 1, .int .i64 2, .int .i64 1, .int .i64 2, .int .i64 0, .int .i64 3] 2)) _ from l01Pick_new (HDW.out.drew).src [1, 2, 1, 2, 1, 2, 0, 3] (by simp) (by simp)).mono ?_
    rintro e w9 ⟨x, rfl, hx, hd4, -⟩
    have HX := Lib.hid hx
    have HD34 := Lib.hid ((Dr.refl HDW.out.src).drew.trans hd4)
    have HK34 := Lib.hid HD34.out.keep
    have hs4 := HD34.out.size
    clear hx hd4
    have HHeld := KS.out _ (HK34.out.mono (fun x e => .inl e))
    refine hK.out _ _ HHeld (fun _ => ?_)
    clear hK K
    try simp only [Act.put, List.setIfInBounds_toArray, List.set_cons_zero, List.set_cons_succ]
    have lb0 := (((HK1.out.trans HDW.out.keep (fun _ _ e => e)).trans (HK34.out) (fun _ _ e => e)).block (w.heap.size) (by omega) (by omega)).trans HR0.out
    have n0_0 := boxC_of_heap lb0 0 _ rfl
    have n0_1 := boxC_of_heap lb0 1 _ rfl
    have n0_2 := boxC_of_heap lb0 2 _ rfl
    have n0_3 := boxC_of_heap lb0 3 _ rfl
    have n0_4 := boxC_of_heap lb0 4 _ rfl
    have fr0 := frozen_of_heap lb0
    have f0_0 := fr0 0
    have f0_1 := fr0 1
    have f0_2 := fr0 2
    have f0_3 := fr0 3
    have f0_4 := fr0 4
    have HLB0 := Lib.hid lb0
    clear lb0 fr0
    refine wpAnyH_ready (rs := [6]) (by kernel_rfl) (by simp) (AllReadyH.cons rfl (fun K hK => ?_) AllReadyH.nil)
    go_simp
    have HHeld := KS.out _ (((HK34.out).mono (fun x e => .inl e)).trans ((((((KeepF.refl (fun x => x = S ∨ (w.heap.size ≤ x ∧ x < w.heap.size + 1)) w9).setCell (p := ⟨w.heap.size, 0, none⟩) (.inl (.inr ⟨by simp only; omega, by simp only; omega⟩)) (.int .i64 m.c)).setCell (p := ⟨w.heap.size, 1, none⟩) (.inl (.inr ⟨by simp only; omega, by simp only; omega⟩)) (.int .i64 m.d)).setCell (p := ⟨w.heap.size, 2, none⟩) (.inl (.inr ⟨by simp only; omega, by simp only; omega⟩)) (.int .i64 m.s)).setCell (p := ⟨w.heap.size, 3, none⟩) (.inl (.inr ⟨by simp only; omega, by simp only; omega⟩)) (.int .i64 m.a)).setCell (p := ⟨w.heap.size, 4, none⟩) (.inl (.inr ⟨by simp only; omega, by simp only; omega⟩)) (.int .i64 m.l)) (fun _ _ e => e))
    refine hK.out _ _ HHeld (fun _ => ?_)
    clear hK K
    try simp only [Act.put, List.setIfInBounds_toArray, List.set_cons_zero, List.set_cons_succ]
    refine takeD (i := 7) (some 3) (.slice Z zs.length qz) rfl (by kernel_rfl) (by kernel_rfl) (by kernel_rfl) (by kernel_rfl) (fun _ _ _ h => h) (by assumption) (Or.inl ⟨by rfl, fun w hSw => by (try dsimp only at hSw); go_simp⟩) ?_
    simp only [Act.put, List.setIfInBounds_toArray, List.set_cons_zero, List.set_cons_succ]
    refine takeD (i := 8) (some 4) (.int .i64 (a + 1 - z)) rfl (by kernel_rfl) (by kernel_rfl) (by kernel_rfl) (by kernel_rfl) (fun _ _ _ h => h) (by assumption) (Or.inl ⟨by rfl, fun w hSw => by (try dsimp only at hSw); go_simp⟩) ?_
    simp only [Act.put, List.setIfInBounds_toArray, List.set_cons_zero, List.set_cons_succ]
    refine takeD (i := 9) (some 5) (.int .i64 x) rfl (by kernel_rfl) (by kernel_rfl) (by kernel_rfl) (by kernel_rfl) (fun _ _ _ h => h) (by assumption) (Or.inl ⟨by rfl, fun w hSw => by (try dsimp only at hSw); go_simp⟩) ?_
    simp only [Act.put, List.setIfInBounds_toArray, List.set_cons_zero, List.set_cons_succ]
    refine wpAnyH_done (by kernel_rfl) ?_ _
    clear KS
    go_wp2_with fail
    have lb0 := HLB0.out
    obtain ⟨wz, hwz⟩ : ∃ wz, wz = ((((w9.setCell ⟨w.heap.size, 0, none⟩ (.int .i64 m.c)).setCell ⟨w.heap.size, 1, none⟩ (.int .i64 m.d)).setCell ⟨w.heap.size, 2, none⟩ (.int .i64 m.s)).setCell ⟨w.heap.size, 3, none⟩ (.int .i64 m.a)).setCell ⟨w.heap.size, 4, none⟩ (.int .i64 m.l) := ⟨_, rfl⟩
    rw [← hwz]
    have kz : KeepF (fun x => w.heap.size ≤ x ∧ x < w.heap.size + 1) w9 wz := by rw [hwz]; exact (((((KeepF.refl (fun x => w.heap.size ≤ x ∧ x < w.heap.size + 1) w9).setCell (p := ⟨w.heap.size, 0, none⟩) (.inl ⟨by simp only; omega, by simp only; omega⟩) _).setCell (p := ⟨w.heap.size, 1, none⟩) (.inl ⟨by simp only; omega, by simp only; omega⟩) _).setCell (p := ⟨w.heap.size, 2, none⟩) (.inl ⟨by simp only; omega, by simp only; omega⟩) _).setCell (p := ⟨w.heap.size, 3, none⟩) (.inl ⟨by simp only; omega, by simp only; omega⟩) _).setCell (p := ⟨w.heap.size, 4, none⟩) (.inl ⟨by simp only; omega, by simp only; omega⟩) _
    have e0 : wz.heap[w.heap.size]? = some (.cells #[.int .i64 m.c, .int .i64 m.d, .int .i64 m.s, .int .i64 m.a, .int .i64 m.l] 25 (0, 0)) := by rw [hwz]; simp [World.setCell, Array.getElem?_modify, lb0]
    (try simp only [Exit.inBlock, Exit.then])
    refine bodyPost_ret (results_one3 rfl _ _ (w.heap.size) 25 #[.int .i64 m.c, .int .i64 m.d, .int .i64 m.s, .int .i64 m.a, .int .i64 m.l] (0, 0) _ (by rfl) e0 Try.underlying25 rfl (by kernel_rfl)) rfl ?_
    have hdz := HDW.out.trans HD34.out
    have kt : KeepF (fun x => w.heap.size ≤ x) w wz := ((KeepF.ofBelow (F := fun x => w.heap.size ≤ x) (HB1.out.mono (Nat.le_refl _))).trans (hdz.keep.mono fun x e => by omega) (fun _ _ e => e)).trans (kz.mono fun x e => e.1) (fun _ _ e => e)
    have hxx := HX.out
    simp at hxx
    exact ⟨m, Z, qz, zs, (a + 1 - z), x, rfl, HZ.out.1, (((HZ.out.2.dr (by omega) HDX3.out).dr (by omega) HD34.out).keepF kz (fun x e => by omega)).1, by have := HMD.out; simp only [MkD] at this; omega, by omega, kt.toBelow (Nat.le_refl _) (fun x hx e => by omega)⟩
end Go.Proofs.Ythjfilhcfjpinaa
