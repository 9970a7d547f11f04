/- The walk of the law FnGhosts. -/
import Derived.Test.YthjfilhcfjpinaaLikeG
import Derived.Test.YthjfilhcfjpinaaDrGh2
import Derived.Test.YthjfilhcfjpinaaPLaw14
namespace Go.Proofs.Ythjfilhcfjpinaa.fnGhosts
set_option linter.unusedVariables false
open Go.RowKit
set_option maxRecDepth 100000 in
set_option maxHeartbeats 16000000 in
theorem walk (A : Option Addr) (c : Nat) (bs : List Int) (w : World) (h : RCode w A bs) :
    Calls Try.prog 3 #[.slice A bs.length c] w fun e w' => e = .returned (.bool true) ∧ Below w.heap.size w w' := by
  have HC := Lib.hid h
  clear h
  by_cases hbig : (bs.length : Int) > 4096
  · have HBG := big_any A bs.length c w
    rw [decide_eq_true hbig] at HBG
    have HBB := Lib.hid HBG
    clear hbig HBG
    go_enter Try.func3, Try.ntmps3
    go_wp2_with fail
    refine HBB.out.mono ?_
    rintro e w1 ⟨rfl, rfl⟩
    go_wp2_with fail
    go_ret
    exact ⟨rfl, Below.refl _ _⟩
  · have HBG := big_any A bs.length c w
    rw [decide_eq_false hbig] at HBG
    have HBB := Lib.hid HBG
    clear hbig HBG
    go_enter Try.func3, Try.ntmps3
    go_wp2_with fail
    refine HBB.out.mono ?_
    rintro e w1 ⟨rfl, rfl⟩
    have HB := Lib.hid (Below.refl w.heap.size w)
    have E1 := Lib.hid (drawGhostsOf_any A c bs w HC.out)
    go_wp2_with fail
    refine E1.out.mono ?_
    rintro e v1 ⟨m, D, q, l, KA, qk, al, most, rfl, h1, h2, hm, hb⟩
    clear E1
    replace HB := Lib.hid (HB.out.trans (hb.mono HB.out.size))
    have HL := Lib.hid (h1)
    have HA := Lib.hid (h2)
    clear h1 h2 hb
    have HWF := Lib.hid (wf_small hm)
    have HMO := Lib.hid hm
    clear hm
    obtain ⟨v1b, hv1b⟩ : ∃ wb, wb = (v1.alloc (.cells #[.int .i64 m.c, .int .i64 m.d, .int .i64 m.s, .int .i64 m.a, .int .i64 m.l] 25)).alloc (.cells #[.slice D l.length q] 28) := ⟨_, rfl⟩
    have hbx : Below v1.heap.size v1 v1b := by rw [hv1b]; exact ((Below.refl _ _).alloc (Nat.le_refl _) _).alloc (by simp only [World.size_alloc]; omega) _
    replace HL := Lib.hid (HL.out.below hbx)
    replace HA := Lib.hid (HA.out.below hbx)
    replace HB := Lib.hid (HB.out.trans (hbx.mono HB.out.size))
    have HBM := Lib.hid (show BoxC v1b (v1.heap.size) 0 (mkCells m) by rw [hv1b]; exact (BoxC.new (w := v1) (mkCells m) rfl).below ((Below.refl _ _).alloc (Nat.le_refl _) _))
    have HBL := Lib.hid (show BoxC v1b (v1.heap.size + 1) 0 [.slice D l.length q] by rw [hv1b]; exact BoxC.new (w := (v1.alloc (.cells #[.int .i64 m.c, .int .i64 m.d, .int .i64 m.s, .int .i64 m.a, .int .i64 m.l] 25))) [.slice D l.length q] (by simp))
    clear hbx
    rcases hg : ghostsOfR m l al most with ⟨gs, kg⟩
    rcases hn : cGhostsR m l al with ⟨n, kn⟩
    rcases hbd : ghostBoundR m l al with ⟨b, kb⟩
    have HGE := Lib.hid hg
    have HNE := Lib.hid hn
    have HBE := Lib.hid hbd
    clear hg hn hbd
    have E2 := Lib.hid (by have := implGhostsOf_any m D q l KA qk al most v1b HL.out HA.out HWF.out; rw [HGE.out] at this; exact this)
    go_wp2_with fail
    rw [← hv1b]
    clear hv1b 
    refine E2.out.mono ?_
    rintro e v2 ⟨A2, c2, rfl, _, hr, _, hb⟩
    clear E2
    replace HL := Lib.hid (HL.out.below hb)
    replace HA := Lib.hid (HA.out.below hb)
    replace HBM := Lib.hid (HBM.out.below hb)
    replace HBL := Lib.hid (HBL.out.below hb)
    replace HB := Lib.hid (HB.out.trans (hb.mono HB.out.size))
    have HR2 := Lib.hid (show RII v2 A2 gs from hr)
    clear hr hb
    have E3 := Lib.hid (by have := specGhostsOf_any m D q l KA qk al most v2 HL.out HA.out HWF.out; rw [HGE.out] at this; exact this)
    obtain ⟨q0_0, q0_1, q0_2, q0_3, q0_4, _⟩ := HBM.out
    simp only [Nat.zero_add] at q0_1 q0_2 q0_3 q0_4
    obtain ⟨q1_0, _⟩ := HBL.out
    go_wp2_with fail
    clear q0_0 q0_1 q0_2 q0_3 q0_4 q1_0
    refine E3.out.mono ?_
    rintro e v3 ⟨A3, c3, rfl, _, hr, hb⟩
    clear E3
    replace HL := Lib.hid (HL.out.below hb)
    replace HA := Lib.hid (HA.out.below hb)
    replace HBM := Lib.hid (HBM.out.below hb)
    replace HBL := Lib.hid (HBL.out.below hb)
    replace HR2 := Lib.hid (HR2.out.below hb)
    replace HB := Lib.hid (HB.out.trans (hb.mono HB.out.size))
    have HR3 := Lib.hid (show RII v3 A3 gs from hr)
    clear hr hb
    have E4 := Lib.hid (by have := implCountGhosts_any m D q l KA qk al v3 HL.out HA.out; rw [HNE.out] at this; exact this)
    obtain ⟨q0_0, q0_1, q0_2, q0_3, q0_4, _⟩ := HBM.out
    simp only [Nat.zero_add] at q0_1 q0_2 q0_3 q0_4
    obtain ⟨q1_0, _⟩ := HBL.out
    go_wp2_with fail
    clear q0_0 q0_1 q0_2 q0_3 q0_4 q1_0
    refine E4.out.mono ?_
    rintro e v4 ⟨rfl, hb⟩
    clear E4
    replace HL := Lib.hid (HL.out.below hb)
    replace HA := Lib.hid (HA.out.below hb)
    replace HBM := Lib.hid (HBM.out.below hb)
    replace HBL := Lib.hid (HBL.out.below hb)
    replace HR2 := Lib.hid (HR2.out.below hb)
    replace HR3 := Lib.hid (HR3.out.below hb)
    replace HB := Lib.hid (HB.out.trans (hb.mono HB.out.size))
    clear hb
    have E5 := Lib.hid (by have := specCountGhosts_any m D q l KA qk al v4 HL.out HA.out; rw [HNE.out] at this; exact this)
    obtain ⟨q0_0, q0_1, q0_2, q0_3, q0_4, _⟩ := HBM.out
    simp only [Nat.zero_add] at q0_1 q0_2 q0_3 q0_4
    obtain ⟨q1_0, _⟩ := HBL.out
    go_wp2_with fail
    clear q0_0 q0_1 q0_2 q0_3 q0_4 q1_0
    refine E5.out.mono ?_
    rintro e v5 ⟨rfl, hb⟩
    clear E5
    replace HL := Lib.hid (HL.out.below hb)
    replace HA := Lib.hid (HA.out.below hb)
    replace HBM := Lib.hid (HBM.out.below hb)
    replace HBL := Lib.hid (HBL.out.below hb)
    replace HR2 := Lib.hid (HR2.out.below hb)
    replace HR3 := Lib.hid (HR3.out.below hb)
    replace HB := Lib.hid (HB.out.trans (hb.mono HB.out.size))
    clear hb
    have E6 := Lib.hid (by have := implGhostBound_any m D q l KA qk al v5 HL.out HA.out; rw [HBE.out] at this; exact this)
    obtain ⟨q0_0, q0_1, q0_2, q0_3, q0_4, _⟩ := HBM.out
    simp only [Nat.zero_add] at q0_1 q0_2 q0_3 q0_4
    obtain ⟨q1_0, _⟩ := HBL.out
    go_wp2_with fail
    clear q0_0 q0_1 q0_2 q0_3 q0_4 q1_0
    refine E6.out.mono ?_
    rintro e v6 ⟨rfl, hb⟩
    clear E6
    replace HL := Lib.hid (HL.out.below hb)
    replace HA := Lib.hid (HA.out.below hb)
    replace HBM := Lib.hid (HBM.out.below hb)
    replace HBL := Lib.hid (HBL.out.below hb)
    replace HR2 := Lib.hid (HR2.out.below hb)
    replace HR3 := Lib.hid (HR3.out.below hb)
    replace HB := Lib.hid (HB.out.trans (hb.mono HB.out.size))
    clear hb
    have E7 := Lib.hid (by have := specGhostBound_any m D q l KA qk al v6 HL.out HA.out; rw [HBE.out] at this; exact this)
    obtain ⟨q0_0, q0_1, q0_2, q0_3, q0_4, _⟩ := HBM.out
    simp only [Nat.zero_add] at q0_1 q0_2 q0_3 q0_4
    obtain ⟨q1_0, _⟩ := HBL.out
    go_wp2_with fail
    clear q0_0 q0_1 q0_2 q0_3 q0_4 q1_0
    refine E7.out.mono ?_
    rintro e v7 ⟨rfl, hb⟩
    clear E7
    replace HL := Lib.hid (HL.out.below hb)
    replace HA := Lib.hid (HA.out.below hb)
    replace HBM := Lib.hid (HBM.out.below hb)
    replace HBL := Lib.hid (HBL.out.below hb)
    replace HR2 := Lib.hid (HR2.out.below hb)
    replace HR3 := Lib.hid (HR3.out.below hb)
    replace HB := Lib.hid (HB.out.trans (hb.mono HB.out.size))
    clear hb
    have E8 := Lib.hid (likeListsB (c := c2) (d := c3) HR2.out HR3.out)
    go_wp2_with fail
    refine E8.out.mono ?_
    rintro e v8 ⟨rfl, hb⟩
    clear E8
    replace HL := Lib.hid (HL.out.below hb)
    replace HA := Lib.hid (HA.out.below hb)
    replace HBM := Lib.hid (HBM.out.below hb)
    replace HBL := Lib.hid (HBL.out.below hb)
    replace HR2 := Lib.hid (HR2.out.below hb)
    replace HR3 := Lib.hid (HR3.out.below hb)
    replace HB := Lib.hid (HB.out.trans (hb.mono HB.out.size))
    clear hb
    by_cases hk : kg = 0
    rotate_left
    · have hk' : (kg != 0) = true := by simpa using hk
      go_wp2_with fail
      go_ret
      exact ⟨rfl, HB.out⟩
    · subst hk
      obtain ⟨hal, hmo, hgr⟩ := ghostsOf_0 (m := m) (l := l) (al := al) (most := most) (by rw [HGE.out])
      have hgs : gs = (ghosts m l al).take most.toNat := by have := HGE.out; rw [hgr] at this; injection this with e1 e2; exact e1.symm
      have hn0 : n = ((ghosts m l al).length : Int) := by have := HNE.out; unfold cGhostsR at this; rw [if_pos hal] at this; injection this with e1 e2; exact e1.symm
      have hgb := ghosts_bound hal
      rw [HBE.out] at hgb
      have hnb : n ≤ b := by rw [hn0]; exact hgb.2
      have hmin : (gs.length : Int) = min most n := by rw [hgs, List.length_take, hn0]; omega
      have hle : gs.length ≤ 300 := by rw [hgs, List.length_take]; omega
      have HEA := Lib.hid (show ∀ k (hk : k < gs.length), isGhostR m l al gs[k] = (true, 0) ∧ hasL al gs[k] = false from fun k hk => by
        have h2 : ∀ x, x ∈ gs → x ∈ ghosts m l al := fun x hx => by rw [hgs] at hx; exact List.mem_of_mem_take hx
        exact ghosts_each hal (h2 _ (List.getElem_mem hk)))
      have HMN := Lib.hid hmin
      clear hal hmo hgr hgs hn0 hgb hmin
      go_wp2_with fail
      go_loopw [19, 20, 21] (fun i _ _ wr => ∃ k : Nat, i = .int .i64 k ∧ k ≤ gs.length ∧ Below v8.heap.size v8 wr) (fun i _ _ _ => gs.length - (intOf i).toNat)
      case atStart => exact ⟨0, rfl, by omega, Below.refl _ _⟩
      case round =>
        obtain ⟨k, rfl, hk, hb⟩ := hrel
        have HBr := Lib.hid hb
        have hsr := hb.size
        by_cases hlt : k < gs.length
        · obtain ⟨bG, oG, A', c', rfl, hcell, hcc, hrow⟩ := (HR2.out.below hb).at_ hlt
          have hea := HEA.out k hlt
          obtain ⟨ys, hys⟩ : ∃ ys, ys = gs[k] := ⟨_, rfl⟩
          rw [← hys] at hcell hcc hrow hea
          have HYS := Lib.hid hys
          have HRO := Lib.hid hrow
          have HQ := Lib.hid hcc
          have HE1 := Lib.hid hea.1; have HE2 := Lib.hid hea.2
          have i0 : (0 : Int) ≤ (k : Int) := by omega
          have i1 : (k : Int) < (gs.length : Int) := by omega
          obtain ⟨x0, x1, x2, x3, x4, _⟩ := HBM.out.below hb
          obtain ⟨y0, _⟩ := HBL.out.below hb
          simp only [Nat.zero_add] at x1 x2 x3 x4
          have KS := Lib.hid (show ∀ w' : World, Below wr.heap.size wr w' → (w'.cell? ⟨v1.heap.size, 0, none⟩ = some (.int .i64 m.c) ∧ w'.cell? ⟨v1.heap.size, 1, none⟩ = some (.int .i64 m.d) ∧ w'.cell? ⟨v1.heap.size, 2, none⟩ = some (.int .i64 m.s) ∧ w'.cell? ⟨v1.heap.size, 3, none⟩ = some (.int .i64 m.a) ∧ w'.cell? ⟨v1.heap.size, 4, none⟩ = some (.int .i64 m.l) ∧ w'.cell? ⟨v1.heap.size + 1, 0, none⟩ = some (.slice D l.length q) ∧ w'.cell? ⟨bG, oG + k, none⟩ = some (.slice A' ys.length c')) from fun w' hw =>
            ⟨cell_in hw (World.block_lt_of_cell? _ _ x0) x0, cell_in hw (World.block_lt_of_cell? _ _ x1) x1, cell_in hw (World.block_lt_of_cell? _ _ x2) x2, cell_in hw (World.block_lt_of_cell? _ _ x3) x3, cell_in hw (World.block_lt_of_cell? _ _ x4) x4, cell_in hw (World.block_lt_of_cell? _ _ y0) y0, cell_in hw (World.block_lt_of_cell? _ _ hcell) hcell⟩)
          clear hea hys hrow hcc x0 x1 x2 x3 x4 y0 hcell hb
          go_wp2_with fail
          refine wp_region_held_drew (S := (fun w' => (w'.cell? ⟨v1.heap.size, 0, none⟩ = some (.int .i64 m.c) ∧ w'.cell? ⟨v1.heap.size, 1, none⟩ = some (.int .i64 m.d) ∧ w'.cell? ⟨v1.heap.size, 2, none⟩ = some (.int .i64 m.s) ∧ w'.cell? ⟨v1.heap.size, 3, none⟩ = some (.int .i64 m.a) ∧ w'.cell? ⟨v1.heap.size, 4, none⟩ = some (.int .i64 m.l) ∧ w'.cell? ⟨v1.heap.size + 1, 0, none⟩ = some (.slice D l.length q) ∧ w'.cell? ⟨bG, oG + k, none⟩ = some (.slice A' ys.length c')))) (by kernel_rfl) (KS.out _ (belowDrew0 _)) (fun hHeld => ?_)
          refine takeD (i := 0) (some 113) (.agg #[.int .i64 m.c, .int .i64 m.d, .int .i64 m.s, .int .i64 m.a, .int .i64 m.l]) rfl (by kernel_rfl) (by kernel_rfl) (by kernel_rfl) (by kernel_rfl) (fun _ _ _ h => h) (by assumption) (Or.inl ⟨by rfl, fun w hSw => by (try dsimp only at hSw); go_simp⟩) ?_
          simp only [Act.put, List.setIfInBounds_toArray, List.set_cons_zero, List.set_cons_succ]
          refine takeD (i := 1) (some 114) (.agg #[.slice D l.length q]) rfl (by kernel_rfl) (by kernel_rfl) (by kernel_rfl) (by kernel_rfl) (fun _ _ _ h => h) (by assumption) (Or.inl ⟨by rfl, fun w hSw => by (try dsimp only at hSw); go_simp⟩) ?_
          simp only [Act.put, List.setIfInBounds_toArray, List.set_cons_zero, List.set_cons_succ]
          refine takeD (i := 2) (some 115) (.slice KA al.length qk) rfl (by kernel_rfl) (by kernel_rfl) (by kernel_rfl) (by kernel_rfl) (fun _ _ _ h => h) (by assumption) (Or.inl ⟨by rfl, fun w hSw => by (try dsimp only at hSw); go_simp⟩) ?_
          simp only [Act.put, List.setIfInBounds_toArray, List.set_cons_zero, List.set_cons_succ]
          refine takeD (i := 3) (some 116) (.slice (some ⟨bG, oG, none⟩) gs.length c2) rfl (by kernel_rfl) (by kernel_rfl) (by kernel_rfl) (by kernel_rfl) (fun _ _ _ h => h) (by assumption) (Or.inl ⟨by rfl, fun w hSw => by (try dsimp only at hSw); go_simp⟩) ?_
          simp only [Act.put, List.setIfInBounds_toArray, List.set_cons_zero, List.set_cons_succ]
          refine takeD (i := 4) (some 117) (.int .i64 (k : Int)) rfl (by kernel_rfl) (by kernel_rfl) (by kernel_rfl) (by kernel_rfl) (fun _ _ _ h => h) (by assumption) (Or.inl ⟨by rfl, fun w hSw => by (try dsimp only at hSw); go_simp⟩) ?_
          simp only [Act.put, List.setIfInBounds_toArray, List.set_cons_zero, List.set_cons_succ]
          refine takeD (i := 5) (some 118) (.pointer (some ⟨bG, oG + k, none⟩)) rfl (by kernel_rfl) (by kernel_rfl) (by kernel_rfl) (by kernel_rfl) (fun _ _ _ h => h) (by assumption) (Or.inl ⟨by rfl, fun w hSw => by (try dsimp only at hSw); go_simp⟩) ?_
          simp only [Act.put, List.setIfInBounds_toArray, List.set_cons_zero, List.set_cons_succ]
          refine takeD (i := 6) (some 119) (.slice A' ys.length c') rfl (by kernel_rfl) (by kernel_rfl) (by kernel_rfl) (by kernel_rfl) (fun _ _ _ h => h) (by assumption) (Or.inl ⟨by rfl, fun w hSw => by (try dsimp only at hSw); go_simp⟩) ?_
          simp only [Act.put, List.setIfInBounds_toArray, List.set_cons_zero, List.set_cons_succ]
          refine wpAnyH_ready (rs := [7]) (by kernel_rfl) (by simp) (AllReadyH.cons rfl (fun K hK => ?_) AllReadyH.nil)
          go_simp
          have EG := Lib.hid (by have := implIsGhost_any m D q l KA qk al A' c' ys wr.drew ((HL.out.below HBr.out).below (belowDrew0 _)) ((HA.out.below HBr.out).below (belowDrew0 _)) (HRO.out.below (belowDrew0 _)) HQ.out; rw [HE1.out] at this; exact this)
          refine EG.out.mono ?_
          rintro e wg ⟨rfl, hbg⟩
          have HBg := Lib.hid (belowDrew hbg)
          clear hbg EG
          have HHeld := KS.out _ HBg.out
          refine hK.out _ _ HHeld (fun _ => ?_)
          clear hK K
          refine takeD (i := 8) (some 112) (.tuple #[.bool true, .int .i64 0]) rfl (by kernel_rfl) (by kernel_rfl) (by kernel_rfl) (by kernel_rfl) (fun _ _ _ h => h) (by assumption) (Or.inl ⟨by rfl, fun w hSw => by (try dsimp only at hSw); go_simp⟩) ?_
          simp only [Act.put, List.setIfInBounds_toArray, List.set_cons_zero, List.set_cons_succ]
          refine takeD (i := 9) (some 121) (.bool true) rfl (by kernel_rfl) (by kernel_rfl) (by kernel_rfl) (by kernel_rfl) (fun _ _ _ h => h) (by assumption) (Or.inl ⟨by rfl, fun w hSw => by (try dsimp only at hSw); go_simp⟩) ?_
          simp only [Act.put, List.setIfInBounds_toArray, List.set_cons_zero, List.set_cons_succ]
          refine takeD (i := 10) (some 122) (.int .i64 0) rfl (by kernel_rfl) (by kernel_rfl) (by kernel_rfl) (by kernel_rfl) (fun _ _ _ h => h) (by assumption) (Or.inl ⟨by rfl, fun w hSw => by (try dsimp only at hSw); go_simp⟩) ?_
          simp only [Act.put, List.setIfInBounds_toArray, List.set_cons_zero, List.set_cons_succ]
          refine takeD (i := 11) (some 20) (.bool true) rfl (by kernel_rfl) (by kernel_rfl) (by kernel_rfl) (by kernel_rfl) (fun _ _ _ h => h) (by assumption) (Or.inl ⟨by rfl, fun w hSw => by (try dsimp only at hSw); go_simp⟩) ?_
          simp only [Act.put, List.setIfInBounds_toArray, List.set_cons_zero, List.set_cons_succ]
          refine takeD (i := 12) (some 21) (.int .i64 0) rfl (by kernel_rfl) (by kernel_rfl) (by kernel_rfl) (by kernel_rfl) (fun _ _ _ h => h) (by assumption) (Or.inl ⟨by rfl, fun w hSw => by (try dsimp only at hSw); go_simp⟩) ?_
          simp only [Act.put, List.setIfInBounds_toArray, List.set_cons_zero, List.set_cons_succ]
          refine wpAnyH_done (by kernel_rfl) ?_ _
          have hcell := (KS.out _ HBg.out).2.2.2.2.2.2
          clear KS
          have HX := Lib.hid (by have := hasListB (c := qk) (d := c') ((HA.out.below HBr.out).below HBg.out) (HRO.out.below HBg.out); rw [HE2.out] at this; exact this)
          go_wp2_with fail
          clear hcell
          refine HX.out.mono ?_
          rintro e wx ⟨rfl, hbx⟩
          have HBx := Lib.hid (HBr.out.trans ((HBg.out.trans (hbx.mono HBg.out.size)).mono hsr))
          clear hbx HX
          go_wp2_with fail
          go_roundw
          case rel => exact ⟨k + 1, by go_num, by omega, HBx.out⟩
          case measure => simp [intOf]; omega
        · obtain rfl : k = gs.length := by omega
          have hmn := HMN.out
          go_wp2_with fail
          go_ret
          exact ⟨retB (by first | (simp; done) | (simp; omega)), HB.out.trans (HBr.out.mono HB.out.size)⟩
end Go.Proofs.Ythjfilhcfjpinaa.fnGhosts
