/- The walk of the law FnHarmless. -/
import Derived.Test.YthjfilhcfjpinaaLikeG
import Derived.Test.YthjfilhcfjpinaaDrGh2
import Derived.Test.YthjfilhcfjpinaaPHarmLaw
import Derived.Test.YthjfilhcfjpinaaFHarmS
import Derived.Test.YthjfilhcfjpinaaFOpens
import Derived.Test.YthjfilhcfjpinaaDice
namespace Go.Proofs.Ythjfilhcfjpinaa.fnHarmless
set_option linter.unusedVariables false
open Go.RowKit
theorem diceB {S : Nat} {A : Option Addr} {c : Nat} {bs : List Int} {w w' : World} (h : Dice S A c bs w) (hb : Below (S + 1) w w') (hr : RV w' A (bytesV bs)) : Dice S A c bs w' := by
  obtain ⟨p, s, hp, x0, x1, x2, _⟩ := h.box
  have hs := hb.size
  exact ⟨by have := h.xl; omega, hr, h.nS, h.by_, (hb.frozen (p := ⟨S, 1, none⟩) (Nat.lt_succ_self S)).trans h.f1, (hb.frozen (p := ⟨S, 2, none⟩) (Nat.lt_succ_self S)).trans h.f2, p, s, hp, cell_in hb (Nat.lt_succ_self S) x0, cell_in hb (Nat.lt_succ_self S) x1, cell_in hb (Nat.lt_succ_self S) x2, trivial⟩
theorem countB {m : Mk} {D : Option Addr} {q : Nat} {l : List (List Int)} {w : World} {n : Int} (h : RII w D l) (hn : (n, 0) = cOpenersR m l) : Calls Try.prog 28 #[.agg #[.int .i64 m.c, .int .i64 m.d, .int .i64 m.s, .int .i64 m.a, .int .i64 m.l], .agg #[.slice D l.length q]] w fun e w' => e = .returned (.tuple #[.int .i64 n, .int .i64 0]) ∧ Below w.heap.size w w' := by
  have := implCountOpeners_any m D q l w h
  rw [← hn] at this
  exact this
/-- the sets in growth -/
def SETS (B : Nat) (w : World) (v : Value) (us : List Value) (xss : List (List Int)) : Prop := NEST 0 w v us xss ∧ ∀ g, v.ownBlock = some g → B ≤ g
set_option maxRecDepth 100000 in
set_option maxHeartbeats 16000000 in
theorem walk (A : Option Addr) (c : Nat) (bs : List Int) (w : World) (h : RCode w A bs) :
    Calls Try.prog 4 #[.slice A bs.length c] w fun e w' => e = .returned (.bool true) ∧ Below w.heap.size w w' := by
  have HC := Lib.hid h
  clear h
  by_cases hbig : (bs.length : Int) > 4096
  · have HBG := big_any A bs.length c w
    rw [decide_eq_true hbig] at HBG
    have HBB := Lib.hid HBG
    clear hbig HBG
    go_enter Try.func4, Try.ntmps4
    go_wp2_with fail
    refine HBB.out.mono ?_
    rintro e w1 ⟨rfl, rfl⟩
    go_wp2_with fail
    go_ret
    exact ⟨rfl, Below.refl _ _⟩
  · have HBG := big_any A bs.length c w
    rw [decide_eq_false hbig] at HBG
    have HBB := Lib.hid HBG
    clear hbig HBG
    go_enter Try.func4, Try.ntmps4
    go_wp2_with fail
    refine HBB.out.mono ?_
    rintro e w1 ⟨rfl, rfl⟩
    have HB := Lib.hid (Below.refl w.heap.size w)
    have E1 := Lib.hid (drawHarmless_any A c bs w HC.out)
    go_wp2_with fail
    refine E1.out.mono ?_
    rintro e v1 ⟨m, D, q, l, X, qx, al, rfl, h1, h2, hb⟩
    clear E1
    replace HB := Lib.hid (HB.out.trans (hb.mono HB.out.size))
    have HL := Lib.hid (h1)
    have HA := Lib.hid (h2)
    clear h1 h2 hb
    obtain ⟨v1b, hv1b⟩ : ∃ wb, wb = (v1.alloc (.cells #[.int .i64 m.c, .int .i64 m.d, .int .i64 m.s, .int .i64 m.a, .int .i64 m.l] 25)).alloc (.cells #[.slice D l.length q] 28) := ⟨_, rfl⟩
    have hbx : Below v1.heap.size v1 v1b := by rw [hv1b]; exact ((Below.refl _ _).alloc (Nat.le_refl _) _).alloc (by simp only [World.size_alloc]; omega) _
    replace HL := Lib.hid (HL.out.below hbx)
    replace HA := Lib.hid (HA.out.below hbx)
    replace HB := Lib.hid (HB.out.trans (hbx.mono HB.out.size))
    have HBM := Lib.hid (show BoxC v1b (v1.heap.size) 0 (mkCells m) by rw [hv1b]; exact (BoxC.new (w := v1) (mkCells m) rfl).below ((Below.refl _ _).alloc (Nat.le_refl _) _))
    have HBL := Lib.hid (show BoxC v1b (v1.heap.size + 1) 0 [.slice D l.length q] by rw [hv1b]; exact BoxC.new (w := (v1.alloc (.cells #[.int .i64 m.c, .int .i64 m.d, .int .i64 m.s, .int .i64 m.a, .int .i64 m.l] 25))) [.slice D l.length q] (by simp))
    clear hbx
    rcases hg : harmR m l al with ⟨hm, kh⟩
    have HGE := Lib.hid hg
    clear hg
    have E2 := Lib.hid (by have := implHarmlessDepths_any m D q l X qx al v1b HL.out HA.out; rw [HGE.out] at this; exact this)
    go_wp2_with fail
    rw [← hv1b]
    clear hv1b 
    refine E2.out.mono ?_
    rintro e v2 ⟨A2, c2, rfl, _, hr, _, hb⟩
    clear E2
    replace HL := Lib.hid (HL.out.below hb)
    replace HA := Lib.hid (HA.out.below hb)
    replace HBM := Lib.hid (HBM.out.below hb)
    replace HBL := Lib.hid (HBL.out.below hb)
    replace HB := Lib.hid (HB.out.trans (hb.mono HB.out.size))
    have HR2 := Lib.hid (show RII v2 A2 hm from hr)
    clear hr hb
    have E3 := Lib.hid (by have := specHarmlessDepths_any m D q l X qx al v2 HL.out HA.out; rw [HGE.out] at this; exact this)
    obtain ⟨q0_0, q0_1, q0_2, q0_3, q0_4, _⟩ := HBM.out
    simp only [Nat.zero_add] at q0_1 q0_2 q0_3 q0_4
    obtain ⟨q1_0, _⟩ := HBL.out
    go_wp2_with fail
    clear q0_0 q0_1 q0_2 q0_3 q0_4 q1_0
    refine E3.out.mono ?_
    rintro e v3 ⟨A3, c3, rfl, hc3, hr, _, hb⟩
    clear E3
    replace HL := Lib.hid (HL.out.below hb)
    replace HA := Lib.hid (HA.out.below hb)
    replace HBM := Lib.hid (HBM.out.below hb)
    replace HBL := Lib.hid (HBL.out.below hb)
    replace HR2 := Lib.hid (HR2.out.below hb)
    replace HB := Lib.hid (HB.out.trans (hb.mono HB.out.size))
    have HR3 := Lib.hid (show RII v3 A3 hm from hr)
    clear hr hb
    have E4 := Lib.hid (drawIsGhost_any A c bs v3 (HC.out.below HB.out))
    go_wp2_with fail
    refine E4.out.mono ?_
    rintro e v4 ⟨m2, D2, q2, l2, X2, qx2, al2, Y, qy, ys, rfl, h1, h2, h3, hqy, hb⟩
    clear E4
    replace HL := Lib.hid (HL.out.below hb)
    replace HA := Lib.hid (HA.out.below hb)
    replace HBM := Lib.hid (HBM.out.below hb)
    replace HBL := Lib.hid (HBL.out.below hb)
    replace HR2 := Lib.hid (HR2.out.below hb)
    replace HR3 := Lib.hid (HR3.out.below hb)
    replace HB := Lib.hid (HB.out.trans (hb.mono HB.out.size))
    have HL2 := Lib.hid (h1)
    have HA2 := Lib.hid (h2)
    have HY := Lib.hid (h3)
    clear h1 h2 h3 hb
    have HQY := Lib.hid hqy
    clear hqy
    obtain ⟨v4b, hv4b⟩ : ∃ wb, wb = (v4.alloc (.cells #[.int .i64 m2.c, .int .i64 m2.d, .int .i64 m2.s, .int .i64 m2.a, .int .i64 m2.l] 25)).alloc (.cells #[.slice D2 l2.length q2] 28) := ⟨_, rfl⟩
    have hbx : Below v4.heap.size v4 v4b := by rw [hv4b]; exact ((Below.refl _ _).alloc (Nat.le_refl _) _).alloc (by simp only [World.size_alloc]; omega) _
    replace HL := Lib.hid (HL.out.below hbx)
    replace HA := Lib.hid (HA.out.below hbx)
    replace HBM := Lib.hid (HBM.out.below hbx)
    replace HBL := Lib.hid (HBL.out.below hbx)
    replace HR2 := Lib.hid (HR2.out.below hbx)
    replace HR3 := Lib.hid (HR3.out.below hbx)
    replace HL2 := Lib.hid (HL2.out.below hbx)
    replace HA2 := Lib.hid (HA2.out.below hbx)
    replace HY := Lib.hid (HY.out.below hbx)
    replace HB := Lib.hid (HB.out.trans (hbx.mono HB.out.size))
    have HBM2 := Lib.hid (show BoxC v4b (v4.heap.size) 0 (mkCells m2) by rw [hv4b]; exact (BoxC.new (w := v4) (mkCells m2) rfl).below ((Below.refl _ _).alloc (Nat.le_refl _) _))
    have HBL2 := Lib.hid (show BoxC v4b (v4.heap.size + 1) 0 [.slice D2 l2.length q2] by rw [hv4b]; exact BoxC.new (w := (v4.alloc (.cells #[.int .i64 m2.c, .int .i64 m2.d, .int .i64 m2.s, .int .i64 m2.a, .int .i64 m2.l] 25))) [.slice D2 l2.length q2] (by simp))
    clear hbx
    rcases hg : isGhostR m2 l2 al2 ys with ⟨gb, kg⟩
    have HIE := Lib.hid hg
    clear hg
    have E5 := Lib.hid (by have := implIsGhost_any m2 D2 q2 l2 X2 qx2 al2 Y qy ys v4b HL2.out HA2.out HY.out HQY.out; rw [HIE.out] at this; exact this)
    go_wp2_with fail
    rw [← hv4b]
    clear hv4b 
    refine E5.out.mono ?_
    rintro e v5 ⟨rfl, hb⟩
    clear E5
    replace HL := Lib.hid (HL.out.below hb)
    replace HA := Lib.hid (HA.out.below hb)
    replace HBM := Lib.hid (HBM.out.below hb)
    replace HBL := Lib.hid (HBL.out.below hb)
    replace HR2 := Lib.hid (HR2.out.below hb)
    replace HR3 := Lib.hid (HR3.out.below hb)
    replace HL2 := Lib.hid (HL2.out.below hb)
    replace HA2 := Lib.hid (HA2.out.below hb)
    replace HY := Lib.hid (HY.out.below hb)
    replace HBM2 := Lib.hid (HBM2.out.below hb)
    replace HBL2 := Lib.hid (HBL2.out.below hb)
    replace HB := Lib.hid (HB.out.trans (hb.mono HB.out.size))
    clear hb
    have E6 := Lib.hid (by have := specIsGhost_any m2 D2 q2 l2 X2 qx2 al2 Y qy ys v5 HL2.out HA2.out HY.out HQY.out; rw [HIE.out] at this; exact this)
    obtain ⟨q0_0, q0_1, q0_2, q0_3, q0_4, _⟩ := HBM2.out
    simp only [Nat.zero_add] at q0_1 q0_2 q0_3 q0_4
    obtain ⟨q1_0, _⟩ := HBL2.out
    go_wp2_with fail
    clear q0_0 q0_1 q0_2 q0_3 q0_4 q1_0
    refine E6.out.mono ?_
    rintro e v6 ⟨rfl, hb⟩
    clear E6
    replace HL := Lib.hid (HL.out.below hb)
    replace HA := Lib.hid (HA.out.below hb)
    replace HBM := Lib.hid (HBM.out.below hb)
    replace HBL := Lib.hid (HBL.out.below hb)
    replace HR2 := Lib.hid (HR2.out.below hb)
    replace HR3 := Lib.hid (HR3.out.below hb)
    replace HL2 := Lib.hid (HL2.out.below hb)
    replace HA2 := Lib.hid (HA2.out.below hb)
    replace HY := Lib.hid (HY.out.below hb)
    replace HBM2 := Lib.hid (HBM2.out.below hb)
    replace HBL2 := Lib.hid (HBL2.out.below hb)
    replace HB := Lib.hid (HB.out.trans (hb.mono HB.out.size))
    clear hb
    clear HL2 HA2 HY HBM2 HBL2
    have E7 := Lib.hid (likeListsB (c := c2) (d := c3) HR2.out HR3.out)
    go_wp2_with fail
    refine E7.out.mono ?_
    rintro e v7 ⟨rfl, hb⟩
    clear E7
    replace HL := Lib.hid (HL.out.below hb)
    replace HA := Lib.hid (HA.out.below hb)
    replace HBM := Lib.hid (HBM.out.below hb)
    replace HBL := Lib.hid (HBL.out.below hb)
    replace HR2 := Lib.hid (HR2.out.below hb)
    replace HR3 := Lib.hid (HR3.out.below hb)
    replace HB := Lib.hid (HB.out.trans (hb.mono HB.out.size))
    clear hb
    by_cases hk : kh = 0
    rotate_left
    · have hk' : (kh != 0) = true := by simpa using hk
      cases gb <;> (go_wp2_with fail; go_ret; exact ⟨rfl, HB.out⟩)
    · subst hk
      have hal : allowedC m l al [] = 0 := by
        have := HGE.out
        unfold harmR at this
        by_cases h0 : allowedC m l al [] = 0
        · exact h0
        · rw [if_neg h0] at this; exact absurd (congrArg Prod.snd this) h0
      have hh : hm = harmL m l l.length := by
        have := HGE.out
        unfold harmR at this
        rw [if_pos hal] at this; exact (congrArg Prod.fst this).symm
      have hlk := (allowedC_0 hal).1
      have hmk := isLock_mk hlk
      have hln := isLock_len hlk
      obtain ⟨c2', c6', d2', d8', _⟩ := mk_bounds hmk
      have HLK := Lib.hid hlk; have HHE := Lib.hid hh; have HLN := Lib.hid hln
      clear hal hh hlk hmk hln
      have hDX := HC.out.below HB.out
      have HRL := Lib.hid (roll_any A c bs 1401 v7 hDX)
      obtain ⟨Db, hDb⟩ : ∃ d, d = v7.heap.size := ⟨_, rfl⟩
      clear hDX
      go_wp2_with fail
      refine HRL.out.mono ?_
      rintro e v20 ⟨rfl, hdi, hb20, hz20⟩
      rw [← hDb] at hdi ⊢
      have hM20 : Db < v20.heap.size := by omega
      have HB20 := Lib.hid (show Below Db v7 v20 by rw [hDb]; exact hb20)
      have HMX := Lib.hid (show BoxC v20 v1.heap.size 0 (mkCells m) by exact HBM.out.below hb20)
      have hMD : v1.heap.size < Db := by rw [hDb]; exact World.block_lt_of_cell? _ _ HBM.out.1
      have HDI := Lib.hid hdi
      have HDB := Lib.hid hDb
      clear hdi hb20 hz20 HRL hDb
      have KS := Lib.hid (show ∀ w' : World, KeepF (fun x => x = Db) v20 w' → (w'.cell? ⟨v1.heap.size, 0, none⟩ = some (.int .i64 m.c) ∧ w'.cell? ⟨v1.heap.size, 1, none⟩ = some (.int .i64 m.d)) from fun w' hw => by
        obtain ⟨a0, a1, _⟩ := HMX.out.keepF hw (by omega) (by omega)
        exact ⟨a0, a1⟩)
      go_wp2_with fail
      refine wp_region_held_drew (S := (fun w' => (w'.cell? ⟨v1.heap.size, 0, none⟩ = some (.int .i64 m.c) ∧ w'.cell? ⟨v1.heap.size, 1, none⟩ = some (.int .i64 m.d)))) (by kernel_rfl) (KS.out _ (KeepF.ofBelow (belowDrew0 _))) (fun hHeld => ?_)
      refine takeD (i := 0) (some 97) (.pointer (some ⟨Db, 0, none⟩)) rfl (by kernel_rfl) (by kernel_rfl) (by kernel_rfl) (by kernel_rfl) (fun _ _ _ h => h) (by assumption) (Or.inl ⟨by rfl, fun w hSw => by (try dsimp only at hSw); go_simp⟩) ?_
      simp only [Act.put, List.setIfInBounds_toArray, List.set_cons_zero, List.set_cons_succ]
      refine takeD (i := 1) (some 98) (.pointer (some ⟨v1.heap.size, 0, none⟩)) rfl (by kernel_rfl) (by kernel_rfl) (by kernel_rfl) (by kernel_rfl) (fun _ _ _ h => h) (by assumption) (Or.inl ⟨by rfl, fun w hSw => by (try dsimp only at hSw); go_simp⟩) ?_
      simp only [Act.put, List.setIfInBounds_toArray, List.set_cons_zero, List.set_cons_succ]
      refine takeD (i := 2) (some 99) (.int .i64 m.c) rfl (by kernel_rfl) (by kernel_rfl) (by kernel_rfl) (by kernel_rfl) (fun _ _ _ h => h) (by assumption) (Or.inl ⟨by rfl, fun w hSw => by (try dsimp only at hSw); go_simp⟩) ?_
      simp only [Act.put, List.setIfInBounds_toArray, List.set_cons_zero, List.set_cons_succ]
      refine takeD (i := 4) (some 101) (.pointer (some ⟨Db, 0, none⟩)) rfl (by kernel_rfl) (by kernel_rfl) (by kernel_rfl) (by kernel_rfl) (fun _ _ _ h => h) (by assumption) (Or.inl ⟨by rfl, fun w hSw => by (try dsimp only at hSw); go_simp⟩) ?_
      simp only [Act.put, List.setIfInBounds_toArray, List.set_cons_zero, List.set_cons_succ]
      refine takeD (i := 5) (some 102) (.pointer (some ⟨v1.heap.size, 1, none⟩)) rfl (by kernel_rfl) (by kernel_rfl) (by kernel_rfl) (by kernel_rfl) (fun _ _ _ h => h) (by assumption) (Or.inl ⟨by rfl, fun w hSw => by (try dsimp only at hSw); go_simp⟩) ?_
      simp only [Act.put, List.setIfInBounds_toArray, List.set_cons_zero, List.set_cons_succ]
      refine takeD (i := 6) (some 103) (.int .i64 m.d) rfl (by kernel_rfl) (by kernel_rfl) (by kernel_rfl) (by kernel_rfl) (fun _ _ _ h => h) (by assumption) (Or.inl ⟨by rfl, fun w hSw => by (try dsimp only at hSw); go_simp⟩) ?_
      simp only [Act.put, List.setIfInBounds_toArray, List.set_cons_zero, List.set_cons_succ]
      refine wpAnyH_ready (rs := [3]) (by kernel_rfl) (by simp) (AllReadyH.cons rfl (fun K hK => ?_) AllReadyH.nil)
      go_simp
      refine (below_any Db A c bs m.c v20.drew (diceB HDI.out ((belowDrew0 _).mono (by omega)) (RV.below HDI.out.rd (belowDrew0 _))) (by omega)).mono ?_
      rintro e v21 ⟨cI, rfl, cI0, cI1, hdi, hk21, hz21⟩
      have HDI1 := Lib.hid hdi
      have HK21 := Lib.hid ((KeepF.ofBelow (F := fun x => x = Db) (belowDrew0 v20)).trans hk21 (fun _ _ e => e))
      have hs21 : v20.heap.size ≤ v21.heap.size := HK21.out.size
      clear hdi hk21 hz21
      have HHeld := KS.out _ HK21.out
      refine hK.out _ _ HHeld (fun _ => ?_)
      clear hK K
      try simp only [Act.put, List.setIfInBounds_toArray, List.set_cons_zero, List.set_cons_succ]
      refine wpAnyH_ready (rs := [7]) (by kernel_rfl) (by simp) (AllReadyH.cons rfl (fun K hK => ?_) AllReadyH.nil)
      go_simp
      refine (below_any Db A c bs m.d v21 HDI1.out (by omega)).mono ?_
      rintro e v22 ⟨dp, rfl, dp0, dp1, _, hk22, hz22⟩
      have HK22 := Lib.hid (HK21.out.trans hk22 (fun _ _ e => e))
      clear hk22 hz22
      have HHeld := KS.out _ HK22.out
      refine hK.out _ _ HHeld (fun _ => ?_)
      clear hK K
      try simp only [Act.put, List.setIfInBounds_toArray, List.set_cons_zero, List.set_cons_succ]
      refine takeD (i := 8) (some 19) (.int .i64 cI) rfl (by kernel_rfl) (by kernel_rfl) (by kernel_rfl) (by kernel_rfl) (fun _ _ _ h => h) (by assumption) (Or.inl ⟨by rfl, fun w hSw => by (try dsimp only at hSw); go_simp⟩) ?_
      simp only [Act.put, List.setIfInBounds_toArray, List.set_cons_zero, List.set_cons_succ]
      refine takeD (i := 9) (some 20) (.int .i64 dp) rfl (by kernel_rfl) (by kernel_rfl) (by kernel_rfl) (by kernel_rfl) (fun _ _ _ h => h) (by assumption) (Or.inl ⟨by rfl, fun w hSw => by (try dsimp only at hSw); go_simp⟩) ?_
      simp only [Act.put, List.setIfInBounds_toArray, List.set_cons_zero, List.set_cons_succ]
      refine wpAnyH_done (by kernel_rfl) ?_ _
      obtain ⟨cn, rfl⟩ : ∃ cn : Nat, cI = (cn : Int) := ⟨cI.toNat, by omega⟩
      have HBR := Lib.hid (show Below v7.heap.size v7 v22 by
        rw [← HDB.out]; exact HB20.out.trans (HK22.out.toBelow (by omega) (fun g hg e => by omega)))
      have hcl : cn < l.length := by have := HLN.out; omega
      have hlw := HBR.out.size
      clear KS HDI1 HK21 HK22 HDI HMX HB20 hs21 hM20
      obtain ⟨ll, hll⟩ : ∃ ll, ll = addL m l cn dp := ⟨_, rfl⟩
      have HLLE := Lib.hid hll
      have hlll : ll.length = l.length := by rw [hll]; simp [addL]
      have HLLN := Lib.hid hlll
      have HROW := Lib.hid (show ∀ i (hi : i < ll.length), ll[i] = if i = cn then addSet m (l.getD cn []) dp m.d.toNat else l.getD i [] from fun i hi => by
        subst hll
        exact addL_row i hi)
      clear hll hlll
      obtain ⟨x0, x1, x2, x3, x4, _⟩ := HBM.out.below HBR.out
      simp only [Nat.zero_add] at x1 x2 x3 x4
      go_wp2_with fail
      clear x0 x1 x2 x3 x4
      go_loopw [21, 22, 23, 24] (fun v i _ _ wr => ∃ (k : Nat) (us : List Value), i = .int .i64 k ∧ k ≤ ll.length ∧ SETS v22.heap.size wr v us (ll.take k) ∧ Below v7.heap.size v7 wr ∧ v22.heap.size ≤ wr.heap.size) (fun _ i _ _ _ => ll.length - (intOf i).toNat)
      case atStart => exact ⟨0, [], rfl, by omega, ⟨by simpa using NEST.new0 (w := v22) (B := 0) (Nat.zero_le _), fun g e => by
          have e2 : some v22.heap.size = some g := e
          injection e2 with e2; omega⟩, HBR.out.alloc (by omega) _, by simp⟩
      case round =>
        obtain ⟨k, us, rfl, hk, hN, hb, hsz⟩ := hrel
        have HN := Lib.hid hN; have HBr := Lib.hid hb
        have hsw : v7.heap.size ≤ wr.heap.size := hb.size
        have hkl : k ≤ 6 := by have := HLLN.out; have := HLN.out; omega
        have hul : us.length ≤ 6 := by have := hN.1.len; rw [List.length_take] at this; omega
        have hMr : v1.heap.size < wr.heap.size := by have := HDB.out; omega
        have HMr := Lib.hid (HBM.out.below hb)
        have HLr := Lib.hid (HBL.out.below hb)
        clear hN hb
        by_cases hlt : k < ll.length
        · have hkc : (k : Int) < m.c := by have := HLLN.out; have := HLN.out; omega
          have hk3 : k < l.length := by have := HLLN.out; omega
          obtain ⟨x0, x1, _⟩ := HMr.out
          simp only [Nat.zero_add] at x1
          have HTK := Lib.hid (show ll.take (k + 1) = ll.take k ++ [ll[k]] from List.take_succ_eq_append_getElem hlt)
          by_cases hkcn : k = cn
          · have hq : ((k : Int) == (cn : Int)) = true := by simp [hkcn]
            have HRK := Lib.hid (show ll[k] = addSet m (l.getD k []) dp m.d.toNat by rw [HROW.out k hlt, if_pos hkcn, hkcn])
            have HKC := Lib.hid hkcn
            clear hkcn
            obtain ⟨bl, ol, Al, cl, rfl, hcell, _, hrow⟩ := (HL.out.below HBr.out).at_ hk3
            have HRL := Lib.hid hrow
            obtain ⟨lr, hlr⟩ : ∃ lr, lr = l[k] := ⟨_, rfl⟩
            rw [← hlr] at hcell HRL
            have HRK2 := Lib.hid (show ll[k] = addSet m lr dp m.d.toNat by rw [HRK.out, getD_row hk3, hlr])
            obtain ⟨wo, rfl⟩ : ∃ wo : World, wo = wr := ⟨_, rfl⟩
            have hLt : bl < wo.heap.size := World.block_lt_of_cell? _ _ hcell
            have HCL := Lib.hid hcell
            clear hrow hlr hcell
            go_wp2_with fail
            clear x0 x1
            go_loopw [23, 24] (fun u j wx => ∃ n : Nat, j = .int .i64 n ∧ (n : Int) ≤ m.d ∧ OV wx wo.heap.size 2 u (ints (addSet m lr dp n)) ∧ Below wo.heap.size wo wx) (fun _ j _ => (m.d - intOf j).toNat)
            case atStart => exact ⟨0, rfl, by simp; omega, by simpa [addSet, depths, ints] using OV.new0 (w := wo) (B := wo.heap.size) (e := 2) (Nat.le_refl _), (Below.refl _ _).alloc (Nat.le_refl _) _⟩
            case round =>
              obtain ⟨n, rfl, hn, ho, hbx⟩ := hrel
              have HO := Lib.hid ho; have HBX := Lib.hid hbx
              have hsx := hbx.size
              obtain ⟨x0, x1, _⟩ := HMr.out.below hbx
              obtain ⟨y0, _⟩ := HLr.out.below hbx
              have hcell := cell_in hbx hLt HCL.out
              simp only [Nat.zero_add] at x1
              have hal8 := addSet_len m lr dp n
              clear ho hbx
              by_cases hlt2 : (n : Int) < m.d
              · have HSU := Lib.hid (addSet_succ m lr dp n)
                have hi0 : (0 : Int) ≤ (k : Int) := by omega
                have hi1 : (k : Int) < (l.length : Int) := by omega
                by_cases hnd : (n : Int) = dp
                · have hq1 : ((n : Int) == dp) = true := by simpa using hnd
                  have HNX := Lib.hid (show ints (addSet m lr dp (n + 1)) = ints (addSet m lr dp n) ++ [.int .i64 (n : Int)] by rw [HSU.out, if_pos (by rw [hq1]; rfl), ints_append]; rfl)
                  have ho6 := HO.out
                  clear hnd
                  go_wp2_with (at_builtin; refine wpList_app1 _ rfl _ _ _ rfl wo.heap.size 2 _ 8 Try.underlying38 info_int rfl (by omega) _ _ rfl (ho6.alloc _) _ _ rfl (one_cell _ _ _) rfl (by rw [ints_length]; omega) (by simp; omega) ?_; intro v' w7 ho7 hg7 hn7 hat7)
                  clear x0 x1 y0 hcell
                  go_roundw
                  case rel => exact ⟨n + 1, by go_num, by omega, by rw [HNX.out]; exact ho7, (ho6.alloc _).own (Nat.le_refl _) (HBX.out.alloc hsx _) hg7 (by simp; omega)⟩
                  case measure => simp [intOf]; omega
                · have hq1 : ((n : Int) == dp) = false := by simpa using hnd
                  have HHI := Lib.hid (hasInt_any Al cl lr (n : Int) wr (HRL.out.below HBX.out))
                  clear hnd
                  go_wp2_with fail
                  refine HHI.out.mono ?_
                  cases hh : hasI lr (n : Int) with
                  | true =>
                    rintro e _ ⟨rfl, rfl⟩
                    have HNX := Lib.hid (show ints (addSet m lr dp (n + 1)) = ints (addSet m lr dp n) ++ [.int .i64 (n : Int)] by rw [HSU.out, if_pos (by rw [hh]; simp), ints_append]; rfl)
                    have ho6 := HO.out
                    go_wp2_with (at_builtin; refine wpList_app1 _ rfl _ _ _ rfl wo.heap.size 2 _ 8 Try.underlying38 info_int rfl (by omega) _ _ rfl (ho6.alloc _) _ _ rfl (one_cell _ _ _) rfl (by rw [ints_length]; omega) (by simp; omega) ?_; intro v' w7 ho7 hg7 hn7 hat7)
                    clear x0 x1 y0 hcell
                    go_roundw
                    case rel => exact ⟨n + 1, by go_num, by omega, by rw [HNX.out]; exact ho7, (ho6.alloc _).own (Nat.le_refl _) (HBX.out.alloc hsx _) hg7 (by simp; omega)⟩
                    case measure => simp [intOf]; omega
                  | false =>
                    rintro e _ ⟨rfl, rfl⟩
                    have HNX := Lib.hid (show addSet m lr dp (n + 1) = addSet m lr dp n by rw [HSU.out, if_neg (by rw [hh, hq1]; simp), List.append_nil])
                    go_wp2_with fail
                    clear x0 x1 y0 hcell
                    go_roundw
                    case rel => exact ⟨n + 1, by go_num, by omega, by rw [HNX.out]; exact HO.out, HBX.out⟩
                    case measure => simp [intOf]; omega
              · have hlt2' : decide ((n : Int) < m.d) = false := decide_eq_false hlt2
                have hnm : n = m.d.toNat := by omega
                have HSE := Lib.hid (show addSet m lr dp n = ll[k] by rw [HRK2.out, hnm])
                obtain ⟨rw9, hrw9⟩ : ∃ r, r = addSet m lr dp n := ⟨_, rfl⟩
                have HR9 := Lib.hid (show rw9 = ll[k] by rw [hrw9]; exact HSE.out)
                have ho9 := HO.out
                rw [← hrw9] at ho9 hal8
                obtain ⟨K7, c7, rfl, hc7, hr7⟩ := RIn.ofOI' ho9
                have hNx := HN.out.1.below HBX.out
                have ho6 := hNx.own
                have HNX := Lib.hid hNx
                have HNF := Lib.hid (HNX.out.row_nf ho9 (Nat.zero_le _) rw9.length)
                have HR7 := Lib.hid hr7; have HC7 := Lib.hid hc7
                clear hnm hrw9 hr7 hc7 hNx ho9 y0 hcell
                go_wp2_with (at_builtin; refine wpList_app1 _ rfl _ _ _ rfl 0 38 _ 24 Try.underlying26 info_sl rfl (by omega) _ us rfl (ho6.alloc _) _ _ rfl (one_cell _ _ _) rfl (by omega) (by simp) ?_; intro v' w5 ho5 hg5 hn5 hat5)
                have HP := Lib.hid (HNX.out.push HC7.out HR7.out.1 HNF.out ho5 hg5 hat5)
                have HB5 := Lib.hid ((((HBr.out.trans (HBX.out.mono hsw)).alloc (by omega) (.cells #[.slice K7 rw9.length c7] 38))).grown hg5 (by simp; omega) (fun g hg => by have := HN.out.2 g hg; omega))
                have HOW := Lib.hid (show ∀ g, v'.ownBlock = some g → v22.heap.size ≤ g from fun g e => by
                  rcases hat5 with e5 | e5
                  · exact HN.out.2 g (e5.symm.trans e)
                  · rw [e5] at e; injection e with e; simp only [World.size_alloc] at e; omega)
                have hs5 : wr.heap.size ≤ w5.heap.size := by have := hg5.size; simp at this; omega
                clear ho5 hg5 hn5 hat5 x0 x1
                go_roundw
                case rel => exact ⟨k + 1, _, by go_num, by omega, ⟨by rw [HTK.out, ← HR9.out]; exact HP.out, HOW.out⟩, HB5.out, by omega⟩
                case measure => simp [intOf]; omega
          · have hq : ((k : Int) == (cn : Int)) = false := by simp; omega
            have HRK := Lib.hid (show ll[k] = l[k] by rw [HROW.out k hlt, if_neg hkcn, getD_row hk3])
            obtain ⟨bl, ol, Al, cl, rfl, hcell, hcc, hrow⟩ := (HL.out.below HBr.out).at_ hk3
            have HRL := Lib.hid hrow
            have HLN2 := Lib.hid (show ∀ b o, 0 < l[k].length → Al = some ⟨b, o, none⟩ → b < v7.heap.size from by
              obtain ⟨bl2, ol2, Al2, cl2, e2, hcell2, _, hrow2⟩ := HL.out.at_ hk3
              injection e2 with e2; injection e2 with e21 e22 _
              subst e21 e22
              have := cell_in HBr.out (World.block_lt_of_cell? _ _ hcell2) hcell2
              rw [hcell] at this; injection this with this; injection this with e3 _ _
              subst e3
              intro b o h0 e
              exact ri_new hrow2 h0 e)
            obtain ⟨lr, hlr⟩ : ∃ lr, lr = l[k] := ⟨_, rfl⟩
            rw [← hlr] at hcell HRL hcc HRK HLN2
            have HC7 := Lib.hid hcc
            obtain ⟨y0, _⟩ := HLr.out
            have hi0 : (0 : Int) ≤ (k : Int) := by omega
            have hi1 : (k : Int) < (l.length : Int) := by omega
            have ho6 := HN.out.1.own
            have HNF := Lib.hid (show NF (fun g => g < 0 ∨ u21.ownBlock = some g) Al lr.length from fun h0 b o e hf => by
              have h1 := HLN2.out b o h0 e
              rcases hf with hf | hf
              · omega
              · have := HN.out.2 b hf; omega)
            clear hrow hlr hcc hkcn
            go_wp2_with (at_builtin; refine wpList_app1 _ rfl _ _ _ rfl 0 38 _ 24 Try.underlying26 info_sl rfl (by omega) _ us rfl (ho6.alloc _) _ _ rfl (one_cell _ _ _) rfl (by omega) (by simp) ?_; intro v' w5 ho5 hg5 hn5 hat5)
            have HP := Lib.hid (HN.out.1.push HC7.out HRL.out HNF.out ho5 hg5 hat5)
            have HB5 := Lib.hid ((HBr.out.alloc (by omega) (.cells #[.slice Al lr.length cl] 38)).grown hg5 (by simp; omega) (fun g hg => by have := HN.out.2 g hg; omega))
            have HOW := Lib.hid (show ∀ g, v'.ownBlock = some g → v22.heap.size ≤ g from fun g e => by
              rcases hat5 with e5 | e5
              · exact HN.out.2 g (e5.symm.trans e)
              · rw [e5] at e; injection e with e; simp only [World.size_alloc] at e; omega)
            have hs5 : wr.heap.size ≤ w5.heap.size := by have := hg5.size; simp at this; omega
            clear ho5 hg5 hn5 hat5 x0 x1 y0 hcell
            go_roundw
            case rel => exact ⟨k + 1, _, by go_num, by omega, ⟨by rw [HTK.out, HRK.out]; exact HP.out, HOW.out⟩, HB5.out, by omega⟩
            case measure => simp [intOf]; omega
        · have hkc : decide ((k : Int) < m.c) = false := by have := HLLN.out; have := HLN.out; simp; omega
          have hNr := HN.out.1
          rw [show ll.take k = ll from List.take_of_length_le (by omega)] at hNr
          obtain ⟨K9, q9, hv9, _, hr9⟩ := hNr.riib
          subst hv9
          have HR9 := Lib.hid hr9.rii
          obtain ⟨n1, hn1⟩ : ∃ n : Int, n = ((openers m l).length : Int) := ⟨_, rfl⟩
          obtain ⟨n2, hn2⟩ : ∃ n : Int, n = ((openers m ll).length : Int) := ⟨_, rfl⟩
          have HC1 := Lib.hid (show (n1, 0) = cOpenersR m l by unfold cOpenersR; rw [if_pos HLK.out, hn1])
          have hlk9 : isLockF m ll = true := by rw [HLLE.out]; exact addL_lock HLK.out hcl dp0 dp1
          have HC2 := Lib.hid (show (n2, 0) = cOpenersR m ll by unfold cOpenersR; rw [if_pos hlk9, hn2])
          clear hlk9
          have HLW := Lib.hid (show (n1 == n2) = (hasI (l.getD cn []) dp || hasI (hm.getD cn []) dp) by
            rw [hn1, hn2, HLLE.out, HHE.out]; exact harm_law HLK.out hcl dp0 dp1)
          have HL2 := Lib.hid (HL.out.below HBr.out)
          have HC3 := Lib.hid (HR3.out.below HBr.out)
          have EA := Lib.hid (countB (q := q) HL2.out HC1.out)
          obtain ⟨x0, x1, x2, x3, x4, _⟩ := HMr.out
          obtain ⟨y0, _⟩ := HLr.out
          simp only [Nat.zero_add] at x1 x2 x3 x4
          clear hn1 hn2 hr9 hNr HN
          go_wp2_with fail
          clear x0 x1 x2 x3 x4 y0
          refine EA.out.mono ?_
          rintro e wa ⟨rfl, hba⟩
          have HBa := Lib.hid hba
          clear EA hba
          have EB := Lib.hid (countB (q := q9) (HR9.out.below HBa.out) HC2.out)
          obtain ⟨x0, x1, x2, x3, x4, _⟩ := HMr.out.below HBa.out
          simp only [Nat.zero_add] at x1 x2 x3 x4
          go_wp2_with fail
          clear x0 x1 x2 x3 x4
          refine EB.out.mono ?_
          rintro e wb ⟨rfl, hbb⟩
          have HBb := Lib.hid (HBa.out.trans (hbb.mono HBa.out.size))
          clear EB hbb HBa
          obtain ⟨bl, ol, Al, cl, rfl, hcell, _, hrow⟩ := (HL2.out.below HBb.out).at_ hcl
          have hclm : cn < hm.length := by rw [HHE.out]; simpa [harmL] using hcl
          obtain ⟨l1, hl1⟩ : ∃ x, x = l[cn] := ⟨_, rfl⟩
          obtain ⟨l3, hl3⟩ : ∃ x, x = hm[cn] := ⟨_, rfl⟩
          have hlw3 : (n1 == n2) = (hasI l1 dp || hasI l3 dp) := by
            rw [hl1, hl3, ← getD_row hcl, ← getD_row hclm]; exact HLW.out
          have HLW3 := Lib.hid hlw3
          have HL3 := Lib.hid hl3
          clear hlw3 hl3
          rw [← hl1] at hcell hrow
          have HH1 := Lib.hid (hasInt_any Al cl l1 dp wb hrow)
          obtain ⟨y0, _⟩ := HLr.out.below HBb.out
          have hi0 : (0 : Int) ≤ (cn : Int) := by omega
          have hi1 : (cn : Int) < (l.length : Int) := by omega
          clear hrow hl1
          go_wp2_with fail
          clear hcell y0
          refine HH1.out.mono ?_
          cases hx : hasI l1 dp with
          | true =>
            rintro e _ ⟨rfl, rfl⟩
            have hnn : (n1 == n2) = true := by rw [HLW3.out, hx]; rfl
            clear hx
            go_wp2_with fail
            go_ret
            exact ⟨retB (by first | (simp; done) | (simp; omega)), HB.out.trans ((HBr.out.trans (HBb.out.mono hsw)).mono HB.out.size)⟩
          | false =>
            rintro e _ ⟨rfl, rfl⟩
            obtain ⟨bl3, ol3, Al3, cl3, rfl, hcell3, _, hrow3⟩ := (HC3.out.below HBb.out).at_ hclm
            have hl3 := HL3.out
            have hnn : (n1 == n2) = hasI l3 dp := by rw [HLW3.out, hx]; rfl
            rw [← hl3] at hcell3 hrow3
            have HH2 := Lib.hid (hasInt_any Al3 cl3 l3 dp wb hrow3)
            have HNN := Lib.hid hnn
            have hi2 : (cn : Int) < (hm.length : Int) := by omega
            clear hrow3 hl3 hx hnn
            go_wp2_with fail
            clear hcell3
            refine HH2.out.mono ?_
            rintro e _ ⟨rfl, rfl⟩
            have hnn := HNN.out
            go_wp2_with fail
            go_ret
            exact ⟨retB (by first | (simp; done) | (simp; omega)), HB.out.trans ((HBr.out.trans (HBb.out.mono hsw)).mono HB.out.size)⟩
end Go.Proofs.Ythjfilhcfjpinaa.fnHarmless
