/- Contracts of GhostsOf. -/
import Derived.Test.YthjfilhcfjpinaaFEachGhost
import Derived.Test.YthjfilhcfjpinaaFChKeys
namespace Go.Proofs.Ythjfilhcfjpinaa
set_option linter.unusedVariables false
open Go.RowKit
def visG (most : Nat) (s : List (List Int)) (k : List Int) : Bool × List (List Int) := if s.length < most then (decide (s.length + 1 < most), s ++ [k]) else (false, s)
theorem visG_lt {most : Nat} {s : List (List Int)} (h : s.length < most) (k : List Int) : visG most s k = (decide (s.length + 1 < most), s ++ [k]) := by unfold visG; rw [if_pos h]
theorem visG_ge {most : Nat} {s : List (List Int)} (h : ¬ s.length < most) (k : List Int) : visG most s k = (false, s) := by unfold visG; rw [if_neg h]
theorem runVis_G (most : Nat) : ∀ (ks s : List (List Int)), s.length ≤ most → (runVis (visG most) s ks).2 = (s ++ ks).take most
  | [], s, h => by rw [runVis, List.append_nil, List.take_of_length_le (by omega)]
  | k :: ks, s, h => by
    rw [runVis]
    by_cases hl : s.length < most
    · rw [visG_lt hl]
      by_cases hm : s.length + 1 < most
      · rw [if_pos (by simp [hm])]
        have := runVis_G most ks (s ++ [k]) (by simp; omega)
        rw [this, List.append_assoc]; rfl
      · rw [if_neg (by simp; omega)]
        simp only
        rw [show s ++ k :: ks = (s ++ [k]) ++ ks by simp, List.take_append_of_le_length (by simp; omega), List.take_of_length_le (by simp; omega)]
    · rw [visG_ge hl, if_neg (by simp)]
      simp only
      rw [List.take_append_of_le_length (by omega), List.take_of_length_le (by omega)]
set_option maxRecDepth 100000 in
set_option maxHeartbeats 4000000 in
theorem ghostsClo_any (g g2 B most : Nat) (ls : List (List Int)) (A : Option Addr) (c : Nat) (key : List Int) (w : World) (F : Nat → Prop) (h : RColl g B ls w F) (hm : w.cell? ⟨g2, 0, none⟩ = some (.int .i64 (most : Int))) (hg2 : ¬ F g2)
    (hr : RI w A key) (hkl : key.length ≤ 1000) (hl : ls.length < most) (hmost : most ≤ 300) :
    Calls Try.prog 71 #[.slice A key.length c, .pointer (some ⟨g, 0, none⟩), .pointer (some ⟨g2, 0, none⟩)] w (VisPost (visG most) (RColl g B) ls key w F) := by
  obtain ⟨v, us, hV⟩ := h
  obtain ⟨Av, cv, rfl, hcv, _⟩ := hV.vv.reads
  rw [hV.len] at *
  have HV := Lib.hid hV
  have pd := hV.cell
  have hgl := hV.fl g hV.fg
  have hg2l := World.block_lt_of_cell? w _ hm
  simp only at hg2l
  have hBl : B ≤ w.heap.size := by have := hV.fb g hV.fg; omega
  have HG2 := Lib.hid hg2
  have KS := Lib.hid (show ∀ w' : World, Below w.heap.size w w' → (w'.cell? ⟨g2, 0, none⟩ = some (.int .i64 (most : Int)) ∧ True) from fun w' hw => ⟨cell_in hw (by simp only; omega) hm, trivial⟩)
  have HCL := Lib.hid (sClone_any A c key w.drew hr (by omega))
  have hlm : (ls.length : Int) < (most : Int) := by omega
  have HE := Lib.hid (visG_lt hl key)
  clear hV hg2
  go_enter Try.func71, Try.ntmps71
  go_wp2_with fail
  refine wp_region_held_drew (S := (fun w' => w'.cell? ⟨g2, 0, none⟩ = some (.int .i64 (most : Int)) ∧ True)) (by kernel_rfl) (KS.out _ (belowDrew0 _)) (fun hHeld => ?_)
  refine takeD (i := 1) (some 10) (.slice A key.length c) rfl (by kernel_rfl) (by kernel_rfl) (by kernel_rfl) (by kernel_rfl) (fun _ _ _ h => h) (by assumption) (Or.inl ⟨by rfl, fun w hSw => by (try dsimp only at hSw); go_simp⟩) ?_
  simp only [Act.put, List.setIfInBounds_toArray, List.set_cons_zero, List.set_cons_succ]
  refine wpAnyH_ready (rs := [0, 2]) (by kernel_rfl) (by simp) (AllReadyH.cons rfl (fun K hK => ?_) (AllReadyH.cons rfl (fun K hK => ?_) AllReadyH.nil))
  · go_simp
    have HHeld := KS.out _ (belowDrew0 _)
    refine hK.out _ _ HHeld (fun _ => ?_)
    clear hK K
    try simp only [Act.put, List.setIfInBounds_toArray, List.set_cons_zero, List.set_cons_succ]
    refine wpAnyH_ready (rs := [2]) (by kernel_rfl) (by simp) (AllReadyH.cons rfl (fun K hK => ?_) AllReadyH.nil)
    go_simp
    refine HCL.out.mono ?_
    rintro e w4 ⟨A4, c4, rfl, hc4, hr4, ho4, b4⟩
    have Hb4 := Lib.hid (belowDrew b4)
    have HHeld := KS.out _ Hb4.out
    refine hK.out _ _ HHeld (fun _ => ?_)
    clear hK K
    try simp only [Act.put, List.setIfInBounds_toArray, List.set_cons_zero, List.set_cons_succ]
    refine wpAnyH_ready (rs := [3]) (by kernel_rfl) (by simp) (AllReadyH.cons rfl (fun K hK => ?_) AllReadyH.nil)
    go_simp
    have HHeld := KS.out _ (Hb4.out.alloc Hb4.out.size (.cells #[.slice A4 key.length c4] 38))
    refine hK.out _ _ HHeld (fun _ => ?_)
    clear hK K
    try simp only [Act.put, List.setIfInBounds_toArray, List.set_cons_zero, List.set_cons_succ]
    refine wpAnyH_ready (rs := [4]) (by kernel_rfl) (by simp) (AllReadyH.cons rfl (fun K hK => ?_) AllReadyH.nil)
    refine step_app1 _ (by rfl) _ _ _ (by rfl) B 38 _ 24 Try.underlying26 info_sl rfl (by omega) _ _ (by rfl) ((HV.out.vv.below' Hb4.out).alloc _) _ _ (by rfl) (one_cell _ _ _) rfl (by have := HV.out.len; omega) (by have := Hb4.out.size; simp; omega) ?_
    intro v' w5 ho5 hg5 hn5 hat5
    have hnx := HV.out.next (u := .slice A4 key.length c4) (key := key) (o := .cells #[.slice A4 key.length c4] 38) Hb4.out ho4.1 ho5 hg5 hat5
    have HNX := Lib.hid hnx
    obtain ⟨Av2, cv2, hv2, _, _⟩ := ho5.reads
    rw [show (us ++ [Value.slice A4 key.length c4]).length = ls.length + 1 by simp [HV.out.len]] at hv2
    subst hv2
    have k45 : KeepF (fun x => (Value.slice Av ls.length cv).ownBlock = some x) w4 w5 := ((KeepF.refl _ _).alloc _).grown hg5 (fun x e => .inl e)
    have hgn : ¬ ((Value.slice Av ls.length cv).ownBlock = some g) := fun e => (HV.out.fv g e).2 rfl
    have hg4 : g < w4.heap.size := by have := Hb4.out.size; omega
    have p5 := (k45.cell (p := ⟨g, 0, none⟩) hg4 hgn).trans (cell_in Hb4.out (by simp only; omega) pd)
    have f5 := (k45.frozen (p := ⟨g, 0, none⟩) hg4 hgn).trans ((Hb4.out.frozen (p := ⟨g, 0, none⟩) (by simp only; omega)).trans HV.out.fz)
    have hks : w5.cell? ⟨g2, 0, none⟩ = some (.int .i64 (most : Int)) := (k45.cell (p := ⟨g2, 0, none⟩) (by have := Hb4.out.size; simp only; omega) (fun e => HG2.out (HV.out.fv g2 e).1)).trans ((KS.out _ Hb4.out).1)
    have hne : g ≠ g2 := fun e => HG2.out (by rw [← e]; exact HV.out.fg)
    clear ho5 hg5 hn5 hat5 hnx k45 hgn
    have HHeld := And.intro hks trivial
    refine hK.out _ _ HHeld (fun _ => ?_)
    clear hK K
    (try simp only [Act.put]); (try simp only [List.setIfInBounds_toArray]); (try simp only [List.set_cons_zero, List.set_cons_succ])
    refine wpAnyH_ready (rs := [5]) (by kernel_rfl) (by simp) (AllReadyH.cons rfl (fun K hK => ?_) AllReadyH.nil)
    go_simp
    have p7 : (w5.setCell ⟨g, 0, none⟩ (.slice Av2 (ls.length + 1) cv2)).cell? ⟨g2, 0, none⟩ = some (.int .i64 (most : Int)) := by rw [World.cell?_setCell_far _ _ _ _ (by simp only; omega)]; exact hks
    have HHeld := And.intro p7 trivial
    refine hK.out _ _ HHeld (fun _ => ?_)
    clear hK K
    (try simp only [Act.put]); (try simp only [List.setIfInBounds_toArray]); (try simp only [List.set_cons_zero, List.set_cons_succ])
    refine wpAnyH_done (by kernel_rfl) ?_ _
    have p6 : (w5.setCell ⟨g, 0, none⟩ (.slice Av2 (ls.length + 1) cv2)).cell? ⟨g, 0, none⟩ = some (.slice Av2 (ls.length + 1) cv2) := World.cell?_setCell_same _ _ _ p5
    generalize hw6 : w5.setCell ⟨g, 0, none⟩ (.slice Av2 (ls.length + 1) cv2) = w6 at *
    clear p5 f5 hks hw6
    go_wp2_with fail
    go_ret
    rw [show VisPost (visG most) (RColl g B) ls key w F = VisPost (fun _ _ => (decide (ls.length + 1 < most), ls ++ [key])) (RColl g B) ls key w F by unfold VisPost; rw [HE.out]]
    exact ⟨retB (by show _ = decide (ls.length + 1 < most); rw [decide_eq_decide]; omega), _, HNX.out.1, HNX.out.2, fun x hx => by rcases hx with h | h; exact .inl h; exact .inr h.1⟩
  · go_simp
    refine HCL.out.mono ?_
    rintro e w4 ⟨A4, c4, rfl, hc4, hr4, ho4, b4⟩
    have Hb4 := Lib.hid (belowDrew b4)
    have HHeld := KS.out _ Hb4.out
    refine hK.out _ _ HHeld (fun _ => ?_)
    clear hK K
    try simp only [Act.put, List.setIfInBounds_toArray, List.set_cons_zero, List.set_cons_succ]
    have pd4 := cell_in Hb4.out (by simp only; omega) pd
    have hgl4 : g < w4.heap.size := by have := Hb4.out.size; omega
    refine wpAnyH_ready (rs := [0, 3]) (by kernel_rfl) (by simp) (AllReadyH.cons rfl (fun K hK => ?_) (AllReadyH.cons rfl (fun K hK => ?_) AllReadyH.nil))
    · go_simp
      have HHeld := KS.out _ Hb4.out
      refine hK.out _ _ HHeld (fun _ => ?_)
      clear hK K
      try simp only [Act.put, List.setIfInBounds_toArray, List.set_cons_zero, List.set_cons_succ]
      refine wpAnyH_ready (rs := [3]) (by kernel_rfl) (by simp) (AllReadyH.cons rfl (fun K hK => ?_) AllReadyH.nil)
      go_simp
      have HHeld := KS.out _ (Hb4.out.alloc Hb4.out.size (.cells #[.slice A4 key.length c4] 38))
      refine hK.out _ _ HHeld (fun _ => ?_)
      clear hK K
      try simp only [Act.put, List.setIfInBounds_toArray, List.set_cons_zero, List.set_cons_succ]
      refine wpAnyH_ready (rs := [4]) (by kernel_rfl) (by simp) (AllReadyH.cons rfl (fun K hK => ?_) AllReadyH.nil)
      refine step_app1 _ (by rfl) _ _ _ (by rfl) B 38 _ 24 Try.underlying26 info_sl rfl (by omega) _ _ (by rfl) ((HV.out.vv.below' Hb4.out).alloc _) _ _ (by rfl) (one_cell _ _ _) rfl (by have := HV.out.len; omega) (by have := Hb4.out.size; simp; omega) ?_
      intro v' w5 ho5 hg5 hn5 hat5
      have hnx := HV.out.next (u := .slice A4 key.length c4) (key := key) (o := .cells #[.slice A4 key.length c4] 38) Hb4.out ho4.1 ho5 hg5 hat5
      have HNX := Lib.hid hnx
      obtain ⟨Av2, cv2, hv2, _, _⟩ := ho5.reads
      rw [show (us ++ [Value.slice A4 key.length c4]).length = ls.length + 1 by simp [HV.out.len]] at hv2
      subst hv2
      have k45 : KeepF (fun x => (Value.slice Av ls.length cv).ownBlock = some x) w4 w5 := ((KeepF.refl _ _).alloc _).grown hg5 (fun x e => .inl e)
      have hgn : ¬ ((Value.slice Av ls.length cv).ownBlock = some g) := fun e => (HV.out.fv g e).2 rfl
      have hg4 : g < w4.heap.size := by have := Hb4.out.size; omega
      have p5 := (k45.cell (p := ⟨g, 0, none⟩) hg4 hgn).trans (cell_in Hb4.out (by simp only; omega) pd)
      have f5 := (k45.frozen (p := ⟨g, 0, none⟩) hg4 hgn).trans ((Hb4.out.frozen (p := ⟨g, 0, none⟩) (by simp only; omega)).trans HV.out.fz)
      have hks : w5.cell? ⟨g2, 0, none⟩ = some (.int .i64 (most : Int)) := (k45.cell (p := ⟨g2, 0, none⟩) (by have := Hb4.out.size; simp only; omega) (fun e => HG2.out (HV.out.fv g2 e).1)).trans ((KS.out _ Hb4.out).1)
      have hne : g ≠ g2 := fun e => HG2.out (by rw [← e]; exact HV.out.fg)
      clear ho5 hg5 hn5 hat5 hnx k45 hgn
      have HHeld := And.intro hks trivial
      refine hK.out _ _ HHeld (fun _ => ?_)
      clear hK K
      (try simp only [Act.put]); (try simp only [List.setIfInBounds_toArray]); (try simp only [List.set_cons_zero, List.set_cons_succ])
      refine wpAnyH_ready (rs := [5]) (by kernel_rfl) (by simp) (AllReadyH.cons rfl (fun K hK => ?_) AllReadyH.nil)
      go_simp
      have p7 : (w5.setCell ⟨g, 0, none⟩ (.slice Av2 (ls.length + 1) cv2)).cell? ⟨g2, 0, none⟩ = some (.int .i64 (most : Int)) := by rw [World.cell?_setCell_far _ _ _ _ (by simp only; omega)]; exact hks
      have HHeld := And.intro p7 trivial
      refine hK.out _ _ HHeld (fun _ => ?_)
      clear hK K
      (try simp only [Act.put]); (try simp only [List.setIfInBounds_toArray]); (try simp only [List.set_cons_zero, List.set_cons_succ])
      refine wpAnyH_done (by kernel_rfl) ?_ _
      have p6 : (w5.setCell ⟨g, 0, none⟩ (.slice Av2 (ls.length + 1) cv2)).cell? ⟨g, 0, none⟩ = some (.slice Av2 (ls.length + 1) cv2) := World.cell?_setCell_same _ _ _ p5
      generalize hw6 : w5.setCell ⟨g, 0, none⟩ (.slice Av2 (ls.length + 1) cv2) = w6 at *
      clear p5 f5 hks hw6
      go_wp2_with fail
      go_ret
      rw [show VisPost (visG most) (RColl g B) ls key w F = VisPost (fun _ _ => (decide (ls.length + 1 < most), ls ++ [key])) (RColl g B) ls key w F by unfold VisPost; rw [HE.out]]
      exact ⟨retB (by show _ = decide (ls.length + 1 < most); rw [decide_eq_decide]; omega), _, HNX.out.1, HNX.out.2, fun x hx => by rcases hx with h | h; exact .inl h; exact .inr h.1⟩
    · go_simp
      have HHeld := KS.out _ (Hb4.out.alloc Hb4.out.size (.cells #[.slice A4 key.length c4] 38))
      refine hK.out _ _ HHeld (fun _ => ?_)
      clear hK K
      try simp only [Act.put, List.setIfInBounds_toArray, List.set_cons_zero, List.set_cons_succ]
      refine wpAnyH_ready (rs := [0]) (by kernel_rfl) (by simp) (AllReadyH.cons rfl (fun K hK => ?_) AllReadyH.nil)
      go_simp
      have HHeld := KS.out _ (Hb4.out.alloc Hb4.out.size (.cells #[.slice A4 key.length c4] 38))
      refine hK.out _ _ HHeld (fun _ => ?_)
      clear hK K
      try simp only [Act.put, List.setIfInBounds_toArray, List.set_cons_zero, List.set_cons_succ]
      refine wpAnyH_ready (rs := [4]) (by kernel_rfl) (by simp) (AllReadyH.cons rfl (fun K hK => ?_) AllReadyH.nil)
      refine step_app1 _ (by rfl) _ _ _ (by rfl) B 38 _ 24 Try.underlying26 info_sl rfl (by omega) _ _ (by rfl) ((HV.out.vv.below' Hb4.out).alloc _) _ _ (by rfl) (one_cell _ _ _) rfl (by have := HV.out.len; omega) (by have := Hb4.out.size; simp; omega) ?_
      intro v' w5 ho5 hg5 hn5 hat5
      have hnx := HV.out.next (u := .slice A4 key.length c4) (key := key) (o := .cells #[.slice A4 key.length c4] 38) Hb4.out ho4.1 ho5 hg5 hat5
      have HNX := Lib.hid hnx
      obtain ⟨Av2, cv2, hv2, _, _⟩ := ho5.reads
      rw [show (us ++ [Value.slice A4 key.length c4]).length = ls.length + 1 by simp [HV.out.len]] at hv2
      subst hv2
      have k45 : KeepF (fun x => (Value.slice Av ls.length cv).ownBlock = some x) w4 w5 := ((KeepF.refl _ _).alloc _).grown hg5 (fun x e => .inl e)
      have hgn : ¬ ((Value.slice Av ls.length cv).ownBlock = some g) := fun e => (HV.out.fv g e).2 rfl
      have hg4 : g < w4.heap.size := by have := Hb4.out.size; omega
      have p5 := (k45.cell (p := ⟨g, 0, none⟩) hg4 hgn).trans (cell_in Hb4.out (by simp only; omega) pd)
      have f5 := (k45.frozen (p := ⟨g, 0, none⟩) hg4 hgn).trans ((Hb4.out.frozen (p := ⟨g, 0, none⟩) (by simp only; omega)).trans HV.out.fz)
      have hks : w5.cell? ⟨g2, 0, none⟩ = some (.int .i64 (most : Int)) := (k45.cell (p := ⟨g2, 0, none⟩) (by have := Hb4.out.size; simp only; omega) (fun e => HG2.out (HV.out.fv g2 e).1)).trans ((KS.out _ Hb4.out).1)
      have hne : g ≠ g2 := fun e => HG2.out (by rw [← e]; exact HV.out.fg)
      clear ho5 hg5 hn5 hat5 hnx k45 hgn
      have HHeld := And.intro hks trivial
      refine hK.out _ _ HHeld (fun _ => ?_)
      clear hK K
      (try simp only [Act.put]); (try simp only [List.setIfInBounds_toArray]); (try simp only [List.set_cons_zero, List.set_cons_succ])
      refine wpAnyH_ready (rs := [5]) (by kernel_rfl) (by simp) (AllReadyH.cons rfl (fun K hK => ?_) AllReadyH.nil)
      go_simp
      have p7 : (w5.setCell ⟨g, 0, none⟩ (.slice Av2 (ls.length + 1) cv2)).cell? ⟨g2, 0, none⟩ = some (.int .i64 (most : Int)) := by rw [World.cell?_setCell_far _ _ _ _ (by simp only; omega)]; exact hks
      have HHeld := And.intro p7 trivial
      refine hK.out _ _ HHeld (fun _ => ?_)
      clear hK K
      (try simp only [Act.put]); (try simp only [List.setIfInBounds_toArray]); (try simp only [List.set_cons_zero, List.set_cons_succ])
      refine wpAnyH_done (by kernel_rfl) ?_ _
      have p6 : (w5.setCell ⟨g, 0, none⟩ (.slice Av2 (ls.length + 1) cv2)).cell? ⟨g, 0, none⟩ = some (.slice Av2 (ls.length + 1) cv2) := World.cell?_setCell_same _ _ _ p5
      generalize hw6 : w5.setCell ⟨g, 0, none⟩ (.slice Av2 (ls.length + 1) cv2) = w6 at *
      clear p5 f5 hks hw6
      go_wp2_with fail
      go_ret
      rw [show VisPost (visG most) (RColl g B) ls key w F = VisPost (fun _ _ => (decide (ls.length + 1 < most), ls ++ [key])) (RColl g B) ls key w F by unfold VisPost; rw [HE.out]]
      exact ⟨retB (by show _ = decide (ls.length + 1 < most); rw [decide_eq_decide]; omega), _, HNX.out.1, HNX.out.2, fun x hx => by rcases hx with h | h; exact .inl h; exact .inr h.1⟩
set_option maxHeartbeats 1000000 in
theorem ghostsClo0_any (g g2 B most : Nat) (ls : List (List Int)) (A : Option Addr) (c : Nat) (key : List Int) (w : World) (F : Nat → Prop) (h : RColl g B ls w F) (hm : w.cell? ⟨g2, 0, none⟩ = some (.int .i64 (most : Int))) (hl : ¬ ls.length < most) :
    Calls Try.prog 71 #[.slice A key.length c, .pointer (some ⟨g, 0, none⟩), .pointer (some ⟨g2, 0, none⟩)] w (VisPost (visG most) (RColl g B) ls key w F) := by
  have hh := Lib.hid h
  obtain ⟨v, us, hV⟩ := h
  obtain ⟨Av, cv, rfl, hcv, hrv⟩ := hV.vv.reads
  have hle : us.length ≤ 9223372036854775807 := hrv.1
  rw [hV.len] at *
  have pd := hV.cell
  have hlm : decide ((ls.length : Int) < (most : Int)) = false := decide_eq_false (by omega)
  have HE := Lib.hid (visG_ge hl key)
  clear hV hrv
  go_enter Try.func71, Try.ntmps71
  go_wp2_with fail
  go_ret
  unfold VisPost
  rw [HE.out]
  exact ⟨rfl, F, hh.out, KeepF.refl _ _, fun x hx => .inl hx⟩
theorem ghostsVis (m : Mk) (hm : isMaker m = true) (l : List (List Int)) (g g2 B most : Nat) (w : World) (F : Nat → Prop) (hmc : w.cell? ⟨g2, 0, none⟩ = some (.int .i64 (most : Int))) (hg2 : ¬ F g2) (hmost : most ≤ 300) :
    VisOK 71 #[.pointer (some ⟨g, 0, none⟩), .pointer (some ⟨g2, 0, none⟩)] (visG most) (RColl g B) (fun _ => True) (fun k => k ∈ openers m l) w F :=
  ⟨enters Try.func71 (by kernel_rfl) rfl, fun _ _ _ _ _ => trivial, RColl.lt g B, RColl.fr g B, fun s w' G A c key _ hk hR hG hp hc hr hGA => by
    have hlt := World.block_lt_of_cell? w _ hmc
    have hg2' : ¬ G g2 := fun e => by rcases hG g2 e with h | h; exact hg2 h; simp only at hlt; omega
    have hkl : key.length ≤ 1000 := by have h1 := (keysG_pref m (frees l) [] _ _ _ key hp).1; simp at h1; have := (mk_bounds hm).2.1; omega
    by_cases hl : s.length < most
    · exact ghostsClo_any g g2 B most s A c key w' G hR ((hk.cell (p := ⟨g2, 0, none⟩) hlt hg2).trans hmc) hg2' hr hkl hl hmost
    · exact ghostsClo0_any g g2 B most s A c key w' G hR ((hk.cell (p := ⟨g2, 0, none⟩) hlt hg2).trans hmc) hl⟩
def ghostsOfR (m : Mk) (l al : List (List Int)) (most : Int) : List (List Int) × Int := if allowedC m l al [] = 0 then (if inB most 0 300 = true then ((ghosts m l al).take most.toNat, 0) else ([], 2)) else ([], allowedC m l al [])
theorem gho_1 {m : Mk} {l al : List (List Int)} {most : Int} (h : allowedC m l al [] ≠ 0) : ([], allowedC m l al []) = ghostsOfR m l al most := by unfold ghostsOfR; rw [if_neg h]
theorem gho_2 {m : Mk} {l al : List (List Int)} {most : Int} (h : allowedC m l al [] = 0) (h2 : inB most 0 300 = false) : ([], 2) = ghostsOfR m l al most := by unfold ghostsOfR; rw [if_pos h, if_neg (by rw [h2]; simp)]
theorem gho_0 {m : Mk} {l al : List (List Int)} {most : Int} (h : allowedC m l al [] = 0) (h2 : inB most 0 300 = true) : ((ghosts m l al).take most.toNat, 0) = ghostsOfR m l al most := by unfold ghostsOfR; rw [if_pos h, if_pos h2]
theorem RII.take {w : World} {A : Option Addr} {xss : List (List Int)} (h : RII w A xss) (k : Nat) : RII w A (xss.take k) := by
  obtain ⟨us, h1, h2, h3⟩ := h
  refine ⟨us.take k, by simp [h1], h2.take k, fun j hj => ?_⟩
  simp only [List.length_take] at hj
  obtain ⟨A', c, a, b, d⟩ := h3 j (by omega)
  refine ⟨A', c, ?_, ?_, ?_⟩
  · rw [List.getElem?_take_of_lt (by omega), List.getElem_take]; exact a
  · rw [List.getElem_take]; exact b
  · rw [List.getElem_take]; exact d
set_option maxRecDepth 100000 in
set_option maxHeartbeats 4000000 in
theorem specGhostsOf_any (m : Mk) (D : Option Addr) (q : Nat) (l : List (List Int)) (A : Option Addr) (c : Nat) (al : List (List Int)) (most : Int) (w : World) (h : RII w D l) (g : RII w A al) (_ : (Lit.int .i64 most).wf = true) :
    Calls Try.prog 12 #[.agg #[.int .i64 m.c, .int .i64 m.d, .int .i64 m.s, .int .i64 m.a, .int .i64 m.l], .agg #[.slice D l.length q], .slice A al.length c, .int .i64 most] w (RdIIC w (ghostsOfR m l al most)) := by
  have B0 := ((Below.refl w.heap.size w).alloc (Nat.le_refl _) (.cells #[.int .i64 m.c, .int .i64 m.d, .int .i64 m.s, .int .i64 m.a, .int .i64 m.l] 25)).alloc (by simp only [World.size_alloc]; omega) (.cells #[.slice D l.length q] 28)
  have bx : BoxC ((w.alloc (.cells #[.int .i64 m.c, .int .i64 m.d, .int .i64 m.s, .int .i64 m.a, .int .i64 m.l] 25)).alloc (.cells #[.slice D l.length q] 28)) (w.heap.size + 1) 0 [.slice D l.length q] := by simp [BoxC, Go.World.cell?_alloc_at]
  have bm : BoxC ((w.alloc (.cells #[.int .i64 m.c, .int .i64 m.d, .int .i64 m.s, .int .i64 m.a, .int .i64 m.l] 25)).alloc (.cells #[.slice D l.length q] 28)) w.heap.size 0 [.int .i64 m.c, .int .i64 m.d, .int .i64 m.s, .int .i64 m.a, .int .i64 m.l] := by
    have : BoxC (w.alloc (.cells #[.int .i64 m.c, .int .i64 m.d, .int .i64 m.s, .int .i64 m.a, .int .i64 m.l] 25)) w.heap.size 0 [.int .i64 m.c, .int .i64 m.d, .int .i64 m.s, .int .i64 m.a, .int .i64 m.l] := by simp [BoxC, Go.World.cell?_alloc_at]
    exact this.below ((Below.refl _ _).alloc (Nat.le_refl _) _)
  have HLL := Lib.hid (l14Code_any m D q l A c al ((w.alloc (.cells #[.int .i64 m.c, .int .i64 m.d, .int .i64 m.s, .int .i64 m.a, .int .i64 m.l] 25)).alloc (.cells #[.slice D l.length q] 28)) (h.below B0) (g.below B0))
  by_cases h1 : allowedC m l al [] = 0
  rotate_left
  · have HN := Lib.hid (gho_1 (most := most) h1)
    have t1 : (allowedC m l al [] != 0) = true := by simpa using h1
    have t2 : (allowedC m l al [] == 0) = false := by simpa using h1
    have H1 := Lib.hid h1; clear h1
    go_enter Try.func12, Try.ntmps12
    go_wp2_with fail
    refine HLL.out.mono ?_
    rintro e w1 ⟨rfl, b1⟩
    go_wp2_with fail
    go_ret2
    exact rdIIC_nil HN.out (B0.trans (b1.mono B0.size))
  have hlk := (allowedC_0 h1).1
  have HK := Lib.hid hlk; clear hlk
  have HIN := l01In_any most 0 300
  cases h2 : inB most 0 300 with
  | false =>
    have HR := Lib.hid (gho_2 h1 h2)
    rw [h2] at HIN
    have HI := Lib.hid HIN; clear HIN
    rw [h1] at HLL
    have H1 := Lib.hid h1; have H2 := Lib.hid h2; clear h1 h2
    go_enter Try.func12, Try.ntmps12
    go_wp2_with fail
    refine HLL.out.mono ?_
    rintro e w1 ⟨rfl, b1⟩
    go_wp2_with fail
    refine (HI.out _).mono ?_
    rintro e w2 ⟨rfl, rfl⟩
    go_wp2_with fail
    go_ret2
    exact rdIIC_nil HR.out (B0.trans (b1.mono B0.size))
  | true =>
    have HR := Lib.hid (gho_0 h1 h2)
    have hmost : 0 ≤ most ∧ most ≤ 300 := by simpa [inB] using h2
    rw [h2] at HIN
    have HI := Lib.hid HIN; clear HIN
    rw [h1] at HLL
    have H1 := Lib.hid h1; have H2 := Lib.hid h2; clear h1 h2
    go_enter Try.func12, Try.ntmps12
    go_wp2_with fail
    refine HLL.out.mono ?_
    rintro e w1 ⟨rfl, b1⟩
    have B1 := B0.trans (b1.mono B0.size)
    obtain ⟨q0, _⟩ := bx.below b1
    obtain ⟨p0, p1, p2, p3, p4, _⟩ := bm.below b1
    have HG := Lib.hid (l14Ghosts_any m D q l A c al w1 (h.below B1) (g.below B1) HK.out)
    obtain ⟨zz, hzz⟩ : ∃ zz, zz = ghosts m l al := ⟨_, rfl⟩
    rw [← hzz] at HG HR
    have HZ := Lib.hid hzz; clear hzz
    go_wp2_with fail
    refine (HI.out _).mono ?_
    rintro e w2 ⟨rfl, rfl⟩
    go_wp2_with fail
    refine HG.out.mono ?_
    rintro e w3 ⟨A3, c3, rfl, hc3, r3, b3⟩
    have hle3 := r3.le
    have m0 := hmost.1; have m1 := hmost.2
    clear hmost
    by_cases hml : most ≤ (zz.length : Int)
    · have hmin : min most (zz.length : Int) = most := by omega
      have HT := Lib.hid (show (zz.take most.toNat).length = most.toNat by rw [List.length_take]; omega)
      go_wp2_with fail
      go_ret2
      rw [show ((A3 : Option Addr)) = A3 from rfl]
      have hx : RdIIC w (ghostsOfR m l al most) (.returned (.tuple #[.slice A3 (zz.take most.toNat).length c3, .int .i64 0])) w3 := rdIIC_of HR.out (by rw [HT.out]; omega) (r3.take _) (B1.trans (b3.mono B1.size))
      rw [HT.out] at hx
      exact hx
    · have hmin : min most (zz.length : Int) = (zz.length : Int) := by omega
      have HT := Lib.hid (show zz.take most.toNat = zz by rw [List.take_of_length_le (by omega)])
      go_wp2_with fail
      go_ret2
      have hx : RdIIC w (ghostsOfR m l al most) (.returned (.tuple #[.slice A3 zz.length c3, .int .i64 0])) w3 := rdIIC_of (by rw [← HR.out, HT.out]) hc3 r3 (B1.trans (b3.mono B1.size))
      exact hx
set_option maxRecDepth 100000 in
set_option maxHeartbeats 4000000 in
theorem implGhostsOf_any (m : Mk) (D : Option Addr) (q : Nat) (l : List (List Int)) (A : Option Addr) (c : Nat) (al : List (List Int)) (most : Int) (w : World) (h : RII w D l) (g : RII w A al) (_ : (Lit.int .i64 most).wf = true) :
    Calls Try.prog 11 #[.agg #[.int .i64 m.c, .int .i64 m.d, .int .i64 m.s, .int .i64 m.a, .int .i64 m.l], .agg #[.slice D l.length q], .slice A al.length c, .int .i64 most] w (ResIIC w (ghostsOfR m l al most)) := by
  have B0 := (((Below.refl w.heap.size w).alloc (Nat.le_refl _) (.cells #[.int .i64 m.c, .int .i64 m.d, .int .i64 m.s, .int .i64 m.a, .int .i64 m.l] 25)).alloc (by simp only [World.size_alloc]; omega) (.cells #[.slice D l.length q] 28)).alloc (by simp only [World.size_alloc]; omega) (.cells #[.int .i64 most] 2)
  have bx : BoxC (((w.alloc (.cells #[.int .i64 m.c, .int .i64 m.d, .int .i64 m.s, .int .i64 m.a, .int .i64 m.l] 25)).alloc (.cells #[.slice D l.length q] 28)).alloc (.cells #[.int .i64 most] 2)) (w.heap.size + 1) 0 [.slice D l.length q] := by
    have : BoxC ((w.alloc (.cells #[.int .i64 m.c, .int .i64 m.d, .int .i64 m.s, .int .i64 m.a, .int .i64 m.l] 25)).alloc (.cells #[.slice D l.length q] 28)) (w.heap.size + 1) 0 [.slice D l.length q] := by simp [BoxC, Go.World.cell?_alloc_at]
    exact this.below ((Below.refl _ _).alloc (Nat.le_refl _) _)
  have bm : BoxC (((w.alloc (.cells #[.int .i64 m.c, .int .i64 m.d, .int .i64 m.s, .int .i64 m.a, .int .i64 m.l] 25)).alloc (.cells #[.slice D l.length q] 28)).alloc (.cells #[.int .i64 most] 2)) w.heap.size 0 [.int .i64 m.c, .int .i64 m.d, .int .i64 m.s, .int .i64 m.a, .int .i64 m.l] := by
    have : BoxC (w.alloc (.cells #[.int .i64 m.c, .int .i64 m.d, .int .i64 m.s, .int .i64 m.a, .int .i64 m.l] 25)) w.heap.size 0 [.int .i64 m.c, .int .i64 m.d, .int .i64 m.s, .int .i64 m.a, .int .i64 m.l] := by simp [BoxC, Go.World.cell?_alloc_at]
    exact (this.below ((Below.refl _ _).alloc (Nat.le_refl _) _)).below ((Below.refl _ _).alloc (Nat.le_refl _) _)
  have bn : BoxC (((w.alloc (.cells #[.int .i64 m.c, .int .i64 m.d, .int .i64 m.s, .int .i64 m.a, .int .i64 m.l] 25)).alloc (.cells #[.slice D l.length q] 28)).alloc (.cells #[.int .i64 most] 2)) (w.heap.size + 2) 0 [.int .i64 most] := by simp [BoxC, Go.World.cell?_alloc_at]
  have HLL := Lib.hid (allowedCode_any m D q l A c al none 0 [] (((w.alloc (.cells #[.int .i64 m.c, .int .i64 m.d, .int .i64 m.s, .int .i64 m.a, .int .i64 m.l] 25)).alloc (.cells #[.slice D l.length q] 28)).alloc (.cells #[.int .i64 most] 2)) (h.below B0) (g.below B0) RII.nil (by simp))
  by_cases h1 : allowedC m l al [] = 0
  rotate_left
  · have HN := Lib.hid (gho_1 (most := most) h1)
    have t1 : (allowedC m l al [] != 0) = true := by simpa using h1
    have t2 : (allowedC m l al [] == 0) = false := by simpa using h1
    have H1 := Lib.hid h1; clear h1
    go_enter Try.func11, Try.ntmps11
    go_wp2_with fail
    refine HLL.out.mono ?_
    rintro e w1 ⟨rfl, b1⟩
    go_wp2_with fail
    go_ret2
    exact resIIC_nil HN.out (B0.trans (b1.mono B0.size))
  have hlk := (allowedC_0 h1).1
  have HK := Lib.hid hlk; clear hlk
  have HIN := within_any most 0 300
  cases h2 : inB most 0 300 with
  | false =>
    have HR := Lib.hid (gho_2 h1 h2)
    rw [h2] at HIN
    have HI := Lib.hid HIN; clear HIN
    rw [h1] at HLL
    have H1 := Lib.hid h1; have H2 := Lib.hid h2; clear h1 h2
    go_enter Try.func11, Try.ntmps11
    go_wp2_with fail
    refine HLL.out.mono ?_
    rintro e w1 ⟨rfl, b1⟩
    obtain ⟨n0, _⟩ := bn.below b1
    go_wp2_with fail
    refine (HI.out _).mono ?_
    rintro e w2 ⟨rfl, rfl⟩
    go_wp2_with fail
    go_ret2
    exact resIIC_nil HR.out (B0.trans (b1.mono B0.size))
  | true =>
    have HR := Lib.hid (gho_0 h1 h2)
    have hmost : 0 ≤ most ∧ most ≤ 300 := by simpa [inB] using h2
    rw [h2] at HIN
    have HI := Lib.hid HIN; clear HIN
    rw [h1] at HLL
    have H1 := Lib.hid h1; have H2 := Lib.hid h2; clear h1 h2
    go_enter Try.func11, Try.ntmps11
    go_wp2_with fail
    refine HLL.out.mono ?_
    rintro e w1 ⟨rfl, b1⟩
    have B1 := B0.trans (b1.mono B0.size)
    obtain ⟨q0, _⟩ := bx.below b1
    obtain ⟨p0, p1, p2, p3, p4, _⟩ := bm.below b1
    obtain ⟨n0, _⟩ := bn.below b1
    have s1 : w.heap.size + 3 ≤ w1.heap.size := by have := b1.size; simp only [World.size_alloc] at this; omega
    obtain ⟨n, hn⟩ : ∃ n : Nat, most = (n : Int) := ⟨most.toNat, by omega⟩
    obtain ⟨w2, hw2⟩ : ∃ w2, w2 = (w1.alloc (.cells #[] 38)).alloc (.cells #[.slice (some ⟨w1.heap.size, 0, none⟩) 0 0] 26) := ⟨_, rfl⟩
    have b2 : Below w1.heap.size w1 w2 := by rw [hw2]; exact ((Below.refl _ _).alloc (Nat.le_refl _) _).alloc (by simp) _
    have hz2 : w2.heap.size = w1.heap.size + 2 := by rw [hw2]; simp
    have c3 : w2.cell? ⟨w1.heap.size + 1, 0, none⟩ = some (.slice (some ⟨w1.heap.size, 0, none⟩) 0 0) := by rw [hw2, World.cell?_alloc_at (hn := by simp)]; rfl
    have f3 : w2.frozen? ⟨w1.heap.size + 1, 0, none⟩ = false := by rw [hw2, World.frozen?_alloc_at (hn := by simp)]
    have ho : OV w2 w1.heap.size 38 (.slice (some ⟨w1.heap.size, 0, none⟩) 0 0) [] := by rw [hw2]; exact (OV.new0 (Nat.le_refl _)).alloc _
    have hR : RColl (w1.heap.size + 1) w1.heap.size [] w2 (fun x => x = w1.heap.size ∨ x = w1.heap.size + 1) :=
      ⟨_, [], rfl, ho, fun j hj => by simp at hj, fun i j u u' _ hi => by simp at hi, fun x e => by simp [Value.ownBlock] at e; omega, fun j u x hj => by simp at hj, c3, f3, .inr rfl, fun x hx => by omega, fun x hx => by omega⟩
    have hm := isLock_mk HK.out
    have nn : w2.cell? ⟨w.heap.size + 2, 0, none⟩ = some (.int .i64 (n : Int)) := by rw [← hn]; exact cell_in b2 (by simp only; omega) n0
    have hkb : ∀ w', KeepF (fun x => x = w1.heap.size ∨ x = w1.heap.size + 1) w2 w' → Below w1.heap.size w1 w' := fun w' hk => b2.trans (hk.toBelow (by omega) (fun x hx e => by omega))
    have HE := eachGhost_any m D q l A c al 71 #[.pointer (some ⟨w1.heap.size + 1, 0, none⟩), .pointer (some ⟨w.heap.size + 2, 0, none⟩)] (visG n) (RColl (w1.heap.size + 1) w1.heap.size) (fun _ => True) w2 (fun x => x = w1.heap.size ∨ x = w1.heap.size + 1) [] HK.out
      (ghostsVis m hm l _ _ _ n w2 _ nn (by omega) (by omega)) (fun w' hk => h.below (B1.trans ((hkb w' hk).mono B1.size))) (fun w' hk => g.below (B1.trans ((hkb w' hk).mono B1.size))) hR trivial
    rw [runVis_G n _ [] (by simp), List.nil_append] at HE
    have HEE := Lib.hid HE
    have HN := Lib.hid hn
    have HKB := Lib.hid hkb
    clear HE hn hR ho c3 f3 nn hkb b2 hmost
    go_wp2_with fail
    refine (HI.out _).mono ?_
    rintro e w3 ⟨rfl, rfl⟩
    have s2 : w.heap.size + 2 < w1.heap.size := by omega
    have s3 : w.heap.size + 1 < w1.heap.size := by omega
    have s4 : w.heap.size < w1.heap.size := by omega
    go_wp2_with fail
    rw [← hw2]
    clear hw2
    refine HEE.out.mono ?_
    rintro e w4 ⟨rfl, G, ⟨v4, us4, hV4⟩, hk4, hG4⟩
    have hc4 : w4.cell? ⟨w1.heap.size + 1, 0, none⟩ = some v4 := hV4.cell
    have HV4 := Lib.hid hV4
    have HB4 := Lib.hid (HKB.out w4 hk4)
    clear hV4 hk4 hG4
    go_wp2_with fail
    go_ret2
    exact resIIC_own (by rw [← HR.out, HN.out]; rfl) HV4.out.oii (by omega) (Nat.le_refl _) (B1.trans (HB4.out.mono B1.size))
end Go.Proofs.Ythjfilhcfjpinaa
