/- Contracts of the statements' dice: roll, below. -/
import Derived.Test.YtdedajohkdbdkaaGreatDrTab
import Derived.Laws.BitsLemmas
import Derived.Laws.Bits64
namespace Go.Proofs.YtdedajohkdbdkaaGreat
set_option linter.unusedVariables false
open Go.RowKit
/-- the dice at S: the code, a place in it, a number -/
structure Dice (S : Nat) (A : Option Addr) (c : Nat) (bs : List Int) (w : World) : Prop where
  xl : S < w.heap.size
  rd : RV w A (bytesV bs)
  nS : NF (fun g => g = S) A bs.length
  by_ : ∀ b ∈ bs, 0 ≤ b ∧ b < 256
  f1 : w.frozen? ⟨S, 1, none⟩ = false
  f2 : w.frozen? ⟨S, 2, none⟩ = false
  box : ∃ (p : Nat) (h : Int), p ≤ bs.length ∧ BoxC w S 0 [.slice A bs.length c, .int .i64 (p : Int), .int .u64 h]
theorem wraps63 (n : Int) (h₀ : 0 ≤ n) (h₁ : n < 2 ^ 63) : IntKind.u64.wrap n = n := by rw [IntKind.wrap_u64]; omega
set_option maxRecDepth 100000 in
set_option maxHeartbeats 4000000 in
theorem below_any (S : Nat) (A : Option Addr) (c : Nat) (bs : List Int) (n : Int) (w : World) (h : Dice S A c bs w) (hn : 1 ≤ n) :
    Calls Tryz.prog 38 #[.pointer (some ⟨S, 0, none⟩), .int .i64 n] w fun e w' => ∃ r, e = .returned (.int .i64 r) ∧ 0 ≤ r ∧ r < n ∧ Dice S A c bs w' ∧ KeepF (fun g => g = S) w w' ∧ w'.heap.size = w.heap.size := by
  obtain ⟨p, s, hp, hb⟩ := h.box
  obtain ⟨x0, x1, x2, _⟩ := hb
  simp only [Nat.zero_add] at x1 x2
  have H := Lib.hid h
  have hX := h.xl
  have f1 := h.f1; have f2 := h.f2
  clear h
  have hle : bs.length ≤ 9223372036854775807 := by have := H.out.rd.1; simpa [bytesV] using this
  obtain ⟨h2, hh⟩ : ∃ h2, IntKind.u64.wrap (IntKind.u64.wrap (s * 6364136223846793005) + 1442695040888963407) = h2 := ⟨_, rfl⟩
  have hr0 : 0 ≤ h2 ∧ h2 < 18446744073709551616 := by rw [← hh, IntKind.wrap_u64]; omega
  obtain ⟨x, hx⟩ : ∃ x, bits .and .u64 (h2 / 8589934592) 16777215 = x := ⟨_, rfl⟩
  have hxb : 0 ≤ x ∧ x ≤ 16777215 := by
    have hm := bits_mask .u64 63 (by decide) wraps63 24 (by decide) (h2 / 8589934592) (by omega) (by omega)
    have e : ((2 : Int) ^ 24 - 1) = 16777215 := by decide
    have e2 : ((2 : Int) ^ 24) = 16777216 := by decide
    rw [e, e2, hx] at hm
    omega
  have hx0 := hxb.1; have hx1 := hxb.2
  have hwx : wrap64 x = x := by unfold wrap64; omega
  clear hxb
  go_enter Tryz.func38, Tryz.ntmps38
  go_wp2_with fail
  obtain ⟨w1, hw1⟩ : ∃ w1, w1 = w.setCell ⟨S, 2, none⟩ (.int .u64 h2) := ⟨_, rfl⟩
  rw [← hw1]
  have y0 : w1.cell? ⟨S, 0, none⟩ = some (.slice A bs.length c) := by rw [hw1]; exact (World.cell?_setCell_other _ _ _ _ (by simp)).trans x0
  have y1 : w1.cell? ⟨S, 1, none⟩ = some (.int .i64 (p : Int)) := by rw [hw1]; exact (World.cell?_setCell_other _ _ _ _ (by simp)).trans x1
  have y2 : w1.cell? ⟨S, 2, none⟩ = some (.int .u64 h2) := by rw [hw1]; exact World.cell?_setCell_same _ _ _ x2
  have g1 : w1.frozen? ⟨S, 1, none⟩ = false := by rw [hw1]; simp only [World.frozen?_setCell]; exact f1
  have g2 : w1.frozen? ⟨S, 2, none⟩ = false := by rw [hw1]; simp only [World.frozen?_setCell]; exact f2
  have K1 := Lib.hid (show KeepF (fun g => g = S) w w1 by rw [hw1]; exact (KeepF.refl (fun g => g = S) w).setCell (p := ⟨S, 2, none⟩) (.inl rfl) _)
  have HZ1 := Lib.hid (show w1.heap.size = w.heap.size by rw [hw1]; simp)
  have hX1 : S < w1.heap.size := by rw [HZ1.out]; exact hX
  have HRD := Lib.hid (show RV w1 A (bytesV bs) from RV.keepN H.out.rd K1.out (by simp only [bytesV, List.length_map]; exact H.out.nS))
  clear hw1 x0 x1 x2 f1 f2 hx hh
  by_cases hlt : p < bs.length
  rotate_left
  · have hlt' : decide (p < bs.length) = false := decide_eq_false hlt
    go_quiet (fail)
    generalize hwq : w1.drewN _ = wq
    have KQ := Lib.hid (show Below w1.heap.size w1 wq by rw [← hwq]; exact belowD (Below.refl _ _) _)
    have HZQ := Lib.hid (show wq.heap.size = w1.heap.size by rw [← hwq]; rfl)
    clear hwq
    have hm : x.tmod n = x % n := Int.tmod_eq_emod_of_nonneg hx0
    have hr0 := Int.emod_nonneg x (show n ≠ 0 by omega)
    have hr1 := Int.emod_lt_of_pos x (show 0 < n by omega)
    go_wp2_with fail
    go_ret
    refine ⟨_, rfl, hr0, hr1, ⟨by rw [HZQ.out]; exact hX1, RV.below HRD.out KQ.out, H.out.nS, H.out.by_, (KQ.out.frozen (p := ⟨S, 1, none⟩) hX1).trans g1, (KQ.out.frozen (p := ⟨S, 2, none⟩) hX1).trans g2, p, h2, hp, cell_in KQ.out hX1 y0, cell_in KQ.out hX1 y1, cell_in KQ.out hX1 y2, trivial⟩, K1.out.trans (KeepF.ofBelow (F := fun g => g = S) KQ.out) (fun _ _ e => e), by rw [HZQ.out, HZ1.out]⟩
  · have hpu : p < (bytesV bs).length := by simp [bytesV]; exact hlt
    obtain ⟨bA, oA, rfl, hbc⟩ := HRD.out.at_ hpu
    have hbb := World.block_lt_of_cell? w1 _ hbc
    simp only at hbb
    have hb := H.out.by_ bs[p] (List.getElem_mem hlt)
    have hbe : (bytesV bs)[p] = .int .u8 bs[p] := by simp [bytesV]
    rw [hbe] at hbc
    have HNS := Lib.hid (show bA ≠ S from fun e => H.out.nS (by omega) bA oA rfl e)
    generalize bs[p] = b at *
    obtain ⟨hb0, hb1⟩ := hb
    have i0 : (0 : Int) ≤ (p : Int) := by omega
    have i1 : (p : Int) < (bs.length : Int) := by omega
    clear hpu hbe
    go_quiet (fail)
    generalize hwq : w1.drewN _ = wq
    have KQ := Lib.hid (show Below w1.heap.size w1 wq by rw [← hwq]; exact belowD (Below.refl _ _) _)
    have HZQ := Lib.hid (show wq.heap.size = w1.heap.size by rw [← hwq]; rfl)
    clear hwq
    have z0 := cell_in KQ.out hX1 y0
    have z1 := cell_in KQ.out hX1 y1
    have z2 := cell_in KQ.out hX1 y2
    have zb := cell_in KQ.out hbb hbc
    have hXq : S < wq.heap.size := by rw [HZQ.out]; exact hX1
    go_wp2_with fail
    go_quiet (fail)
    generalize hwr : wq.drewN _ = wr
    have KR := Lib.hid (show Below wq.heap.size wq wr by rw [← hwr]; exact belowD (Below.refl _ _) _)
    have HZR := Lib.hid (show wr.heap.size = wq.heap.size by rw [← hwr]; rfl)
    clear hwr
    have u0 := cell_in KR.out hXq z0
    have u1 := cell_in KR.out hXq z1
    have u2 := cell_in KR.out hXq z2
    have e1 := (KR.out.frozen (p := ⟨S, 1, none⟩) hXq).trans ((KQ.out.frozen (p := ⟨S, 1, none⟩) hX1).trans g1)
    have e2 := (KR.out.frozen (p := ⟨S, 2, none⟩) hXq).trans ((KQ.out.frozen (p := ⟨S, 2, none⟩) hX1).trans g2)
    have hm : (x + b).tmod n = (x + b) % n := Int.tmod_eq_emod_of_nonneg (by omega)
    have hr0 := Int.emod_nonneg (x + b) (show n ≠ 0 by omega)
    have hr1 := Int.emod_lt_of_pos (x + b) (show 0 < n by omega)
    clear z0 z1 z2 zb y0 y1 y2 g1 g2
    go_wp2_with fail
    go_ret
    have K2 : KeepF (fun g => g = S) w (wr.setCell ⟨S, 1, none⟩ (.int .i64 ((p : Int) + 1))) :=
      (((K1.out.trans (KeepF.ofBelow (F := fun g => g = S) KQ.out) (fun _ _ e => e)).trans (KeepF.ofBelow (F := fun g => g = S) KR.out) (fun _ _ e => e))).setCell (p := ⟨S, 1, none⟩) (.inl rfl) _
    have hz2 : (wr.setCell ⟨S, 1, none⟩ (.int .i64 ((p : Int) + 1))).heap.size = w.heap.size := by simp only [World.size_setCell]; rw [HZR.out, HZQ.out, HZ1.out]
    refine ⟨_, rfl, hr0, hr1, ⟨by rw [hz2]; exact hX, RV.keepN H.out.rd K2 (by simp only [bytesV, List.length_map]; exact H.out.nS), H.out.nS, H.out.by_, by simp only [World.frozen?_setCell]; exact e1, by simp only [World.frozen?_setCell]; exact e2, p + 1, h2, by omega, (World.cell?_setCell_other _ _ _ _ (by simp)).trans u0, by rw [Int.natCast_succ]; exact World.cell?_setCell_same _ _ _ u1, (World.cell?_setCell_other _ _ _ _ (by simp)).trans u2, trivial⟩, K2, hz2⟩
set_option maxRecDepth 100000 in
set_option maxHeartbeats 4000000 in
theorem roll_any (A : Option Addr) (c : Nat) (bs : List Int) (seed : Int) (w : World) (h : RCode w A bs) :
    Calls Tryz.prog 37 #[.slice A bs.length c, .int .u64 seed] w fun e w' => e = .returned (.pointer (some ⟨w.heap.size, 0, none⟩)) ∧ Dice w.heap.size A c bs w' ∧ Below w.heap.size w w' ∧ w'.heap.size = w.heap.size + 1 := by
  have hle : bs.length ≤ 9223372036854775807 := by have := h.1.1; simpa [bytesV] using this
  obtain ⟨h0, hh0⟩ : ∃ h0, IntKind.u64.wrap (IntKind.u64.wrap (seed * 7919) + (bs.length : Int)) = h0 := ⟨_, rfl⟩
  obtain ⟨w0, hw0⟩ : ∃ w0, w0 = w.alloc (.cells #[.slice A bs.length c, .int .i64 0, .int .u64 h0] 110) := ⟨_, rfl⟩
  have B0 : Below w.heap.size w w0 := by rw [hw0]; exact (Below.refl w.heap.size w).alloc (Nat.le_refl _) _
  have hz0 : w0.heap.size = w.heap.size + 1 := by rw [hw0]; simp
  have HSRC := Lib.hid (show Dice w.heap.size A c bs w0 from by
    refine ⟨by omega, RV.below h.1 B0, fun h0 b o e e' => ?_, h.2, ?_, ?_, 0, h0, by omega, ?_⟩
    · have := rv_block h.1 (by simp [bytesV]; exact h0) e; omega
    · rw [hw0]; exact World.frozen?_alloc_at _ _ _ _ (by simp)
    · rw [hw0]; exact World.frozen?_alloc_at _ _ _ _ (by simp)
    · rw [hw0]; exact BoxC.new [.slice A bs.length c, .int .i64 0, .int .u64 h0] rfl)
  have HB := Lib.hid B0; have HZ := Lib.hid hz0
  clear h B0 hz0
  go_enter Tryz.func37, Tryz.ntmps37
  go_wp2_with fail
  rw [← hw0]
  clear hw0
  go_loopw [6] (fun i wr => ∃ k : Nat, k ≤ bs.length ∧ i = .int .i64 k ∧ Dice w.heap.size A c bs wr ∧ Below w.heap.size w wr ∧ wr.heap.size = w.heap.size + 1) (fun i _ => bs.length - (intOf i).toNat)
  case atStart => exact ⟨0, by omega, rfl, HSRC.out, HB.out, HZ.out⟩
  case round =>
    obtain ⟨k, hk, rfl, hS, hbw, hz⟩ := hrel
    have HS := Lib.hid (And.intro hS (And.intro hbw hz))
    by_cases hlt : k < bs.length
    · obtain ⟨p, s, hp, hbx⟩ := hS.box
      obtain ⟨x0, x1, x2, _⟩ := hbx
      simp only [Nat.zero_add] at x1 x2
      have f2 := hS.f2
      have hX : w.heap.size < wr.heap.size := hS.xl
      obtain ⟨bA, oA, rfl, hbc⟩ := hS.rd.at_ (k := k) (by simp [bytesV]; exact hlt)
      have hbb := World.block_lt_of_cell? wr _ hbc
      simp only at hbb
      have hb := hS.by_ bs[k] (List.getElem_mem hlt)
      have hbe : (bytesV bs)[k]'(by simp [bytesV]; exact hlt) = .int .u8 bs[k] := by simp [bytesV]
      rw [hbe] at hbc
      have HNS := Lib.hid (show bA ≠ w.heap.size from fun e => hS.nS (by omega) bA oA rfl e)
      generalize bs[k] = b at *
      obtain ⟨hb0, hb1⟩ := hb
      have i0 : (0 : Int) ≤ (k : Int) := by omega
      have i1 : (k : Int) < (bs.length : Int) := by omega
      have KS := Lib.hid (show ∀ W : World, W.heap = wr.heap → (W.cell? ⟨bA, oA + k, none⟩ = some (.int .u8 b)) from fun W hW => by simpa [World.cell?, hW] using hbc)
      clear hbe hS hbw hz
      go_wp2_with fail
      refine wp_region_held_drew (S := (fun W => W.cell? ⟨bA, oA + k, none⟩ = some (.int .u8 b))) (by kernel_rfl) (KS.out _ rfl) (fun hHeld => ?_)
      refine takeD (i := 0) (some 22) (.pointer (some ⟨w.heap.size, 0, none⟩)) rfl (by kernel_rfl) (by kernel_rfl) (by kernel_rfl) (by kernel_rfl) (fun _ _ _ h => h) (by assumption) (Or.inl ⟨by rfl, fun w hSw => by (try dsimp only at hSw); go_simp⟩) ?_
      simp only [Act.put, List.setIfInBounds_toArray, List.set_cons_zero, List.set_cons_succ]
      refine takeD (i := 1) (some 23) (.pointer (some ⟨w.heap.size, 0, none⟩)) rfl (by kernel_rfl) (by kernel_rfl) (by kernel_rfl) (by kernel_rfl) (fun _ _ _ h => h) (by assumption) (Or.inl ⟨by rfl, fun w hSw => by (try dsimp only at hSw); go_simp⟩) ?_
      simp only [Act.put, List.setIfInBounds_toArray, List.set_cons_zero, List.set_cons_succ]
      refine takeD (i := 2) (some 24) (.pointer (some ⟨w.heap.size, 0, none⟩)) rfl (by kernel_rfl) (by kernel_rfl) (by kernel_rfl) (by kernel_rfl) (fun _ _ _ h => h) (by assumption) (Or.inl ⟨by rfl, fun w hSw => by (try dsimp only at hSw); go_simp⟩) ?_
      simp only [Act.put, List.setIfInBounds_toArray, List.set_cons_zero, List.set_cons_succ]
      refine takeD (i := 3) (some 25) (.pointer (some ⟨w.heap.size, 2, none⟩)) rfl (by kernel_rfl) (by kernel_rfl) (by kernel_rfl) (by kernel_rfl) (fun _ _ _ h => h) (by assumption) (Or.inl ⟨by rfl, fun w hSw => by (try dsimp only at hSw); go_simp⟩) ?_
      simp only [Act.put, List.setIfInBounds_toArray, List.set_cons_zero, List.set_cons_succ]
      refine takeD (i := 6) (some 28) (.slice (some ⟨bA, oA, none⟩) bs.length c) rfl (by kernel_rfl) (by kernel_rfl) (by kernel_rfl) (by kernel_rfl) (fun _ _ _ h => h) (by assumption) (Or.inl ⟨by rfl, fun w hSw => by (try dsimp only at hSw); go_simp⟩) ?_
      simp only [Act.put, List.setIfInBounds_toArray, List.set_cons_zero, List.set_cons_succ]
      refine takeD (i := 7) (some 29) (.int .i64 (k : Int)) rfl (by kernel_rfl) (by kernel_rfl) (by kernel_rfl) (by kernel_rfl) (fun _ _ _ h => h) (by assumption) (Or.inl ⟨by rfl, fun w hSw => by (try dsimp only at hSw); go_simp⟩) ?_
      simp only [Act.put, List.setIfInBounds_toArray, List.set_cons_zero, List.set_cons_succ]
      refine takeD (i := 8) (some 30) (.pointer (some ⟨bA, oA + k, none⟩)) rfl (by kernel_rfl) (by kernel_rfl) (by kernel_rfl) (by kernel_rfl) (fun _ _ _ h => h) (by assumption) (Or.inl ⟨by rfl, fun w hSw => by (try dsimp only at hSw); go_simp⟩) ?_
      simp only [Act.put, List.setIfInBounds_toArray, List.set_cons_zero, List.set_cons_succ]
      refine takeD (i := 9) (some 31) (.int .u8 b) rfl (by kernel_rfl) (by kernel_rfl) (by kernel_rfl) (by kernel_rfl) (fun _ _ _ h => h) (by assumption) (Or.inl ⟨by rfl, fun w hSw => by (try dsimp only at hSw); go_simp⟩) ?_
      simp only [Act.put, List.setIfInBounds_toArray, List.set_cons_zero, List.set_cons_succ]
      refine takeD (i := 10) (some 32) (.int .u64 b) rfl (by kernel_rfl) (by kernel_rfl) (by kernel_rfl) (by kernel_rfl) (fun _ _ _ h => h) (by assumption) (Or.inl ⟨by rfl, fun w hSw => by (try dsimp only at hSw); go_simp; (rw [IntKind.wrap_u64]; omega)⟩) ?_
      simp only [Act.put, List.setIfInBounds_toArray, List.set_cons_zero, List.set_cons_succ]
      refine wpAnyH_ready (rs := [4]) (by kernel_rfl) (by simp) (AllReadyH.cons rfl (fun K hK => ?_) AllReadyH.nil)
      go_simp
      have HHeld := KS.out _ rfl
      refine hK.out _ _ HHeld (fun _ => ?_)
      clear hK K
      try simp only [Act.put, List.setIfInBounds_toArray, List.set_cons_zero, List.set_cons_succ]
      refine takeD (i := 5) (some 27) (.int .u64 (IntKind.u64.wrap (s * 1099511628211))) rfl (by kernel_rfl) (by kernel_rfl) (by kernel_rfl) (by kernel_rfl) (fun _ _ _ h => h) (by assumption) (Or.inl ⟨by rfl, fun w hSw => by (try dsimp only at hSw); go_simp⟩) ?_
      simp only [Act.put, List.setIfInBounds_toArray, List.set_cons_zero, List.set_cons_succ]
      refine takeD (i := 11) (some 33) (.int .u64 (IntKind.u64.wrap (IntKind.u64.wrap (s * 1099511628211) + b))) rfl (by kernel_rfl) (by kernel_rfl) (by kernel_rfl) (by kernel_rfl) (fun _ _ _ h => h) (by assumption) (Or.inl ⟨by rfl, fun w hSw => by (try dsimp only at hSw); go_simp⟩) ?_
      simp only [Act.put, List.setIfInBounds_toArray, List.set_cons_zero, List.set_cons_succ]
      refine takeD (i := 12) (some 34) (.int .u64 (IntKind.u64.wrap (IntKind.u64.wrap (IntKind.u64.wrap (s * 1099511628211) + b) + 3))) rfl (by kernel_rfl) (by kernel_rfl) (by kernel_rfl) (by kernel_rfl) (fun _ _ _ h => h) (by assumption) (Or.inl ⟨by rfl, fun w hSw => by (try dsimp only at hSw); go_simp⟩) ?_
      simp only [Act.put, List.setIfInBounds_toArray, List.set_cons_zero, List.set_cons_succ]
      refine takeD (i := 13) (some 35) (.pointer (some ⟨w.heap.size, 0, none⟩)) rfl (by kernel_rfl) (by kernel_rfl) (by kernel_rfl) (by kernel_rfl) (fun _ _ _ h => h) (by assumption) (Or.inl ⟨by rfl, fun w hSw => by (try dsimp only at hSw); go_simp⟩) ?_
      simp only [Act.put, List.setIfInBounds_toArray, List.set_cons_zero, List.set_cons_succ]
      refine takeD (i := 14) (some 36) (.pointer (some ⟨w.heap.size, 2, none⟩)) rfl (by kernel_rfl) (by kernel_rfl) (by kernel_rfl) (by kernel_rfl) (fun _ _ _ h => h) (by assumption) (Or.inl ⟨by rfl, fun w hSw => by (try dsimp only at hSw); go_simp⟩) ?_
      simp only [Act.put, List.setIfInBounds_toArray, List.set_cons_zero, List.set_cons_succ]
      refine wpAnyH_ready (rs := [15]) (by kernel_rfl) (by simp) (AllReadyH.cons rfl (fun K hK => ?_) AllReadyH.nil)
      go_simp
      have HHeld := (World.cell?_setCell_far wr ⟨w.heap.size, 2, none⟩ ⟨bA, oA + k, none⟩ (.int .u64 (IntKind.u64.wrap (IntKind.u64.wrap (IntKind.u64.wrap (s * 1099511628211) + b) + 3))) (Ne.symm HNS.out)).trans hbc
      refine hK.out _ _ HHeld (fun _ => ?_)
      clear hK K
      try simp only [Act.put, List.setIfInBounds_toArray, List.set_cons_zero, List.set_cons_succ]
      refine wpAnyH_done (by kernel_rfl) ?_ _
      go_wp2_with fail
      go_roundw
      case rel =>
        obtain ⟨hS, hbw, hz⟩ := HS.out
        have k1 : KeepF (fun g => g = w.heap.size) wr (wr.setCell ⟨w.heap.size, 2, none⟩ (.int .u64 (IntKind.u64.wrap (IntKind.u64.wrap (IntKind.u64.wrap (s * 1099511628211) + b) + 3)))) := (KeepF.refl (fun g => g = w.heap.size) wr).setCell (p := ⟨w.heap.size, 2, none⟩) (.inl rfl) _
        have hsrc : Dice w.heap.size (some ⟨bA, oA, none⟩) c bs (wr.setCell ⟨w.heap.size, 2, none⟩ (.int .u64 (IntKind.u64.wrap (IntKind.u64.wrap (IntKind.u64.wrap (s * 1099511628211) + b) + 3)))) :=
          ⟨by simp; omega, RV.keepN hS.rd k1 (by simp only [bytesV, List.length_map]; exact hS.nS), hS.nS, hS.by_, (World.frozen?_setCell _ _ _ _).trans hS.f1, (World.frozen?_setCell _ _ _ _).trans hS.f2, p, _, hp, (World.cell?_setCell_other _ _ _ _ (by simp)).trans x0, (World.cell?_setCell_other _ _ _ _ (by simp)).trans x1, World.cell?_setCell_same _ _ _ x2, trivial⟩
        obtain ⟨a1, a2, a3, a4, a5, a6, a7⟩ := hsrc
        exact ⟨k + 1, by omega, by go_num, ⟨a1, a2, a3, a4, a5, a6, a7⟩, belowD (hbw.setCell (p := ⟨w.heap.size, 2, none⟩) (Nat.le_refl _) _) 1, by simp; exact hz⟩
      case measure => simp [intOf]; omega
    · obtain rfl : k = bs.length := by omega
      go_wp2_with fail
      go_ret
      exact ⟨rfl, HS.out⟩
end Go.Proofs.YtdedajohkdbdkaaGreat
