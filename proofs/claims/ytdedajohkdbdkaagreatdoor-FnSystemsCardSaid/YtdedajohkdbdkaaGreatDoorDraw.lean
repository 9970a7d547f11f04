/- The reference's draws: the source of numbers; contracts of l01Next, l01Pick, l01From. -/
import Derived.Test.YtdedajohkdbdkaaGreatDoorFGhost
import Derived.Test.YtdedajohkdbdkaaGreatDoorFKey
namespace Go.Proofs.YtdedajohkdbdkaaGreatDoor
set_option linter.unusedVariables false
open Go.RowKit
theorem rv_block {w : World} {A : Option Addr} {b o : Nat} {us : List Value} (h : RV w A us) (h0 : 0 < us.length) (e : A = some ⟨b, o, none⟩) : b < w.heap.size := by
  subst e; exact ri_block h (fun e => by rw [e] at h0; simp at h0)
def bytesV (bs : List Int) : List Value := bs.map (Value.int .u8)
/-- the source at S: the code bs, a place in it, a seed -/
structure Src (S : Nat) (A : Option Addr) (c : Nat) (bs : List Int) (w : World) : Prop where
  xl : S < w.heap.size
  rd : RV w A (bytesV bs)
  nS : NF (fun g => g = S) A bs.length
  by_ : ∀ b ∈ bs, 0 ≤ b ∧ b < 256
  f1 : w.frozen? ⟨S, 1, none⟩ = false
  f2 : w.frozen? ⟨S, 2, none⟩ = false
  box : ∃ (p : Nat) (s : Int), p ≤ bs.length ∧ 0 ≤ s ∧ s < 2147483647 ∧ BoxC w S 0 [.slice A bs.length c, .int .i64 (p : Int), .int .i64 s]
set_option maxRecDepth 100000 in
set_option maxHeartbeats 8000000 in
theorem l01Next_any (S : Nat) (A : Option Addr) (c : Nat) (bs : List Int) (n : Int) (w : World) (h : Src S A c bs w) :
    Calls Tryz.prog 36 #[.pointer (some ⟨S, 0, none⟩), .int .i64 n] w fun e w' => ∃ r, e = .returned (.int .i64 r) ∧ 0 ≤ r ∧ (r < n ∨ r = 0) ∧ Src S A c bs w' ∧ KeepF (fun g => g = S) w w' ∧ w'.heap.size = w.heap.size := by
  obtain ⟨p, s, hp, hs0, hs1, hb⟩ := h.box
  obtain ⟨x0, x1, x2, _⟩ := hb
  simp only [Nat.zero_add] at x1 x2
  have H := Lib.hid h
  have hX := h.xl
  have f1 := h.f1; have f2 := h.f2
  have hle : bs.length ≤ 9223372036854775807 := by have := h.rd.1; simpa [bytesV] using this
  clear h
  by_cases hn : n ≤ 1
  · go_enter Tryz.func36, Tryz.ntmps36
    go_wp2_with fail
    go_ret
    exact ⟨0, rfl, Int.le_refl _, .inr rfl, H.out, KeepF.refl _ _, rfl⟩
  · have hn' : decide (n ≤ 1) = false := decide_eq_false hn
    go_enter Tryz.func36, Tryz.ntmps36
    go_wp2_with fail
    have hq0 : 0 ≤ (s * 48271 + 29) % 2147483647 := by omega
    have hq1 : (s * 48271 + 29) % 2147483647 < 2147483647 := by omega
    generalize hs2 : (s * 48271 + 29) % 2147483647 = s2 at *
    have hx0 : 0 ≤ s2 / 31 := by omega
    have hx1 : s2 / 31 < 2147483647 := by omega
    generalize hx : s2 / 31 = x at *
    clear hs2 hx
    obtain ⟨w1, hw1⟩ : ∃ w1, w1 = w.setCell ⟨S, 2, none⟩ (.int .i64 s2) := ⟨_, rfl⟩
    rw [← hw1]
    have y0 : w1.cell? ⟨S, 0, none⟩ = some (.slice A bs.length c) := by rw [hw1]; exact (World.cell?_setCell_other _ _ _ _ (by simp)).trans x0
    have y1 : w1.cell? ⟨S, 1, none⟩ = some (.int .i64 (p : Int)) := by rw [hw1]; exact (World.cell?_setCell_other _ _ _ _ (by simp)).trans x1
    have y2 : w1.cell? ⟨S, 2, none⟩ = some (.int .i64 s2) := by rw [hw1]; exact World.cell?_setCell_same _ _ _ x2
    have g1 : w1.frozen? ⟨S, 1, none⟩ = false := by rw [hw1]; simp only [World.frozen?_setCell]; exact f1
    have g2 : w1.frozen? ⟨S, 2, none⟩ = false := by rw [hw1]; simp only [World.frozen?_setCell]; exact f2
    have K1 := Lib.hid (show KeepF (fun g => g = S) w w1 by rw [hw1]; exact (KeepF.refl (fun g => g = S) w).setCell (p := ⟨S, 2, none⟩) (.inl rfl) _)
    have hz1 : w1.heap.size = w.heap.size := by rw [hw1]; simp
    have HZ1 := Lib.hid hz1
    have hX1 : S < w1.heap.size := by omega
    have HRD := Lib.hid (show RV w1 A (bytesV bs) from RV.keepN H.out.rd K1.out (by simp only [bytesV, List.length_map]; exact H.out.nS))
    clear hw1 hz1 x0 x1 x2 f1 f2
    by_cases hlt : p < bs.length
    rotate_left
    · have hlt' : decide (p < bs.length) = false := decide_eq_false hlt
      go_quiet (fail)
      generalize hwq : w1.drewN _ = wq
      have KQ := Lib.hid (show Below w1.heap.size w1 wq by rw [← hwq]; exact belowD (Below.refl _ _) _)
      have HZQ := Lib.hid (show wq.heap.size = w1.heap.size by rw [← hwq]; rfl)
      clear hwq
      have hr0 := Int.emod_nonneg x (show n ≠ 0 by omega)
      have hr1 := Int.emod_lt_of_pos x (show 0 < n by omega)
      go_wp2_with fail
      go_ret
      refine ⟨_, rfl, hr0, .inl hr1, ⟨by rw [HZQ.out]; exact hX1, RV.below HRD.out KQ.out, H.out.nS, H.out.by_, (KQ.out.frozen (p := ⟨S, 1, none⟩) hX1).trans g1, (KQ.out.frozen (p := ⟨S, 2, none⟩) hX1).trans g2, p, s2, hp, hq0, hq1, cell_in KQ.out hX1 y0, cell_in KQ.out hX1 y1, cell_in KQ.out hX1 y2, trivial⟩, K1.out.trans (KeepF.ofBelow (F := fun g => g = S) KQ.out) (fun _ _ e => e), by rw [HZQ.out, HZ1.out]⟩
    · have hpu : p < (bytesV bs).length := by simp [bytesV]; exact hlt
      obtain ⟨bA, oA, rfl, hbc⟩ := HRD.out.at_ hpu
      have hbb := World.block_lt_of_cell? w1 _ hbc
      simp only at hbb
      have hb := H.out.by_ bs[p] (List.getElem_mem hlt)
      have hbe : (bytesV bs)[p] = .int .u8 bs[p] := by simp [bytesV]
      rw [hbe] at hbc
      have HNS := Lib.hid (show bA ≠ S from fun e => H.out.nS (by omega) bA oA rfl e)
      generalize bs[p] = b at *
      obtain ⟨hb0, hb1⟩ := hb
      have i0 : (0 : Int) ≤ (p : Int) := by omega
      have i1 : (p : Int) < (bs.length : Int) := by omega
      clear hpu hbe
      go_quiet (fail)
      generalize hwq : w1.drewN _ = wq
      have KQ := Lib.hid (show Below w1.heap.size w1 wq by rw [← hwq]; exact belowD (Below.refl _ _) _)
      have HZQ := Lib.hid (show wq.heap.size = w1.heap.size by rw [← hwq]; rfl)
      clear hwq
      have z0 := cell_in KQ.out hX1 y0
      have z1 := cell_in KQ.out hX1 y1
      have z2 := cell_in KQ.out hX1 y2
      have zb := cell_in KQ.out hbb hbc
      have hXq : S < wq.heap.size := by rw [HZQ.out]; exact hX1
      go_wp2_with fail
      go_quiet (fail)
      generalize hwr : wq.drewN _ = wr
      have KR := Lib.hid (show Below wq.heap.size wq wr by rw [← hwr]; exact belowD (Below.refl _ _) _)
      have HZR := Lib.hid (show wr.heap.size = wq.heap.size by rw [← hwr]; rfl)
      clear hwr
      have u0 := cell_in KR.out hXq z0
      have u1 := cell_in KR.out hXq z1
      have u2 := cell_in KR.out hXq z2
      have e1 := (KR.out.frozen (p := ⟨S, 1, none⟩) hXq).trans ((KQ.out.frozen (p := ⟨S, 1, none⟩) hX1).trans g1)
      have ub := cell_in KR.out (by simp only; rw [HZQ.out]; exact hbb) zb
      have e2 := (KR.out.frozen (p := ⟨S, 2, none⟩) hXq).trans ((KQ.out.frozen (p := ⟨S, 2, none⟩) hX1).trans g2)
      obtain ⟨w2, hw2⟩ : ∃ w2, w2 = wr.setCell ⟨S, 1, none⟩ (.int .i64 ((p : Int) + 1)) := ⟨_, rfl⟩
      have v0 : (wr.setCell ⟨S, 1, none⟩ (.int .i64 ((p : Int) + 1))).cell? ⟨S, 0, none⟩ = some (.slice (some ⟨bA, oA, none⟩) bs.length c) := (World.cell?_setCell_other _ _ _ _ (by simp)).trans u0
      have v1 : (wr.setCell ⟨S, 1, none⟩ (.int .i64 ((p : Int) + 1))).cell? ⟨S, 1, none⟩ = some (.int .i64 ((p : Int) + 1)) := World.cell?_setCell_same _ _ _ u1
      have v2 : (wr.setCell ⟨S, 1, none⟩ (.int .i64 ((p : Int) + 1))).cell? ⟨S, 2, none⟩ = some (.int .i64 s2) := (World.cell?_setCell_other _ _ _ _ (by simp)).trans u2
      have vb : (wr.setCell ⟨S, 1, none⟩ (.int .i64 ((p : Int) + 1))).cell? ⟨bA, oA + p, none⟩ = some (.int .u8 b) := (World.cell?_setCell_far _ _ _ _ (Ne.symm HNS.out)).trans ub
      have K2 := Lib.hid (show KeepF (fun g => g = S) w w2 from by
        rw [hw2]
        exact (((K1.out.trans (KeepF.ofBelow (F := fun g => g = S) KQ.out) (fun _ _ e => e)).trans (KeepF.ofBelow (F := fun g => g = S) KR.out) (fun _ _ e => e))).setCell (p := ⟨S, 1, none⟩) (.inl rfl) _)
      have HZ2 := Lib.hid (show w2.heap.size = w.heap.size by rw [hw2]; simp only [World.size_setCell]; rw [HZR.out, HZQ.out, HZ1.out])
      have HS2 := Lib.hid (show Src S (some ⟨bA, oA, none⟩) c bs w2 from by
        refine ⟨by rw [HZ2.out]; exact hX, RV.keepN H.out.rd K2.out (by simp only [bytesV, List.length_map]; exact H.out.nS), H.out.nS, H.out.by_, ?_, ?_, p + 1, s2, by omega, hq0, hq1, ?_⟩
        · rw [hw2]; simp only [World.frozen?_setCell]; exact e1
        · rw [hw2]; simp only [World.frozen?_setCell]; exact e2
        · rw [hw2]; exact ⟨v0, by rw [Int.natCast_succ]; exact v1, v2, trivial⟩)
      have hXs : S < w2.heap.size := by rw [HZ2.out]; exact hX
      have HW2 := Lib.hid hw2
      have hbw : bA < wr.heap.size := by rw [HZR.out, HZQ.out]; exact hbb
      have hXwr : S < wr.heap.size := by rw [HZR.out]; exact hXq
      clear hw2 z0 z1 z2 zb u0 u2 ub e2 y0 y1 y2 g1 g2
      have hm0 := Int.emod_nonneg (x + b) (show n ≠ 0 by omega)
      have hm1 := Int.emod_lt_of_pos (x + b) (show 0 < n by omega)
      have hk0 := Int.emod_nonneg b (show n ≠ 0 by omega)
      have hk1 := Int.emod_lt_of_pos b (show 0 < n by omega)
      by_cases h256 : n ≤ 256
      · cases hev : (((p : Int) + 1) % 2 == 0) with
        | true =>
          go_wp2_with fail
          go_quiet (fail)
          go_wp2_with fail
          go_ret
          rw [← HW2.out]
          refine ⟨_, rfl, hk0, .inl hk1, ?_, K2.out.trans (KeepF.ofBelow (F := fun g => g = S) (belowD (Below.refl _ _) _)) (fun _ _ e => e), HZ2.out⟩
          obtain ⟨a1, a2, a3, a4, a5, a6, a7⟩ := HS2.out
          exact ⟨a1, a2, a3, a4, a5, a6, a7⟩
        | false =>
          go_wp2_with fail
          go_ret
          rw [← HW2.out]
          exact ⟨_, rfl, hm0, .inl hm1, HS2.out, K2.out, HZ2.out⟩
      · have h256' : decide (n ≤ 256) = false := decide_eq_false h256
        go_wp2_with fail
        go_ret
        rw [← HW2.out]
        exact ⟨_, rfl, hm0, .inl hm1, HS2.out, K2.out, HZ2.out⟩
set_option maxRecDepth 100000 in
set_option maxHeartbeats 2000000 in
theorem l01Pick_any (S : Nat) (A : Option Addr) (c : Nat) (bs : List Int) (B : Option Addr) (d : Nat) (xs : List Int) (w : World) (h : Src S A c bs w) (g : RI w B xs) (hB : NF (fun g => g = S) B xs.length) (h0 : 0 < xs.length) :
    Calls Tryz.prog 37 #[.pointer (some ⟨S, 0, none⟩), .slice B xs.length d] w fun e w' => ∃ r, e = .returned (.int .i64 r) ∧ r ∈ xs ∧ Src S A c bs w' ∧ KeepF (fun g => g = S) w w' ∧ w'.heap.size = w.heap.size := by
  have HN := Lib.hid (l01Next_any S A c bs (xs.length : Int) w h)
  have HG := Lib.hid g
  have hle := g.le
  have HBB := Lib.hid hB
  clear h g hB
  go_enter Tryz.func37, Tryz.ntmps37
  go_wp2_with fail
  refine HN.out.mono ?_
  rintro e w1 ⟨r, rfl, hr0, hr1, hS, hK, hz⟩
  obtain ⟨k, rfl⟩ : ∃ k : Nat, r = (k : Int) := ⟨r.toNat, by omega⟩
  have hk : k < xs.length := by omega
  obtain ⟨b, o, rfl, hc⟩ := (RI.keepN HG.out hK HBB.out).at_ hk
  have HMEM := Lib.hid (show xs[k] ∈ xs from List.getElem_mem hk)
  have HS := Lib.hid (And.intro hS (And.intro hK hz))
  have i1 : (k : Int) < (xs.length : Int) := by omega
  obtain ⟨y, hy⟩ : ∃ y, y = xs[k] := ⟨_, rfl⟩
  rw [← hy] at hc HMEM
  clear hS hK hz hr1 hy
  go_wp2_with fail
  go_ret
  exact ⟨y, rfl, HMEM.out, HS.out.1, HS.out.2.1, HS.out.2.2⟩
set_option maxRecDepth 100000 in
set_option maxHeartbeats 4000000 in
theorem l01From_any (A : Option Addr) (c : Nat) (bs : List Int) (w : World) (h : RV w A (bytesV bs)) (hb : ∀ b ∈ bs, 0 ≤ b ∧ b < 256) :
    Calls Tryz.prog 17 #[.slice A bs.length c] w fun e w' => e = .returned (.pointer (some ⟨w.heap.size, 0, none⟩)) ∧ Src w.heap.size A c bs w' ∧ Below w.heap.size w w' ∧ w'.heap.size = w.heap.size + 1 := by
  have hle : bs.length ≤ 9223372036854775807 := by have := h.1; simpa [bytesV] using this
  obtain ⟨w0, hw0⟩ : ∃ w0, w0 = w.alloc (.cells #[.slice A bs.length c, .int .i64 0, .int .i64 30011] 66) := ⟨_, rfl⟩
  have B0 : Below w.heap.size w w0 := by rw [hw0]; exact (Below.refl w.heap.size w).alloc (Nat.le_refl _) _
  have hz0 : w0.heap.size = w.heap.size + 1 := by rw [hw0]; simp
  have HSRC := Lib.hid (show Src w.heap.size A c bs w0 from by
    refine ⟨by omega, RV.below h B0, fun h0 b o e e' => ?_, hb, ?_, ?_, 0, 30011, by omega, by omega, by omega, ?_⟩
    · have := rv_block h (by simp [bytesV]; exact h0) e; omega
    · rw [hw0]; exact World.frozen?_alloc_at _ _ _ _ (by simp)
    · rw [hw0]; exact World.frozen?_alloc_at _ _ _ _ (by simp)
    · rw [hw0]; exact BoxC.new [.slice A bs.length c, .int .i64 0, .int .i64 30011] rfl)
  have HB := Lib.hid B0; have HZ := Lib.hid hz0
  clear h hb B0 hz0
  go_enter Tryz.func17, Tryz.ntmps17
  go_wp2_with fail
  rw [← hw0]
  clear hw0
  go_loopw [4] (fun i wr => ∃ k : Nat, k ≤ bs.length ∧ i = .int .i64 k ∧ Src w.heap.size A c bs wr ∧ Below w.heap.size w wr ∧ wr.heap.size = w.heap.size + 1) (fun i _ => bs.length - (intOf i).toNat)
  case atStart => exact ⟨0, by omega, rfl, HSRC.out, HB.out, HZ.out⟩
  case round =>
    obtain ⟨k, hk, rfl, hS, hbw, hz⟩ := hrel
    have HS := Lib.hid (And.intro hS (And.intro hbw hz))
    by_cases hlt : k < bs.length
    · by_cases h64 : k < 64
      · have h64' : (k : Int) < 64 := by omega
        obtain ⟨p, s, hp, hs0, hs1, hbx⟩ := hS.box
        obtain ⟨x0, x1, x2, _⟩ := hbx
        simp only [Nat.zero_add] at x1 x2
        have f2 := hS.f2
        have hX : w.heap.size < wr.heap.size := hS.xl
        obtain ⟨bA, oA, rfl, hbc⟩ := hS.rd.at_ (k := k) (by simp [bytesV]; exact hlt)
        have hbb := World.block_lt_of_cell? wr _ hbc
        simp only at hbb
        have hb := hS.by_ bs[k] (List.getElem_mem hlt)
        have hbe : (bytesV bs)[k]'(by simp [bytesV]; exact hlt) = .int .u8 bs[k] := by simp [bytesV]
        rw [hbe] at hbc
        have HNS := Lib.hid (show bA ≠ w.heap.size from fun e => hS.nS (by omega) bA oA rfl e)
        generalize bs[k] = b at *
        obtain ⟨hb0, hb1⟩ := hb
        have i0 : (0 : Int) ≤ (k : Int) := by omega
        have i1 : (k : Int) < (bs.length : Int) := by omega
        have hq0 : 0 ≤ (s * 67 + b) % 2147483647 := by omega
        have hq1 : (s * 67 + b) % 2147483647 < 2147483647 := by omega
        have KS := Lib.hid (show ∀ W : World, W.heap = wr.heap → (W.cell? ⟨bA, oA + k, none⟩ = some (.int .u8 b)) from fun W hW => by simpa [World.cell?, hW] using hbc)
        clear hbe hS hbw hz
        go_wp2_with fail
        refine wp_region_held_drew (S := (fun W => W.cell? ⟨bA, oA + k, none⟩ = some (.int .u8 b))) (by kernel_rfl) (KS.out _ rfl) (fun hHeld => ?_)
        refine takeD (i := 0) (some 18) (.pointer (some ⟨w.heap.size, 0, none⟩)) rfl (by kernel_rfl) (by kernel_rfl) (by kernel_rfl) (by kernel_rfl) (fun _ _ _ h => h) (by assumption) (Or.inl ⟨by rfl, fun w hSw => by (try dsimp only at hSw); go_simp⟩) ?_
        simp only [Act.put, List.setIfInBounds_toArray, List.set_cons_zero, List.set_cons_succ]
        refine takeD (i := 1) (some 19) (.pointer (some ⟨w.heap.size, 0, none⟩)) rfl (by kernel_rfl) (by kernel_rfl) (by kernel_rfl) (by kernel_rfl) (fun _ _ _ h => h) (by assumption) (Or.inl ⟨by rfl, fun w hSw => by (try dsimp only at hSw); go_simp⟩) ?_
        simp only [Act.put, List.setIfInBounds_toArray, List.set_cons_zero, List.set_cons_succ]
        refine takeD (i := 2) (some 20) (.pointer (some ⟨w.heap.size, 0, none⟩)) rfl (by kernel_rfl) (by kernel_rfl) (by kernel_rfl) (by kernel_rfl) (fun _ _ _ h => h) (by assumption) (Or.inl ⟨by rfl, fun w hSw => by (try dsimp only at hSw); go_simp⟩) ?_
        simp only [Act.put, List.setIfInBounds_toArray, List.set_cons_zero, List.set_cons_succ]
        refine takeD (i := 3) (some 21) (.pointer (some ⟨w.heap.size, 2, none⟩)) rfl (by kernel_rfl) (by kernel_rfl) (by kernel_rfl) (by kernel_rfl) (fun _ _ _ h => h) (by assumption) (Or.inl ⟨by rfl, fun w hSw => by (try dsimp only at hSw); go_simp⟩) ?_
        simp only [Act.put, List.setIfInBounds_toArray, List.set_cons_zero, List.set_cons_succ]
        refine takeD (i := 6) (some 24) (.slice (some ⟨bA, oA, none⟩) bs.length c) rfl (by kernel_rfl) (by kernel_rfl) (by kernel_rfl) (by kernel_rfl) (fun _ _ _ h => h) (by assumption) (Or.inl ⟨by rfl, fun w hSw => by (try dsimp only at hSw); go_simp⟩) ?_
        simp only [Act.put, List.setIfInBounds_toArray, List.set_cons_zero, List.set_cons_succ]
        refine takeD (i := 7) (some 25) (.int .i64 (k : Int)) rfl (by kernel_rfl) (by kernel_rfl) (by kernel_rfl) (by kernel_rfl) (fun _ _ _ h => h) (by assumption) (Or.inl ⟨by rfl, fun w hSw => by (try dsimp only at hSw); go_simp⟩) ?_
        simp only [Act.put, List.setIfInBounds_toArray, List.set_cons_zero, List.set_cons_succ]
        refine takeD (i := 8) (some 26) (.pointer (some ⟨bA, oA + k, none⟩)) rfl (by kernel_rfl) (by kernel_rfl) (by kernel_rfl) (by kernel_rfl) (fun _ _ _ h => h) (by assumption) (Or.inl ⟨by rfl, fun w hSw => by (try dsimp only at hSw); go_simp⟩) ?_
        simp only [Act.put, List.setIfInBounds_toArray, List.set_cons_zero, List.set_cons_succ]
        refine takeD (i := 9) (some 27) (.int .u8 b) rfl (by kernel_rfl) (by kernel_rfl) (by kernel_rfl) (by kernel_rfl) (fun _ _ _ h => h) (by assumption) (Or.inl ⟨by rfl, fun w hSw => by (try dsimp only at hSw); go_simp⟩) ?_
        simp only [Act.put, List.setIfInBounds_toArray, List.set_cons_zero, List.set_cons_succ]
        refine takeD (i := 10) (some 28) (.int .i64 b) rfl (by kernel_rfl) (by kernel_rfl) (by kernel_rfl) (by kernel_rfl) (fun _ _ _ h => h) (by assumption) (Or.inl ⟨by rfl, fun w hSw => by (try dsimp only at hSw); go_simp; (rw [IntKind.wrap_i64]; omega)⟩) ?_
        simp only [Act.put, List.setIfInBounds_toArray, List.set_cons_zero, List.set_cons_succ]
        refine wpAnyH_ready (rs := [4]) (by kernel_rfl) (by simp) (AllReadyH.cons rfl (fun K hK => ?_) AllReadyH.nil)
        go_simp
        have HHeld := KS.out _ rfl
        refine hK.out _ _ HHeld (fun _ => ?_)
        clear hK K
        try simp only [Act.put, List.setIfInBounds_toArray, List.set_cons_zero, List.set_cons_succ]
        refine takeD (i := 5) (some 23) (.int .i64 (s * 67)) rfl (by kernel_rfl) (by kernel_rfl) (by kernel_rfl) (by kernel_rfl) (fun _ _ _ h => h) (by assumption) (Or.inl ⟨by rfl, fun w hSw => by (try dsimp only at hSw); go_simp; (rw [IntKind.wrap_i64]; omega)⟩) ?_
        simp only [Act.put, List.setIfInBounds_toArray, List.set_cons_zero, List.set_cons_succ]
        refine takeD (i := 11) (some 29) (.int .i64 (s * 67 + b)) rfl (by kernel_rfl) (by kernel_rfl) (by kernel_rfl) (by kernel_rfl) (fun _ _ _ h => h) (by assumption) (Or.inl ⟨by rfl, fun w hSw => by (try dsimp only at hSw); go_simp; (rw [IntKind.wrap_i64]; omega)⟩) ?_
        simp only [Act.put, List.setIfInBounds_toArray, List.set_cons_zero, List.set_cons_succ]
        refine takeD (i := 12) (some 30) (.int .i64 ((s * 67 + b) % 2147483647)) rfl (by kernel_rfl) (by kernel_rfl) (by kernel_rfl) (by kernel_rfl) (fun _ _ _ h => h) (by assumption) (Or.inl ⟨by rfl, fun w hSw => by (try dsimp only at hSw); go_simp; exact Int.tmod_eq_emod_of_nonneg (by omega)⟩) ?_
        simp only [Act.put, List.setIfInBounds_toArray, List.set_cons_zero, List.set_cons_succ]
        refine takeD (i := 13) (some 31) (.pointer (some ⟨w.heap.size, 0, none⟩)) rfl (by kernel_rfl) (by kernel_rfl) (by kernel_rfl) (by kernel_rfl) (fun _ _ _ h => h) (by assumption) (Or.inl ⟨by rfl, fun w hSw => by (try dsimp only at hSw); go_simp⟩) ?_
        simp only [Act.put, List.setIfInBounds_toArray, List.set_cons_zero, List.set_cons_succ]
        refine takeD (i := 14) (some 32) (.pointer (some ⟨w.heap.size, 2, none⟩)) rfl (by kernel_rfl) (by kernel_rfl) (by kernel_rfl) (by kernel_rfl) (fun _ _ _ h => h) (by assumption) (Or.inl ⟨by rfl, fun w hSw => by (try dsimp only at hSw); go_simp⟩) ?_
        simp only [Act.put, List.setIfInBounds_toArray, List.set_cons_zero, List.set_cons_succ]
        refine wpAnyH_ready (rs := [15]) (by kernel_rfl) (by simp) (AllReadyH.cons rfl (fun K hK => ?_) AllReadyH.nil)
        go_simp
        have HHeld := (World.cell?_setCell_far wr ⟨w.heap.size, 2, none⟩ ⟨bA, oA + k, none⟩ (.int .i64 ((s * 67 + b) % 2147483647)) (Ne.symm HNS.out)).trans hbc
        refine hK.out _ _ HHeld (fun _ => ?_)
        clear hK K
        try simp only [Act.put, List.setIfInBounds_toArray, List.set_cons_zero, List.set_cons_succ]
        refine wpAnyH_done (by kernel_rfl) ?_ _
        go_wp2_with fail
        go_roundw
        case rel =>
          obtain ⟨hS, hbw, hz⟩ := HS.out
          have k1 : KeepF (fun g => g = w.heap.size) wr (wr.setCell ⟨w.heap.size, 2, none⟩ (.int .i64 ((s * 67 + b) % 2147483647))) := (KeepF.refl (fun g => g = w.heap.size) wr).setCell (p := ⟨w.heap.size, 2, none⟩) (.inl rfl) _
          have hsrc : Src w.heap.size (some ⟨bA, oA, none⟩) c bs (wr.setCell ⟨w.heap.size, 2, none⟩ (.int .i64 ((s * 67 + b) % 2147483647))) :=
            ⟨by simp; omega, RV.keepN hS.rd k1 (by simp only [bytesV, List.length_map]; exact hS.nS), hS.nS, hS.by_, (World.frozen?_setCell _ _ _ _).trans hS.f1, (World.frozen?_setCell _ _ _ _).trans hS.f2, p, _, hp, hq0, hq1, (World.cell?_setCell_other _ _ _ _ (by simp)).trans x0, (World.cell?_setCell_other _ _ _ _ (by simp)).trans x1, World.cell?_setCell_same _ _ _ x2, trivial⟩
          obtain ⟨a1, a2, a3, a4, a5, a6, a7⟩ := hsrc
          exact ⟨k + 1, by omega, by go_num, ⟨a1, a2, a3, a4, a5, a6, a7⟩, belowD (hbw.setCell (p := ⟨w.heap.size, 2, none⟩) (Nat.le_refl _) _) 1, by simp; exact hz⟩
        case measure => simp [intOf]; omega
      · have h64' : decide ((k : Int) < 64) = false := decide_eq_false (by omega)
        go_wp2_with fail
        go_ret
        exact ⟨rfl, HS.out⟩
    · obtain rfl : k = bs.length := by omega
      go_wp2_with fail
      go_ret
      exact ⟨rfl, HS.out⟩
end Go.Proofs.YtdedajohkdbdkaaGreatDoor

/- Contracts of l02Valid. -/
namespace Go.Proofs.YtdedajohkdbdkaaGreatDoor
set_option linter.unusedVariables false
open Go.RowKit
theorem Src.keep {S : Nat} {A : Option Addr} {c : Nat} {bs : List Int} {w w' : World} {F : Nat → Prop} (h : Src S A c bs w) (k : KeepF F w w') (hS : ¬ F S) (hA : NF F A bs.length) : Src S A c bs w' := by
  obtain ⟨p, s, a1, a2, a3, hb⟩ := h.box
  exact ⟨by have := k.size; have := h.xl; omega, RV.keepN h.rd k (by simp only [bytesV, List.length_map]; exact hA), h.nS, h.by_, (k.frozen (p := ⟨S, 1, none⟩) h.xl hS).trans h.f1, (k.frozen (p := ⟨S, 2, none⟩) h.xl hS).trans h.f2, p, s, a1, a2, a3, hb.keep fun i v hv => (k.cell (p := ⟨S, i, none⟩) h.xl hS).trans hv⟩
theorem Src.below {S : Nat} {A : Option Addr} {c : Nat} {bs : List Int} {w w' : World} (h : Src S A c bs w) (hb : Below w.heap.size w w') : Src S A c bs w' := h.keep (KeepF.ofBelow (F := fun _ => False) hb) (fun h => h) (fun _ _ _ _ h => h)
/-- the code does not lie in block g -/
theorem Src.far {S : Nat} {A : Option Addr} {c : Nat} {bs : List Int} {w : World} (h : Src S A c bs w) {g : Nat} (hg : w.heap.size ≤ g) : NF (fun x => x = g) A bs.length := fun h0 b o e e' => by
  have := rv_block h.rd (by simp [bytesV]; exact h0) e; omega
theorem boxC_keepGe2 {w w' : World} {b : Nat} : ∀ {vs : List Value} {i : Nat}, BoxC w b i vs → (∀ j v, i ≤ j → w.cell? ⟨b, j, none⟩ = some v → w'.cell? ⟨b, j, none⟩ = some v) → BoxC w' b i vs
  | [], _, _, _ => trivial
  | v :: vs, i, h, hk => ⟨hk i v (Nat.le_refl _) h.1, boxC_keepGe2 h.2 fun j v hj => hk j v (by omega)⟩
theorem boxC_set2 {w : World} {b : Nat} {x : Value} : ∀ {vs : List Value} {i k : Nat}, BoxC w b i vs → k < vs.length → BoxC (w.setCell ⟨b, i + k, none⟩ x) b i (vs.set k x)
  | [], _, _, _, hk => by simp at hk
  | v :: vs, i, 0, h, _ => ⟨World.cell?_setCell_same _ _ _ h.1, boxC_keepGe2 h.2 fun j v hj hv => (World.cell?_setCell_other _ _ _ _ (fun e => by injection e with _ e; omega)).trans hv⟩
  | v :: vs, i, k + 1, h, hk => ⟨(World.cell?_setCell_other _ _ _ _ (fun e => by injection e with _ e; omega)).trans h.1, by
    have := boxC_set2 (x := x) (k := k) h.2 (by simp at hk; omega)
    rw [show i + (k + 1) = i + 1 + k by omega]; exact this⟩
theorem keep_five (w : World) (g : Nat) (a b c d e : Value) : KeepF (fun x => x = g) w (((((w.setCell ⟨g, 0, none⟩ a).setCell ⟨g, 1, none⟩ b).setCell ⟨g, 2, none⟩ c).setCell ⟨g, 3, none⟩ d).setCell ⟨g, 4, none⟩ e) :=
  (((((KeepF.refl (fun x => x = g) w).setCell (p := ⟨g, 0, none⟩) (.inl rfl) a).setCell (p := ⟨g, 1, none⟩) (.inl rfl) b).setCell (p := ⟨g, 2, none⟩) (.inl rfl) c).setCell (p := ⟨g, 3, none⟩) (.inl rfl) d).setCell (p := ⟨g, 4, none⟩) (.inl rfl) e
def mkCells (m : Mk) : List Value := [.int .i64 m.c, .int .i64 m.d, .int .i64 m.s, .int .i64 m.a, .int .i64 m.l]
/-- a drawn maker -/
def ResM (P : Mk → Prop) (S : Nat) (A : Option Addr) (c : Nat) (bs : List Int) (w : World) (e : Ending) (w' : World) : Prop :=
  ∃ m : Mk, e = .returned (.agg #[.int .i64 m.c, .int .i64 m.d, .int .i64 m.s, .int .i64 m.a, .int .i64 m.l]) ∧ P m ∧ Src S A c bs w' ∧ KeepF (fun g => g = S) w w'
def MkS (m : Mk) : Prop := 2 ≤ m.c ∧ m.c ≤ 4 ∧ 2 ≤ m.d ∧ m.d ≤ 4 ∧ 1 ≤ m.s ∧ m.s ≤ 4 ∧ 1 ≤ m.a ∧ m.a ≤ 4 ∧ 1 ≤ m.l ∧ m.l ≤ 4 ∧ m.s ≤ m.d - 1 ∧ m.a ≤ m.c ∧ m.l ≤ m.c ∧ m.l ≤ m.d
set_option maxRecDepth 100000 in
set_option maxHeartbeats 4000000 in
theorem l02Valid_any (S : Nat) (A : Option Addr) (c : Nat) (bs : List Int) (w : World) (h : Src S A c bs w) :
    Calls Tryz.prog 53 #[.pointer (some ⟨S, 0, none⟩)] w (ResM MkS S A c bs w) := by
  obtain ⟨w0, hw0⟩ : ∃ w0, w0 = w.alloc (.cells #[.int .i64 0, .int .i64 0, .int .i64 0, .int .i64 0, .int .i64 0] 25) := ⟨_, rfl⟩
  have B0 : Below w.heap.size w w0 := by rw [hw0]; exact (Below.refl w.heap.size w).alloc (Nat.le_refl _) _
  have hz0 : w0.heap.size = w.heap.size + 1 := by rw [hw0]; simp
  have hbk : w0.heap[w.heap.size]? = some (.cells #[.int .i64 0, .int .i64 0, .int .i64 0, .int .i64 0, .int .i64 0] 25 (0, 0)) := by
    have := heap_alloc_new w (.cells #[.int .i64 0, .int .i64 0, .int .i64 0, .int .i64 0, .int .i64 0] 25)
    rw [hw0]; simpa using this
  have hS0 := h.below B0
  have hSl : S < w.heap.size := h.xl
  have HBK := Lib.hid hbk; have HB0 := Lib.hid B0; have HZ0 := Lib.hid hz0; have HFAR0 := Lib.hid (h.far (g := w.heap.size) (by omega)); have HFAR := Lib.hid (h.far (g := w.heap.size + 1) (by omega))
  have HN0 := Lib.hid (l01Next_any S A c bs 3 w0 hS0)
  clear h hbk B0 hz0 hS0
  go_enter Tryz.func53, Tryz.ntmps53
  go_wp2_with fail
  rw [← hw0]
  clear hw0
  refine HN0.out.mono ?_
  rintro e w1 ⟨r1, rfl, h10, h11, hS1, hK1, hz1⟩
  have HS1 := Lib.hid (And.intro hS1 (And.intro hK1 hz1))
  have HN1 := Lib.hid (l01Next_any S A c bs 3 w1 hS1)
  clear hS1 hK1 hz1
  go_wp2_with fail
  refine HN1.out.mono ?_
  rintro e w2 ⟨r2, rfl, h20, h21, hS2, hK2, hz2⟩
  have HZ2 := Lib.hid (show w2.heap.size = w.heap.size + 1 by rw [hz2, HS1.out.2.2, HZ0.out])
  obtain ⟨wa, hwa⟩ : ∃ wa, wa = w2.alloc (.cells #[.int .i64 (2 + r1), .int .i64 (2 + r2), .int .i64 0, .int .i64 0, .int .i64 0] 25) := ⟨_, rfl⟩
  have bA : BoxC wa w2.heap.size 0 [.int .i64 (2 + r1), .int .i64 (2 + r2), .int .i64 0, .int .i64 0, .int .i64 0] := by rw [hwa]; exact BoxC.new [.int .i64 (2 + r1), .int .i64 (2 + r2), .int .i64 0, .int .i64 0, .int .i64 0] rfl
  have fA : ∀ i, wa.frozen? ⟨w2.heap.size, i, none⟩ = false := fun i => by rw [hwa]; exact World.frozen?_alloc_at _ _ _ _ rfl
  have BA := Lib.hid (show Below w2.heap.size w2 wa by rw [hwa]; exact (Below.refl _ _).alloc (Nat.le_refl _) _)
  have hza : wa.heap.size = w2.heap.size + 1 := by rw [hwa]; simp
  have hSM : S ≠ w2.heap.size := by have := HZ2.out; omega
  have HMl := Lib.hid (show w2.heap.size < wa.heap.size by omega)
  have HFM := Lib.hid (show NF (fun x => x = w2.heap.size) A bs.length by rw [HZ2.out]; exact HFAR.out)
  have HN2 := Lib.hid (fun n => l01Next_any S A c bs n wa (hS2.below BA.out))
  have HKA := Lib.hid (show KeepF (fun g => g = S) w0 wa from (HS1.out.2.1.trans hK2 (fun _ _ e => e)).trans (KeepF.ofBelow (F := fun g => g = S) BA.out) (fun _ _ e => e))
  obtain ⟨x0, x1, x2, x3, x4, _⟩ := bA
  simp only [Nat.zero_add] at x1 x2 x3 x4
  have r1b : r1 < 3 := by omega
  have r2b : r2 < 3 := by omega
  have HBA := Lib.hid (show BoxC wa w2.heap.size 0 [.int .i64 (2 + r1), .int .i64 (2 + r2), .int .i64 0, .int .i64 0, .int .i64 0] from ⟨x0, x1, x2, x3, x4, trivial⟩)
  have hlM : w2.heap.size < wa.heap.size := HMl.out
  have HRB := Lib.hid (And.intro h11 (And.intro h21 hS2)); have HK2 := Lib.hid (And.intro hK2 hz2)
  clear h11 h21 hS2 hK2 hz2 hza
  go_wp2_with fail
  rw [← hwa]
  refine (HN2.out _).mono ?_
  rintro e w3 ⟨r3, rfl, h30, h31, hS3, hK3, hz3⟩
  have b3 := HBA.out.keep (w' := w3) fun i v hv => (hK3.cell (p := ⟨w2.heap.size, i, none⟩) hlM (Ne.symm hSM)).trans hv
  have f3 : ∀ i, w3.frozen? ⟨w2.heap.size, i, none⟩ = false := fun i => (hK3.frozen (p := ⟨w2.heap.size, i, none⟩) hlM (Ne.symm hSM)).trans (fA i)
  have y2 := b3.2.2.1
  have g2 := f3 2
  have hlM3 : w2.heap.size < w3.heap.size := by rw [hz3]; exact hlM
  have y3 := b3.2.2.1
  have g3 := f3 2
  have hl3 : w2.heap.size < w3.heap.size := by rw [hz3]; exact hlM
  obtain ⟨v3, hv3⟩ : ∃ v, v = w3.setCell ⟨w2.heap.size, 2, none⟩ (.int .i64 (1 + r3)) := ⟨_, rfl⟩
  have B3 := Lib.hid (show BoxC v3 w2.heap.size 0 [.int .i64 (2 + r1), .int .i64 (2 + r2), .int .i64 (1 + r3), .int .i64 0, .int .i64 0] by
    have := boxC_set2 (x := (.int .i64 (1 + r3))) (k := 2) b3 (by simp)
    rw [hv3]; exact this)
  have kv3 : KeepF (fun g => g = w2.heap.size) w3 v3 := by rw [hv3]; exact (KeepF.refl (fun g => g = w2.heap.size) w3).setCell (p := ⟨w2.heap.size, 2, none⟩) (.inl rfl) _
  have HSV3 := Lib.hid (show Src S A c bs v3 from hS3.keep kv3 hSM HFM.out)
  have KV3 := Lib.hid (show KeepF (fun g => g = S) w0 v3 from (HKA.out.trans hK3 (fun _ _ e => e)).trans kv3 (fun g hg e => by have := HZ2.out; have := HZ0.out; omega))
  have FV3 := Lib.hid (show ∀ i, v3.frozen? ⟨w2.heap.size, i, none⟩ = false from fun i => by rw [hv3]; simp only [World.frozen?_setCell]; exact f3 i)
  have HV3 := Lib.hid (show w2.heap.size < v3.heap.size by rw [hv3]; simp; exact hl3)
  have HM3 := Lib.hid (fun n => l01Next_any S A c bs n v3 HSV3.out)
  have q := B3.out
  rw [hv3] at q
  obtain ⟨z0, z1, z2, z3, z4, _⟩ := q
  simp only [Nat.zero_add] at z1 z2 z3 z4
  clear kv3 x0 x1 x2 x3 x4 fA
  go_wp2_with fail
  rw [← hv3]
  clear z0 z1 z2 z3 z4 y3 g3 hv3
  refine (HM3.out _).mono ?_
  rintro e w4 ⟨r4, rfl, h40, h41, hS4, hK4, hz4⟩
  have hlM4 : w2.heap.size < v3.heap.size := HV3.out
  have b4 := B3.out.keep (w' := w4) fun i v hv => (hK4.cell (p := ⟨w2.heap.size, i, none⟩) hlM4 (Ne.symm hSM)).trans hv
  have f4 : ∀ i, w4.frozen? ⟨w2.heap.size, i, none⟩ = false := fun i => (hK4.frozen (p := ⟨w2.heap.size, i, none⟩) hlM4 (Ne.symm hSM)).trans (FV3.out i)
  have hS3 := hS4; have hz3' := hz4
  have HRR3 := Lib.hid (And.intro h30 h31)
  clear h31 hS4
  have y4 := b4.2.2.2.1
  have g4 := f4 3
  have hl4 : w2.heap.size < w4.heap.size := by rw [hz4]; exact hlM4
  obtain ⟨v4, hv4⟩ : ∃ v, v = w4.setCell ⟨w2.heap.size, 3, none⟩ (.int .i64 (1 + r4)) := ⟨_, rfl⟩
  have B4 := Lib.hid (show BoxC v4 w2.heap.size 0 [.int .i64 (2 + r1), .int .i64 (2 + r2), .int .i64 (1 + r3), .int .i64 (1 + r4), .int .i64 0] by
    have := boxC_set2 (x := (.int .i64 (1 + r4))) (k := 3) b4 (by simp)
    rw [hv4]; exact this)
  have kv4 : KeepF (fun g => g = w2.heap.size) w4 v4 := by rw [hv4]; exact (KeepF.refl (fun g => g = w2.heap.size) w4).setCell (p := ⟨w2.heap.size, 3, none⟩) (.inl rfl) _
  have HSV4 := Lib.hid (show Src S A c bs v4 from hS3.keep kv4 hSM HFM.out)
  have KV4 := Lib.hid (show KeepF (fun g => g = S) w0 v4 from (KV3.out.trans hK4 (fun _ _ e => e)).trans kv4 (fun g hg e => by have := HZ2.out; have := HZ0.out; omega))
  have FV4 := Lib.hid (show ∀ i, v4.frozen? ⟨w2.heap.size, i, none⟩ = false from fun i => by rw [hv4]; simp only [World.frozen?_setCell]; exact f4 i)
  have HV4 := Lib.hid (show w2.heap.size < v4.heap.size by rw [hv4]; simp; exact hl4)
  have HM4 := Lib.hid (fun n => l01Next_any S A c bs n v4 HSV4.out)
  have q := B4.out
  rw [hv4] at q
  obtain ⟨z0, z1, z2, z3, z4, _⟩ := q
  simp only [Nat.zero_add] at z1 z2 z3 z4
  clear kv4 f3
  go_wp2_with fail
  rw [← hv4]
  clear z0 z1 z2 z3 z4 y4 g4 hv4
  refine (HM4.out _).mono ?_
  rintro e w5 ⟨r5, rfl, h50, h51, hS5, hK5, hz5⟩
  have hlM5 : w2.heap.size < v4.heap.size := HV4.out
  have b5 := B4.out.keep (w' := w5) fun i v hv => (hK5.cell (p := ⟨w2.heap.size, i, none⟩) hlM5 (Ne.symm hSM)).trans hv
  have f5 : ∀ i, w5.frozen? ⟨w2.heap.size, i, none⟩ = false := fun i => (hK5.frozen (p := ⟨w2.heap.size, i, none⟩) hlM5 (Ne.symm hSM)).trans (FV4.out i)
  have y5 := b5.2.2.2.2.1
  have g5 := f5 4
  have hl5 : w2.heap.size < w5.heap.size := by rw [hz5]; exact hlM5
  obtain ⟨v5, hv5⟩ : ∃ v, v = w5.setCell ⟨w2.heap.size, 4, none⟩ (.int .i64 (1 + r5)) := ⟨_, rfl⟩
  have B5 := Lib.hid (show BoxC v5 w2.heap.size 0 [.int .i64 (2 + r1), .int .i64 (2 + r2), .int .i64 (1 + r3), .int .i64 (1 + r4), .int .i64 (1 + r5)] by
    have := boxC_set2 (x := (.int .i64 (1 + r5))) (k := 4) b5 (by simp)
    rw [hv5]; exact this)
  have kv5 : KeepF (fun g => g = w2.heap.size) w5 v5 := by rw [hv5]; exact (KeepF.refl (fun g => g = w2.heap.size) w5).setCell (p := ⟨w2.heap.size, 4, none⟩) (.inl rfl) _
  have HSV5 := Lib.hid (show Src S A c bs v5 from hS5.keep kv5 hSM HFM.out)
  have KV5 := Lib.hid (show KeepF (fun g => g = S) w0 v5 from (KV4.out.trans hK5 (fun _ _ e => e)).trans kv5 (fun g hg e => by have := HZ2.out; have := HZ0.out; omega))
  have FV5 := Lib.hid (show ∀ i, v5.frozen? ⟨w2.heap.size, i, none⟩ = false from fun i => by rw [hv5]; simp only [World.frozen?_setCell]; exact f5 i)
  have HV5 := Lib.hid (show w2.heap.size < v5.heap.size by rw [hv5]; simp; exact hl5)
  have lb : v5.heap[w.heap.size]? = some (.cells #[.int .i64 0, .int .i64 0, .int .i64 0, .int .i64 0, .int .i64 0] 25 (0, 0)) := (KV5.out.block w.heap.size (by have := HZ0.out; omega) (fun e => by omega)).trans HBK.out
  have HV5' := Lib.hid hv5
  have q := B5.out
  rw [hv5] at q lb
  obtain ⟨z0, z1, z2, z3, z4, _⟩ := q
  simp only [Nat.zero_add] at z1 z2 z3 z4
  have n0 : (w5.setCell ⟨w2.heap.size, 4, none⟩ (.int .i64 (1 + r5))).cell? ⟨w.heap.size, 0, none⟩ = some (.int .i64 0) := by simp only [World.cell?, lb]; rfl
  have n1 : (w5.setCell ⟨w2.heap.size, 4, none⟩ (.int .i64 (1 + r5))).cell? ⟨w.heap.size, 1, none⟩ = some (.int .i64 0) := by simp only [World.cell?, lb]; rfl
  have n2 : (w5.setCell ⟨w2.heap.size, 4, none⟩ (.int .i64 (1 + r5))).cell? ⟨w.heap.size, 2, none⟩ = some (.int .i64 0) := by simp only [World.cell?, lb]; rfl
  have n3 : (w5.setCell ⟨w2.heap.size, 4, none⟩ (.int .i64 (1 + r5))).cell? ⟨w.heap.size, 3, none⟩ = some (.int .i64 0) := by simp only [World.cell?, lb]; rfl
  have n4 : (w5.setCell ⟨w2.heap.size, 4, none⟩ (.int .i64 (1 + r5))).cell? ⟨w.heap.size, 4, none⟩ = some (.int .i64 0) := by simp only [World.cell?, lb]; rfl
  have m0 : ∀ i, (w5.setCell ⟨w2.heap.size, 4, none⟩ (.int .i64 (1 + r5))).frozen? ⟨w.heap.size, i, none⟩ = false := fun i => by simp [World.frozen?, lb]
  have l0 := m0 0; have l1 := m0 1; have l2 := m0 2; have l3 := m0 3; have l4 := m0 4
  have HLB := Lib.hid lb
  clear kv5 f5 hv5 lb
  go_wp2_with fail
  rw [← HV5'.out]
  have lb := HLB.out
  rw [← HV5'.out] at lb
  refine bodyPost_ret (results_cell_row rfl _ _ w.heap.size 25 #[.int .i64 (2 + r1), .int .i64 (2 + r2), .int .i64 (1 + r3), .int .i64 (1 + r4), .int .i64 (1 + r5)] (0, 0) _ (by rfl) (by simp [World.setCell, Array.getElem?_modify, lb]) Tryz.underlying25 rfl (by kernel_rfl)) rfl ?_
  have HRB' := HRB.out; have HRR := HRR3.out
  refine ⟨⟨2 + r1, 2 + r2, 1 + r3, 1 + r4, 1 + r5⟩, rfl, ⟨by simp; omega, by simp; omega, by simp; omega, by simp; omega, by simp; omega, by simp; omega, by simp; omega, by simp; omega, by simp; omega, by simp; omega, by simp only; omega, by simp only; omega, by simp only; omega, by simp only; omega⟩, HSV5.out.keep (keep_five v5 w.heap.size _ _ _ _ _) (by omega) HFAR0.out, ((KeepF.ofBelow (F := fun g => g = S) HB0.out).trans KV5.out (fun _ _ e => e)).trans (keep_five v5 w.heap.size _ _ _ _ _) (fun g hg e => by omega)⟩
end Go.Proofs.YtdedajohkdbdkaaGreatDoor

/- Contract of l02Draw. -/
namespace Go.Proofs.YtdedajohkdbdkaaGreatDoor
set_option linter.unusedVariables false
open Go.RowKit
theorem rv_three (w : World) (a b c : Int) (t : TypeId) : RI (w.alloc (.cells #[.int .i64 a, .int .i64 b, .int .i64 c] t)) (some ⟨w.heap.size, 0, none⟩) [a, b, c] := by
  refine ⟨by simp [ints], fun _ => ⟨w.heap.size, 0, rfl, fun j u hu => ?_⟩⟩
  match j, hu with
  | 0, hu => simp [ints] at hu; subst hu; simp
  | 1, hu => simp [ints] at hu; subst hu; simp
  | 2, hu => simp [ints] at hu; subst hu; simp
  | j + 3, hu => simp [ints] at hu
/-- a drawn maker, with small entries -/
def MkD (m : Mk) : Prop := 1 ≤ m.c ∧ m.c ≤ 7 ∧ 1 ≤ m.d ∧ m.d ≤ 9 ∧ 0 ≤ m.s ∧ m.s ≤ 9 ∧ 0 ≤ m.a ∧ m.a ≤ 9 ∧ 0 ≤ m.l ∧ m.l ≤ 9
set_option maxRecDepth 100000 in
set_option maxHeartbeats 8000000 in
theorem l02Draw_any (S : Nat) (A : Option Addr) (c : Nat) (bs : List Int) (w : World) (h : Src S A c bs w) :
    Calls Tryz.prog 38 #[.pointer (some ⟨S, 0, none⟩)] w (ResM MkD S A c bs w) := by
  obtain ⟨w0, hw0⟩ : ∃ w0, w0 = w.alloc (.cells #[.int .i64 0, .int .i64 0, .int .i64 0, .int .i64 0, .int .i64 0] 25) := ⟨_, rfl⟩
  have B0 : Below w.heap.size w w0 := by rw [hw0]; exact (Below.refl w.heap.size w).alloc (Nat.le_refl _) _
  have hz0 : w0.heap.size = w.heap.size + 1 := by rw [hw0]; simp
  have hbk : w0.heap[w.heap.size]? = some (.cells #[.int .i64 0, .int .i64 0, .int .i64 0, .int .i64 0, .int .i64 0] 25 (0, 0)) := by
    have := heap_alloc_new w (.cells #[.int .i64 0, .int .i64 0, .int .i64 0, .int .i64 0, .int .i64 0] 25)
    rw [hw0]; simpa using this
  have hS0 := h.below B0
  have hSl : S < w.heap.size := h.xl
  have HBK := Lib.hid hbk; have HB0 := Lib.hid B0; have HZ0 := Lib.hid hz0; have HFAR0 := Lib.hid (h.far (g := w.heap.size) (by omega)); have HF := Lib.hid (show ∀ g, w.heap.size ≤ g → NF (fun x => x = g) A bs.length from fun g hg => h.far hg)
  have HN0 := Lib.hid (l02Valid_any S A c bs w0 hS0)
  clear h hbk B0 hz0 hS0
  go_enter Tryz.func38, Tryz.ntmps38
  go_wp2_with fail
  rw [← hw0]
  clear hw0
  refine HN0.out.mono ?_
  rintro e w1 ⟨⟨mc, md, ms, ma, ml⟩, rfl, hm, hS1, hK1⟩
  simp only [MkS] at hm
  obtain ⟨c0, c1, d0, d1, s0, s1, a0, a1, l0, l1, _⟩ := hm
  have HW1 := Lib.hid (show w.heap.size + 1 ≤ w1.heap.size by have := hK1.size; have := HZ0.out; omega)
  have hSM : S ≠ w1.heap.size := by have := HW1.out; omega
  have HFM := Lib.hid (HF.out w1.heap.size (by have := HW1.out; omega))
  obtain ⟨w2, hw2⟩ : ∃ w2, w2 = w1.alloc (.cells #[.int .i64 mc, .int .i64 md, .int .i64 ms, .int .i64 ma, .int .i64 ml] 25) := ⟨_, rfl⟩
  have B2 := Lib.hid (show BoxC w2 w1.heap.size 0 [.int .i64 mc, .int .i64 md, .int .i64 ms, .int .i64 ma, .int .i64 ml] by rw [hw2]; exact BoxC.new [.int .i64 mc, .int .i64 md, .int .i64 ms, .int .i64 ma, .int .i64 ml] rfl)
  have F2 := Lib.hid (show ∀ i, w2.frozen? ⟨w1.heap.size, i, none⟩ = false from fun i => by rw [hw2]; exact World.frozen?_alloc_at _ _ _ _ rfl)
  have HB2 := Lib.hid (show Below w1.heap.size w1 w2 by rw [hw2]; exact (Below.refl _ _).alloc (Nat.le_refl _) _)
  have hz2 : w2.heap.size = w1.heap.size + 1 := by rw [hw2]; simp
  have hlM2 : w1.heap.size < w2.heap.size := by omega
  have HN2 := Lib.hid (l01Next_any S A c bs 30 w2 (hS1.below HB2.out))
  have HK2 := Lib.hid (show KeepF (fun g => g = S) w0 w2 from hK1.trans (KeepF.ofBelow (F := fun g => g = S) HB2.out) (fun _ _ e => e))
  clear hS1 hK1 hz2
  go_wp2_with fail
  rw [← hw2]
  clear hw2
  refine HN2.out.mono ?_
  rintro e w3 ⟨r, rfl, hr0, hr1, hS3, hK3, hz3⟩
  have hlM : w1.heap.size < w3.heap.size := by rw [hz3]; exact hlM2
  have B3 := Lib.hid (B2.out.keep (w' := w3) fun i v hv => (hK3.cell (p := ⟨w1.heap.size, i, none⟩) hlM2 (Ne.symm hSM)).trans hv)
  have F3 := Lib.hid (show ∀ i, w3.frozen? ⟨w1.heap.size, i, none⟩ = false from fun i => (hK3.frozen (p := ⟨w1.heap.size, i, none⟩) hlM2 (Ne.symm hSM)).trans (F2.out i))
  have HK3 := Lib.hid (show KeepF (fun g => g = S) w0 w3 from HK2.out.trans hK3 (fun _ _ e => e))
  have HS3 := Lib.hid hS3
  clear hS3 hK3 hz3 HN0 HN2
  obtain ⟨x0, x1, x2, x3, x4, _⟩ := B3.out
  simp only [Nat.zero_add] at x1 x2 x3 x4
  by_cases q0 : r = 0
  · subst q0
    clear hr0 hr1
    obtain ⟨wb, hwb⟩ : ∃ wb, wb = w3.alloc (.cells #[.int .i64 1, .int .i64 6, .int .i64 7] 2) := ⟨_, rfl⟩
    have HBb := Lib.hid (show Below w3.heap.size w3 wb by rw [hwb]; exact (Below.refl _ _).alloc (Nat.le_refl _) _)
    have HP := Lib.hid (l01Pick_any S A c bs (some ⟨w3.heap.size, 0, none⟩) 3 [1, 6, 7] wb (HS3.out.below HBb.out) (by rw [hwb]; exact rv_three _ _ _ _ _) (fun _ b o e => by injection e with e; injection e with e; have := HS3.out.xl; omega) (by simp))
    go_wp2_with fail
    rw [← hwb]
    refine HP.out.mono ?_
    rintro e w4 ⟨x, rfl, hx, hS4, hK4, hz4⟩
    have HK4 := Lib.hid ((HK3.out.trans (KeepF.ofBelow (F := fun g => g = S) HBb.out) (fun _ _ e => e)).trans hK4 (fun _ _ e => e))
    have b4 := (B3.out.below HBb.out).keep (w' := w4) fun i v hv => (hK4.cell (p := ⟨w1.heap.size, i, none⟩) (by have := HBb.out.size; simp only; omega) (Ne.symm hSM)).trans hv
    have f4 : ∀ i, w4.frozen? ⟨w1.heap.size, i, none⟩ = false := fun i => (hK4.frozen (p := ⟨w1.heap.size, i, none⟩) (by have := HBb.out.size; simp only; omega) (Ne.symm hSM)).trans ((HBb.out.frozen (p := ⟨w1.heap.size, i, none⟩) hlM).trans (F3.out i))
    have HX := Lib.hid (And.intro hx (And.intro hS4 hz4))
    clear hx hK4 hS4 hz4 hwb
    have y := b4.1
    have g := f4 0
    obtain ⟨v4, hv4⟩ : ∃ v, v = w4.setCell ⟨w1.heap.size, 0, none⟩ (.int .i64 x) := ⟨_, rfl⟩
    have BV := Lib.hid (show BoxC (w4.setCell ⟨w1.heap.size, 0, none⟩ (.int .i64 x)) w1.heap.size 0 [.int .i64 x, .int .i64 md, .int .i64 ms, .int .i64 ma, .int .i64 ml] from by
      have := boxC_set2 (x := .int .i64 x) (k := 0) b4 (by simp)
      exact this)
    have kv : KeepF (fun g => g = w1.heap.size) w4 (w4.setCell ⟨w1.heap.size, 0, none⟩ (.int .i64 x)) := (KeepF.refl (fun g => g = w1.heap.size) w4).setCell (p := ⟨w1.heap.size, 0, none⟩) (.inl rfl) _
    have SV := Lib.hid (show Src S A c bs (w4.setCell ⟨w1.heap.size, 0, none⟩ (.int .i64 x)) from HX.out.2.1.keep kv hSM HFM.out)
    have KV := Lib.hid (show KeepF (fun g => g = S) w0 (w4.setCell ⟨w1.heap.size, 0, none⟩ (.int .i64 x)) from HK4.out.trans kv (fun g hg e => by have := HW1.out; have := HZ0.out; omega))
    clear kv b4 f4 hv4
    have lb : (w4.setCell ⟨w1.heap.size, 0, none⟩ (.int .i64 x)).heap[w.heap.size]? = some (.cells #[.int .i64 0, .int .i64 0, .int .i64 0, .int .i64 0, .int .i64 0] 25 (0, 0)) := (KV.out.block w.heap.size (by have := HZ0.out; omega) (fun e => by omega)).trans HBK.out
    obtain ⟨z0, z1, z2, z3, z4, _⟩ := BV.out
    simp only [Nat.zero_add] at z1 z2 z3 z4
    have n0 : (w4.setCell ⟨w1.heap.size, 0, none⟩ (.int .i64 x)).cell? ⟨w.heap.size, 0, none⟩ = some (.int .i64 0) := by simp only [World.cell?, lb]; rfl
    have n1 : (w4.setCell ⟨w1.heap.size, 0, none⟩ (.int .i64 x)).cell? ⟨w.heap.size, 1, none⟩ = some (.int .i64 0) := by simp only [World.cell?, lb]; rfl
    have n2 : (w4.setCell ⟨w1.heap.size, 0, none⟩ (.int .i64 x)).cell? ⟨w.heap.size, 2, none⟩ = some (.int .i64 0) := by simp only [World.cell?, lb]; rfl
    have n3 : (w4.setCell ⟨w1.heap.size, 0, none⟩ (.int .i64 x)).cell? ⟨w.heap.size, 3, none⟩ = some (.int .i64 0) := by simp only [World.cell?, lb]; rfl
    have n4 : (w4.setCell ⟨w1.heap.size, 0, none⟩ (.int .i64 x)).cell? ⟨w.heap.size, 4, none⟩ = some (.int .i64 0) := by simp only [World.cell?, lb]; rfl
    have m0 : ∀ i, (w4.setCell ⟨w1.heap.size, 0, none⟩ (.int .i64 x)).frozen? ⟨w.heap.size, i, none⟩ = false := fun i => by simp [World.frozen?, lb]
    have l0 := m0 0; have l1 := m0 1; have l2 := m0 2; have l3 := m0 3; have l4 := m0 4
    have HLB := Lib.hid lb
    clear lb m0
    go_wp2_with fail
    have lb := HLB.out
    have KVF := KV.out
    have SVF := SV.out
    obtain ⟨vf, hvf⟩ : ∃ v, v = (w4.setCell ⟨w1.heap.size, 0, none⟩ (.int .i64 x)) := ⟨_, rfl⟩
    rw [← hvf]
    rw [← hvf] at lb KVF SVF
    clear hvf
    refine bodyPost_ret (results_cell_row rfl _ _ w.heap.size 25 #[.int .i64 x, .int .i64 md, .int .i64 ms, .int .i64 ma, .int .i64 ml] (0, 0) _ (by rfl) (by simp [World.setCell, Array.getElem?_modify, lb]) Tryz.underlying25 rfl (by kernel_rfl)) rfl ?_
    have HKF := ((KeepF.ofBelow (F := fun g => g = S) HB0.out).trans KVF (fun _ _ e => e)).trans (keep_five vf w.heap.size (.int .i64 x) (.int .i64 md) (.int .i64 ms) (.int .i64 ma) (.int .i64 ml)) (fun g hg e => by omega)
    have HSF := SVF.keep (keep_five vf w.heap.size (.int .i64 x) (.int .i64 md) (.int .i64 ms) (.int .i64 ma) (.int .i64 ml)) (by omega) HFAR0.out
    refine ⟨⟨x, md, ms, ma, ml⟩, rfl, ?_, HSF, HKF⟩
    simp only [MkD]
    have hx := HX.out.1
    simp only [List.mem_cons, List.not_mem_nil, or_false] at hx
    omega
  by_cases q1 : r = 1
  · subst q1
    clear hr0 hr1 q0
    obtain ⟨wb, hwb⟩ : ∃ wb, wb = w3.alloc (.cells #[.int .i64 1, .int .i64 8, .int .i64 9] 2) := ⟨_, rfl⟩
    have HBb := Lib.hid (show Below w3.heap.size w3 wb by rw [hwb]; exact (Below.refl _ _).alloc (Nat.le_refl _) _)
    have HP := Lib.hid (l01Pick_any S A c bs (some ⟨w3.heap.size, 0, none⟩) 3 [1, 8, 9] wb (HS3.out.below HBb.out) (by rw [hwb]; exact rv_three _ _ _ _ _) (fun _ b o e => by injection e with e; injection e with e; have := HS3.out.xl; omega) (by simp))
    go_wp2_with fail
    rw [← hwb]
    refine HP.out.mono ?_
    rintro e w4 ⟨x, rfl, hx, hS4, hK4, hz4⟩
    have HK4 := Lib.hid ((HK3.out.trans (KeepF.ofBelow (F := fun g => g = S) HBb.out) (fun _ _ e => e)).trans hK4 (fun _ _ e => e))
    have b4 := (B3.out.below HBb.out).keep (w' := w4) fun i v hv => (hK4.cell (p := ⟨w1.heap.size, i, none⟩) (by have := HBb.out.size; simp only; omega) (Ne.symm hSM)).trans hv
    have f4 : ∀ i, w4.frozen? ⟨w1.heap.size, i, none⟩ = false := fun i => (hK4.frozen (p := ⟨w1.heap.size, i, none⟩) (by have := HBb.out.size; simp only; omega) (Ne.symm hSM)).trans ((HBb.out.frozen (p := ⟨w1.heap.size, i, none⟩) hlM).trans (F3.out i))
    have HX := Lib.hid (And.intro hx (And.intro hS4 hz4))
    clear hx hK4 hS4 hz4 hwb
    have y := b4.2.1
    have g := f4 1
    obtain ⟨v4, hv4⟩ : ∃ v, v = w4.setCell ⟨w1.heap.size, 1, none⟩ (.int .i64 x) := ⟨_, rfl⟩
    have BV := Lib.hid (show BoxC (w4.setCell ⟨w1.heap.size, 1, none⟩ (.int .i64 x)) w1.heap.size 0 [.int .i64 mc, .int .i64 x, .int .i64 ms, .int .i64 ma, .int .i64 ml] from by
      have := boxC_set2 (x := .int .i64 x) (k := 1) b4 (by simp)
      exact this)
    have kv : KeepF (fun g => g = w1.heap.size) w4 (w4.setCell ⟨w1.heap.size, 1, none⟩ (.int .i64 x)) := (KeepF.refl (fun g => g = w1.heap.size) w4).setCell (p := ⟨w1.heap.size, 1, none⟩) (.inl rfl) _
    have SV := Lib.hid (show Src S A c bs (w4.setCell ⟨w1.heap.size, 1, none⟩ (.int .i64 x)) from HX.out.2.1.keep kv hSM HFM.out)
    have KV := Lib.hid (show KeepF (fun g => g = S) w0 (w4.setCell ⟨w1.heap.size, 1, none⟩ (.int .i64 x)) from HK4.out.trans kv (fun g hg e => by have := HW1.out; have := HZ0.out; omega))
    clear kv b4 f4 hv4
    have lb : (w4.setCell ⟨w1.heap.size, 1, none⟩ (.int .i64 x)).heap[w.heap.size]? = some (.cells #[.int .i64 0, .int .i64 0, .int .i64 0, .int .i64 0, .int .i64 0] 25 (0, 0)) := (KV.out.block w.heap.size (by have := HZ0.out; omega) (fun e => by omega)).trans HBK.out
    obtain ⟨z0, z1, z2, z3, z4, _⟩ := BV.out
    simp only [Nat.zero_add] at z1 z2 z3 z4
    have n0 : (w4.setCell ⟨w1.heap.size, 1, none⟩ (.int .i64 x)).cell? ⟨w.heap.size, 0, none⟩ = some (.int .i64 0) := by simp only [World.cell?, lb]; rfl
    have n1 : (w4.setCell ⟨w1.heap.size, 1, none⟩ (.int .i64 x)).cell? ⟨w.heap.size, 1, none⟩ = some (.int .i64 0) := by simp only [World.cell?, lb]; rfl
    have n2 : (w4.setCell ⟨w1.heap.size, 1, none⟩ (.int .i64 x)).cell? ⟨w.heap.size, 2, none⟩ = some (.int .i64 0) := by simp only [World.cell?, lb]; rfl
    have n3 : (w4.setCell ⟨w1.heap.size, 1, none⟩ (.int .i64 x)).cell? ⟨w.heap.size, 3, none⟩ = some (.int .i64 0) := by simp only [World.cell?, lb]; rfl
    have n4 : (w4.setCell ⟨w1.heap.size, 1, none⟩ (.int .i64 x)).cell? ⟨w.heap.size, 4, none⟩ = some (.int .i64 0) := by simp only [World.cell?, lb]; rfl
    have m0 : ∀ i, (w4.setCell ⟨w1.heap.size, 1, none⟩ (.int .i64 x)).frozen? ⟨w.heap.size, i, none⟩ = false := fun i => by simp [World.frozen?, lb]
    have l0 := m0 0; have l1 := m0 1; have l2 := m0 2; have l3 := m0 3; have l4 := m0 4
    have HLB := Lib.hid lb
    clear lb m0
    go_wp2_with fail
    have lb := HLB.out
    have KVF := KV.out
    have SVF := SV.out
    obtain ⟨vf, hvf⟩ : ∃ v, v = (w4.setCell ⟨w1.heap.size, 1, none⟩ (.int .i64 x)) := ⟨_, rfl⟩
    rw [← hvf]
    rw [← hvf] at lb KVF SVF
    clear hvf
    refine bodyPost_ret (results_cell_row rfl _ _ w.heap.size 25 #[.int .i64 mc, .int .i64 x, .int .i64 ms, .int .i64 ma, .int .i64 ml] (0, 0) _ (by rfl) (by simp [World.setCell, Array.getElem?_modify, lb]) Tryz.underlying25 rfl (by kernel_rfl)) rfl ?_
    have HKF := ((KeepF.ofBelow (F := fun g => g = S) HB0.out).trans KVF (fun _ _ e => e)).trans (keep_five vf w.heap.size (.int .i64 mc) (.int .i64 x) (.int .i64 ms) (.int .i64 ma) (.int .i64 ml)) (fun g hg e => by omega)
    have HSF := SVF.keep (keep_five vf w.heap.size (.int .i64 mc) (.int .i64 x) (.int .i64 ms) (.int .i64 ma) (.int .i64 ml)) (by omega) HFAR0.out
    refine ⟨⟨mc, x, ms, ma, ml⟩, rfl, ?_, HSF, HKF⟩
    simp only [MkD]
    have hx := HX.out.1
    simp only [List.mem_cons, List.not_mem_nil, or_false] at hx
    omega
  by_cases q2 : r = 2
  · subst q2
    clear hr0 hr1 q0 q1
    obtain ⟨wb, hwb⟩ : ∃ wb, wb = w3.alloc (.cells #[.int .i64 0, .int .i64 (md - 1), .int .i64 md] 2) := ⟨_, rfl⟩
    have HBb := Lib.hid (show Below w3.heap.size w3 wb by rw [hwb]; exact (Below.refl _ _).alloc (Nat.le_refl _) _)
    have HP := Lib.hid (l01Pick_any S A c bs (some ⟨w3.heap.size, 0, none⟩) 3 [0, (md - 1), md] wb (HS3.out.below HBb.out) (by rw [hwb]; exact rv_three _ _ _ _ _) (fun _ b o e => by injection e with e; injection e with e; have := HS3.out.xl; omega) (by simp))
    go_wp2_with fail
    rw [← hwb]
    refine HP.out.mono ?_
    rintro e w4 ⟨x, rfl, hx, hS4, hK4, hz4⟩
    have HK4 := Lib.hid ((HK3.out.trans (KeepF.ofBelow (F := fun g => g = S) HBb.out) (fun _ _ e => e)).trans hK4 (fun _ _ e => e))
    have b4 := (B3.out.below HBb.out).keep (w' := w4) fun i v hv => (hK4.cell (p := ⟨w1.heap.size, i, none⟩) (by have := HBb.out.size; simp only; omega) (Ne.symm hSM)).trans hv
    have f4 : ∀ i, w4.frozen? ⟨w1.heap.size, i, none⟩ = false := fun i => (hK4.frozen (p := ⟨w1.heap.size, i, none⟩) (by have := HBb.out.size; simp only; omega) (Ne.symm hSM)).trans ((HBb.out.frozen (p := ⟨w1.heap.size, i, none⟩) hlM).trans (F3.out i))
    have HX := Lib.hid (And.intro hx (And.intro hS4 hz4))
    clear hx hK4 hS4 hz4 hwb
    have y := b4.2.2.1
    have g := f4 2
    obtain ⟨v4, hv4⟩ : ∃ v, v = w4.setCell ⟨w1.heap.size, 2, none⟩ (.int .i64 x) := ⟨_, rfl⟩
    have BV := Lib.hid (show BoxC (w4.setCell ⟨w1.heap.size, 2, none⟩ (.int .i64 x)) w1.heap.size 0 [.int .i64 mc, .int .i64 md, .int .i64 x, .int .i64 ma, .int .i64 ml] from by
      have := boxC_set2 (x := .int .i64 x) (k := 2) b4 (by simp)
      exact this)
    have kv : KeepF (fun g => g = w1.heap.size) w4 (w4.setCell ⟨w1.heap.size, 2, none⟩ (.int .i64 x)) := (KeepF.refl (fun g => g = w1.heap.size) w4).setCell (p := ⟨w1.heap.size, 2, none⟩) (.inl rfl) _
    have SV := Lib.hid (show Src S A c bs (w4.setCell ⟨w1.heap.size, 2, none⟩ (.int .i64 x)) from HX.out.2.1.keep kv hSM HFM.out)
    have KV := Lib.hid (show KeepF (fun g => g = S) w0 (w4.setCell ⟨w1.heap.size, 2, none⟩ (.int .i64 x)) from HK4.out.trans kv (fun g hg e => by have := HW1.out; have := HZ0.out; omega))
    clear kv b4 f4 hv4
    have lb : (w4.setCell ⟨w1.heap.size, 2, none⟩ (.int .i64 x)).heap[w.heap.size]? = some (.cells #[.int .i64 0, .int .i64 0, .int .i64 0, .int .i64 0, .int .i64 0] 25 (0, 0)) := (KV.out.block w.heap.size (by have := HZ0.out; omega) (fun e => by omega)).trans HBK.out
    obtain ⟨z0, z1, z2, z3, z4, _⟩ := BV.out
    simp only [Nat.zero_add] at z1 z2 z3 z4
    have n0 : (w4.setCell ⟨w1.heap.size, 2, none⟩ (.int .i64 x)).cell? ⟨w.heap.size, 0, none⟩ = some (.int .i64 0) := by simp only [World.cell?, lb]; rfl
    have n1 : (w4.setCell ⟨w1.heap.size, 2, none⟩ (.int .i64 x)).cell? ⟨w.heap.size, 1, none⟩ = some (.int .i64 0) := by simp only [World.cell?, lb]; rfl
    have n2 : (w4.setCell ⟨w1.heap.size, 2, none⟩ (.int .i64 x)).cell? ⟨w.heap.size, 2, none⟩ = some (.int .i64 0) := by simp only [World.cell?, lb]; rfl
    have n3 : (w4.setCell ⟨w1.heap.size, 2, none⟩ (.int .i64 x)).cell? ⟨w.heap.size, 3, none⟩ = some (.int .i64 0) := by simp only [World.cell?, lb]; rfl
    have n4 : (w4.setCell ⟨w1.heap.size, 2, none⟩ (.int .i64 x)).cell? ⟨w.heap.size, 4, none⟩ = some (.int .i64 0) := by simp only [World.cell?, lb]; rfl
    have m0 : ∀ i, (w4.setCell ⟨w1.heap.size, 2, none⟩ (.int .i64 x)).frozen? ⟨w.heap.size, i, none⟩ = false := fun i => by simp [World.frozen?, lb]
    have l0 := m0 0; have l1 := m0 1; have l2 := m0 2; have l3 := m0 3; have l4 := m0 4
    have HLB := Lib.hid lb
    clear lb m0
    go_wp2_with fail
    have lb := HLB.out
    have KVF := KV.out
    have SVF := SV.out
    obtain ⟨vf, hvf⟩ : ∃ v, v = (w4.setCell ⟨w1.heap.size, 2, none⟩ (.int .i64 x)) := ⟨_, rfl⟩
    rw [← hvf]
    rw [← hvf] at lb KVF SVF
    clear hvf
    refine bodyPost_ret (results_cell_row rfl _ _ w.heap.size 25 #[.int .i64 mc, .int .i64 md, .int .i64 x, .int .i64 ma, .int .i64 ml] (0, 0) _ (by rfl) (by simp [World.setCell, Array.getElem?_modify, lb]) Tryz.underlying25 rfl (by kernel_rfl)) rfl ?_
    have HKF := ((KeepF.ofBelow (F := fun g => g = S) HB0.out).trans KVF (fun _ _ e => e)).trans (keep_five vf w.heap.size (.int .i64 mc) (.int .i64 md) (.int .i64 x) (.int .i64 ma) (.int .i64 ml)) (fun g hg e => by omega)
    have HSF := SVF.keep (keep_five vf w.heap.size (.int .i64 mc) (.int .i64 md) (.int .i64 x) (.int .i64 ma) (.int .i64 ml)) (by omega) HFAR0.out
    refine ⟨⟨mc, md, x, ma, ml⟩, rfl, ?_, HSF, HKF⟩
    simp only [MkD]
    have hx := HX.out.1
    simp only [List.mem_cons, List.not_mem_nil, or_false] at hx
    omega
  by_cases q3 : r = 3
  · subst q3
    clear hr0 hr1 q0 q1 q2
    obtain ⟨wb, hwb⟩ : ∃ wb, wb = w3.alloc (.cells #[.int .i64 0, .int .i64 mc, .int .i64 (mc + 1)] 2) := ⟨_, rfl⟩
    have HBb := Lib.hid (show Below w3.heap.size w3 wb by rw [hwb]; exact (Below.refl _ _).alloc (Nat.le_refl _) _)
    have HP := Lib.hid (l01Pick_any S A c bs (some ⟨w3.heap.size, 0, none⟩) 3 [0, mc, (mc + 1)] wb (HS3.out.below HBb.out) (by rw [hwb]; exact rv_three _ _ _ _ _) (fun _ b o e => by injection e with e; injection e with e; have := HS3.out.xl; omega) (by simp))
    go_wp2_with fail
    rw [← hwb]
    refine HP.out.mono ?_
    rintro e w4 ⟨x, rfl, hx, hS4, hK4, hz4⟩
    have HK4 := Lib.hid ((HK3.out.trans (KeepF.ofBelow (F := fun g => g = S) HBb.out) (fun _ _ e => e)).trans hK4 (fun _ _ e => e))
    have b4 := (B3.out.below HBb.out).keep (w' := w4) fun i v hv => (hK4.cell (p := ⟨w1.heap.size, i, none⟩) (by have := HBb.out.size; simp only; omega) (Ne.symm hSM)).trans hv
    have f4 : ∀ i, w4.frozen? ⟨w1.heap.size, i, none⟩ = false := fun i => (hK4.frozen (p := ⟨w1.heap.size, i, none⟩) (by have := HBb.out.size; simp only; omega) (Ne.symm hSM)).trans ((HBb.out.frozen (p := ⟨w1.heap.size, i, none⟩) hlM).trans (F3.out i))
    have HX := Lib.hid (And.intro hx (And.intro hS4 hz4))
    clear hx hK4 hS4 hz4 hwb
    have y := b4.2.2.2.1
    have g := f4 3
    obtain ⟨v4, hv4⟩ : ∃ v, v = w4.setCell ⟨w1.heap.size, 3, none⟩ (.int .i64 x) := ⟨_, rfl⟩
    have BV := Lib.hid (show BoxC (w4.setCell ⟨w1.heap.size, 3, none⟩ (.int .i64 x)) w1.heap.size 0 [.int .i64 mc, .int .i64 md, .int .i64 ms, .int .i64 x, .int .i64 ml] from by
      have := boxC_set2 (x := .int .i64 x) (k := 3) b4 (by simp)
      exact this)
    have kv : KeepF (fun g => g = w1.heap.size) w4 (w4.setCell ⟨w1.heap.size, 3, none⟩ (.int .i64 x)) := (KeepF.refl (fun g => g = w1.heap.size) w4).setCell (p := ⟨w1.heap.size, 3, none⟩) (.inl rfl) _
    have SV := Lib.hid (show Src S A c bs (w4.setCell ⟨w1.heap.size, 3, none⟩ (.int .i64 x)) from HX.out.2.1.keep kv hSM HFM.out)
    have KV := Lib.hid (show KeepF (fun g => g = S) w0 (w4.setCell ⟨w1.heap.size, 3, none⟩ (.int .i64 x)) from HK4.out.trans kv (fun g hg e => by have := HW1.out; have := HZ0.out; omega))
    clear kv b4 f4 hv4
    have lb : (w4.setCell ⟨w1.heap.size, 3, none⟩ (.int .i64 x)).heap[w.heap.size]? = some (.cells #[.int .i64 0, .int .i64 0, .int .i64 0, .int .i64 0, .int .i64 0] 25 (0, 0)) := (KV.out.block w.heap.size (by have := HZ0.out; omega) (fun e => by omega)).trans HBK.out
    obtain ⟨z0, z1, z2, z3, z4, _⟩ := BV.out
    simp only [Nat.zero_add] at z1 z2 z3 z4
    have n0 : (w4.setCell ⟨w1.heap.size, 3, none⟩ (.int .i64 x)).cell? ⟨w.heap.size, 0, none⟩ = some (.int .i64 0) := by simp only [World.cell?, lb]; rfl
    have n1 : (w4.setCell ⟨w1.heap.size, 3, none⟩ (.int .i64 x)).cell? ⟨w.heap.size, 1, none⟩ = some (.int .i64 0) := by simp only [World.cell?, lb]; rfl
    have n2 : (w4.setCell ⟨w1.heap.size, 3, none⟩ (.int .i64 x)).cell? ⟨w.heap.size, 2, none⟩ = some (.int .i64 0) := by simp only [World.cell?, lb]; rfl
    have n3 : (w4.setCell ⟨w1.heap.size, 3, none⟩ (.int .i64 x)).cell? ⟨w.heap.size, 3, none⟩ = some (.int .i64 0) := by simp only [World.cell?, lb]; rfl
    have n4 : (w4.setCell ⟨w1.heap.size, 3, none⟩ (.int .i64 x)).cell? ⟨w.heap.size, 4, none⟩ = some (.int .i64 0) := by simp only [World.cell?, lb]; rfl
    have m0 : ∀ i, (w4.setCell ⟨w1.heap.size, 3, none⟩ (.int .i64 x)).frozen? ⟨w.heap.size, i, none⟩ = false := fun i => by simp [World.frozen?, lb]
    have l0 := m0 0; have l1 := m0 1; have l2 := m0 2; have l3 := m0 3; have l4 := m0 4
    have HLB := Lib.hid lb
    clear lb m0
    go_wp2_with fail
    have lb := HLB.out
    have KVF := KV.out
    have SVF := SV.out
    obtain ⟨vf, hvf⟩ : ∃ v, v = (w4.setCell ⟨w1.heap.size, 3, none⟩ (.int .i64 x)) := ⟨_, rfl⟩
    rw [← hvf]
    rw [← hvf] at lb KVF SVF
    clear hvf
    refine bodyPost_ret (results_cell_row rfl _ _ w.heap.size 25 #[.int .i64 mc, .int .i64 md, .int .i64 ms, .int .i64 x, .int .i64 ml] (0, 0) _ (by rfl) (by simp [World.setCell, Array.getElem?_modify, lb]) Tryz.underlying25 rfl (by kernel_rfl)) rfl ?_
    have HKF := ((KeepF.ofBelow (F := fun g => g = S) HB0.out).trans KVF (fun _ _ e => e)).trans (keep_five vf w.heap.size (.int .i64 mc) (.int .i64 md) (.int .i64 ms) (.int .i64 x) (.int .i64 ml)) (fun g hg e => by omega)
    have HSF := SVF.keep (keep_five vf w.heap.size (.int .i64 mc) (.int .i64 md) (.int .i64 ms) (.int .i64 x) (.int .i64 ml)) (by omega) HFAR0.out
    refine ⟨⟨mc, md, ms, x, ml⟩, rfl, ?_, HSF, HKF⟩
    simp only [MkD]
    have hx := HX.out.1
    simp only [List.mem_cons, List.not_mem_nil, or_false] at hx
    omega
  by_cases q4 : r = 4
  · subst q4
    clear hr0 hr1 q0 q1 q2 q3
    obtain ⟨wb, hwb⟩ : ∃ wb, wb = w3.alloc (.cells #[.int .i64 0, .int .i64 (min mc md), .int .i64 (min mc md + 1)] 2) := ⟨_, rfl⟩
    have HBb := Lib.hid (show Below w3.heap.size w3 wb by rw [hwb]; exact (Below.refl _ _).alloc (Nat.le_refl _) _)
    have HP := Lib.hid (l01Pick_any S A c bs (some ⟨w3.heap.size, 0, none⟩) 3 [0, (min mc md), (min mc md + 1)] wb (HS3.out.below HBb.out) (by rw [hwb]; exact rv_three _ _ _ _ _) (fun _ b o e => by injection e with e; injection e with e; have := HS3.out.xl; omega) (by simp))
    go_wp2_with fail
    rw [← hwb]
    refine HP.out.mono ?_
    rintro e w4 ⟨x, rfl, hx, hS4, hK4, hz4⟩
    have HK4 := Lib.hid ((HK3.out.trans (KeepF.ofBelow (F := fun g => g = S) HBb.out) (fun _ _ e => e)).trans hK4 (fun _ _ e => e))
    have b4 := (B3.out.below HBb.out).keep (w' := w4) fun i v hv => (hK4.cell (p := ⟨w1.heap.size, i, none⟩) (by have := HBb.out.size; simp only; omega) (Ne.symm hSM)).trans hv
    have f4 : ∀ i, w4.frozen? ⟨w1.heap.size, i, none⟩ = false := fun i => (hK4.frozen (p := ⟨w1.heap.size, i, none⟩) (by have := HBb.out.size; simp only; omega) (Ne.symm hSM)).trans ((HBb.out.frozen (p := ⟨w1.heap.size, i, none⟩) hlM).trans (F3.out i))
    have HX := Lib.hid (And.intro hx (And.intro hS4 hz4))
    clear hx hK4 hS4 hz4 hwb
    have y := b4.2.2.2.2.1
    have g := f4 4
    obtain ⟨v4, hv4⟩ : ∃ v, v = w4.setCell ⟨w1.heap.size, 4, none⟩ (.int .i64 x) := ⟨_, rfl⟩
    have BV := Lib.hid (show BoxC (w4.setCell ⟨w1.heap.size, 4, none⟩ (.int .i64 x)) w1.heap.size 0 [.int .i64 mc, .int .i64 md, .int .i64 ms, .int .i64 ma, .int .i64 x] from by
      have := boxC_set2 (x := .int .i64 x) (k := 4) b4 (by simp)
      exact this)
    have kv : KeepF (fun g => g = w1.heap.size) w4 (w4.setCell ⟨w1.heap.size, 4, none⟩ (.int .i64 x)) := (KeepF.refl (fun g => g = w1.heap.size) w4).setCell (p := ⟨w1.heap.size, 4, none⟩) (.inl rfl) _
    have SV := Lib.hid (show Src S A c bs (w4.setCell ⟨w1.heap.size, 4, none⟩ (.int .i64 x)) from HX.out.2.1.keep kv hSM HFM.out)
    have KV := Lib.hid (show KeepF (fun g => g = S) w0 (w4.setCell ⟨w1.heap.size, 4, none⟩ (.int .i64 x)) from HK4.out.trans kv (fun g hg e => by have := HW1.out; have := HZ0.out; omega))
    clear kv b4 f4 hv4
    have lb : (w4.setCell ⟨w1.heap.size, 4, none⟩ (.int .i64 x)).heap[w.heap.size]? = some (.cells #[.int .i64 0, .int .i64 0, .int .i64 0, .int .i64 0, .int .i64 0] 25 (0, 0)) := (KV.out.block w.heap.size (by have := HZ0.out; omega) (fun e => by omega)).trans HBK.out
    obtain ⟨z0, z1, z2, z3, z4, _⟩ := BV.out
    simp only [Nat.zero_add] at z1 z2 z3 z4
    have n0 : (w4.setCell ⟨w1.heap.size, 4, none⟩ (.int .i64 x)).cell? ⟨w.heap.size, 0, none⟩ = some (.int .i64 0) := by simp only [World.cell?, lb]; rfl
    have n1 : (w4.setCell ⟨w1.heap.size, 4, none⟩ (.int .i64 x)).cell? ⟨w.heap.size, 1, none⟩ = some (.int .i64 0) := by simp only [World.cell?, lb]; rfl
    have n2 : (w4.setCell ⟨w1.heap.size, 4, none⟩ (.int .i64 x)).cell? ⟨w.heap.size, 2, none⟩ = some (.int .i64 0) := by simp only [World.cell?, lb]; rfl
    have n3 : (w4.setCell ⟨w1.heap.size, 4, none⟩ (.int .i64 x)).cell? ⟨w.heap.size, 3, none⟩ = some (.int .i64 0) := by simp only [World.cell?, lb]; rfl
    have n4 : (w4.setCell ⟨w1.heap.size, 4, none⟩ (.int .i64 x)).cell? ⟨w.heap.size, 4, none⟩ = some (.int .i64 0) := by simp only [World.cell?, lb]; rfl
    have m0 : ∀ i, (w4.setCell ⟨w1.heap.size, 4, none⟩ (.int .i64 x)).frozen? ⟨w.heap.size, i, none⟩ = false := fun i => by simp [World.frozen?, lb]
    have l0 := m0 0; have l1 := m0 1; have l2 := m0 2; have l3 := m0 3; have l4 := m0 4
    have HLB := Lib.hid lb
    clear lb m0
    go_wp2_with fail
    have lb := HLB.out
    have KVF := KV.out
    have SVF := SV.out
    obtain ⟨vf, hvf⟩ : ∃ v, v = (w4.setCell ⟨w1.heap.size, 4, none⟩ (.int .i64 x)) := ⟨_, rfl⟩
    rw [← hvf]
    rw [← hvf] at lb KVF SVF
    clear hvf
    refine bodyPost_ret (results_cell_row rfl _ _ w.heap.size 25 #[.int .i64 mc, .int .i64 md, .int .i64 ms, .int .i64 ma, .int .i64 x] (0, 0) _ (by rfl) (by simp [World.setCell, Array.getElem?_modify, lb]) Tryz.underlying25 rfl (by kernel_rfl)) rfl ?_
    have HKF := ((KeepF.ofBelow (F := fun g => g = S) HB0.out).trans KVF (fun _ _ e => e)).trans (keep_five vf w.heap.size (.int .i64 mc) (.int .i64 md) (.int .i64 ms) (.int .i64 ma) (.int .i64 x)) (fun g hg e => by omega)
    have HSF := SVF.keep (keep_five vf w.heap.size (.int .i64 mc) (.int .i64 md) (.int .i64 ms) (.int .i64 ma) (.int .i64 x)) (by omega) HFAR0.out
    refine ⟨⟨mc, md, ms, ma, x⟩, rfl, ?_, HSF, HKF⟩
    simp only [MkD]
    have hx := HX.out.1
    simp only [List.mem_cons, List.not_mem_nil, or_false] at hx
    omega
  by_cases q5 : r = 5
  · subst q5
    clear hr0 hr1 q0 q1 q2 q3 q4
    have HP := Lib.hid (l01Next_any S A c bs 2 w3 HS3.out)
    go_wp2_with fail
    refine HP.out.mono ?_
    rintro e w4 ⟨x, rfl, hx0, hx1, hS4, hK4, hz4⟩
    have HX := Lib.hid (And.intro hS4 (And.intro hK4 hz4))
    have HP4 := Lib.hid (l01Next_any S A c bs 2 w4 hS4)
    have xlt : x < 2 := by omega
    clear hS4 hK4 hz4 hx1 x0 x1 x2 x3 x4
    go_wp2_with fail
    refine HP4.out.mono ?_
    rintro e w5 ⟨y, rfl, hy0, hy1, hS5, hK5, hz5⟩
    have ylt : y < 2 := by omega
    have KV := Lib.hid (show KeepF (fun g => g = S) w0 w5 from (HK3.out.trans HX.out.2.1 (fun _ _ e => e)).trans hK5 (fun _ _ e => e))
    have SV := Lib.hid hS5
    have B5 := Lib.hid True.intro
    clear hS5 hK5 hz5 hy1
    have lb : w5.heap[w.heap.size]? = some (.cells #[.int .i64 0, .int .i64 0, .int .i64 0, .int .i64 0, .int .i64 0] 25 (0, 0)) := (KV.out.block w.heap.size (by have := HZ0.out; omega) (fun e => by omega)).trans HBK.out
    have n0 : w5.cell? ⟨w.heap.size, 0, none⟩ = some (.int .i64 0) := by simp only [World.cell?, lb]; rfl
    have n1 : w5.cell? ⟨w.heap.size, 1, none⟩ = some (.int .i64 0) := by simp only [World.cell?, lb]; rfl
    have n2 : w5.cell? ⟨w.heap.size, 2, none⟩ = some (.int .i64 0) := by simp only [World.cell?, lb]; rfl
    have n3 : w5.cell? ⟨w.heap.size, 3, none⟩ = some (.int .i64 0) := by simp only [World.cell?, lb]; rfl
    have n4 : w5.cell? ⟨w.heap.size, 4, none⟩ = some (.int .i64 0) := by simp only [World.cell?, lb]; rfl
    have m0 : ∀ i, w5.frozen? ⟨w.heap.size, i, none⟩ = false := fun i => by simp [World.frozen?, lb]
    have l0 := m0 0; have l1 := m0 1; have l2 := m0 2; have l3 := m0 3; have l4 := m0 4
    have HLB := Lib.hid lb
    clear lb m0
    go_wp2_with fail
    have lb := HLB.out
    have KVF := KV.out
    have SVF := SV.out
    obtain ⟨vf, hvf⟩ : ∃ v, v = w5 := ⟨_, rfl⟩
    rw [← hvf]
    rw [← hvf] at lb KVF SVF
    clear hvf
    refine bodyPost_ret (results_cell_row rfl _ _ w.heap.size 25 #[.int .i64 6, .int .i64 (4 + x), .int .i64 (2 + y), .int .i64 2, .int .i64 3] (0, 0) _ (by rfl) (by simp [World.setCell, Array.getElem?_modify, lb]) Tryz.underlying25 rfl (by kernel_rfl)) rfl ?_
    have HKF := ((KeepF.ofBelow (F := fun g => g = S) HB0.out).trans KVF (fun _ _ e => e)).trans (keep_five vf w.heap.size (.int .i64 6) (.int .i64 (4 + x)) (.int .i64 (2 + y)) (.int .i64 2) (.int .i64 3)) (fun g hg e => by omega)
    have HSF := SVF.keep (keep_five vf w.heap.size (.int .i64 6) (.int .i64 (4 + x)) (.int .i64 (2 + y)) (.int .i64 2) (.int .i64 3)) (by omega) HFAR0.out
    refine ⟨⟨6, (4 + x), (2 + y), 2, 3⟩, rfl, ?_, HSF, HKF⟩
    simp only [MkD]
    omega
  · have p0 : (r == 0) = false := by simpa using q0
    have p1 : (r == 1) = false := by simpa using q1
    have p2 : (r == 2) = false := by simpa using q2
    have p3 : (r == 3) = false := by simpa using q3
    have p4 : (r == 4) = false := by simpa using q4
    have p5 : (r == 5) = false := by simpa using q5
    clear x0 x1 x2 x3 x4
    have lb : w3.heap[w.heap.size]? = some (.cells #[.int .i64 0, .int .i64 0, .int .i64 0, .int .i64 0, .int .i64 0] 25 (0, 0)) := (HK3.out.block w.heap.size (by have := HZ0.out; omega) (fun e => by omega)).trans HBK.out
    obtain ⟨z0, z1, z2, z3, z4, _⟩ := B3.out
    simp only [Nat.zero_add] at z1 z2 z3 z4
    have n0 : w3.cell? ⟨w.heap.size, 0, none⟩ = some (.int .i64 0) := by simp only [World.cell?, lb]; rfl
    have n1 : w3.cell? ⟨w.heap.size, 1, none⟩ = some (.int .i64 0) := by simp only [World.cell?, lb]; rfl
    have n2 : w3.cell? ⟨w.heap.size, 2, none⟩ = some (.int .i64 0) := by simp only [World.cell?, lb]; rfl
    have n3 : w3.cell? ⟨w.heap.size, 3, none⟩ = some (.int .i64 0) := by simp only [World.cell?, lb]; rfl
    have n4 : w3.cell? ⟨w.heap.size, 4, none⟩ = some (.int .i64 0) := by simp only [World.cell?, lb]; rfl
    have m0 : ∀ i, w3.frozen? ⟨w.heap.size, i, none⟩ = false := fun i => by simp [World.frozen?, lb]
    have l0 := m0 0; have l1 := m0 1; have l2 := m0 2; have l3 := m0 3; have l4 := m0 4
    have HLB := Lib.hid lb
    clear lb m0
    go_wp2_with fail
    have lb := HLB.out
    have KVF := HK3.out
    have SVF := HS3.out
    obtain ⟨vf, hvf⟩ : ∃ v, v = w3 := ⟨_, rfl⟩
    rw [← hvf]
    rw [← hvf] at lb KVF SVF
    clear hvf
    refine bodyPost_ret (results_cell_row rfl _ _ w.heap.size 25 #[.int .i64 mc, .int .i64 md, .int .i64 ms, .int .i64 ma, .int .i64 ml] (0, 0) _ (by rfl) (by simp [World.setCell, Array.getElem?_modify, lb]) Tryz.underlying25 rfl (by kernel_rfl)) rfl ?_
    have HKF := ((KeepF.ofBelow (F := fun g => g = S) HB0.out).trans KVF (fun _ _ e => e)).trans (keep_five vf w.heap.size (.int .i64 mc) (.int .i64 md) (.int .i64 ms) (.int .i64 ma) (.int .i64 ml)) (fun g hg e => by omega)
    have HSF := SVF.keep (keep_five vf w.heap.size (.int .i64 mc) (.int .i64 md) (.int .i64 ms) (.int .i64 ma) (.int .i64 ml)) (by omega) HFAR0.out
    refine ⟨⟨mc, md, ms, ma, ml⟩, rfl, ?_, HSF, HKF⟩
    simp only [MkD]
    omega
end Go.Proofs.YtdedajohkdbdkaaGreatDoor
