/- Contracts of MirrorKey, MirrorCuts. -/
import Derived.Test.YtdedajohkdbdkaaGreatFCodes
import Derived.Test.YtdedajohkdbdkaaGreatFGhost
namespace Go.Proofs.YtdedajohkdbdkaaGreat
set_option linter.unusedVariables false
open Go.RowKit
def mirror (m : Mk) (xs : List Int) : List Int := xs.map fun x => m.d - 1 - x
theorem mirror_succ (m : Mk) (xs : List Int) (k : Nat) (h : k < xs.length) : ints (mirror m (xs.take (k + 1))) = ints (mirror m (xs.take k)) ++ [.int .i64 (m.d - 1 - xs[k])] := by
  unfold mirror; rw [List.take_succ_eq_append_getElem h, List.map_append, ints_append]; rfl
theorem mirror_len (m : Mk) (xs : List Int) : (mirror m xs).length = xs.length := by simp [mirror]
theorem key_vals {m : Mk} {xs : List Int} (hm : isMaker m = true) (h : isKey m xs = true) : xs.length ≤ 6 ∧ ∀ k (hk : k < xs.length), 0 ≤ xs[k] ∧ xs[k] < m.d := by
  have h1 := fault_zero_iff.1 (show fault m xs = 0 by simpa [isKey] using h)
  have h2 := (mk_bounds hm).2.1
  exact ⟨by omega, fun k hk => by have := allW_at h1.2.1 hk; omega⟩
set_option maxRecDepth 100000 in
set_option maxHeartbeats 4000000 in
theorem specMirrorKey_any (m : Mk) (A : Option Addr) (c : Nat) (xs : List Int) (w : World) (h : RI w A xs) (hcap : xs.length ≤ c) (hm : isMaker m = true) (hk : isKey m xs = true) :
    Calls Tryz.prog 66 #[.agg #[.int .i64 m.c, .int .i64 m.d, .int .i64 m.s, .int .i64 m.a, .int .i64 m.l], .slice A xs.length c] w (ResIC w (mirror m xs, 0)) := by
  have B0 := (Below.refl w.heap.size w).alloc (Nat.le_refl _) (.cells #[.int .i64 m.c, .int .i64 m.d, .int .i64 m.s, .int .i64 m.a, .int .i64 m.l] 25)
  have bm : BoxC (w.alloc (.cells #[.int .i64 m.c, .int .i64 m.d, .int .i64 m.s, .int .i64 m.a, .int .i64 m.l] 25)) w.heap.size 0 [.int .i64 m.c, .int .i64 m.d, .int .i64 m.s, .int .i64 m.a, .int .i64 m.l] := by simp [BoxC, Go.World.cell?_alloc_at]
  have hmb := mk_bounds hm
  have d2 : 2 ≤ m.d := hmb.2.2.1
  have d8 : m.d ≤ 8 := hmb.2.2.2.1
  clear hmb
  have hv := key_vals hm hk
  have hl6 := hv.1
  have HV := Lib.hid hv.2
  have HCO := l02Code_any m A c xs (w.alloc (.cells #[.int .i64 m.c, .int .i64 m.d, .int .i64 m.s, .int .i64 m.a, .int .i64 m.l] 25)) (h.below B0) hcap
  rw [show keysC m [xs] = 0 by simp [keysC, hm, areKeysF, hk]] at HCO
  have HC := Lib.hid HCO
  have HBM := Lib.hid bm
  clear HCO hm hk hv bm
  go_enter Tryz.func66, Tryz.ntmps66
  go_wp2_with fail
  refine HC.out.mono ?_
  rintro e w1 ⟨rfl, b1⟩
  have B1 := B0.trans (b1.mono B0.size)
  have s1 : w.heap.size + 1 ≤ w1.heap.size := by have := b1.size; simp only [World.size_alloc] at this; omega
  obtain ⟨q0, q1, q2, q3, q4, _⟩ := HBM.out.below b1
  have HB1 := Lib.hid (HBM.out.below b1)
  go_wp2_with fail
  go_loopw [7, 8] (fun v i wr => ∃ (k : Nat) (v0 : Value), k ≤ xs.length ∧ i = .int .i64 k ∧ v = v0 ∧ OV wr w1.heap.size 2 v0 (ints (mirror m (xs.take k))) ∧ Below w1.heap.size w1 wr) (fun _ i _ => xs.length - (intOf i).toNat)
  case atStart => exact ⟨0, _, by omega, rfl, rfl, by simpa [mirror, ints] using OV.new0 (w := w1) (B := w1.heap.size) (e := 2) (Nat.le_refl _), (Below.refl _ _).alloc (Nat.le_refl _) _⟩
  case round =>
    obtain ⟨k, v0, hk, rfl, rfl, ho, hb⟩ := hrel
    have hle := h.le
    have hsz := hb.size
    have Bw := B1.trans (hb.mono B1.size)
    have HO := Lib.hid ho; clear ho
    by_cases hlt : k < xs.length
    · obtain ⟨b, o, rfl, hx0⟩ := (h.below Bw).at_ hlt
      have hvk := HV.out k hlt
      have HS := Lib.hid (mirror_succ m xs k hlt)
      obtain ⟨x, hx⟩ : ∃ x, x = xs[k] := ⟨_, rfl⟩
      rw [← hx] at hx0 hvk HS
      clear hx
      have i0 : (0 : Int) ≤ (k : Int) := by omega
      have i1 : (k : Int) < (xs.length : Int) := by omega
      have KS := Lib.hid (show ∀ w' : World, Below wr.heap.size wr w' → (w'.cell? ⟨w.heap.size, 1, none⟩ = some (.int .i64 m.d) ∧ w'.cell? ⟨b, o + k, none⟩ = some (.int .i64 x)) from fun w' hw => ⟨(HB1.out.below (hb.trans (hw.mono hsz))).2.1, cell_in hw (World.block_lt_of_cell? wr _ hx0) hx0⟩)
      go_wp2_with fail
      refine wp_region_held_drew (S := (fun w' => w'.cell? ⟨w.heap.size, 1, none⟩ = some (.int .i64 m.d) ∧ w'.cell? ⟨b, o + k, none⟩ = some (.int .i64 x))) (by kernel_rfl) (KS.out _ (belowDrew0 _)) (fun hHeld => ?_)
      refine takeD (i := 0) (some 22) (u7) rfl (by kernel_rfl) (by kernel_rfl) (by kernel_rfl) (by kernel_rfl) (fun _ _ _ h => h) (by assumption) (Or.inl ⟨by rfl, fun w hSw => by (try dsimp only at hSw); go_simp⟩) ?_
      simp only [Act.put, List.setIfInBounds_toArray, List.set_cons_zero, List.set_cons_succ]
      refine takeD (i := 1) (some 23) (.pointer (some ⟨w.heap.size, 1, none⟩)) rfl (by kernel_rfl) (by kernel_rfl) (by kernel_rfl) (by kernel_rfl) (fun _ _ _ h => h) (by assumption) (Or.inl ⟨by rfl, fun w hSw => by (try dsimp only at hSw); go_simp⟩) ?_
      simp only [Act.put, List.setIfInBounds_toArray, List.set_cons_zero, List.set_cons_succ]
      refine takeD (i := 2) (some 24) (.int .i64 m.d) rfl (by kernel_rfl) (by kernel_rfl) (by kernel_rfl) (by kernel_rfl) (fun _ _ _ h => h) (by assumption) (Or.inl ⟨by rfl, fun w hSw => by (try dsimp only at hSw); go_simp⟩) ?_
      simp only [Act.put, List.setIfInBounds_toArray, List.set_cons_zero, List.set_cons_succ]
      refine takeD (i := 3) (some 25) (.int .i64 (m.d - 1)) rfl (by kernel_rfl) (by kernel_rfl) (by kernel_rfl) (by kernel_rfl) (fun _ _ _ h => h) (by assumption) (Or.inl ⟨by rfl, fun w hSw => by (try dsimp only at hSw); go_simp; (rw [IntKind.wrap_i64]; omega)⟩) ?_
      simp only [Act.put, List.setIfInBounds_toArray, List.set_cons_zero, List.set_cons_succ]
      refine takeD (i := 4) (some 26) (.slice (some ⟨b, o, none⟩) xs.length c) rfl (by kernel_rfl) (by kernel_rfl) (by kernel_rfl) (by kernel_rfl) (fun _ _ _ h => h) (by assumption) (Or.inl ⟨by rfl, fun w hSw => by (try dsimp only at hSw); go_simp⟩) ?_
      simp only [Act.put, List.setIfInBounds_toArray, List.set_cons_zero, List.set_cons_succ]
      refine takeD (i := 5) (some 27) (.int .i64 (k : Int)) rfl (by kernel_rfl) (by kernel_rfl) (by kernel_rfl) (by kernel_rfl) (fun _ _ _ h => h) (by assumption) (Or.inl ⟨by rfl, fun w hSw => by (try dsimp only at hSw); go_simp⟩) ?_
      simp only [Act.put, List.setIfInBounds_toArray, List.set_cons_zero, List.set_cons_succ]
      refine takeD (i := 6) (some 28) (.pointer (some ⟨b, o + k, none⟩)) rfl (by kernel_rfl) (by kernel_rfl) (by kernel_rfl) (by kernel_rfl) (fun _ _ _ h => h) (by assumption) (Or.inl ⟨by rfl, fun w hSw => by (try dsimp only at hSw); go_simp⟩) ?_
      simp only [Act.put, List.setIfInBounds_toArray, List.set_cons_zero, List.set_cons_succ]
      refine takeD (i := 7) (some 29) (.int .i64 x) rfl (by kernel_rfl) (by kernel_rfl) (by kernel_rfl) (by kernel_rfl) (fun _ _ _ h => h) (by assumption) (Or.inl ⟨by rfl, fun w hSw => by (try dsimp only at hSw); go_simp⟩) ?_
      simp only [Act.put, List.setIfInBounds_toArray, List.set_cons_zero, List.set_cons_succ]
      refine takeD (i := 8) (some 30) (.int .i64 (m.d - 1 - x)) rfl (by kernel_rfl) (by kernel_rfl) (by kernel_rfl) (by kernel_rfl) (fun _ _ _ h => h) (by assumption) (Or.inl ⟨by rfl, fun w hSw => by (try dsimp only at hSw); go_simp; (rw [IntKind.wrap_i64]; omega)⟩) ?_
      simp only [Act.put, List.setIfInBounds_toArray, List.set_cons_zero, List.set_cons_succ]
      refine wpAnyH_ready (rs := [9]) (by kernel_rfl) (by simp) (AllReadyH.cons rfl (fun K hK => ?_) AllReadyH.nil)
      go_simp
      have hb9 : Below wr.heap.size wr (wr.drew.alloc (.cells #[.int .i64 (m.d - 1 - x)] 2)) := (belowDrew0 wr).alloc (Nat.le_refl _) _
      have HHeld := KS.out _ hb9
      refine hK.out _ _ HHeld (fun _ => ?_)
      clear hK K
      try simp only [Act.put, List.setIfInBounds_toArray, List.set_cons_zero, List.set_cons_succ]
      refine wpAnyH_ready (rs := [10]) (by kernel_rfl) (by simp) (AllReadyH.cons rfl (fun K hK => ?_) AllReadyH.nil)
      refine step_app1 _ (by rfl) _ _ _ (by rfl) w1.heap.size 2 _ 8 Tryz.underlying33 info_int rfl (by omega) _ _ (by rfl) ((HO.out.drew).alloc _) _ _ (by rfl) (one_cell _ _ _) rfl (by rw [ints_length, mirror_len]; simp only [List.length_take]; omega) (by simp; omega) ?_
      intro v' w5 ho5 hg5 hn5 hat5
      rw [← HS.out] at ho5
      have HB5 := Lib.hid ((HO.out.drew.alloc (.cells #[.int .i64 (m.d - 1 - x)] 2)).own (Nat.le_refl _) (hb.trans (hb9.mono hsz)) hg5 (by simp; omega))
      have hcx : w5.cell? ⟨b, o + k, none⟩ = some (.int .i64 x) := cell_in (B1.trans (HB5.out.mono B1.size)) (by
        obtain ⟨b', o', e', hc'⟩ := h.at_ hlt
        injection e' with e'; injection e' with e1 e2
        subst e1 e2
        exact World.block_lt_of_cell? w _ hc') (by
        obtain ⟨b', o', e', hc'⟩ := h.at_ hlt
        injection e' with e'; injection e' with e1 e2
        subst e1 e2
        have := cell_in Bw (World.block_lt_of_cell? w _ hc') hc'
        rw [hx0] at this; injection this with this
        rw [this]; exact hc')
      have hcd : w5.cell? ⟨w.heap.size, 1, none⟩ = some (.int .i64 m.d) := (HB1.out.below HB5.out).2.1
      have HO5 := Lib.hid ho5
      clear ho5 hg5 hn5 hat5
      have HHeld := And.intro hcd hcx
      refine hK.out _ _ HHeld (fun _ => ?_)
      clear hK K
      (try simp only [Act.put]); (try simp only [List.setIfInBounds_toArray]); (try simp only [List.set_cons_zero, List.set_cons_succ])
      refine takeD (i := 11) (some 7) (v') rfl (by kernel_rfl) (by kernel_rfl) (by kernel_rfl) (by kernel_rfl) (fun _ _ _ h => h) (by assumption) (Or.inl ⟨by rfl, fun w hSw => by (try dsimp only at hSw); go_simp⟩) ?_
      (try simp only [Act.put]); (try simp only [List.setIfInBounds_toArray]); (try simp only [List.set_cons_zero, List.set_cons_succ])
      refine wpAnyH_done (by kernel_rfl) ?_ _
      clear hcd hcx
      go_wp2_with fail
      go_roundw
      case rel => exact ⟨k + 1, v', by omega, by go_num, rfl, HO5.out, HB5.out⟩
      case measure => simp [intOf]; omega
    · obtain rfl : k = xs.length := by omega
      have ho := HO.out
      rw [List.take_length] at ho
      go_wp2_with fail
      go_ret2
      exact resIC_own rfl ho (by omega) Bw
set_option maxRecDepth 100000 in
set_option maxHeartbeats 4000000 in
theorem implMirrorKey_any (m : Mk) (A : Option Addr) (c : Nat) (xs : List Int) (w : World) (h : RI w A xs) (hcap : xs.length ≤ c) (hm : isMaker m = true) (hk : isKey m xs = true) :
    Calls Tryz.prog 64 #[.agg #[.int .i64 m.c, .int .i64 m.d, .int .i64 m.s, .int .i64 m.a, .int .i64 m.l], .slice A xs.length c] w (ResIC w (mirror m xs, 0)) := by
  have B0 := ((Below.refl w.heap.size w).alloc (Nat.le_refl _) (.cells #[.int .i64 m.c, .int .i64 m.d, .int .i64 m.s, .int .i64 m.a, .int .i64 m.l] 25)).alloc (by simp only [World.size_alloc]; omega) (.cells #[.slice A xs.length c] 33)
  have bm : BoxC ((w.alloc (.cells #[.int .i64 m.c, .int .i64 m.d, .int .i64 m.s, .int .i64 m.a, .int .i64 m.l] 25)).alloc (.cells #[.slice A xs.length c] 33)) w.heap.size 0 [.int .i64 m.c, .int .i64 m.d, .int .i64 m.s, .int .i64 m.a, .int .i64 m.l] := by
    have : BoxC (w.alloc (.cells #[.int .i64 m.c, .int .i64 m.d, .int .i64 m.s, .int .i64 m.a, .int .i64 m.l] 25)) w.heap.size 0 [.int .i64 m.c, .int .i64 m.d, .int .i64 m.s, .int .i64 m.a, .int .i64 m.l] := by simp [BoxC, Go.World.cell?_alloc_at]
    exact this.below ((Below.refl _ _).alloc (Nat.le_refl _) _)
  have hmb := mk_bounds hm
  have d2 : 2 ≤ m.d := hmb.2.2.1
  have d8 : m.d ≤ 8 := hmb.2.2.2.1
  clear hmb
  have hv := key_vals hm hk
  have hl6 := hv.1
  have HV := Lib.hid hv.2
  have hOne : RII ((w.alloc (.cells #[.int .i64 m.c, .int .i64 m.d, .int .i64 m.s, .int .i64 m.a, .int .i64 m.l] 25)).alloc (.cells #[.slice A xs.length c] 33)) (some ⟨w.heap.size + 1, 0, none⟩) [xs] := RII.one hcap (h.below B0) (by simp [Go.World.cell?_alloc_at])
  have HCO := keysCode_any m (some ⟨w.heap.size + 1, 0, none⟩) 1 [xs] _ hOne
  rw [show keysC m [xs] = 0 by simp [keysC, hm, areKeysF, hk]] at HCO
  have HC := Lib.hid HCO
  have HBM := Lib.hid bm
  clear HCO hm hk hv bm hOne
  go_enter Tryz.func64, Tryz.ntmps64
  go_wp2_with fail
  refine HC.out.mono ?_
  rintro e w1 ⟨rfl, b1⟩
  have B1 := B0.trans (b1.mono B0.size)
  have s1 : w.heap.size + 2 ≤ w1.heap.size := by have := b1.size; simp only [World.size_alloc] at this; omega
  have HB1 := Lib.hid (HBM.out.below b1)
  have hle := h.le
  go_wp2_with fail
  go_loopw [7, 9, 20] (fun v _ i wr => ∃ (k : Nat) (v0 : Value), k ≤ xs.length ∧ i = .int .i64 k ∧ v = v0 ∧ OV wr w1.heap.size 2 v0 (ints (mirror m (xs.take k))) ∧ Below w1.heap.size w1 wr) (fun _ _ i _ => xs.length - (intOf i).toNat)
  case atStart => exact ⟨0, _, by omega, rfl, rfl, by simpa [mirror, ints] using OV.new0 (w := w1) (B := w1.heap.size) (e := 2) (Nat.le_refl _), (Below.refl _ _).alloc (Nat.le_refl _) _⟩
  case round =>
    obtain ⟨k, v0, hk, rfl, rfl, ho, hb⟩ := hrel
    have hsz := hb.size
    have Bw := B1.trans (hb.mono B1.size)
    obtain ⟨q0, q1, q2, q3, q4, _⟩ := HB1.out.below hb
    by_cases hlt : k < xs.length
    · obtain ⟨b, o, rfl, hx0⟩ := (h.below Bw).at_ hlt
      have hvk := HV.out k hlt
      have HS := Lib.hid (mirror_succ m xs k hlt)
      obtain ⟨x, hx⟩ : ∃ x, x = xs[k] := ⟨_, rfl⟩
      rw [← hx] at hx0 hvk HS
      clear hx
      go_wp2_with (at_builtin; refine wpList_app1 _ rfl _ _ _ rfl w1.heap.size 2 _ 8 Tryz.underlying33 info_int rfl (by omega) _ _ rfl (ho.alloc _) _ _ rfl (one_cell _ _ _) rfl (by rw [ints_length, mirror_len]; simp only [List.length_take]; omega) (by simp; omega) ?_; intro v' w5 ho5 hg5 hn5 hat5)
      go_roundw
      case rel => exact ⟨k + 1, v', by omega, by go_num, rfl, by rw [HS.out]; exact ho5, (ho.alloc _).own (Nat.le_refl _) (hb.alloc (by omega) _) hg5 (by simp; omega)⟩
      case measure => simp [intOf]; omega
    · obtain rfl : k = xs.length := by omega
      rw [List.take_length] at ho
      go_wp2_with fail
      go_ret2
      exact resIC_own rfl ho (by omega) Bw
def mirrorCutsR (m : Mk) (t cuts : List (List Int)) : List (List Int) × Int := if cutsC m t cuts = 0 then (cuts.map (mirror m), 0) else ([], cutsC m t cuts)
theorem mir_no {m : Mk} {t cuts : List (List Int)} (h : cutsC m t cuts ≠ 0) : ([], cutsC m t cuts) = mirrorCutsR m t cuts := by unfold mirrorCutsR; rw [if_neg h]
theorem mir_yes {m : Mk} {t cuts : List (List Int)} (h : cutsC m t cuts = 0) : (cuts.map (mirror m), 0) = mirrorCutsR m t cuts := by unfold mirrorCutsR; rw [if_pos h]
theorem mir_succ (m : Mk) (cuts : List (List Int)) (k : Nat) (h : k < cuts.length) : (cuts.take (k + 1)).map (mirror m) = (cuts.take k).map (mirror m) ++ [mirror m cuts[k]] := by
  rw [List.take_succ_eq_append_getElem h, List.map_append]; rfl
theorem cuts_facts {m : Mk} {t cuts : List (List Int)} (h : cutsC m t cuts = 0) : isMaker m = true ∧ cuts.length ≤ 10 ∧ ∀ k (hk : k < cuts.length), isKey m cuts[k] = true := by
  obtain ⟨h1, h2, h3⟩ := cutsC_0 h
  have := sys_facts h1
  unfold areKeysF at h3; rw [List.all_eq_true] at h3
  exact ⟨this.1, by omega, fun k hk => h3 _ (List.getElem_mem hk)⟩
set_option maxRecDepth 100000 in
set_option maxHeartbeats 8000000 in
theorem specMirrorCuts_any (m : Mk) (A : Option Addr) (c : Nat) (t : List (List Int)) (B : Option Addr) (d : Nat) (cuts : List (List Int)) (w : World) (h : RII w A t) (g : RII w B cuts) :
    Calls Tryz.prog 19 #[.agg #[.int .i64 m.c, .int .i64 m.d, .int .i64 m.s, .int .i64 m.a, .int .i64 m.l, .slice A t.length c], .slice B cuts.length d] w (ResIIC w (mirrorCutsR m t cuts)) := by
  have B0 := (Below.refl w.heap.size w).alloc (Nat.le_refl _) (.cells #[.int .i64 m.c, .int .i64 m.d, .int .i64 m.s, .int .i64 m.a, .int .i64 m.l, .slice A t.length c] 45)
  have bx : BoxC (w.alloc (.cells #[.int .i64 m.c, .int .i64 m.d, .int .i64 m.s, .int .i64 m.a, .int .i64 m.l, .slice A t.length c] 45)) w.heap.size 0 [.int .i64 m.c, .int .i64 m.d, .int .i64 m.s, .int .i64 m.a, .int .i64 m.l, .slice A t.length c] := by simp [BoxC, Go.World.cell?_alloc_at]
  have HCC := Lib.hid (l15Code_any m A c t B d cuts (w.alloc (.cells #[.int .i64 m.c, .int .i64 m.d, .int .i64 m.s, .int .i64 m.a, .int .i64 m.l, .slice A t.length c] 45)) (h.below B0) (g.below B0))
  have hle := g.le
  by_cases h1 : cutsC m t cuts = 0
  rotate_left
  · have HN := Lib.hid (mir_no h1)
    have t1 : (cutsC m t cuts != 0) = true := by simpa using h1
    have H1 := Lib.hid h1; clear h1
    go_enter Tryz.func19, Tryz.ntmps19
    go_wp2_with fail
    refine HCC.out.mono ?_
    rintro e w1 ⟨rfl, b1⟩
    go_wp2_with fail
    go_ret2
    exact resIIC_nil HN.out (B0.trans (b1.mono B0.size))
  have HY := Lib.hid (mir_yes h1)
  have HF := Lib.hid (cuts_facts h1)
  have hl10 : cuts.length ≤ 10 := HF.out.2.1
  rw [h1] at HCC
  have H1 := Lib.hid h1; clear h1
  have HBX := Lib.hid bx; clear bx
  go_enter Tryz.func19, Tryz.ntmps19
  go_wp2_with fail
  refine HCC.out.mono ?_
  rintro e w1 ⟨rfl, b1⟩
  have B1 := B0.trans (b1.mono B0.size)
  have s1 : w.heap.size + 1 ≤ w1.heap.size := by have := b1.size; simp only [World.size_alloc] at this; omega
  have HB1 := Lib.hid (HBX.out.below b1)
  go_wp2_with fail
  go_loopw [7, 8, 9, 10] (fun v i _ _ wr => ∃ (k : Nat) (v0 : Value), k ≤ cuts.length ∧ i = .int .i64 k ∧ v = v0 ∧ OII wr w1.heap.size wr.heap.size v0 ((cuts.take k).map (mirror m)) ∧ Below w1.heap.size w1 wr) (fun _ i _ _ _ => cuts.length - (intOf i).toNat)
  case atStart => exact ⟨0, _, by omega, rfl, rfl, by simpa using (OII.new0 (w := w1) (Nat.le_refl _)).wide (Nat.le_refl _) (show w1.heap.size + 1 ≤ (w1.alloc (.cells #[] 33)).heap.size by simp), (Below.refl _ _).alloc (Nat.le_refl _) _⟩
  case round =>
    obtain ⟨k, v0, hk, rfl, rfl, ho, hb⟩ := hrel
    have HO := Lib.hid ho; clear ho
    have hsz := hb.size
    have Bw := B1.trans (hb.mono B1.size)
    obtain ⟨q0, q1, q2, q3, q4, q5, _⟩ := HB1.out.below hb
    by_cases hlt : k < cuts.length
    · obtain ⟨b, o, A', c', rfl, hc0, hcc, hr⟩ := (g.below Bw).at_ hlt
      have i0 : (0 : Int) ≤ (k : Int) := by omega
      have i1 : (k : Int) < (cuts.length : Int) := by omega
      have HS := Lib.hid (mir_succ m cuts k hlt)
      have HMK := Lib.hid (fun (W : World) (hW : Below wr.heap.size wr W) => specMirrorKey_any m A' c' cuts[k] W (hr.below hW) hcc HF.out.1 (HF.out.2.2 k hlt))
      obtain ⟨zs, hzs⟩ : ∃ zs, zs = mirror m cuts[k] := ⟨_, rfl⟩
      rw [← hzs] at HMK HS
      clear hzs
      have KS := Lib.hid (show ∀ w' : World, Below wr.heap.size wr w' → ((w'.cell? ⟨w.heap.size, 0, none⟩ = some (.int .i64 m.c) ∧ w'.cell? ⟨w.heap.size, 1, none⟩ = some (.int .i64 m.d) ∧ w'.cell? ⟨w.heap.size, 2, none⟩ = some (.int .i64 m.s) ∧ w'.cell? ⟨w.heap.size, 3, none⟩ = some (.int .i64 m.a) ∧ w'.cell? ⟨w.heap.size, 4, none⟩ = some (.int .i64 m.l) ∧ w'.cell? ⟨w.heap.size, 5, none⟩ = some (.slice A t.length c) ∧ True) ∧ w'.cell? ⟨b, o + k, none⟩ = some (.slice A' cuts[k].length c')) from fun w' hw => ⟨(HB1.out.below (hb.trans (hw.mono hsz))), cell_in hw (World.block_lt_of_cell? wr _ hc0) hc0⟩)
      go_wp2_with fail
      refine wp_region_held_drew (S := (fun w' => (w'.cell? ⟨w.heap.size, 0, none⟩ = some (.int .i64 m.c) ∧ w'.cell? ⟨w.heap.size, 1, none⟩ = some (.int .i64 m.d) ∧ w'.cell? ⟨w.heap.size, 2, none⟩ = some (.int .i64 m.s) ∧ w'.cell? ⟨w.heap.size, 3, none⟩ = some (.int .i64 m.a) ∧ w'.cell? ⟨w.heap.size, 4, none⟩ = some (.int .i64 m.l) ∧ w'.cell? ⟨w.heap.size, 5, none⟩ = some (.slice A t.length c) ∧ True) ∧ w'.cell? ⟨b, o + k, none⟩ = some (.slice A' cuts[k].length c'))) (by kernel_rfl) (KS.out _ (belowDrew0 _)) (fun hHeld => ?_)
      refine takeD (i := 0) (some 25) (.pointer (some ⟨w.heap.size, 0, none⟩)) rfl (by kernel_rfl) (by kernel_rfl) (by kernel_rfl) (by kernel_rfl) (fun _ _ _ h => h) (by assumption) (Or.inl ⟨by rfl, fun w hSw => by (try dsimp only at hSw); go_simp⟩) ?_
      simp only [Act.put, List.setIfInBounds_toArray, List.set_cons_zero, List.set_cons_succ]
      refine takeD (i := 1) (some 26) (.agg #[.int .i64 m.c, .int .i64 m.d, .int .i64 m.s, .int .i64 m.a, .int .i64 m.l]) rfl (by kernel_rfl) (by kernel_rfl) (by kernel_rfl) (by kernel_rfl) (fun _ _ _ h => h) (by assumption) (Or.inl ⟨by rfl, fun w hSw => by (try dsimp only at hSw); go_simp⟩) ?_
      simp only [Act.put, List.setIfInBounds_toArray, List.set_cons_zero, List.set_cons_succ]
      refine takeD (i := 2) (some 27) (.slice (some ⟨b, o, none⟩) cuts.length d) rfl (by kernel_rfl) (by kernel_rfl) (by kernel_rfl) (by kernel_rfl) (fun _ _ _ h => h) (by assumption) (Or.inl ⟨by rfl, fun w hSw => by (try dsimp only at hSw); go_simp⟩) ?_
      simp only [Act.put, List.setIfInBounds_toArray, List.set_cons_zero, List.set_cons_succ]
      refine takeD (i := 3) (some 28) (.int .i64 (k : Int)) rfl (by kernel_rfl) (by kernel_rfl) (by kernel_rfl) (by kernel_rfl) (fun _ _ _ h => h) (by assumption) (Or.inl ⟨by rfl, fun w hSw => by (try dsimp only at hSw); go_simp⟩) ?_
      simp only [Act.put, List.setIfInBounds_toArray, List.set_cons_zero, List.set_cons_succ]
      refine takeD (i := 4) (some 29) (.pointer (some ⟨b, o + k, none⟩)) rfl (by kernel_rfl) (by kernel_rfl) (by kernel_rfl) (by kernel_rfl) (fun _ _ _ h => h) (by assumption) (Or.inl ⟨by rfl, fun w hSw => by (try dsimp only at hSw); go_simp⟩) ?_
      simp only [Act.put, List.setIfInBounds_toArray, List.set_cons_zero, List.set_cons_succ]
      refine takeD (i := 5) (some 30) (.slice A' cuts[k].length c') rfl (by kernel_rfl) (by kernel_rfl) (by kernel_rfl) (by kernel_rfl) (fun _ _ _ h => h) (by assumption) (Or.inl ⟨by rfl, fun w hSw => by (try dsimp only at hSw); go_simp⟩) ?_
      simp only [Act.put, List.setIfInBounds_toArray, List.set_cons_zero, List.set_cons_succ]
      refine wpAnyH_ready (rs := [6]) (by kernel_rfl) (by simp) (AllReadyH.cons rfl (fun K hK => ?_) AllReadyH.nil)
      go_simp
      refine (HMK.out _ (belowDrew0 _)).mono ?_
      rintro e w3 ⟨A3, c3, rfl, hc3, r3, o3, b3'⟩
      have b3 := belowDrew b3'
      have HO3 := Lib.hid (show OI w3 wr.heap.size w3.heap.size (.slice A3 zs.length c3) zs from o3)
      clear o3 b3' r3
      have HHeld := KS.out _ b3
      refine hK.out _ _ HHeld (fun _ => ?_)
      clear hK K
      refine takeD (i := 7) (some 24) (.tuple #[.slice A3 zs.length c3, .int .i64 0]) rfl (by kernel_rfl) (by kernel_rfl) (by kernel_rfl) (by kernel_rfl) (fun _ _ _ h => h) (by assumption) (Or.inl ⟨by rfl, fun w hSw => by (try dsimp only at hSw); go_simp⟩) ?_
      simp only [Act.put, List.setIfInBounds_toArray, List.set_cons_zero, List.set_cons_succ]
      refine takeD (i := 8) (some 32) (.slice A3 zs.length c3) rfl (by kernel_rfl) (by kernel_rfl) (by kernel_rfl) (by kernel_rfl) (fun _ _ _ h => h) (by assumption) (Or.inl ⟨by rfl, fun w hSw => by (try dsimp only at hSw); go_simp⟩) ?_
      simp only [Act.put, List.setIfInBounds_toArray, List.set_cons_zero, List.set_cons_succ]
      refine takeD (i := 9) (some 33) (.int .i64 0) rfl (by kernel_rfl) (by kernel_rfl) (by kernel_rfl) (by kernel_rfl) (fun _ _ _ h => h) (by assumption) (Or.inl ⟨by rfl, fun w hSw => by (try dsimp only at hSw); go_simp⟩) ?_
      simp only [Act.put, List.setIfInBounds_toArray, List.set_cons_zero, List.set_cons_succ]
      refine takeD (i := 10) (some 9) (.slice A3 zs.length c3) rfl (by kernel_rfl) (by kernel_rfl) (by kernel_rfl) (by kernel_rfl) (fun _ _ _ h => h) (by assumption) (Or.inl ⟨by rfl, fun w hSw => by (try dsimp only at hSw); go_simp⟩) ?_
      simp only [Act.put, List.setIfInBounds_toArray, List.set_cons_zero, List.set_cons_succ]
      refine takeD (i := 11) (some 10) (.int .i64 0) rfl (by kernel_rfl) (by kernel_rfl) (by kernel_rfl) (by kernel_rfl) (fun _ _ _ h => h) (by assumption) (Or.inl ⟨by rfl, fun w hSw => by (try dsimp only at hSw); go_simp⟩) ?_
      simp only [Act.put, List.setIfInBounds_toArray, List.set_cons_zero, List.set_cons_succ]
      refine wpAnyH_done (by kernel_rfl) ?_ _
      obtain ⟨us, k1, k2, k3, k4⟩ := HO.out.below b3
      have hul : us.length ≤ 10 := by rw [k1]; simp only [List.length_map, List.length_take]; omega
      have HK := Lib.hid (And.intro k3 k4); clear k3 k4
      have HL := Lib.hid k1; clear k1
      have hs3 := b3.size
      go_wp2_with (at_builtin; refine wpList_app1 _ rfl _ _ _ rfl w1.heap.size 33 _ 24 Tryz.underlying26 info_sl rfl (by omega) _ us rfl (k2.1.alloc _) _ _ rfl (one_cell _ _ _) rfl (by omega) (by simp; omega) ?_; intro v' w5 ho5 hg5 hn5 hat5)
      have HN := Lib.hid (OII.push1 (ys := zs) HL.out k2 HK.out.1 HK.out.2 HO3.out.1 hsz hs3 ho5 hg5)
      have HB5 := Lib.hid ((k2.1.alloc (.cells #[.slice A3 zs.length c3] 33)).own (Nat.le_refl _) ((hb.trans (b3.mono hsz)).alloc (by omega) _) hg5 (by simp; omega))
      clear ho5 hg5 hn5 hat5
      go_roundw
      case rel => exact ⟨k + 1, v', by omega, by go_num, rfl, by rw [HS.out]; exact HN.out, HB5.out⟩
      case measure => simp [intOf]; omega
    · obtain rfl : k = cuts.length := by omega
      have hoo := HO.out
      rw [List.take_length] at hoo
      have HOO := Lib.hid hoo; clear hoo
      go_wp2_with fail
      go_ret2
      exact resIIC_own HY.out HOO.out (by omega) (Nat.le_refl _) Bw
set_option maxRecDepth 100000 in
set_option maxHeartbeats 8000000 in
theorem implMirrorCuts_any (m : Mk) (A : Option Addr) (c : Nat) (t : List (List Int)) (B : Option Addr) (d : Nat) (cuts : List (List Int)) (w : World) (h : RII w A t) (g : RII w B cuts) :
    Calls Tryz.prog 18 #[.agg #[.int .i64 m.c, .int .i64 m.d, .int .i64 m.s, .int .i64 m.a, .int .i64 m.l, .slice A t.length c], .slice B cuts.length d] w (ResIIC w (mirrorCutsR m t cuts)) := by
  have B0 := (Below.refl w.heap.size w).alloc (Nat.le_refl _) (.cells #[.int .i64 m.c, .int .i64 m.d, .int .i64 m.s, .int .i64 m.a, .int .i64 m.l, .slice A t.length c] 45)
  have bx : BoxC (w.alloc (.cells #[.int .i64 m.c, .int .i64 m.d, .int .i64 m.s, .int .i64 m.a, .int .i64 m.l, .slice A t.length c] 45)) w.heap.size 0 [.int .i64 m.c, .int .i64 m.d, .int .i64 m.s, .int .i64 m.a, .int .i64 m.l, .slice A t.length c] := by simp [BoxC, Go.World.cell?_alloc_at]
  have HCC := Lib.hid (cutsCode_any m A c t B d cuts (w.alloc (.cells #[.int .i64 m.c, .int .i64 m.d, .int .i64 m.s, .int .i64 m.a, .int .i64 m.l, .slice A t.length c] 45)) (h.below B0) (g.below B0))
  have hle := g.le
  by_cases h1 : cutsC m t cuts = 0
  rotate_left
  · have HN := Lib.hid (mir_no h1)
    have t1 : (cutsC m t cuts != 0) = true := by simpa using h1
    have H1 := Lib.hid h1; clear h1
    go_enter Tryz.func18, Tryz.ntmps18
    go_wp2_with fail
    refine HCC.out.mono ?_
    rintro e w1 ⟨rfl, b1⟩
    go_wp2_with fail
    go_ret2
    exact resIIC_nil HN.out (B0.trans (b1.mono B0.size))
  have HY := Lib.hid (mir_yes h1)
  have HF := Lib.hid (cuts_facts h1)
  have hl10 : cuts.length ≤ 10 := HF.out.2.1
  rw [h1] at HCC
  have H1 := Lib.hid h1; clear h1
  have HBX := Lib.hid bx; clear bx
  go_enter Tryz.func18, Tryz.ntmps18
  go_wp2_with fail
  refine HCC.out.mono ?_
  rintro e w1 ⟨rfl, b1⟩
  have B1 := B0.trans (b1.mono B0.size)
  have s1 : w.heap.size + 1 ≤ w1.heap.size := by have := b1.size; simp only [World.size_alloc] at this; omega
  have HB1 := Lib.hid (HBX.out.below b1)
  go_wp2_with fail
  go_loopw [7, 9, 10, 11, 21] (fun v _ _ _ i wr => ∃ (k : Nat) (v0 : Value), k ≤ cuts.length ∧ i = .int .i64 k ∧ v = v0 ∧ OII wr w1.heap.size wr.heap.size v0 ((cuts.take k).map (mirror m)) ∧ Below w1.heap.size w1 wr) (fun _ _ _ _ i _ => cuts.length - (intOf i).toNat)
  case atStart => exact ⟨0, _, by omega, rfl, rfl, by simpa using (OII.new0 (w := w1) (Nat.le_refl _)).wide (Nat.le_refl _) (show w1.heap.size + 1 ≤ (w1.alloc (.cells #[] 33)).heap.size by simp), (Below.refl _ _).alloc (Nat.le_refl _) _⟩
  case round =>
    obtain ⟨k, v0, hk, rfl, rfl, ho, hb⟩ := hrel
    have HO := Lib.hid ho; clear ho
    have hsz := hb.size
    have Bw := B1.trans (hb.mono B1.size)
    obtain ⟨q0, q1, q2, q3, q4, q5, _⟩ := HB1.out.below hb
    by_cases hlt : k < cuts.length
    · obtain ⟨b, o, A', c', rfl, hc0, hcc, hr⟩ := (g.below Bw).at_ hlt
      have i0 : (0 : Int) ≤ (k : Int) := by omega
      have i1 : (k : Int) < (cuts.length : Int) := by omega
      have HS := Lib.hid (mir_succ m cuts k hlt)
      have HMK := Lib.hid (fun (W : World) (hW : Below wr.heap.size wr W) => implMirrorKey_any m A' c' cuts[k] W (hr.below hW) hcc HF.out.1 (HF.out.2.2 k hlt))
      obtain ⟨zs, hzs⟩ : ∃ zs, zs = mirror m cuts[k] := ⟨_, rfl⟩
      rw [← hzs] at HMK HS
      clear hzs
      have KS := Lib.hid (show ∀ w' : World, Below wr.heap.size wr w' → ((w'.cell? ⟨w.heap.size, 0, none⟩ = some (.int .i64 m.c) ∧ w'.cell? ⟨w.heap.size, 1, none⟩ = some (.int .i64 m.d) ∧ w'.cell? ⟨w.heap.size, 2, none⟩ = some (.int .i64 m.s) ∧ w'.cell? ⟨w.heap.size, 3, none⟩ = some (.int .i64 m.a) ∧ w'.cell? ⟨w.heap.size, 4, none⟩ = some (.int .i64 m.l) ∧ w'.cell? ⟨w.heap.size, 5, none⟩ = some (.slice A t.length c) ∧ True) ∧ w'.cell? ⟨b, o + k, none⟩ = some (.slice A' cuts[k].length c')) from fun w' hw => ⟨(HB1.out.below (hb.trans (hw.mono hsz))), cell_in hw (World.block_lt_of_cell? wr _ hc0) hc0⟩)
      go_wp2_with fail
      refine (HMK.out _ (Below.refl _ _)).mono ?_
      rintro e w3 ⟨A3, c3, rfl, hc3, r3, o3, b3⟩
      have HO3 := Lib.hid (show OI w3 wr.heap.size w3.heap.size (.slice A3 zs.length c3) zs from o3)
      clear o3 r3
      obtain ⟨us, k1, k2, k3, k4⟩ := HO.out.below b3
      have hul : us.length ≤ 10 := by rw [k1]; simp only [List.length_map, List.length_take]; omega
      have HK := Lib.hid (And.intro k3 k4); clear k3 k4
      have HL := Lib.hid k1; clear k1
      have hs3 := b3.size
      go_wp2_with (at_builtin; refine wpList_app1 _ rfl _ _ _ rfl w1.heap.size 33 _ 24 Tryz.underlying26 info_sl rfl (by omega) _ us rfl (k2.1.alloc _) _ _ rfl (one_cell _ _ _) rfl (by omega) (by simp; omega) ?_; intro v' w5 ho5 hg5 hn5 hat5)
      have HN := Lib.hid (OII.push1 (ys := zs) HL.out k2 HK.out.1 HK.out.2 HO3.out.1 hsz hs3 ho5 hg5)
      have HB5 := Lib.hid ((k2.1.alloc (.cells #[.slice A3 zs.length c3] 33)).own (Nat.le_refl _) ((hb.trans (b3.mono hsz)).alloc (by omega) _) hg5 (by simp; omega))
      clear ho5 hg5 hn5 hat5
      go_roundw
      case rel => exact ⟨k + 1, v', by omega, by go_num, rfl, by rw [HS.out]; exact HN.out, HB5.out⟩
      case measure => simp [intOf]; omega
    · obtain rfl : k = cuts.length := by omega
      have hoo := HO.out
      rw [List.take_length] at hoo
      have HOO := Lib.hid hoo; clear hoo
      go_wp2_with fail
      go_ret2
      exact resIIC_own HY.out HOO.out (by omega) (Nat.le_refl _) Bw
end Go.Proofs.YtdedajohkdbdkaaGreat
