/- Contracts of slices.Grow on nil, slices.Concat, at lists of lists. -/
import Derived.Test.YtapocenhmdcfoaaFSets
import Derived.Lib.AppendZeros
namespace Go.Proofs.Ytapocenhmdcfoaa
set_option linter.unusedVariables false
open Go.RowKit
/-- the cells us are rows that read as xss -/
def RowsR (w : World) (us : List Value) (xss : List (List Int)) : Prop :=
  us.length = xss.length ∧ ∀ j (hj : j < xss.length), ∃ A' c, us[j]? = some (.slice A' xss[j].length c) ∧ xss[j].length ≤ c ∧ RI w A' xss[j]
theorem RowsR.below {w w' : World} {us : List Value} {xss : List (List Int)} (h : RowsR w us xss) (hb : Below w.heap.size w w') : RowsR w' us xss :=
  ⟨h.1, fun j hj => by obtain ⟨A', c, a, b, d⟩ := h.2 j hj; exact ⟨A', c, a, b, d.below hb⟩⟩
theorem RII.rows {w : World} {A : Option Addr} {xss : List (List Int)} (h : RII w A xss) : ∃ us, RV w A us ∧ RowsR w us xss := by
  obtain ⟨us, h1, h2, h3⟩ := h
  exact ⟨us, h2, h1, h3⟩
theorem RowsR.one {w : World} {us : List Value} {xss : List (List Int)} (h : RowsR w us xss) : ∀ u ∈ us, u.oneCell' = true := by
  intro u hu
  obtain ⟨j, hj, rfl⟩ := List.getElem_of_mem hu
  obtain ⟨A', c, a, _⟩ := h.2 j (by rw [← h.1]; exact hj)
  rw [List.getElem?_eq_getElem hj] at a
  injection a with a
  rw [a]; rfl
theorem RowsR.app {w : World} {us vs : List Value} {xss yss : List (List Int)} (h : RowsR w us xss) (g : RowsR w vs yss) : RowsR w (us ++ vs) (xss ++ yss) := by
  refine ⟨by simp [h.1, g.1], fun j hj => ?_⟩
  have hl := h.1
  by_cases hx : j < xss.length
  · rw [List.getElem?_append_left (by omega), List.getElem_append_left hx]
    exact h.2 j hx
  · rw [List.getElem?_append_right (by omega), List.getElem_append_right (by omega), hl]
    exact g.2 (j - xss.length) (by simp at hj; omega)
theorem OV.rows {w : World} {B : Nat} {v : Value} {us : List Value} {xss : List (List Int)} (h : OV w B 56 v us) (g : RowsR w us xss) : ∃ A c, v = .slice A xss.length c ∧ xss.length ≤ c ∧ RII w A xss := by
  obtain ⟨A, c, rfl, hc, hr⟩ := h.reads
  rw [g.1] at hc ⊢
  exact ⟨A, c, rfl, hc, us, g.1, hr, g.2⟩
set_option maxRecDepth 100000 in
set_option maxHeartbeats 2000000 in
theorem growL_any (n : Nat) (w : World) (hn : n ≤ 1048576) :
    Calls Try.prog 219 #[.slice none 0 0, .int .i64 (n : Int)] w fun e w' => ∃ v, e = .returned v ∧ OV w' w.heap.size 56 v [] ∧ Below w.heap.size w w' := by
  rcases Nat.eq_zero_or_pos n with rfl | h0
  · go_enter Try.func219, Try.ntmps219
    go_wp2_with fail
    go_ret
    exact ⟨_, rfl, OV.nil, Below.refl _ _⟩
  · obtain ⟨i0, hi0, hz0, hz1, hz2⟩ := info_parts info_sl
    have hr := fun ty => Go.Lib.run_append_nil_zeros (P := Try.prog) w 24 3 ty 56 i0 _ .i64 .i64 Try.underlying24 Try.underlying3 hi0 hz0 n h0 (by omega) (by omega) (by rw [hz2]; omega)
    have hG1 := grownCap_ge w n 0 56
    have hG2 := grownCap_le_maxLen w n 0 56 (by unfold maxLen; omega)
    generalize grownCap w n 0 56 = G at hr hG1 hG2
    have HR := Lib.hid hr; clear hr
    have p0 : (0 : Int) < (n : Int) := by omega
    have hG3 : G ≤ 9223372036854775807 := by unfold maxLen at hG2; omega
    go_enter Try.func219, Try.ntmps219
    go_wp2_with (at_builtin; refine Go.Lib.wpList_append_run _ rfl _ _ _ _ rfl _ _ rfl rfl _ _ (HR.out _) ?_)
    go_ret
    refine ⟨_, rfl, ⟨rfl, .inr ⟨w.heap.size, G, _, rfl, Nat.le_refl _, heap_alloc_new w.drew _, Nat.zero_le _, hG2, ?_, by simp⟩⟩, (belowDrew0 w).alloc (Nat.le_refl _) _⟩
    simp only [Array.size_append, size_zeroCells]
    simp; omega
theorem flat_succ {α : Type} (pss : List (List α)) (k : Nat) (h : k < pss.length) : (pss.take (k + 1)).flatten = (pss.take k).flatten ++ pss[k] := by
  rw [List.take_succ_eq_append_getElem h, List.flatten_append]; simp
theorem flat_le {α : Type} (pss : List (List α)) (k : Nat) : (pss.take k).flatten.length ≤ pss.flatten.length := by
  conv => rhs; rw [← List.take_append_drop k pss, List.flatten_append, List.length_append]
  omega
set_option maxRecDepth 100000 in
set_option maxHeartbeats 4000000 in
theorem concatL_any (g : Nat) (c : Nat) (pss : List (List (List Int))) (w : World) (hl : pss.length ≤ 1000) (hn : pss.flatten.length ≤ 1048576)
    (hp : ∀ j (hj : j < pss.length), ∃ A c, w.cell? ⟨g, j, none⟩ = some (.slice A pss[j].length c) ∧ RII w A pss[j]) :
    Calls Try.prog 190 #[.slice (some ⟨g, 0, none⟩) pss.length c] w (RdII w pss.flatten) := by
  have HP := Lib.hid hp; clear hp
  go_enter Try.func190, Try.ntmps190
  go_wp2_with fail
  go_loop [3, 5, 11] (fun s _ i => ∃ k n : Nat, k ≤ pss.length ∧ i = .int .i64 k ∧ s = .int .i64 n ∧ n = (pss.take k).flatten.length) (fun _ _ i => pss.length - (intOf i).toNat)
  case atStart => exact ⟨0, 0, by omega, rfl, rfl, rfl⟩
  case round =>
    obtain ⟨k, n, hk, rfl, rfl, hnk⟩ := hrel
    have hnn : n ≤ 1048576 := by have := flat_le pss k; omega
    by_cases hlt : k < pss.length
    · obtain ⟨A, d, hc, hr⟩ := HP.out k hlt
      have hs := flat_succ pss k hlt
      have hn2 : n + pss[k].length ≤ 1048576 := by have := flat_le pss (k + 1); rw [hs, List.length_append] at this; omega
      have HN := Lib.hid (show n + pss[k].length = (pss.take (k + 1)).flatten.length by rw [hs, List.length_append, hnk])
      clear hs hnk
      have g0 : decide ((n : Int) + (pss[k].length : Int) < 0) = false := by simp; omega
      go_wp2_with fail
      go_round
      case rel => exact ⟨k + 1, n + pss[k].length, by omega, by go_num, by go_num, HN.out⟩
      case measure => simp [intOf]; omega
    · obtain rfl : k = pss.length := by omega
      have HG := Lib.hid (growL_any n w hnn)
      clear hnk
      go_wp2_with fail
      refine HG.out.mono ?_
      rintro e w1 ⟨v, rfl, ho, hb⟩
      go_wp2_with fail
      go_loopw [6, 8, 27] (fun v _ i wr => ∃ (k : Nat) (us : List Value), k ≤ pss.length ∧ i = .int .i64 k ∧ OV wr w.heap.size 56 v us ∧ RowsR w us (pss.take k).flatten ∧ Below w.heap.size w wr) (fun _ _ i _ => pss.length - (intOf i).toNat)
      case atStart => exact ⟨0, [], by omega, rfl, ho, ⟨rfl, fun j hj => by simp at hj⟩, hb⟩
      case round =>
        obtain ⟨k, us, hk, rfl, ho, hro, hb⟩ := hrel
        have hsz := hb.size
        have HRO := Lib.hid hro; clear hro
        by_cases hlt : k < pss.length
        · obtain ⟨A, d, hc0, hr0⟩ := HP.out k hlt
          have hc := (hb.cell (World.block_lt_of_cell? w _ hc0)).trans hc0
          clear hc0
          obtain ⟨vs, hv0, hv2⟩ := hr0.rows
          have hv1 := hv0.below hb
          clear hv0
          have hus : us.length = (pss.take k).flatten.length := HRO.out.1
          have hvs : vs.length = pss[k].length := hv2.1
          have hs := flat_succ pss k hlt
          have hn2 : us.length + vs.length ≤ 1048576 := by have := flat_le pss (k + 1); rw [hs, List.length_append] at this; omega
          have HS := Lib.hid hs; have HUS := Lib.hid hus
          clear hs hus
          have HV2 := Lib.hid hv2; clear hv2
          go_wp2_with (at_builtin; refine wpList_app _ rfl _ _ _ rfl w.heap.size 56 _ 24 Try.underlying24 info_sl rfl _ _ rfl ho A pss[k].length d vs rfl hvs.symm hv1 HV2.out.one (by omega) (by omega) hsz ?_; intro v' w3 ho3 hg3 hn3 hat3)
          go_roundw
          case rel => exact ⟨k + 1, us ++ vs, by omega, by go_num, ho3, by rw [HS.out]; exact HRO.out.app HV2.out, ho.own (Nat.le_refl _) hb hg3 hsz⟩
          case measure => simp [intOf]; omega
        · obtain rfl : k = pss.length := by omega
          have hro := HRO.out.below hb
          rw [List.take_length] at hro
          obtain ⟨A, c', rfl, hc', hr'⟩ := ho.rows hro
          go_wp2_with fail
          go_ret
          exact ⟨A, c', rfl, hc', hr', hb⟩
end Go.Proofs.Ytapocenhmdcfoaa
