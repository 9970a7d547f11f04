/- Contract of l02Begins. -/
import Derived.Test.YtapocenhmdcfoaaPOpen
namespace Go.Proofs.Ytapocenhmdcfoaa
set_option linter.unusedVariables false
open Go.RowKit
theorem begins_bad {m : Mk} {xs : List Int} {k : Nat} (hk : k < xs.length) (h : (stepAt m.s xs k && runAt m.a xs k) = false) : begins m xs = false := by
  unfold begins stepsOK runsOK
  rcases Bool.and_eq_false_iff.1 h with h | h
  · rw [rangeAll_bad hk h]; rfl
  · rw [rangeAll_bad hk h, Bool.and_false]
theorem begins_all {m : Mk} {xs : List Int} (h1 : (List.range xs.length).all (stepAt m.s xs) = true) (h2 : (List.range xs.length).all (runAt m.a xs) = true) : begins m xs = true := by
  unfold begins stepsOK runsOK; rw [h1, h2]; rfl
set_option maxRecDepth 100000 in
set_option maxHeartbeats 4000000 in
theorem l02Begins_any (m : Mk) (A : Option Addr) (c : Nat) (xs : List Int) (w : World) (h : RI w A xs) (hm : isMaker m = true) (hv : allW 0 (m.d - 1) xs = true) (hn : xs.length ≤ 6) :
    Calls Try.prog 194 #[.agg #[.int .i64 m.c, .int .i64 m.d, .int .i64 m.s, .int .i64 m.a, .int .i64 m.l], .slice A xs.length c] w fun e w' => e = .returned (.bool (begins m xs)) ∧ Below w.heap.size w w' := by
  have B0 := (Below.refl w.heap.size w).alloc (Nat.le_refl _) (.cells #[.int .i64 m.c, .int .i64 m.d, .int .i64 m.s, .int .i64 m.a, .int .i64 m.l] 29)
  obtain ⟨c1, c2, d1, d2, s1, s2, a1, a2, l1, l2, l3⟩ := mk_bounds hm
  have hle := h.le
  have HV := Lib.hid hv; clear hv hm
  have h1 := h.below B0
  go_enter Try.func194, Try.ntmps194
  go_wp2_with fail
  go_loopw [5, 6] (fun r i wr => ∃ k n : Nat, k ≤ xs.length ∧ i = .int .i64 k ∧ r = .int .i64 (runOf xs k) ∧ wr = (w.alloc (.cells #[.int .i64 m.c, .int .i64 m.d, .int .i64 m.s, .int .i64 m.a, .int .i64 m.l] 29)).drewN n ∧ (List.range k).all (stepAt m.s xs) = true ∧ (List.range k).all (runAt m.a xs) = true) (fun _ i _ => xs.length - (intOf i).toNat)
  case atStart => exact ⟨0, 0, by omega, rfl, rfl, rfl, rfl, rfl⟩
  case round =>
    obtain ⟨k, n, hk, rfl, rfl, rfl, hst, hru⟩ := hrel
    have Hst := Lib.hid hst; have Hru := Lib.hid hru; clear hst hru
    have q1 := runOf_le xs k hk
    by_cases hlt : k < xs.length
    · obtain ⟨b, o, rfl, hc⟩ := h1.at_ hlt
      have i0 : (0 : Int) ≤ (k : Int) := by omega
      have i1 : (k : Int) < (xs.length : Int) := by omega
      have v1 := allW_at HV.out hlt
      have v2 := v1.1; have v3 := v1.2
      clear v1
      by_cases hk0 : k = 0
      · subst hk0
        have t2 : decide ((0 : Int) < ((0 : Nat) : Int)) = false := by simp
        have HS := Lib.hid (show (List.range (0 + 1)).all (stepAt m.s xs) = true by simp [List.range_succ, stepAt])
        have HX := Lib.hid (show endRun (xs.take (0 + 1)) = 1 by rw [List.take_succ_eq_append_getElem hlt]; simp [endRun_one])
        have HU := Lib.hid (show (List.range (0 + 1)).all (runAt m.a xs) = true by
          simp only [List.range_succ, List.range_zero, List.nil_append, List.all_cons, List.all_nil, Bool.and_true, runAt]; rw [HX.out]; simp; omega)
        have r0 : ((runOf xs 0 : Nat) : Int) = 0 := rfl
        have ra : decide (m.a < 1) = false := decide_eq_false (by omega)
        go_wp2_with fail
        go_quiet (fail)
        go_wp2_with fail
        go_quiet (fail)
        go_wp2_with fail
        go_roundw
        case rel => exact ⟨1, _, by omega, by go_num, by simp only [runOf]; rw [if_neg (by omega)]; rw [HX.out]; rfl, rfl, HS.out, HU.out⟩
        case measure => simp [intOf]; omega
      · obtain ⟨j, rfl⟩ : ∃ j, k = j + 1 := ⟨k - 1, by omega⟩
        obtain ⟨b2, o2, e2, hc2⟩ := h1.at_ (k := j) (by omega)
        injection e2 with e2
        injection e2 with e3 e4
        subst e3 e4
        have v4 := allW_at HV.out (k := j) (by omega)
        have v5 := v4.1; have v6 := v4.2
        clear v4
        have i2 : (0 : Int) ≤ (j : Int) := by omega
        have i3 : (j : Int) < (xs.length : Int) := by omega
        have i4 : (0 : Int) < (j : Int) + 1 := by omega
        have HS := Lib.hid (stepAt_pos (s := m.s) hlt)
        have HE := Lib.hid (endRun_succ xs j hlt)
        have HR1 := Lib.hid (show runOf xs (j + 1) = endRun (xs.take (j + 1)) by simp [runOf])
        have HR2 := Lib.hid (show runOf xs (j + 1 + 1) = endRun (xs.take (j + 1 + 1)) by simp [runOf])
        have HRA := Lib.hid (show runAt m.a xs (j + 1) = decide ((endRun (xs.take (j + 1 + 1)) : Int) ≤ m.a) from rfl)
        have e5 := fun W => l01Abs_any (xs[j + 1] - xs[j]) W (by omega) (by omega)
        have E5 := Lib.hid e5; clear e5
        cases hq : (xs[j + 1] != xs[j]) with
        | true =>
          have HQ := Lib.hid (show endRun (xs.take (j + 1 + 1)) = 1 by rw [HE.out, if_neg (by simp at hq; omega)])
          cases hr : decide (m.a < (1 : Int)) with
          | true =>
            have HR := Lib.hid (show begins m xs = false from begins_bad hlt (by rw [HRA.out, HQ.out, Bool.and_eq_false_iff]; right; simp at hr ⊢; omega))
            go_wp2_with fail
            go_quiet (fail)
            go_wp2_with fail
            go_quiet (fail)
            go_wp2_with fail
            go_ret
            exact ⟨retB HR.out.symm, by first | exact belowD B0 _ | exact belowD (belowD B0 _) _⟩
          | false =>
            cases hp : decide (m.s < absI (xs[j + 1] - xs[j])) with
            | true =>
              have HR := Lib.hid (show begins m xs = false from begins_bad hlt (by rw [HS.out, Bool.and_eq_false_iff]; left; simp at hp ⊢; omega))
              go_wp2_with fail
              go_quiet (fail)
              go_wp2_with fail
              go_quiet ((go_at_call 217; first | exact quietSA (E5.out _) | exact quietS (E5.out _)))
              go_wp2_with fail
              go_ret
              exact ⟨retB HR.out.symm, by first | exact belowD B0 _ | exact belowD (belowD B0 _) _⟩
            | false =>
              have HO := Lib.hid (show (List.range (j + 1 + 1)).all (stepAt m.s xs) = true by rw [rangeAll_next, Hst.out, HS.out]; simp at hp ⊢; omega)
              have HU := Lib.hid (show (List.range (j + 1 + 1)).all (runAt m.a xs) = true by rw [rangeAll_next, Hru.out, HRA.out, HQ.out]; simp at hr ⊢; omega)
              go_wp2_with fail
              go_quiet (fail)
              go_wp2_with fail
              go_quiet ((go_at_call 217; first | exact quietSA (E5.out _) | exact quietS (E5.out _)))
              go_wp2_with fail
              go_roundw
              case rel => exact ⟨j + 1 + 1, _, by omega, by go_num, by rw [HR2.out, HQ.out]; go_num, rfl, HO.out, HU.out⟩
              case measure => simp [intOf]; omega
        | false =>
          have HQ := Lib.hid (show endRun (xs.take (j + 1 + 1)) = runOf xs (j + 1) + 1 by rw [HE.out, if_pos (by simp at hq; omega), HR1.out])
          cases hr : decide (m.a < ((runOf xs (j + 1) : Int) + 1)) with
          | true =>
            have HR := Lib.hid (show begins m xs = false from begins_bad hlt (by rw [HRA.out, HQ.out, Bool.and_eq_false_iff]; right; simp at hr ⊢; omega))
            go_wp2_with fail
            go_quiet (fail)
            go_wp2_with fail
            go_quiet (fail)
            go_wp2_with fail
            go_ret
            exact ⟨retB HR.out.symm, by first | exact belowD B0 _ | exact belowD (belowD B0 _) _⟩
          | false =>
            cases hp : decide (m.s < absI (xs[j + 1] - xs[j])) with
            | true =>
              have HR := Lib.hid (show begins m xs = false from begins_bad hlt (by rw [HS.out, Bool.and_eq_false_iff]; left; simp at hp ⊢; omega))
              go_wp2_with fail
              go_quiet (fail)
              go_wp2_with fail
              go_quiet ((go_at_call 217; first | exact quietSA (E5.out _) | exact quietS (E5.out _)))
              go_wp2_with fail
              go_ret
              exact ⟨retB HR.out.symm, by first | exact belowD B0 _ | exact belowD (belowD B0 _) _⟩
            | false =>
              have HO := Lib.hid (show (List.range (j + 1 + 1)).all (stepAt m.s xs) = true by rw [rangeAll_next, Hst.out, HS.out]; simp at hp ⊢; omega)
              have HU := Lib.hid (show (List.range (j + 1 + 1)).all (runAt m.a xs) = true by rw [rangeAll_next, Hru.out, HRA.out, HQ.out]; simp at hr ⊢; omega)
              go_wp2_with fail
              go_quiet (fail)
              go_wp2_with fail
              go_quiet ((go_at_call 217; first | exact quietSA (E5.out _) | exact quietS (E5.out _)))
              go_wp2_with fail
              go_roundw
              case rel => exact ⟨j + 1 + 1, _, by omega, by go_num, by rw [HR2.out, HQ.out]; go_num, rfl, HO.out, HU.out⟩
              case measure => simp [intOf]; omega
    · obtain rfl : k = xs.length := by omega
      have HR := Lib.hid (begins_all Hst.out Hru.out)
      go_wp2_with fail
      go_ret
      exact ⟨retB HR.out.symm, belowD B0 _⟩
end Go.Proofs.Ytapocenhmdcfoaa
