/- Contracts of l02Fault, keyFault, isKey, IsKey. -/
import Derived.Test.YtapocenhmdcfoaaFKey
namespace Go.Proofs.Ytapocenhmdcfoaa
set_option linter.unusedVariables false
open Go.RowKit
theorem cutsOK_len {m : Mk} {xs : List Int} (h : (xs.length : Int) = m.c) : cutsOK m xs = allW 0 (m.d - 1) xs := by simp [cutsOK, h]
/-- the bounds of a maker -/
theorem mk_bounds {m : Mk} (h : isMaker m = true) : 2 ≤ m.c ∧ m.c ≤ 6 ∧ 2 ≤ m.d ∧ m.d ≤ 8 ∧ 1 ≤ m.s ∧ m.s ≤ m.d - 1 ∧ 1 ≤ m.a ∧ m.a ≤ m.c ∧ 1 ≤ m.l ∧ m.l ≤ m.c ∧ m.l ≤ m.d := by
  have := isMaker_iff.1 h; omega
def runOf (xs : List Int) (k : Nat) : Nat := if k = 0 then 0 else endRun (xs.take k)
theorem runOf_le (xs : List Int) (k : Nat) (h : k ≤ xs.length) : runOf xs k ≤ k + 1 := by
  unfold runOf; split
  · omega
  · have := (endRun_le (xs.take k)).2; simp only [List.length_take] at this; omega
set_option maxRecDepth 100000 in
set_option maxHeartbeats 4000000 in
theorem l02Fault_any (m : Mk) (A : Option Addr) (c : Nat) (xs : List Int) (w : World) (h : RI w A xs) (hcap : xs.length ≤ c) (hm : isMaker m = true) :
    Calls Try.prog 186 #[.agg #[.int .i64 m.c, .int .i64 m.d, .int .i64 m.s, .int .i64 m.a, .int .i64 m.l], .slice A xs.length c] w fun e w' => e = .returned (.int .i64 (fault m xs)) ∧ Below w.heap.size w w' := by
  have B0 := (Below.refl w.heap.size w).alloc (Nat.le_refl _) (.cells #[.int .i64 m.c, .int .i64 m.d, .int .i64 m.s, .int .i64 m.a, .int .i64 m.l] 29)
  obtain ⟨c1, c2, d1, d2, s1, s2, a1, a2, l1, l2, l3⟩ := mk_bounds hm
  have hle := h.le
  have HM := Lib.hid hm; clear hm
  by_cases hlen : (xs.length : Int) = m.c
  · have t1 : ((xs.length : Int) != m.c) = false := by simp [hlen]
    have HL := Lib.hid hlen
    have hn0 : 2 ≤ xs.length := by omega
    have hn1 : xs.length ≤ 6 := by omega
    clear hlen
    cases h2 : allW 0 (m.d - 1) xs with
    | false =>
      have HR := Lib.hid (fault_2 HL.out h2)
      have h3 : cutsOK m xs = false := by rw [cutsOK_len HL.out]; exact h2
      have H2 := Lib.hid h2; clear h2
      go_enter Try.func186, Try.ntmps186
      go_wp2_with fail
      refine (l02Cuts_any m A c xs _ (h.alloc _) HM.out).mono ?_
      rw [h3]
      rintro e w1 ⟨rfl, b1⟩
      go_wp2_with fail
      go_ret
      exact ⟨retI HR.out.symm, B0.trans (b1.mono B0.size)⟩
    | true =>
      have h3 : cutsOK m xs = true := by rw [cutsOK_len HL.out]; exact h2
      have H2 := Lib.hid h2; clear h2
      go_enter Try.func186, Try.ntmps186
      go_wp2_with fail
      refine (l02Cuts_any m A c xs _ (h.alloc _) HM.out).mono ?_
      rw [h3]
      rintro e w1 ⟨rfl, b1⟩
      clear h3
      have C := (bcell b1).1
      have B1 := B0.trans (b1.mono B0.size)
      have h1 := h.below B1
      go_wp2_with fail
      go_loopw [5, 6, 7] (fun r x i wr => ∃ k n : Nat, k ≤ xs.length ∧ i = .int .i64 k ∧ r = .int .i64 (runOf xs k) ∧ x = .int .i64 (maxRun xs k) ∧ wr = w1.drewN n ∧ (List.range k).all (stepAt m.s xs) = true) (fun _ _ i _ => xs.length - (intOf i).toNat)
      case atStart => exact ⟨0, 0, by omega, rfl, rfl, rfl, rfl, rfl⟩
      case round =>
        obtain ⟨k, n, hk, rfl, rfl, rfl, rfl, hst⟩ := hrel
        have Hst := Lib.hid hst; clear hst
        have q1 := runOf_le xs k hk
        have q2 := maxRun_le xs k hk
        by_cases hlt : k < xs.length
        · obtain ⟨b, o, rfl, hc⟩ := h1.at_ hlt
          have i0 : (0 : Int) ≤ (k : Int) := by omega
          have i1 : (k : Int) < (xs.length : Int) := by omega
          have v1 := allW_at H2.out hlt
          have v2 := v1.1; have v3 := v1.2
          clear v1
          by_cases hk0 : k = 0
          · subst hk0
            have t2 : decide ((0 : Int) < ((0 : Nat) : Int)) = false := by simp
            have HS := Lib.hid (show (List.range (0 + 1)).all (stepAt m.s xs) = true by simp [List.range_succ, stepAt])
            have HX := Lib.hid (show endRun (xs.take (0 + 1)) = 1 by rw [List.take_succ_eq_append_getElem hlt]; simp [endRun_one])
            have HY := Lib.hid (show maxRun xs (0 + 1) = 1 by simp only [maxRun]; rw [HX.out]; rfl)
            have r0 : ((runOf xs 0 : Nat) : Int) = 0 := rfl
            have m0 : ((maxRun xs 0 : Nat) : Int) = 0 := rfl
            go_wp2_with fail
            go_quiet (fail)
            go_wp2_with fail
            go_quiet (fail)
            go_wp2_with fail
            go_roundw
            case rel => exact ⟨1, _, by omega, by go_num, by simp only [runOf]; rw [if_neg (by omega)]; rw [HX.out]; rfl, by rw [HY.out]; rfl, rfl, HS.out⟩
            case measure => simp [intOf]; omega
          · obtain ⟨j, rfl⟩ : ∃ j, k = j + 1 := ⟨k - 1, by omega⟩
            obtain ⟨b2, o2, e2, hc2⟩ := h1.at_ (k := j) (by omega)
            injection e2 with e2
            injection e2 with e3 e4
            subst e3 e4
            have v4 := allW_at H2.out (k := j) (by omega)
            have v5 := v4.1; have v6 := v4.2
            clear v4
            have i2 : (0 : Int) ≤ (j : Int) := by omega
            have i3 : (j : Int) < (xs.length : Int) := by omega
            have i4 : (0 : Int) < (j : Int) + 1 := by omega
            have HS := Lib.hid (stepAt_pos (s := m.s) hlt)
            have HE := Lib.hid (endRun_succ xs j hlt)
            have HM1 := Lib.hid (show maxRun xs (j + 1 + 1) = max (maxRun xs (j + 1)) (endRun (xs.take (j + 1 + 1))) from rfl)
            have HR1 := Lib.hid (show runOf xs (j + 1) = endRun (xs.take (j + 1)) by simp [runOf])
            have HR2 := Lib.hid (show runOf xs (j + 1 + 1) = endRun (xs.take (j + 1 + 1)) by simp [runOf])
            have e5 := fun W => l01Abs_any (xs[j + 1] - xs[j]) W (by omega) (by omega)
            have E5 := Lib.hid e5; clear e5
            cases hp : decide (m.s < absI (xs[j + 1] - xs[j])) with
            | true =>
              have HR := Lib.hid (fault_3 HL.out H2.out (rangeAll_bad hlt (by rw [HS.out]; simp at hp ⊢; omega)))
              go_wp2_with fail
              go_quiet ((go_at_call 217; first | exact quietSA (E5.out _) | exact quietS (E5.out _)))
              go_wp2_with fail
              go_ret
              exact ⟨retI HR.out.symm, belowD (belowD B1 _) _⟩
            | false =>
              have HO := Lib.hid (show (List.range (j + 1 + 1)).all (stepAt m.s xs) = true by rw [rangeAll_next, Hst.out, HS.out]; simp at hp ⊢; omega)
              cases hq : (xs[j + 1] != xs[j]) with
              | true =>
                have HQ := Lib.hid (show endRun (xs.take (j + 1 + 1)) = 1 by rw [HE.out, if_neg (by simp at hq; omega)])
                go_wp2_with fail
                go_quiet ((go_at_call 217; first | exact quietSA (E5.out _) | exact quietS (E5.out _)))
                go_wp2_with fail
                go_quiet (fail)
                go_wp2_with fail
                all_goals go_roundw
                all_goals first
                  | exact ⟨j + 1 + 1, _, by omega, by go_num, by rw [HR2.out, HQ.out]; rfl, by rw [HM1.out, HQ.out]; congr 1; omega, rfl, HO.out⟩
                  | (simp [intOf]; omega)
              | false =>
                have HQ := Lib.hid (show endRun (xs.take (j + 1 + 1)) = runOf xs (j + 1) + 1 by rw [HE.out, if_pos (by simp at hq; omega), HR1.out])
                go_wp2_with fail
                go_quiet ((go_at_call 217; first | exact quietSA (E5.out _) | exact quietS (E5.out _)))
                go_wp2_with fail
                go_quiet (fail)
                go_wp2_with fail
                all_goals go_roundw
                all_goals first
                  | exact ⟨j + 1 + 1, _, by omega, by go_num, by rw [HR2.out, HQ.out]; go_num, by rw [HM1.out, HQ.out]; congr 1; omega, rfl, HO.out⟩
                  | (simp [intOf]; omega)
        · obtain rfl : k = xs.length := by omega
          have HO := Lib.hid (show stepsOK m.s xs = true from Hst.out)
          have HA := Lib.hid (maxRun_all (a := m.a) (xs := xs) (by omega))
          cases hp : decide (m.a < ((maxRun xs xs.length : Nat) : Int)) with
          | true =>
            have HR := Lib.hid (fault_4 HL.out H2.out HO.out (by rw [HA.out]; simp at hp ⊢; omega))
            go_wp2_with fail
            go_ret
            exact ⟨retI HR.out.symm, belowD B1 _⟩
          | false =>
            have HA2 := Lib.hid (show runsOK m.a xs = true by rw [HA.out]; simp at hp ⊢; omega)
            cases hq : decide (kinds xs < m.l) with
            | true =>
              have HR := Lib.hid (fault_5 HL.out H2.out HO.out HA2.out (by simpa using hq))
              go_wp2_with fail
              go_quiet ((go_at_call 195; first | exact quietQA (l02Kinds_any _ _ _ _ (h1.drewN _) hcap) | exact quietQ (l02Kinds_any _ _ _ _ (h1.drewN _) hcap)))
              go_wp2_with fail
              go_ret
              exact ⟨retI HR.out.symm, belowD (belowD B1 _) _⟩
            | false =>
              have HR := Lib.hid (fault_0 HL.out H2.out HO.out HA2.out (by simpa using hq))
              go_wp2_with fail
              go_quiet ((go_at_call 195; first | exact quietQA (l02Kinds_any _ _ _ _ (h1.drewN _) hcap) | exact quietQ (l02Kinds_any _ _ _ _ (h1.drewN _) hcap)))
              go_wp2_with fail
              go_ret
              exact ⟨retI HR.out.symm, belowD (belowD B1 _) _⟩
  · have t1 : ((xs.length : Int) != m.c) = true := by simp [hlen]
    have HR := Lib.hid (fault_1 (m := m) (xs := xs) hlen)
    clear hlen
    go_enter Try.func186, Try.ntmps186
    go_wp2_with fail
    go_ret
    exact ⟨retI HR.out.symm, B0⟩
set_option maxRecDepth 100000 in
set_option maxHeartbeats 4000000 in
theorem keyFault_any (m : Mk) (A : Option Addr) (c : Nat) (xs : List Int) (w : World) (h : RI w A xs) (hcap : xs.length ≤ c) (hm : isMaker m = true) :
    Calls Try.prog 222 #[.agg #[.int .i64 m.c, .int .i64 m.d, .int .i64 m.s, .int .i64 m.a, .int .i64 m.l], .slice A xs.length c] w fun e w' => e = .returned (.int .i64 (fault m xs)) ∧ Below w.heap.size w w' := by
  have B0 := (Below.refl w.heap.size w).alloc (Nat.le_refl _) (.cells #[.int .i64 m.c, .int .i64 m.d, .int .i64 m.s, .int .i64 m.a, .int .i64 m.l] 29)
  obtain ⟨c1, c2, d1, d2, s1, s2, a1, a2, l1, l2, l3⟩ := mk_bounds hm
  have hle := h.le
  have HM := Lib.hid hm; clear hm
  by_cases hlen : (xs.length : Int) = m.c
  · have t1 : ((xs.length : Int) != m.c) = false := by simp [hlen]
    have HL := Lib.hid hlen
    have hn0 : 2 ≤ xs.length := by omega
    have hn1 : xs.length ≤ 6 := by omega
    clear hlen
    cases h2 : allW 0 (m.d - 1) xs with
    | false =>
      have HR := Lib.hid (fault_2 HL.out h2)
      have h3 : cutsOK m xs = false := by rw [cutsOK_len HL.out]; exact h2
      have H2 := Lib.hid h2; clear h2
      go_enter Try.func222, Try.ntmps222
      go_wp2_with fail
      refine (areCuts_any m A c xs _ (h.alloc _) HM.out).mono ?_
      rw [h3]
      rintro e w1 ⟨rfl, b1⟩
      go_wp2_with fail
      go_ret
      exact ⟨retI HR.out.symm, B0.trans (b1.mono B0.size)⟩
    | true =>
      have h3 : cutsOK m xs = true := by rw [cutsOK_len HL.out]; exact h2
      have H2 := Lib.hid h2; clear h2
      go_enter Try.func222, Try.ntmps222
      go_wp2_with fail
      refine (areCuts_any m A c xs _ (h.alloc _) HM.out).mono ?_
      rw [h3]
      rintro e w1 ⟨rfl, b1⟩
      clear h3
      have C := (bcell b1).1
      have B1 := B0.trans (b1.mono B0.size)
      have h1 := h.below B1
      go_wp2_with fail
      go_loopw [5] (fun i wr => ∃ k n : Nat, k + 1 ≤ xs.length ∧ i = .int .i64 ((k : Int) + 1) ∧ wr = w1.drewN n ∧ (List.range (k + 1)).all (stepAt m.s xs) = true) (fun i _ => xs.length - (intOf i).toNat)
      case atStart => exact ⟨0, 0, by omega, rfl, rfl, rfl⟩
      case round =>
        obtain ⟨j, n, hk, rfl, rfl, hst⟩ := hrel
        have Hst := Lib.hid hst; clear hst
        by_cases hlt : j + 1 < xs.length
        · obtain ⟨b, o, rfl, hc⟩ := h1.at_ hlt
          have i0 : (0 : Int) ≤ (j : Int) + 1 := by omega
          have i1 : (j : Int) + 1 < (xs.length : Int) := by omega
          have v1 := allW_at H2.out hlt
          have v2 := v1.1; have v3 := v1.2
          clear v1
          obtain ⟨b2, o2, e2, hc2⟩ := h1.at_ (k := j) (by omega)
          injection e2 with e2
          injection e2 with e3 e4
          subst e3 e4
          have v4 := allW_at H2.out (k := j) (by omega)
          have v5 := v4.1; have v6 := v4.2
          clear v4
          have i2 : (0 : Int) ≤ (j : Int) := by omega
          have i3 : (j : Int) < (xs.length : Int) := by omega
          have i4 : (0 : Int) < (j : Int) + 1 := by omega
          have HS := Lib.hid (stepAt_pos (s := m.s) hlt)
          have e5 := fun W => absolute_any (xs[j + 1] - xs[j]) W (by omega) (by omega)
          have E5 := Lib.hid e5; clear e5
          have E6 := Lib.hid (show ((j : Int) + 1).toNat = j + 1 by omega)
          cases hp : decide (m.s < absI (xs[j + 1] - xs[j])) with
          | true =>
            have HR := Lib.hid (fault_3 HL.out H2.out (rangeAll_bad hlt (by rw [HS.out]; simp at hp ⊢; omega)))
            go_wp2_with fail
            go_quiet ((go_at_call 210; first | exact quietSA (E5.out _) | exact quietS (E5.out _)))
            go_wp2_with fail
            go_ret
            exact ⟨retI HR.out.symm, belowD (belowD B1 _) _⟩
          | false =>
            have HO := Lib.hid (show (List.range (j + 1 + 1)).all (stepAt m.s xs) = true by rw [rangeAll_next, Hst.out, HS.out]; simp at hp ⊢; omega)
            go_wp2_with fail
            go_quiet ((go_at_call 210; first | exact quietSA (E5.out _) | exact quietS (E5.out _)))
            go_wp2_with fail
            go_roundw
            case rel => exact ⟨j + 1, _, by omega, by go_num, rfl, HO.out⟩
            case measure => simp [intOf]; omega
        · have hje : xs.length = j + 1 := by omega
          have HO := Lib.hid (show stepsOK m.s xs = true by unfold stepsOK; rw [hje]; exact Hst.out)
          clear hje
          have hj : ¬ (j : Int) + 1 < (xs.length : Int) := by omega
          go_wp2_with fail
          go_loopw [6, 38] (fun _ i wr => ∃ k n : Nat, k ≤ xs.length ∧ i = .int .i64 k ∧ wr = w1.drewN n ∧ (List.range k).all (runAt m.a xs) = true) (fun _ i _ => xs.length - (intOf i).toNat)
          case atStart => exact ⟨0, _, by omega, rfl, rfl, rfl⟩
          case round =>
            obtain ⟨k, n2, hk2, rfl, rfl, hru⟩ := hrel
            have Hru := Lib.hid hru; clear hru
            by_cases hlt2 : k < xs.length
            · have i0 : (0 : Int) ≤ (k : Int) + 1 := by omega
              have i1 : (k : Int) + 1 ≤ (c : Int) := by omega
              have i2 : (0 : Int) ≤ (k : Int) := by omega
              have i3 : (k : Int) < (xs.length : Int) := by omega
              have E6 := Lib.hid (show ((k : Int) + 1).toNat = k + 1 by omega)
              obtain ⟨b, o, rfl, hc⟩ := h1.at_ hlt2
              have hr := h1.take (k + 1)
              have hl : (xs.take (k + 1)).length = k + 1 := by simp; omega
              have e5 := fun n => sameRun_any (some ⟨b, o, none⟩) c (xs.take (k + 1)) (w1.drewN n) (hr.drewN n) (by omega)
              rw [hl] at e5
              have E5 := Lib.hid e5; clear e5 hl hr
              have HE := Lib.hid (show runAt m.a xs k = decide ((endRun (xs.take (k + 1)) : Int) ≤ m.a) from rfl)
              cases hp : decide (m.a < ((endRun (xs.take (k + 1)) : Nat) : Int)) with
              | true =>
                have HR := Lib.hid (fault_4 HL.out H2.out HO.out (rangeAll_bad hlt2 (by rw [HE.out]; simp at hp ⊢; omega)))
                go_wp2_with fail
                go_quiet ((go_at_call 211; first | exact quietQA (E5.out _) | exact quietQ (E5.out _)))
                go_wp2_with fail
                go_ret
                exact ⟨retI HR.out.symm, belowD (belowD B1 _) _⟩
              | false =>
                have HO2 := Lib.hid (show (List.range (k + 1)).all (runAt m.a xs) = true by rw [rangeAll_next, Hru.out, HE.out]; simp at hp ⊢; omega)
                go_wp2_with fail
                go_quiet ((go_at_call 211; first | exact quietQA (E5.out _) | exact quietQ (E5.out _)))
                go_wp2_with fail
                go_roundw
                case rel => exact ⟨k + 1, _, by omega, by go_num, rfl, HO2.out⟩
                case measure => simp [intOf]; omega
            · obtain rfl : k = xs.length := by omega
              have HA2 := Lib.hid (show runsOK m.a xs = true from Hru.out)
              cases hq : decide (kinds xs < m.l) with
              | true =>
                have HR := Lib.hid (fault_5 HL.out H2.out HO.out HA2.out (by simpa using hq))
                go_wp2_with fail
                go_quiet ((go_at_call 209; first | exact quietSA (different_any _ _ _ _ (h1.drewN _) hcap) | exact quietS (different_any _ _ _ _ (h1.drewN _) hcap)))
                go_wp2_with fail
                go_ret
                exact ⟨retI HR.out.symm, belowD (belowD B1 _) _⟩
              | false =>
                have HR := Lib.hid (fault_0 HL.out H2.out HO.out HA2.out (by simpa using hq))
                go_wp2_with fail
                go_quiet ((go_at_call 209; first | exact quietSA (different_any _ _ _ _ (h1.drewN _) hcap) | exact quietS (different_any _ _ _ _ (h1.drewN _) hcap)))
                go_wp2_with fail
                go_ret
                exact ⟨retI HR.out.symm, belowD (belowD B1 _) _⟩
  · have t1 : ((xs.length : Int) != m.c) = true := by simp [hlen]
    have HR := Lib.hid (fault_1 (m := m) (xs := xs) hlen)
    clear hlen
    go_enter Try.func222, Try.ntmps222
    go_wp2_with fail
    go_ret
    exact ⟨retI HR.out.symm, B0⟩
def isKey (m : Mk) (xs : List Int) : Bool := fault m xs == 0
set_option maxHeartbeats 1000000 in
theorem isKey_any (m : Mk) (A : Option Addr) (c : Nat) (xs : List Int) (w : World) (h : RI w A xs) (hcap : xs.length ≤ c) (hm : isMaker m = true) :
    Calls Try.prog 202 #[.agg #[.int .i64 m.c, .int .i64 m.d, .int .i64 m.s, .int .i64 m.a, .int .i64 m.l], .slice A xs.length c] w fun e w' => e = .returned (.bool (isKey m xs)) ∧ Below w.heap.size w w' := by
  have B0 := (Below.refl w.heap.size w).alloc (Nat.le_refl _) (.cells #[.int .i64 m.c, .int .i64 m.d, .int .i64 m.s, .int .i64 m.a, .int .i64 m.l] 29)
  have HM := Lib.hid hm; clear hm
  go_enter Try.func202, Try.ntmps202
  go_wp2_with fail
  refine (keyFault_any m A c xs _ (h.alloc _) hcap HM.out).mono ?_
  rintro e w1 ⟨rfl, b1⟩
  go_wp2_with fail
  go_ret
  exact ⟨rfl, B0.trans (b1.mono B0.size)⟩
end Go.Proofs.Ytapocenhmdcfoaa
