/- Contracts of IsRising, IsProgression, l13Fits, changes, IsChangeKey. -/
import Derived.Test.YtapocenhmdcfoaaFFault
namespace Go.Proofs.Ytapocenhmdcfoaa
set_option linter.unusedVariables false
open Go.RowKit
/-- is the number at place i in range and above the one ahead of it? -/
def risesAt (n : Int) (xs : List Int) (i : Nat) : Bool := decide (0 ≤ xs.getD i 0) && (decide (xs.getD i 0 < n) && (i == 0 || decide (xs.getD (i - 1) 0 < xs.getD i 0)))
def isRising (n : Int) (xs : List Int) : Bool := (List.range xs.length).all (risesAt n xs)
theorem risesAt_0 {n : Int} {xs : List Int} (h : 0 < xs.length) : risesAt n xs 0 = (decide (0 ≤ xs[0]) && decide (xs[0] < n)) := by
  simp [risesAt, List.getElem?_eq_getElem h]
theorem risesAt_s {n : Int} {xs : List Int} {k : Nat} (h : k + 1 < xs.length) : risesAt n xs (k + 1) = (decide (0 ≤ xs[k + 1]) && (decide (xs[k + 1] < n) && decide (xs[k] < xs[k + 1]))) := by
  simp [risesAt, List.getElem?_eq_getElem h, List.getElem?_eq_getElem (show k < xs.length by omega)]
theorem risesAt_lo {n : Int} {xs : List Int} {k : Nat} (h : k < xs.length) (hn : xs[k] < 0) : risesAt n xs k = false := by
  simp [risesAt, List.getElem?_eq_getElem h]; omega
theorem risesAt_hi {n : Int} {xs : List Int} {k : Nat} (h : k < xs.length) (hn : n ≤ xs[k]) : risesAt n xs k = false := by
  simp [risesAt, List.getElem?_eq_getElem h]; omega
set_option maxRecDepth 100000 in
set_option maxHeartbeats 4000000 in
theorem l01Rises_any (A : Option Addr) (c : Nat) (xs : List Int) (n : Int) (w : World) (h : RI w A xs) :
    Calls Try.prog 196 #[.slice A xs.length c, .int .i64 n] w fun e w' => e = .returned (.bool (isRising n xs)) ∧ ∃ m, w' = w.drewN m := by
  have hle := h.le
  go_enter Try.func196, Try.ntmps196
  go_wp2_with fail
  go_loopw [5] (fun i wr => ∃ k m : Nat, k ≤ xs.length ∧ i = .int .i64 k ∧ wr = w.drewN m ∧ (List.range k).all (risesAt n xs) = true) (fun i _ => xs.length - (intOf i).toNat)
  case atStart => exact ⟨0, 0, by omega, rfl, rfl, rfl⟩
  case round =>
    obtain ⟨k, m, hk, rfl, rfl, hst⟩ := hrel
    have Hst := Lib.hid hst; clear hst
    by_cases hlt : k < xs.length
    · obtain ⟨b, o, rfl, hc⟩ := h.at_ hlt
      have i0 : (0 : Int) ≤ (k : Int) := by omega
      have i1 : (k : Int) < (xs.length : Int) := by omega
      by_cases p1 : xs[k] < 0
      · have g1 : decide (xs[k] < 0) = true := by simpa using p1
        have HR := Lib.hid (show isRising n xs = false from rangeAll_bad hlt (risesAt_lo hlt p1))
        go_wp2_with fail
        try go_quiet (fail)
        try go_wp2_with fail
        go_ret
        exact ⟨retB HR.out.symm, by first | exact ⟨_, rfl⟩ | exact drewEx⟩
      · have g1 : decide (xs[k] < 0) = false := by simpa using p1
        by_cases p2 : n ≤ xs[k]
        · have g2 : decide (n ≤ xs[k]) = true := by simpa using p2
          have HR := Lib.hid (show isRising n xs = false from rangeAll_bad hlt (risesAt_hi hlt p2))
          go_wp2_with fail
          try go_quiet (fail)
          try go_wp2_with fail
          go_ret
          exact ⟨retB HR.out.symm, by first | exact ⟨_, rfl⟩ | exact drewEx⟩
        · have g2 : decide (n ≤ xs[k]) = false := by simpa using p2
          rcases Nat.eq_zero_or_pos k with rfl | hkp
          · have t2 : decide ((0 : Int) < ((0 : Nat) : Int)) = false := by simp
            simp only [Nat.add_zero] at hc
            have HO := Lib.hid (show (List.range (0 + 1)).all (risesAt n xs) = true by rw [rangeAll_next, risesAt_0 hlt]; simp; omega)
            go_wp2_with fail
            try go_quiet (fail)
            try go_wp2_with fail
            go_roundw
            case rel => exact ⟨1, _, by omega, by go_num, rfl, HO.out⟩
            case measure => simp [intOf]; omega
          · obtain ⟨j, rfl⟩ : ∃ j, k = j + 1 := ⟨k - 1, by omega⟩
            obtain ⟨b2, o2, e2, hc2⟩ := h.at_ (k := j) (by omega)
            injection e2 with e2
            injection e2 with e3 e4
            subst e3 e4
            have i2 : (0 : Int) ≤ (j : Int) := by omega
            have i3 : (j : Int) < (xs.length : Int) := by omega
            have i4 : (0 : Int) < (j : Int) + 1 := by omega
            by_cases p3 : xs[j + 1] ≤ xs[j]
            · have g3 : decide (xs[j + 1] ≤ xs[j]) = true := by simpa using p3
              have HR := Lib.hid (show isRising n xs = false from rangeAll_bad hlt (by rw [risesAt_s hlt]; simp; omega))
              go_wp2_with fail
              try go_quiet (fail)
              try go_wp2_with fail
              go_ret
              exact ⟨retB HR.out.symm, by first | exact ⟨_, rfl⟩ | exact drewEx⟩
            · have g3 : decide (xs[j + 1] ≤ xs[j]) = false := by simpa using p3
              have HO := Lib.hid (show (List.range (j + 1 + 1)).all (risesAt n xs) = true by rw [rangeAll_next, risesAt_s hlt, Hst.out]; simp; omega)
              go_wp2_with fail
              try go_quiet (fail)
              try go_wp2_with fail
              go_roundw
              case rel => exact ⟨j + 1 + 1, _, by omega, by go_num, rfl, HO.out⟩
              case measure => simp [intOf]; omega
    · obtain rfl : k = xs.length := by omega
      go_wp2_with fail
      go_ret
      exact ⟨retB (by have := Hst.out; exact this.symm), _, rfl⟩
set_option maxRecDepth 100000 in
set_option maxHeartbeats 4000000 in
theorem implIsRising_any (A : Option Addr) (c : Nat) (xs : List Int) (n : Int) (w : World) (h : RI w A xs) :
    Calls Try.prog 221 #[.slice A xs.length c, .int .i64 n] w fun e w' => e = .returned (.bool (isRising n xs)) ∧ ∃ m, w' = w.drewN m := by
  have hle := h.le
  go_enter Try.func221, Try.ntmps221
  go_wp2_with fail
  go_loopw [5, 6, 9] (fun _ _ i wr => ∃ k m : Nat, k ≤ xs.length ∧ i = .int .i64 k ∧ wr = w.drewN m ∧ (List.range k).all (risesAt n xs) = true) (fun _ _ i _ => xs.length - (intOf i).toNat)
  case atStart => exact ⟨0, 0, by omega, rfl, rfl, rfl⟩
  case round =>
    obtain ⟨k, m, hk, rfl, rfl, hst⟩ := hrel
    have Hst := Lib.hid hst; clear hst
    by_cases hlt : k < xs.length
    · obtain ⟨b, o, rfl, hc⟩ := h.at_ hlt
      have i0 : (0 : Int) ≤ (k : Int) := by omega
      have i1 : (k : Int) < (xs.length : Int) := by omega
      by_cases p1 : xs[k] < 0
      · have g1 : decide (xs[k] < 0) = true := by simpa using p1
        have HR := Lib.hid (show isRising n xs = false from rangeAll_bad hlt (risesAt_lo hlt p1))
        go_wp2_with fail
        try go_quiet (fail)
        try go_wp2_with fail
        go_ret
        exact ⟨retB HR.out.symm, by first | exact ⟨_, rfl⟩ | exact drewEx⟩
      · have g1 : decide (xs[k] < 0) = false := by simpa using p1
        by_cases p2 : n ≤ xs[k]
        · have g2 : decide (n ≤ xs[k]) = true := by simpa using p2
          have HR := Lib.hid (show isRising n xs = false from rangeAll_bad hlt (risesAt_hi hlt p2))
          go_wp2_with fail
          try go_quiet (fail)
          try go_wp2_with fail
          go_ret
          exact ⟨retB HR.out.symm, by first | exact ⟨_, rfl⟩ | exact drewEx⟩
        · have g2 : decide (n ≤ xs[k]) = false := by simpa using p2
          rcases Nat.eq_zero_or_pos k with rfl | hkp
          · have t2 : decide ((0 : Int) < ((0 : Nat) : Int)) = false := by simp
            simp only [Nat.add_zero] at hc
            have HO := Lib.hid (show (List.range (0 + 1)).all (risesAt n xs) = true by rw [rangeAll_next, risesAt_0 hlt]; simp; omega)
            go_wp2_with fail
            try go_quiet (fail)
            try go_wp2_with fail
            go_roundw
            case rel => exact ⟨1, _, by omega, by go_num, rfl, HO.out⟩
            case measure => simp [intOf]; omega
          · obtain ⟨j, rfl⟩ : ∃ j, k = j + 1 := ⟨k - 1, by omega⟩
            obtain ⟨b2, o2, e2, hc2⟩ := h.at_ (k := j) (by omega)
            injection e2 with e2
            injection e2 with e3 e4
            subst e3 e4
            have i2 : (0 : Int) ≤ (j : Int) := by omega
            have i3 : (j : Int) < (xs.length : Int) := by omega
            have i4 : (0 : Int) < (j : Int) + 1 := by omega
            by_cases p3 : xs[j + 1] ≤ xs[j]
            · have g3 : decide (xs[j + 1] ≤ xs[j]) = true := by simpa using p3
              have HR := Lib.hid (show isRising n xs = false from rangeAll_bad hlt (by rw [risesAt_s hlt]; simp; omega))
              go_wp2_with fail
              try go_quiet (fail)
              try go_wp2_with fail
              go_ret
              exact ⟨retB HR.out.symm, by first | exact ⟨_, rfl⟩ | exact drewEx⟩
            · have g3 : decide (xs[j + 1] ≤ xs[j]) = false := by simpa using p3
              have HO := Lib.hid (show (List.range (j + 1 + 1)).all (risesAt n xs) = true by rw [rangeAll_next, risesAt_s hlt, Hst.out]; simp; omega)
              go_wp2_with fail
              try go_quiet (fail)
              try go_wp2_with fail
              go_roundw
              case rel => exact ⟨j + 1 + 1, _, by omega, by go_num, rfl, HO.out⟩
              case measure => simp [intOf]; omega
    · obtain rfl : k = xs.length := by omega
      go_wp2_with fail
      go_ret
      exact ⟨retB (by have := Hst.out; exact this.symm), _, rfl⟩
def isProg (m : Mk) (xs ys : List Int) (s : Int) : Bool := isKey m xs && (decide (0 < ys.length) && (isRising m.c ys && inB s 1 2))
def isProgF (m : Mk) (xs ys : List Int) (s : Int) : Bool := isMaker m && isProg m xs ys s
end Go.Proofs.Ytapocenhmdcfoaa
