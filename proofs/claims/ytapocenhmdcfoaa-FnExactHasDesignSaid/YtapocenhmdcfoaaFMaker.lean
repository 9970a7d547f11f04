/- Contracts of IsMaker, areLevels, l12Levels. -/
import Derived.Test.YtapocenhmdcfoaaHelp
namespace Go.Proofs.Ytapocenhmdcfoaa
set_option linter.unusedVariables false
open Go.RowKit
structure Mk where
  c : Int
  d : Int
  s : Int
  a : Int
  l : Int
def isMaker (m : Mk) : Bool := inB m.c 2 6 && inB m.d 2 8 && inB m.s 1 (m.d - 1) && inB m.a 1 m.c && inB m.l 1 (min m.c m.d)
theorem inB_iff {a b c : Int} : inB a b c = true ↔ b ≤ a ∧ a ≤ c := by simp [inB]
set_option maxHeartbeats 1000000 in
theorem implIsMaker_any (m : Mk) (w : World) :
    Calls Try.prog 133 #[.agg #[.int .i64 m.c, .int .i64 m.d, .int .i64 m.s, .int .i64 m.a, .int .i64 m.l]] w fun e w' => e = .returned (.bool (isMaker m)) ∧ Below w.heap.size w w' := by
  have HB := Lib.hid ((Below.refl w.heap.size w).alloc (Nat.le_refl _) (.cells #[.int .i64 m.c, .int .i64 m.d, .int .i64 m.s, .int .i64 m.a, .int .i64 m.l] 29))
  cases h1 : inB m.c 2 6 with
  | false =>
    have HR := Lib.hid (show isMaker m = false by simp [isMaker, h1])
    go_enter Try.func133, Try.ntmps133
    go_wp2_with (go_at_call 88; refine (within_any _ _ _ _).mono ?_; rintro e w' ⟨rfl, rfl⟩)
    go_ret
    exact ⟨retB HR.out.symm, HB.out⟩
  | true =>
  cases h2 : inB m.d 2 8 with
  | false =>
    have HR := Lib.hid (show isMaker m = false by simp [isMaker, h1, h2])
    go_enter Try.func133, Try.ntmps133
    go_wp2_with (go_at_call 88; refine (within_any _ _ _ _).mono ?_; rintro e w' ⟨rfl, rfl⟩)
    go_ret
    exact ⟨retB HR.out.symm, HB.out⟩
  | true =>
  have ⟨d1, d2⟩ := inB_iff.1 h2
  cases h3 : inB m.s 1 (m.d - 1) with
  | false =>
    have HR := Lib.hid (show isMaker m = false by simp [isMaker, h1, h2, h3])
    go_enter Try.func133, Try.ntmps133
    go_wp2_with (go_at_call 88; refine (within_any _ _ _ _).mono ?_; rintro e w' ⟨rfl, rfl⟩)
    go_ret
    exact ⟨retB HR.out.symm, HB.out⟩
  | true =>
  cases h4 : inB m.a 1 m.c with
  | false =>
    have HR := Lib.hid (show isMaker m = false by simp [isMaker, h1, h2, h3, h4])
    go_enter Try.func133, Try.ntmps133
    go_wp2_with (go_at_call 88; refine (within_any _ _ _ _).mono ?_; rintro e w' ⟨rfl, rfl⟩)
    go_ret
    exact ⟨retB HR.out.symm, HB.out⟩
  | true =>
  by_cases hm : m.c ≤ m.d
  · have HR := Lib.hid (show isMaker m = inB m.l 1 m.c by simp [isMaker, h1, h2, h3, h4, Int.min_eq_left hm])
    go_enter Try.func133, Try.ntmps133
    go_wp2_with (go_at_call 88; refine (within_any _ _ _ _).mono ?_; rintro e w' ⟨rfl, rfl⟩)
    go_ret
    exact ⟨retB HR.out.symm, HB.out⟩
  · have HR := Lib.hid (show isMaker m = inB m.l 1 m.d by simp [isMaker, h1, h2, h3, h4, Int.min_eq_right (show m.d ≤ m.c by omega)])
    go_enter Try.func133, Try.ntmps133
    go_wp2_with (go_at_call 88; refine (within_any _ _ _ _).mono ?_; rintro e w' ⟨rfl, rfl⟩)
    go_ret
    exact ⟨retB HR.out.symm, HB.out⟩
set_option maxHeartbeats 1000000 in
theorem specIsMaker_any (m : Mk) (w : World) :
    Calls Try.prog 135 #[.agg #[.int .i64 m.c, .int .i64 m.d, .int .i64 m.s, .int .i64 m.a, .int .i64 m.l]] w fun e w' => e = .returned (.bool (isMaker m)) ∧ Below w.heap.size w w' := by
  have HB := Lib.hid ((Below.refl w.heap.size w).alloc (Nat.le_refl _) (.cells #[.int .i64 m.c, .int .i64 m.d, .int .i64 m.s, .int .i64 m.a, .int .i64 m.l] 29))
  cases h1 : inB m.c 2 6 with
  | false =>
    have HR := Lib.hid (show isMaker m = false by simp [isMaker, h1])
    go_enter Try.func135, Try.ntmps135
    go_wp2_with (go_at_call 98; refine (l01In_any _ _ _ _).mono ?_; rintro e w' ⟨rfl, rfl⟩)
    go_ret
    exact ⟨retB HR.out.symm, HB.out⟩
  | true =>
  cases h2 : inB m.d 2 8 with
  | false =>
    have HR := Lib.hid (show isMaker m = false by simp [isMaker, h1, h2])
    go_enter Try.func135, Try.ntmps135
    go_wp2_with (go_at_call 98; refine (l01In_any _ _ _ _).mono ?_; rintro e w' ⟨rfl, rfl⟩)
    go_ret
    exact ⟨retB HR.out.symm, HB.out⟩
  | true =>
  have ⟨d1, d2⟩ := inB_iff.1 h2
  cases h3 : inB m.s 1 (m.d - 1) with
  | false =>
    have HR := Lib.hid (show isMaker m = false by simp [isMaker, h1, h2, h3])
    go_enter Try.func135, Try.ntmps135
    go_wp2_with (go_at_call 98; refine (l01In_any _ _ _ _).mono ?_; rintro e w' ⟨rfl, rfl⟩)
    go_ret
    exact ⟨retB HR.out.symm, HB.out⟩
  | true =>
  cases h4 : inB m.a 1 m.c with
  | false =>
    have HR := Lib.hid (show isMaker m = false by simp [isMaker, h1, h2, h3, h4])
    go_enter Try.func135, Try.ntmps135
    go_wp2_with (go_at_call 98; refine (l01In_any _ _ _ _).mono ?_; rintro e w' ⟨rfl, rfl⟩)
    go_ret
    exact ⟨retB HR.out.symm, HB.out⟩
  | true =>
  by_cases hm : m.c ≤ m.d
  · have HR := Lib.hid (show isMaker m = inB m.l 1 m.c by simp [isMaker, h1, h2, h3, h4, Int.min_eq_left hm])
    go_enter Try.func135, Try.ntmps135
    go_wp2_with (go_at_call 98; refine (l01In_any _ _ _ _).mono ?_; rintro e w' ⟨rfl, rfl⟩)
    go_ret
    exact ⟨retB HR.out.symm, HB.out⟩
  · have HR := Lib.hid (show isMaker m = inB m.l 1 m.d by simp [isMaker, h1, h2, h3, h4, Int.min_eq_right (show m.d ≤ m.c by omega)])
    go_enter Try.func135, Try.ntmps135
    go_wp2_with (go_at_call 98; refine (l01In_any _ _ _ _).mono ?_; rintro e w' ⟨rfl, rfl⟩)
    go_ret
    exact ⟨retB HR.out.symm, HB.out⟩
theorem isMaker_iff {m : Mk} : isMaker m = true ↔ (2 ≤ m.c ∧ m.c ≤ 6) ∧ (2 ≤ m.d ∧ m.d ≤ 8) ∧ (1 ≤ m.s ∧ m.s ≤ m.d - 1) ∧ (1 ≤ m.a ∧ m.a ≤ m.c) ∧ (1 ≤ m.l ∧ m.l ≤ m.c ∧ m.l ≤ m.d) := by
  simp [isMaker, inB, and_assoc]; omega

/-! ### levels -/
def areLevels (m : Mk) (ls : List Int) : Bool := decide (1 ≤ ls.length) && (decide (ls.length ≤ 4) && (allW 1 m.c ls && sumI ls == m.c))
set_option maxHeartbeats 1000000 in
theorem areLevels_any (m : Mk) (A : Option Addr) (c : Nat) (ls : List Int) (w : World) (h : RI w A ls) :
    Calls Try.prog 140 #[.agg #[.int .i64 m.c, .int .i64 m.d, .int .i64 m.s, .int .i64 m.a, .int .i64 m.l], .slice A ls.length c] w fun e w' => e = .returned (.bool (areLevels m ls)) ∧ Below w.heap.size w w' := by
  have HB := Lib.hid ((Below.refl w.heap.size w).alloc (Nat.le_refl _) (.cells #[.int .i64 m.c, .int .i64 m.d, .int .i64 m.s, .int .i64 m.a, .int .i64 m.l] 29))
  have h' := fun n => (h.alloc (.cells #[.int .i64 m.c, .int .i64 m.d, .int .i64 m.s, .int .i64 m.a, .int .i64 m.l] 29)).drewN n
  by_cases h1 : 1 ≤ ls.length
  · have i1 : (1 : Int) ≤ (ls.length : Int) := by omega
    by_cases h2 : ls.length ≤ 4
    · have i2 : (ls.length : Int) ≤ 4 := by omega
      cases h3 : allW 1 m.c ls with
      | false =>
        have HR := Lib.hid (show areLevels m ls = false by simp [areLevels, h3])
        go_enter Try.func140, Try.ntmps140
        go_wp2_with fail
        go_quiet ((go_at_call 121; exact quietS (allWithin_any _ _ _ _ _ _ (h' _))))
        go_wp2_with fail
        go_ret
        exact ⟨retB HR.out.symm, belowD HB.out _⟩
      | true =>
        have HR := Lib.hid (show areLevels m ls = (sumI ls == m.c) by simp [areLevels, h1, h2, h3])
        go_enter Try.func140, Try.ntmps140
        go_wp2_with fail
        go_quiet ((first | (go_at_call 121; exact quietS (allWithin_any _ _ _ _ _ _ (h' _))) | (go_at_call 115; exact quietS (sum_any _ _ _ _ (h' _)))))
        go_wp2_with fail
        go_ret
        exact ⟨retB HR.out.symm, belowD HB.out _⟩
    · have i2 : decide ((ls.length : Int) ≤ 4) = false := by simp; omega
      have HR := Lib.hid (show areLevels m ls = false by simp [areLevels, h2])
      clear h1 h2
      go_enter Try.func140, Try.ntmps140
      go_wp2_with fail
      go_quiet (fail)
      go_wp2_with fail
      go_ret
      exact ⟨retB HR.out.symm, belowD HB.out _⟩
  · have i1 : decide ((1 : Int) ≤ (ls.length : Int)) = false := by simp; omega
    have HR := Lib.hid (show areLevels m ls = false by simp [areLevels, h1])
    clear h1
    go_enter Try.func140, Try.ntmps140
    go_wp2_with fail
    go_quiet (fail)
    go_wp2_with fail
    go_ret
    exact ⟨retB HR.out.symm, belowD HB.out _⟩
theorem l12Levels_fin {m : Mk} {ls : List Int} (h1 : inB ls.length 1 4 = true) (h3 : allW 1 m.c ls = true) : areLevels m ls = (sumI ls == m.c) := by
  have := inB_iff.1 h1
  simp [areLevels, h3, show 1 ≤ ls.length by omega, show ls.length ≤ 4 by omega]
set_option maxHeartbeats 1000000 in
theorem l12Levels_any (m : Mk) (A : Option Addr) (c : Nat) (ls : List Int) (w : World) (h : RI w A ls) :
    Calls Try.prog 141 #[.agg #[.int .i64 m.c, .int .i64 m.d, .int .i64 m.s, .int .i64 m.a, .int .i64 m.l], .slice A ls.length c] w fun e w' => e = .returned (.bool (areLevels m ls)) ∧ Below w.heap.size w w' := by
  have HB := Lib.hid ((Below.refl w.heap.size w).alloc (Nat.le_refl _) (.cells #[.int .i64 m.c, .int .i64 m.d, .int .i64 m.s, .int .i64 m.a, .int .i64 m.l] 29))
  have hle := h.le
  cases h1 : inB ls.length 1 4 with
  | false =>
    have HR := Lib.hid (show areLevels m ls = false by
      have : ¬ (1 ≤ (ls.length : Int) ∧ (ls.length : Int) ≤ 4) := fun h => by rw [inB_iff.2 h] at h1; cases h1
      by_cases g : 1 ≤ ls.length
      · simp [areLevels, show ¬ ls.length ≤ 4 by omega]
      · simp [areLevels, g])
    go_enter Try.func141, Try.ntmps141
    go_wp2_with (go_at_call 98; refine (l01In_any _ _ _ _).mono ?_; rintro e w' ⟨rfl, rfl⟩)
    go_ret
    exact ⟨retB HR.out.symm, HB.out⟩
  | true =>
    go_enter Try.func141, Try.ntmps141
    go_wp2_with (go_at_call 98; refine (l01In_any _ _ _ _).mono ?_; rintro e w' ⟨rfl, rfl⟩)
    go_loopw [5] (fun i wr => ∃ k n : Nat, k ≤ ls.length ∧ i = .int .i64 k ∧ wr = (w.alloc (.cells #[.int .i64 m.c, .int .i64 m.d, .int .i64 m.s, .int .i64 m.a, .int .i64 m.l] 29)).drewN n ∧ allW 1 m.c (ls.take k) = true) (fun i _ => ls.length - (intOf i).toNat)
    case atStart => exact ⟨0, 0, by omega, rfl, rfl, rfl⟩
    case round =>
      obtain ⟨k, n, hk, rfl, rfl, hrel⟩ := hrel
      have Hrel := Lib.hid hrel; clear hrel
      by_cases hlt : k < ls.length
      · obtain ⟨b, o, rfl, hc⟩ := h.at_ hlt
        have hbw : b < w.heap.size := World.block_lt_of_cell? w _ hc
        have i0 : (0 : Int) ≤ (k : Int) := by omega
        have i1 : (k : Int) < (ls.length : Int) := by omega
        cases hp : inB ls[k] 1 m.c with
        | true =>
          go_wp2_with fail
          go_quiet ((go_at_call 98; first | exact quietSA (l01In_any _ _ _ _) | exact quietS (l01In_any _ _ _ _)))
          go_wp2_with fail
          go_roundw
          case rel => exact ⟨k + 1, _, by omega, by go_num, rfl, by unfold allW at *; rw [take_succ_all _ _ _ hlt, Hrel.out, hp]; rfl⟩
          case measure => simp [intOf]; omega
        | false =>
          have HR := Lib.hid (show areLevels m ls = false by
            have := all_false_at (fun x => inB x 1 m.c) ls k hlt hp
            simp [areLevels, allW, this])
          go_wp2_with fail
          go_quiet ((go_at_call 98; first | exact quietSA (l01In_any _ _ _ _) | exact quietS (l01In_any _ _ _ _)))
          go_wp2_with fail
          go_ret
          exact ⟨retB HR.out.symm, belowD (belowD HB.out _) _⟩
      · obtain rfl : k = ls.length := by omega
        have HR := Lib.hid (l12Levels_fin h1 (by have := Hrel.out; rwa [List.take_length] at this))
        go_wp2_with fail
        go_quiet ((go_at_call 116; first | exact quietSA (l01Sum_any _ _ _ _ ((h.alloc _).drewN _)) | exact quietS (l01Sum_any _ _ _ _ ((h.alloc _).drewN _))))
        go_wp2_with fail
        go_ret
        exact ⟨retB HR.out.symm, belowD (belowD HB.out _) _⟩
end Go.Proofs.Ytapocenhmdcfoaa
