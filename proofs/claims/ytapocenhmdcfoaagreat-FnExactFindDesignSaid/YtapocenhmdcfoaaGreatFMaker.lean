/- Contracts of IsMaker, areLevels, l12Levels. -/
import Derived.Test.YtapocenhmdcfoaaGreatHelp
namespace Go.Proofs.YtapocenhmdcfoaaGreat
set_option linter.unusedVariables false
open Go.RowKit
structure Mk where
  c : Int
  d : Int
  s : Int
  a : Int
  l : Int
def isMaker (m : Mk) : Bool := inB m.c 2 6 && inB m.d 2 8 && inB m.s 1 (m.d - 1) && inB m.a 1 m.c && inB m.l 1 (min m.c m.d)
theorem inB_iff {a b c : Int} : inB a b c = true ↔ b ≤ a ∧ a ≤ c := by simp [inB]
set_option maxHeartbeats 1000000 in
theorem implIsMaker_any (m : Mk) (w : World) :
    Calls Tryz.prog 62 #[.agg #[.int .i64 m.c, .int .i64 m.d, .int .i64 m.s, .int .i64 m.a, .int .i64 m.l]] w fun e w' => e = .returned (.bool (isMaker m)) ∧ Below w.heap.size w w' := by
  have HB := Lib.hid ((Below.refl w.heap.size w).alloc (Nat.le_refl _) (.cells #[.int .i64 m.c, .int .i64 m.d, .int .i64 m.s, .int .i64 m.a, .int .i64 m.l] 30))
  cases h1 : inB m.c 2 6 with
  | false =>
    have HR := Lib.hid (show isMaker m = false by simp [isMaker, h1])
    go_enter Tryz.func62, Tryz.ntmps62
    go_wp2_with (go_at_call 50; refine (within_any _ _ _ _).mono ?_; rintro e w' ⟨rfl, rfl⟩)
    go_ret
    exact ⟨retB HR.out.symm, HB.out⟩
  | true =>
  cases h2 : inB m.d 2 8 with
  | false =>
    have HR := Lib.hid (show isMaker m = false by simp [isMaker, h1, h2])
    go_enter Tryz.func62, Tryz.ntmps62
    go_wp2_with (go_at_call 50; refine (within_any _ _ _ _).mono ?_; rintro e w' ⟨rfl, rfl⟩)
    go_ret
    exact ⟨retB HR.out.symm, HB.out⟩
  | true =>
  have ⟨d1, d2⟩ := inB_iff.1 h2
  cases h3 : inB m.s 1 (m.d - 1) with
  | false =>
    have HR := Lib.hid (show isMaker m = false by simp [isMaker, h1, h2, h3])
    go_enter Tryz.func62, Tryz.ntmps62
    go_wp2_with (go_at_call 50; refine (within_any _ _ _ _).mono ?_; rintro e w' ⟨rfl, rfl⟩)
    go_ret
    exact ⟨retB HR.out.symm, HB.out⟩
  | true =>
  cases h4 : inB m.a 1 m.c with
  | false =>
    have HR := Lib.hid (show isMaker m = false by simp [isMaker, h1, h2, h3, h4])
    go_enter Tryz.func62, Tryz.ntmps62
    go_wp2_with (go_at_call 50; refine (within_any _ _ _ _).mono ?_; rintro e w' ⟨rfl, rfl⟩)
    go_ret
    exact ⟨retB HR.out.symm, HB.out⟩
  | true =>
  by_cases hm : m.c ≤ m.d
  · have HR := Lib.hid (show isMaker m = inB m.l 1 m.c by simp [isMaker, h1, h2, h3, h4, Int.min_eq_left hm])
    go_enter Tryz.func62, Tryz.ntmps62
    go_wp2_with (go_at_call 50; refine (within_any _ _ _ _).mono ?_; rintro e w' ⟨rfl, rfl⟩)
    go_ret
    exact ⟨retB HR.out.symm, HB.out⟩
  · have HR := Lib.hid (show isMaker m = inB m.l 1 m.d by simp [isMaker, h1, h2, h3, h4, Int.min_eq_right (show m.d ≤ m.c by omega)])
    go_enter Tryz.func62, Tryz.ntmps62
    go_wp2_with (go_at_call 50; refine (within_any _ _ _ _).mono ?_; rintro e w' ⟨rfl, rfl⟩)
    go_ret
    exact ⟨retB HR.out.symm, HB.out⟩
set_option maxHeartbeats 1000000 in
theorem specIsMaker_any (m : Mk) (w : World) :
    Calls Tryz.prog 32 #[.agg #[.int .i64 m.c, .int .i64 m.d, .int .i64 m.s, .int .i64 m.a, .int .i64 m.l]] w fun e w' => e = .returned (.bool (isMaker m)) ∧ Below w.heap.size w w' := by
  have HB := Lib.hid ((Below.refl w.heap.size w).alloc (Nat.le_refl _) (.cells #[.int .i64 m.c, .int .i64 m.d, .int .i64 m.s, .int .i64 m.a, .int .i64 m.l] 30))
  cases h1 : inB m.c 2 6 with
  | false =>
    have HR := Lib.hid (show isMaker m = false by simp [isMaker, h1])
    go_enter Tryz.func32, Tryz.ntmps32
    go_wp2_with (go_at_call 26; refine (l01In_any _ _ _ _).mono ?_; rintro e w' ⟨rfl, rfl⟩)
    go_ret
    exact ⟨retB HR.out.symm, HB.out⟩
  | true =>
  cases h2 : inB m.d 2 8 with
  | false =>
    have HR := Lib.hid (show isMaker m = false by simp [isMaker, h1, h2])
    go_enter Tryz.func32, Tryz.ntmps32
    go_wp2_with (go_at_call 26; refine (l01In_any _ _ _ _).mono ?_; rintro e w' ⟨rfl, rfl⟩)
    go_ret
    exact ⟨retB HR.out.symm, HB.out⟩
  | true =>
  have ⟨d1, d2⟩ := inB_iff.1 h2
  cases h3 : inB m.s 1 (m.d - 1) with
  | false =>
    have HR := Lib.hid (show isMaker m = false by simp [isMaker, h1, h2, h3])
    go_enter Tryz.func32, Tryz.ntmps32
    go_wp2_with (go_at_call 26; refine (l01In_any _ _ _ _).mono ?_; rintro e w' ⟨rfl, rfl⟩)
    go_ret
    exact ⟨retB HR.out.symm, HB.out⟩
  | true =>
  cases h4 : inB m.a 1 m.c with
  | false =>
    have HR := Lib.hid (show isMaker m = false by simp [isMaker, h1, h2, h3, h4])
    go_enter Tryz.func32, Tryz.ntmps32
    go_wp2_with (go_at_call 26; refine (l01In_any _ _ _ _).mono ?_; rintro e w' ⟨rfl, rfl⟩)
    go_ret
    exact ⟨retB HR.out.symm, HB.out⟩
  | true =>
  by_cases hm : m.c ≤ m.d
  · have HR := Lib.hid (show isMaker m = inB m.l 1 m.c by simp [isMaker, h1, h2, h3, h4, Int.min_eq_left hm])
    go_enter Tryz.func32, Tryz.ntmps32
    go_wp2_with (go_at_call 26; refine (l01In_any _ _ _ _).mono ?_; rintro e w' ⟨rfl, rfl⟩)
    go_ret
    exact ⟨retB HR.out.symm, HB.out⟩
  · have HR := Lib.hid (show isMaker m = inB m.l 1 m.d by simp [isMaker, h1, h2, h3, h4, Int.min_eq_right (show m.d ≤ m.c by omega)])
    go_enter Tryz.func32, Tryz.ntmps32
    go_wp2_with (go_at_call 26; refine (l01In_any _ _ _ _).mono ?_; rintro e w' ⟨rfl, rfl⟩)
    go_ret
    exact ⟨retB HR.out.symm, HB.out⟩
theorem isMaker_iff {m : Mk} : isMaker m = true ↔ (2 ≤ m.c ∧ m.c ≤ 6) ∧ (2 ≤ m.d ∧ m.d ≤ 8) ∧ (1 ≤ m.s ∧ m.s ≤ m.d - 1) ∧ (1 ≤ m.a ∧ m.a ≤ m.c) ∧ (1 ≤ m.l ∧ m.l ≤ m.c ∧ m.l ≤ m.d) := by
  simp [isMaker, inB, and_assoc]; omega

/-! ### levels -/
def areLevels (m : Mk) (ls : List Int) : Bool := decide (1 ≤ ls.length) && (decide (ls.length ≤ 4) && (allW 1 m.c ls && sumI ls == m.c))
end Go.Proofs.YtapocenhmdcfoaaGreat
