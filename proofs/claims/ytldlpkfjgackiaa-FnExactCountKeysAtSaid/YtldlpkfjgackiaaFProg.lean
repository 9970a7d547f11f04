/- Contracts of IsRising, IsProgression, l13Fits, changes, IsChangeKey. -/
import Derived.Test.YtldlpkfjgackiaaFFault
namespace Go.Proofs.Ytldlpkfjgackiaa
set_option linter.unusedVariables false
open Go.RowKit
/-- is the number at place i in range and above the one ahead of it? -/
def risesAt (n : Int) (xs : List Int) (i : Nat) : Bool := decide (0 ≤ xs.getD i 0) && (decide (xs.getD i 0 < n) && (i == 0 || decide (xs.getD (i - 1) 0 < xs.getD i 0)))
def isRising (n : Int) (xs : List Int) : Bool := (List.range xs.length).all (risesAt n xs)
theorem risesAt_0 {n : Int} {xs : List Int} (h : 0 < xs.length) : risesAt n xs 0 = (decide (0 ≤ xs[0]) && decide (xs[0] < n)) := by
  simp [risesAt, List.getElem?_eq_getElem h]
theorem risesAt_s {n : Int} {xs : List Int} {k : Nat} (h : k + 1 < xs.length) : risesAt n xs (k + 1) = (decide (0 ≤ xs[k + 1]) && (decide (xs[k + 1] < n) && decide (xs[k] < xs[k + 1]))) := by
  simp [risesAt, List.getElem?_eq_getElem h, List.getElem?_eq_getElem (show k < xs.length by omega)]
theorem risesAt_lo {n : Int} {xs : List Int} {k : Nat} (h : k < xs.length) (hn : xs[k] < 0) : risesAt n xs k = false := by
  simp [risesAt, List.getElem?_eq_getElem h]; omega
theorem risesAt_hi {n : Int} {xs : List Int} {k : Nat} (h : k < xs.length) (hn : n ≤ xs[k]) : risesAt n xs k = false := by
  simp [risesAt, List.getElem?_eq_getElem h]; omega
set_option maxRecDepth 100000 in
set_option maxHeartbeats 4000000 in
theorem l01Rises_any (A : Option Addr) (c : Nat) (xs : List Int) (n : Int) (w : World) (h : RI w A xs) :
    Calls Try.prog 146 #[.slice A xs.length c, .int .i64 n] w fun e w' => e = .returned (.bool (isRising n xs)) ∧ ∃ m, w' = w.drewN m := by
  have hle := h.le
  go_enter Try.func146, Try.ntmps146
  go_wp2_with fail
  go_loopw [5] (fun i wr => ∃ k m : Nat, k ≤ xs.length ∧ i = .int .i64 k ∧ wr = w.drewN m ∧ (List.range k).all (risesAt n xs) = true) (fun i _ => xs.length - (intOf i).toNat)
  case atStart => exact ⟨0, 0, by omega, rfl, rfl, rfl⟩
  case round =>
    obtain ⟨k, m, hk, rfl, rfl, hst⟩ := hrel
    have Hst := Lib.hid hst; clear hst
    by_cases hlt : k < xs.length
    · obtain ⟨b, o, rfl, hc⟩ := h.at_ hlt
      have i0 : (0 : Int) ≤ (k : Int) := by omega
      have i1 : (k : Int) < (xs.length : Int) := by omega
      by_cases p1 : xs[k] < 0
      · have g1 : decide (xs[k] < 0) = true := by simpa using p1
        have HR := Lib.hid (show isRising n xs = false from rangeAll_bad hlt (risesAt_lo hlt p1))
        go_wp2_with fail
        try go_quiet (fail)
        try go_wp2_with fail
        go_ret
        exact ⟨retB HR.out.symm, by first | exact ⟨_, rfl⟩ | exact drewEx⟩
      · have g1 : decide (xs[k] < 0) = false := by simpa using p1
        by_cases p2 : n ≤ xs[k]
        · have g2 : decide (n ≤ xs[k]) = true := by simpa using p2
          have HR := Lib.hid (show isRising n xs = false from rangeAll_bad hlt (risesAt_hi hlt p2))
          go_wp2_with fail
          try go_quiet (fail)
          try go_wp2_with fail
          go_ret
          exact ⟨retB HR.out.symm, by first | exact ⟨_, rfl⟩ | exact drewEx⟩
        · have g2 : decide (n ≤ xs[k]) = false := by simpa using p2
          rcases Nat.eq_zero_or_pos k with rfl | hkp
          · have t2 : decide ((0 : Int) < ((0 : Nat) : Int)) = false := by simp
            simp only [Nat.add_zero] at hc
            have HO := Lib.hid (show (List.range (0 + 1)).all (risesAt n xs) = true by rw [rangeAll_next, risesAt_0 hlt]; simp; omega)
            go_wp2_with fail
            try go_quiet (fail)
            try go_wp2_with fail
            go_roundw
            case rel => exact ⟨1, _, by omega, by go_num, rfl, HO.out⟩
            case measure => simp [intOf]; omega
          · obtain ⟨j, rfl⟩ : ∃ j, k = j + 1 := ⟨k - 1, by omega⟩
            obtain ⟨b2, o2, e2, hc2⟩ := h.at_ (k := j) (by omega)
            injection e2 with e2
            injection e2 with e3 e4
            subst e3 e4
            have i2 : (0 : Int) ≤ (j : Int) := by omega
            have i3 : (j : Int) < (xs.length : Int) := by omega
            have i4 : (0 : Int) < (j : Int) + 1 := by omega
            by_cases p3 : xs[j + 1] ≤ xs[j]
            · have g3 : decide (xs[j + 1] ≤ xs[j]) = true := by simpa using p3
              have HR := Lib.hid (show isRising n xs = false from rangeAll_bad hlt (by rw [risesAt_s hlt]; simp; omega))
              go_wp2_with fail
              try go_quiet (fail)
              try go_wp2_with fail
              go_ret
              exact ⟨retB HR.out.symm, by first | exact ⟨_, rfl⟩ | exact drewEx⟩
            · have g3 : decide (xs[j + 1] ≤ xs[j]) = false := by simpa using p3
              have HO := Lib.hid (show (List.range (j + 1 + 1)).all (risesAt n xs) = true by rw [rangeAll_next, risesAt_s hlt, Hst.out]; simp; omega)
              go_wp2_with fail
              try go_quiet (fail)
              try go_wp2_with fail
              go_roundw
              case rel => exact ⟨j + 1 + 1, _, by omega, by go_num, rfl, HO.out⟩
              case measure => simp [intOf]; omega
    · obtain rfl : k = xs.length := by omega
      go_wp2_with fail
      go_ret
      exact ⟨retB (by have := Hst.out; exact this.symm), _, rfl⟩
set_option maxRecDepth 100000 in
set_option maxHeartbeats 4000000 in
theorem implIsRising_any (A : Option Addr) (c : Nat) (xs : List Int) (n : Int) (w : World) (h : RI w A xs) :
    Calls Try.prog 148 #[.slice A xs.length c, .int .i64 n] w fun e w' => e = .returned (.bool (isRising n xs)) ∧ ∃ m, w' = w.drewN m := by
  have hle := h.le
  go_enter Try.func148, Try.ntmps148
  go_wp2_with fail
  go_loopw [5, 6, 9] (fun _ _ i wr => ∃ k m : Nat, k ≤ xs.length ∧ i = .int .i64 k ∧ wr = w.drewN m ∧ (List.range k).all (risesAt n xs) = true) (fun _ _ i _ => xs.length - (intOf i).toNat)
  case atStart => exact ⟨0, 0, by omega, rfl, rfl, rfl⟩
  case round =>
    obtain ⟨k, m, hk, rfl, rfl, hst⟩ := hrel
    have Hst := Lib.hid hst; clear hst
    by_cases hlt : k < xs.length
    · obtain ⟨b, o, rfl, hc⟩ := h.at_ hlt
      have i0 : (0 : Int) ≤ (k : Int) := by omega
      have i1 : (k : Int) < (xs.length : Int) := by omega
      by_cases p1 : xs[k] < 0
      · have g1 : decide (xs[k] < 0) = true := by simpa using p1
        have HR := Lib.hid (show isRising n xs = false from rangeAll_bad hlt (risesAt_lo hlt p1))
        go_wp2_with fail
        try go_quiet (fail)
        try go_wp2_with fail
        go_ret
        exact ⟨retB HR.out.symm, by first | exact ⟨_, rfl⟩ | exact drewEx⟩
      · have g1 : decide (xs[k] < 0) = false := by simpa using p1
        by_cases p2 : n ≤ xs[k]
        · have g2 : decide (n ≤ xs[k]) = true := by simpa using p2
          have HR := Lib.hid (show isRising n xs = false from rangeAll_bad hlt (risesAt_hi hlt p2))
          go_wp2_with fail
          try go_quiet (fail)
          try go_wp2_with fail
          go_ret
          exact ⟨retB HR.out.symm, by first | exact ⟨_, rfl⟩ | exact drewEx⟩
        · have g2 : decide (n ≤ xs[k]) = false := by simpa using p2
          rcases Nat.eq_zero_or_pos k with rfl | hkp
          · have t2 : decide ((0 : Int) < ((0 : Nat) : Int)) = false := by simp
            simp only [Nat.add_zero] at hc
            have HO := Lib.hid (show (List.range (0 + 1)).all (risesAt n xs) = true by rw [rangeAll_next, risesAt_0 hlt]; simp; omega)
            go_wp2_with fail
            try go_quiet (fail)
            try go_wp2_with fail
            go_roundw
            case rel => exact ⟨1, _, by omega, by go_num, rfl, HO.out⟩
            case measure => simp [intOf]; omega
          · obtain ⟨j, rfl⟩ : ∃ j, k = j + 1 := ⟨k - 1, by omega⟩
            obtain ⟨b2, o2, e2, hc2⟩ := h.at_ (k := j) (by omega)
            injection e2 with e2
            injection e2 with e3 e4
            subst e3 e4
            have i2 : (0 : Int) ≤ (j : Int) := by omega
            have i3 : (j : Int) < (xs.length : Int) := by omega
            have i4 : (0 : Int) < (j : Int) + 1 := by omega
            by_cases p3 : xs[j + 1] ≤ xs[j]
            · have g3 : decide (xs[j + 1] ≤ xs[j]) = true := by simpa using p3
              have HR := Lib.hid (show isRising n xs = false from rangeAll_bad hlt (by rw [risesAt_s hlt]; simp; omega))
              go_wp2_with fail
              try go_quiet (fail)
              try go_wp2_with fail
              go_ret
              exact ⟨retB HR.out.symm, by first | exact ⟨_, rfl⟩ | exact drewEx⟩
            · have g3 : decide (xs[j + 1] ≤ xs[j]) = false := by simpa using p3
              have HO := Lib.hid (show (List.range (j + 1 + 1)).all (risesAt n xs) = true by rw [rangeAll_next, risesAt_s hlt, Hst.out]; simp; omega)
              go_wp2_with fail
              try go_quiet (fail)
              try go_wp2_with fail
              go_roundw
              case rel => exact ⟨j + 1 + 1, _, by omega, by go_num, rfl, HO.out⟩
              case measure => simp [intOf]; omega
    · obtain rfl : k = xs.length := by omega
      go_wp2_with fail
      go_ret
      exact ⟨retB (by have := Hst.out; exact this.symm), _, rfl⟩
def isProg (m : Mk) (xs ys : List Int) (s : Int) : Bool := isKey m xs && (decide (0 < ys.length) && (isRising m.c ys && inB s 1 2))
set_option maxRecDepth 100000 in
set_option maxHeartbeats 4000000 in
theorem isProgression_any (m : Mk) (A : Option Addr) (c : Nat) (xs : List Int) (B : Option Addr) (d : Nat) (ys : List Int) (s : Int) (w : World) (h : RI w A xs) (g : RI w B ys) (hcap : xs.length ≤ c) (hm : isMaker m = true) :
    Calls Try.prog 120 #[.agg #[.int .i64 m.c, .int .i64 m.d, .int .i64 m.s, .int .i64 m.a, .int .i64 m.l], .agg #[.slice A xs.length c, .slice B ys.length d, .int .i64 s]] w fun e w' => e = .returned (.bool (isProg m xs ys s)) ∧ Below w.heap.size w w' := by
  have B0 := ((Below.refl w.heap.size w).alloc (Nat.le_refl _) (.cells #[.int .i64 m.c, .int .i64 m.d, .int .i64 m.s, .int .i64 m.a, .int .i64 m.l] 27)).alloc (by simp only [World.size_alloc]; omega) (.cells #[.slice A xs.length c, .slice B ys.length d, .int .i64 s] 58)
  have HM := Lib.hid hm; clear hm
  have hgl := g.le
  cases h1 : isKey m xs with
  | false =>
    have HR := Lib.hid (show isProg m xs ys s = false by simp [isProg, h1])
    go_enter Try.func120, Try.ntmps120
    go_wp2_with fail
    refine (isKey_any m A c xs _ (h.below B0) hcap HM.out).mono ?_
    rw [h1]
    rintro e w1 ⟨rfl, b1⟩
    go_wp2_with fail
    go_ret
    exact ⟨retB HR.out.symm, B0.trans (b1.mono B0.size)⟩
  | true =>
  by_cases h2 : 0 < ys.length
  · have t2 : (0 : Int) < (ys.length : Int) := by omega
    cases h3 : isRising m.c ys with
    | false =>
      have HR := Lib.hid (show isProg m xs ys s = false by simp [isProg, h3])
      go_enter Try.func120, Try.ntmps120
      go_wp2_with fail
      refine (isKey_any m A c xs _ (h.below B0) hcap HM.out).mono ?_
      rw [h1]
      rintro e w1 ⟨rfl, b1⟩
      have C := (bcell b1).1
      have B1 := B0.trans (b1.mono B0.size)
      go_wp2_with fail
      refine (implIsRising_any B d ys m.c _ (g.below B1)).mono ?_
      rw [h3]
      rintro e w2 ⟨rfl, n, rfl⟩
      go_wp2_with fail
      go_ret
      exact ⟨retB HR.out.symm, belowD B1 n⟩
    | true =>
      have HR := Lib.hid (show isProg m xs ys s = inB s 1 2 by simp [isProg, h1, h2, h3])
      go_enter Try.func120, Try.ntmps120
      go_wp2_with fail
      refine (isKey_any m A c xs _ (h.below B0) hcap HM.out).mono ?_
      rw [h1]
      rintro e w1 ⟨rfl, b1⟩
      have C := (bcell b1).1
      have B1 := B0.trans (b1.mono B0.size)
      go_wp2_with fail
      refine (implIsRising_any B d ys m.c _ (g.below B1)).mono ?_
      rw [h3]
      rintro e w2 ⟨rfl, n, rfl⟩
      go_wp2_with fail
      refine (within_any _ _ _ _).mono ?_
      rintro e w3 ⟨rfl, rfl⟩
      go_wp2_with fail
      go_ret
      exact ⟨retB HR.out.symm, belowD B1 n⟩
  · have t2 : decide ((0 : Int) < (ys.length : Int)) = false := decide_eq_false (by omega)
    have HR := Lib.hid (show isProg m xs ys s = false by simp [isProg, h2])
    have H2 := Lib.hid h2; clear h2
    go_enter Try.func120, Try.ntmps120
    go_wp2_with fail
    refine (isKey_any m A c xs _ (h.below B0) hcap HM.out).mono ?_
    rw [h1]
    rintro e w1 ⟨rfl, b1⟩
    have C := (bcell b1).1
    go_wp2_with fail
    go_ret
    exact ⟨retB HR.out.symm, B0.trans (b1.mono B0.size)⟩
set_option maxRecDepth 100000 in
set_option maxHeartbeats 4000000 in
theorem specIsProgression_any0 (m : Mk) (A : Option Addr) (c : Nat) (xs : List Int) (B : Option Addr) (d : Nat) (ys : List Int) (s : Int) (w : World) (h : RI w A xs) (g : RI w B ys) (hcap : xs.length ≤ c) (hm : isMaker m = true) :
    Calls Try.prog 118 #[.agg #[.int .i64 m.c, .int .i64 m.d, .int .i64 m.s, .int .i64 m.a, .int .i64 m.l], .agg #[.slice A xs.length c, .slice B ys.length d, .int .i64 s]] w fun e w' => e = .returned (.bool (isProg m xs ys s)) ∧ Below w.heap.size w w' := by
  have B0 := ((Below.refl w.heap.size w).alloc (Nat.le_refl _) (.cells #[.int .i64 m.c, .int .i64 m.d, .int .i64 m.s, .int .i64 m.a, .int .i64 m.l] 27)).alloc (by simp only [World.size_alloc]; omega) (.cells #[.slice A xs.length c, .slice B ys.length d, .int .i64 s] 58)
  have HM := Lib.hid hm; clear hm
  have hgl := g.le
  cases h1 : isKey m xs with
  | false =>
    have HR := Lib.hid (show isProg m xs ys s = false by simp [isProg, h1])
    go_enter Try.func118, Try.ntmps118
    go_wp2_with fail
    refine (specIsKey_any m A c xs _ (h.below B0) hcap ).mono ?_
    rw [HM.out, h1, Bool.true_and]
    rintro e w1 ⟨rfl, b1⟩
    go_wp2_with fail
    go_ret
    exact ⟨retB HR.out.symm, B0.trans (b1.mono B0.size)⟩
  | true =>
  by_cases h2 : 0 < ys.length
  · have t2 : (0 : Int) < (ys.length : Int) := by omega
    cases h3 : isRising m.c ys with
    | false =>
      have HR := Lib.hid (show isProg m xs ys s = false by simp [isProg, h3])
      go_enter Try.func118, Try.ntmps118
      go_wp2_with fail
      refine (specIsKey_any m A c xs _ (h.below B0) hcap ).mono ?_
      rw [HM.out, h1, Bool.true_and]
      rintro e w1 ⟨rfl, b1⟩
      have C := (bcell b1).1
      have B1 := B0.trans (b1.mono B0.size)
      go_wp2_with fail
      refine (l01Rises_any B d ys m.c _ (g.below B1)).mono ?_
      rw [h3]
      rintro e w2 ⟨rfl, n, rfl⟩
      go_wp2_with fail
      go_ret
      exact ⟨retB HR.out.symm, belowD B1 n⟩
    | true =>
      have HR := Lib.hid (show isProg m xs ys s = inB s 1 2 by simp [isProg, h1, h2, h3])
      go_enter Try.func118, Try.ntmps118
      go_wp2_with fail
      refine (specIsKey_any m A c xs _ (h.below B0) hcap ).mono ?_
      rw [HM.out, h1, Bool.true_and]
      rintro e w1 ⟨rfl, b1⟩
      have C := (bcell b1).1
      have B1 := B0.trans (b1.mono B0.size)
      go_wp2_with fail
      refine (l01Rises_any B d ys m.c _ (g.below B1)).mono ?_
      rw [h3]
      rintro e w2 ⟨rfl, n, rfl⟩
      go_wp2_with fail
      refine (l01In_any _ _ _ _).mono ?_
      rintro e w3 ⟨rfl, rfl⟩
      go_wp2_with fail
      go_ret
      exact ⟨retB HR.out.symm, belowD B1 n⟩
  · have t2 : decide ((0 : Int) < (ys.length : Int)) = false := decide_eq_false (by omega)
    have HR := Lib.hid (show isProg m xs ys s = false by simp [isProg, h2])
    have H2 := Lib.hid h2; clear h2
    go_enter Try.func118, Try.ntmps118
    go_wp2_with fail
    refine (specIsKey_any m A c xs _ (h.below B0) hcap ).mono ?_
    rw [HM.out, h1, Bool.true_and]
    rintro e w1 ⟨rfl, b1⟩
    have C := (bcell b1).1
    go_wp2_with fail
    go_ret
    exact ⟨retB HR.out.symm, B0.trans (b1.mono B0.size)⟩
def isProgF (m : Mk) (xs ys : List Int) (s : Int) : Bool := isMaker m && isProg m xs ys s
set_option maxRecDepth 100000 in
set_option maxHeartbeats 4000000 in
theorem specIsProgression_any (m : Mk) (A : Option Addr) (c : Nat) (xs : List Int) (B : Option Addr) (d : Nat) (ys : List Int) (s : Int) (w : World) (h : RI w A xs) (g : RI w B ys) (hcap : xs.length ≤ c) :
    Calls Try.prog 118 #[.agg #[.int .i64 m.c, .int .i64 m.d, .int .i64 m.s, .int .i64 m.a, .int .i64 m.l], .agg #[.slice A xs.length c, .slice B ys.length d, .int .i64 s]] w fun e w' => e = .returned (.bool (isProgF m xs ys s)) ∧ Below w.heap.size w w' := by
  unfold isProgF
  cases hm : isMaker m with
  | true => exact specIsProgression_any0 m A c xs B d ys s w h g hcap hm
  | false =>
    have B0 := ((Below.refl w.heap.size w).alloc (Nat.le_refl _) (.cells #[.int .i64 m.c, .int .i64 m.d, .int .i64 m.s, .int .i64 m.a, .int .i64 m.l] 27)).alloc (by simp only [World.size_alloc]; omega) (.cells #[.slice A xs.length c, .slice B ys.length d, .int .i64 s] 58)
    have HM := Lib.hid hm; clear hm
    go_enter Try.func118, Try.ntmps118
    go_wp2_with fail
    refine (specIsKey_any m A c xs _ (h.below B0) hcap).mono ?_
    rw [HM.out, Bool.false_and]
    rintro e w1 ⟨rfl, b1⟩
    go_wp2_with fail
    go_ret
    exact ⟨rfl, B0.trans (b1.mono B0.size)⟩
set_option maxRecDepth 100000 in
set_option maxHeartbeats 4000000 in
theorem implIsProgression_any (m : Mk) (A : Option Addr) (c : Nat) (xs : List Int) (B : Option Addr) (d : Nat) (ys : List Int) (s : Int) (w : World) (h : RI w A xs) (g : RI w B ys) (hcap : xs.length ≤ c) :
    Calls Try.prog 80 #[.agg #[.int .i64 m.c, .int .i64 m.d, .int .i64 m.s, .int .i64 m.a, .int .i64 m.l], .agg #[.slice A xs.length c, .slice B ys.length d, .int .i64 s]] w fun e w' => e = .returned (.bool (isProgF m xs ys s)) ∧ Below w.heap.size w w' := by
  unfold isProgF
  have B0 := ((Below.refl w.heap.size w).alloc (Nat.le_refl _) (.cells #[.int .i64 m.c, .int .i64 m.d, .int .i64 m.s, .int .i64 m.a, .int .i64 m.l] 27)).alloc (by simp only [World.size_alloc]; omega) (.cells #[.slice A xs.length c, .slice B ys.length d, .int .i64 s] 58)
  cases hm : isMaker m with
  | false =>
    go_enter Try.func80, Try.ntmps80
    go_wp2_with fail
    refine (implIsMaker_any m _).mono ?_
    rw [hm]
    rintro e w1 ⟨rfl, b1⟩
    go_wp2_with fail
    go_ret
    exact ⟨rfl, B0.trans (b1.mono B0.size)⟩
  | true =>
    have HM := Lib.hid hm
    go_enter Try.func80, Try.ntmps80
    go_wp2_with fail
    refine (implIsMaker_any m _).mono ?_
    rw [hm]
    clear hm
    rintro e w1 ⟨rfl, b1⟩
    have C := (bcell b1).1
    have B1 := B0.trans (b1.mono B0.size)
    go_wp2_with fail
    refine (isProgression_any m A c xs B d ys s _ (h.below B1) (g.below B1) hcap HM.out).mono ?_
    rintro e w2 ⟨rfl, b2⟩
    go_wp2_with fail
    go_ret
    exact ⟨rfl, B1.trans (b2.mono B1.size)⟩
end Go.Proofs.Ytldlpkfjgackiaa
