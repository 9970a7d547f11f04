/- Plain words and laws on keys: steps, runs, kinds, faults. No program. -/
import Derived.Test.YtdedajohkdbdkaaGreatDoorFTable
namespace Go.Proofs.YtdedajohkdbdkaaGreatDoor
set_option linter.unusedVariables false
def absI (n : Int) : Int := max n (-n)
theorem absI_le {n a : Int} : absI n ≤ a ↔ n ≤ a ∧ -n ≤ a := by unfold absI; omega
/-- how many cuts at the end are equal (1 of none) -/
def endRun (xs : List Int) : Nat := match xs.reverse with
  | [] => 1
  | x :: r => 1 + (r.takeWhile (· == x)).length
theorem endRun_one (x : Int) : endRun [x] = 1 := by simp [endRun]
theorem endRun_nil : endRun [] = 1 := rfl
theorem endRun_snoc2 (ys : List Int) (a b : Int) : endRun (ys ++ [a] ++ [b]) = if a = b then endRun (ys ++ [a]) + 1 else 1 := by
  simp only [endRun, List.reverse_append, List.reverse_cons, List.reverse_nil, List.nil_append, List.cons_append]
  by_cases h : a = b
  · subst h; simp; omega
  · simp [h]
theorem endRun_succ (xs : List Int) (k : Nat) (h : k + 1 < xs.length) : endRun (xs.take (k + 1 + 1)) = if xs[k] = xs[k + 1] then endRun (xs.take (k + 1)) + 1 else 1 := by
  rw [List.take_succ_eq_append_getElem h, List.take_succ_eq_append_getElem (show k < xs.length by omega), endRun_snoc2]
theorem takeWhile_le (p : Int → Bool) (l : List Int) : (l.takeWhile p).length ≤ l.length := by
  induction l with
  | nil => simp
  | cons x r ih => rw [List.takeWhile_cons]; split <;> simp <;> omega
theorem endRun_le (xs : List Int) : 1 ≤ endRun xs ∧ endRun xs ≤ xs.length + 1 := by
  unfold endRun
  have hl : xs.reverse.length = xs.length := List.length_reverse
  split
  · omega
  · rename_i x r e
    rw [e] at hl
    have := takeWhile_le (· == x) r
    simp at hl; omega
/-- does the step at place i keep to s? -/
def stepAt (s : Int) (xs : List Int) (i : Nat) : Bool := i == 0 || decide (absI (xs.getD i 0 - xs.getD (i - 1) 0) ≤ s)
def stepsOK (s : Int) (xs : List Int) : Bool := (List.range xs.length).all (stepAt s xs)
/-- is the run at place i at most a? -/
def runAt (a : Int) (xs : List Int) (i : Nat) : Bool := decide ((endRun (xs.take (i + 1)) : Int) ≤ a)
def runsOK (a : Int) (xs : List Int) : Bool := (List.range xs.length).all (runAt a xs)
/-- is place i the first one of its number? -/
def newAt (xs : List Int) (i : Nat) : Bool := !hasI (xs.take i) (xs.getD i 0)
def kindsN (xs : List Int) (k : Nat) : Nat := ((List.range k).filter (newAt xs)).length
def kinds (xs : List Int) : Int := (kindsN xs xs.length : Nat)
def cutsOK (m : Mk) (xs : List Int) : Bool := (xs.length : Int) == m.c && allW 0 (m.d - 1) xs
def fault (m : Mk) (xs : List Int) : Int :=
  if (xs.length : Int) ≠ m.c then 1 else if allW 0 (m.d - 1) xs = false then 2 else if stepsOK m.s xs = false then 3 else if runsOK m.a xs = false then 4 else if kinds xs < m.l then 5 else 0
theorem rangeAll_bad {p : Nat → Bool} {n k : Nat} (hk : k < n) (h : p k = false) : (List.range n).all p = false := by
  rw [Bool.eq_false_iff]; intro ha; rw [List.all_eq_true] at ha; have := ha k (List.mem_range.2 hk); rw [h] at this; cases this
theorem rangeAll_next (p : Nat → Bool) (k : Nat) : (List.range (k + 1)).all p = ((List.range k).all p && p k) := by simp [List.range_succ]
theorem kindsN_succ (xs : List Int) (k : Nat) : kindsN xs (k + 1) = kindsN xs k + if newAt xs k = true then 1 else 0 := by
  unfold kindsN; rw [List.range_succ, List.filter_append, List.length_append]
  cases h : newAt xs k <;> simp [h]
theorem kindsN_le (xs : List Int) (k : Nat) : kindsN xs k ≤ k := by
  unfold kindsN; exact Nat.le_trans (List.length_filter_le _ _) (by simp)
/-- the greatest run so far -/
def maxRun (xs : List Int) : Nat → Nat
  | 0 => 0
  | k + 1 => max (maxRun xs k) (endRun (xs.take (k + 1)))
theorem maxRun_le (xs : List Int) (k : Nat) (h : k ≤ xs.length) : maxRun xs k ≤ xs.length + 1 := by
  induction k with
  | zero => simp [maxRun]
  | succ k ih =>
    have := (endRun_le (xs.take (k + 1))).2
    simp only [List.length_take] at this
    have := ih (by omega); simp only [maxRun]; omega
theorem maxRun_ok (a : Int) (xs : List Int) (k : Nat) : ((List.range k).all (runAt a xs) = true) ↔ ((maxRun xs k : Int) ≤ a ∨ k = 0) := by
  induction k with
  | zero => simp
  | succ k ih =>
    rw [rangeAll_next, Bool.and_eq_true, ih]
    simp only [runAt, decide_eq_true_eq]
    have h1 := (endRun_le (xs.take (k + 1))).1
    have e : maxRun xs (k + 1) = max (maxRun xs k) (endRun (xs.take (k + 1))) := rfl
    rw [e]
    rcases Nat.eq_zero_or_pos k with rfl | hk
    · simp only [maxRun]; omega
    · rcases Nat.le_total (maxRun xs k) (endRun (xs.take (k + 1))) with h | h
      · rw [Nat.max_eq_right h]; omega
      · rw [Nat.max_eq_left h]; omega
theorem maxRun_all {a : Int} {xs : List Int} (hn : 0 < xs.length) : runsOK a xs = decide ((maxRun xs xs.length : Int) ≤ a) := by
  rw [Bool.eq_iff_iff, decide_eq_true_eq]; unfold runsOK; rw [maxRun_ok]; omega
theorem fault_1 {m : Mk} {xs : List Int} (h : (xs.length : Int) ≠ m.c) : fault m xs = 1 := by simp [fault, h]
theorem fault_2 {m : Mk} {xs : List Int} (h : (xs.length : Int) = m.c) (h2 : allW 0 (m.d - 1) xs = false) : fault m xs = 2 := by simp [fault, h, h2]
theorem fault_3 {m : Mk} {xs : List Int} (h : (xs.length : Int) = m.c) (h2 : allW 0 (m.d - 1) xs = true) (h3 : stepsOK m.s xs = false) : fault m xs = 3 := by simp [fault, h, h2, h3]
theorem fault_4 {m : Mk} {xs : List Int} (h : (xs.length : Int) = m.c) (h2 : allW 0 (m.d - 1) xs = true) (h3 : stepsOK m.s xs = true) (h4 : runsOK m.a xs = false) : fault m xs = 4 := by simp [fault, h, h2, h3, h4]
theorem fault_5 {m : Mk} {xs : List Int} (h : (xs.length : Int) = m.c) (h2 : allW 0 (m.d - 1) xs = true) (h3 : stepsOK m.s xs = true) (h4 : runsOK m.a xs = true) (h5 : kinds xs < m.l) : fault m xs = 5 := by simp [fault, h, h2, h3, h4, h5]
theorem fault_0 {m : Mk} {xs : List Int} (h : (xs.length : Int) = m.c) (h2 : allW 0 (m.d - 1) xs = true) (h3 : stepsOK m.s xs = true) (h4 : runsOK m.a xs = true) (h5 : ¬ kinds xs < m.l) : fault m xs = 0 := by simp [fault, h, h2, h3, h4, h5]
theorem allW_at {lo hi : Int} {xs : List Int} (h : allW lo hi xs = true) {k : Nat} (hk : k < xs.length) : lo ≤ xs[k] ∧ xs[k] ≤ hi := by
  unfold allW at h; rw [List.all_eq_true] at h; exact inB_iff.1 (h _ (List.getElem_mem hk))
theorem stepAt_pos {s : Int} {xs : List Int} {k : Nat} (h : k + 1 < xs.length) : stepAt s xs (k + 1) = decide (absI (xs[k + 1] - xs[k]) ≤ s) := by
  simp [stepAt, List.getElem?_eq_getElem h, List.getElem?_eq_getElem (show k < xs.length by omega)]
theorem newAt_in {xs : List Int} {k : Nat} (h : k < xs.length) : newAt xs k = !hasI (xs.take k) xs[k] := by
  simp [newAt, List.getElem?_eq_getElem h]
theorem fault_zero_iff {m : Mk} {xs : List Int} : fault m xs = 0 ↔ (xs.length : Int) = m.c ∧ allW 0 (m.d - 1) xs = true ∧ stepsOK m.s xs = true ∧ runsOK m.a xs = true ∧ m.l ≤ kinds xs := by
  unfold fault
  by_cases h1 : (xs.length : Int) = m.c
  · rw [if_neg (by simpa using h1)]
    cases h2 : allW 0 (m.d - 1) xs
    · simp
    · cases h3 : stepsOK m.s xs
      · simp
      · cases h4 : runsOK m.a xs
        · simp
        · by_cases h5 : kinds xs < m.l
          · simp [h5]; try omega
          · simp [h5, h1]; try omega
  · simp [h1]
end Go.Proofs.YtdedajohkdbdkaaGreatDoor

/- Contracts of the functions on cuts and keys. -/
namespace Go.Proofs.YtdedajohkdbdkaaGreatDoor
set_option linter.unusedVariables false
open Go.RowKit
theorem l01Abs_any (n : Int) (w : World) (h1 : -1000000000 ≤ n) (h2 : n ≤ 1000000000) :
    Calls Tryz.prog 103 #[.int .i64 n] w fun e w' => e = .returned (.int .i64 (absI n)) ∧ w = w' := by
  go_enter Tryz.func103, Tryz.ntmps103
  go_wp2
  all_goals go_ret
  all_goals exact ⟨retI (by unfold absI; omega), rfl⟩
theorem absolute_any (n : Int) (w : World) (h1 : -1000000000 ≤ n) (h2 : n ≤ 1000000000) :
    Calls Tryz.prog 69 #[.int .i64 n] w fun e w' => e = .returned (.int .i64 (absI n)) ∧ w = w' := by
  go_enter Tryz.func69, Tryz.ntmps69
  go_wp2
  all_goals go_ret
  all_goals exact ⟨retI (by unfold absI; omega), rfl⟩
set_option maxHeartbeats 1000000 in
theorem l02Cuts_any (m : Mk) (A : Option Addr) (c : Nat) (xs : List Int) (w : World) (h : RI w A xs) (hm : isMaker m = true) :
    Calls Tryz.prog 102 #[.agg #[.int .i64 m.c, .int .i64 m.d, .int .i64 m.s, .int .i64 m.a, .int .i64 m.l], .slice A xs.length c] w fun e w' => e = .returned (.bool (cutsOK m xs)) ∧ Below w.heap.size w w' := by
  have HB := Lib.hid ((Below.refl w.heap.size w).alloc (Nat.le_refl _) (.cells #[.int .i64 m.c, .int .i64 m.d, .int .i64 m.s, .int .i64 m.a, .int .i64 m.l] 25))
  have hmk := isMaker_iff.1 hm
  have d1 := hmk.2.1.1; have d2 := hmk.2.1.2
  clear hmk hm
  have hle := h.le
  go_enter Tryz.func102, Tryz.ntmps102
  go_wp2_with fail
  go_loopw [5] (fun i wr => ∃ k n : Nat, k ≤ xs.length ∧ i = .int .i64 k ∧ wr = (w.alloc (.cells #[.int .i64 m.c, .int .i64 m.d, .int .i64 m.s, .int .i64 m.a, .int .i64 m.l] 25)).drewN n ∧ allW 0 (m.d - 1) (xs.take k) = true) (fun i _ => xs.length - (intOf i).toNat)
  case atStart => exact ⟨0, 0, by omega, rfl, rfl, rfl⟩
  case round =>
    obtain ⟨k, n, hk, rfl, rfl, hrel⟩ := hrel
    have Hrel := Lib.hid hrel; clear hrel
    by_cases hlt : k < xs.length
    · obtain ⟨b, o, rfl, hc⟩ := h.at_ hlt
      have hbw : b < w.heap.size := World.block_lt_of_cell? w _ hc
      have i0 : (0 : Int) ≤ (k : Int) := by omega
      have i1 : (k : Int) < (xs.length : Int) := by omega
      cases hp : inB xs[k] 0 (m.d - 1) with
      | true =>
        go_wp2_with fail
        go_quiet ((go_at_call 49; first | exact quietSA (l01In_any _ _ _ _) | exact quietS (l01In_any _ _ _ _)))
        go_wp2_with fail
        go_roundw
        case rel => exact ⟨k + 1, _, by omega, by go_num, rfl, by unfold allW at *; rw [take_succ_all _ _ _ hlt, Hrel.out, hp]; rfl⟩
        case measure => simp [intOf]; omega
      | false =>
        have HR := Lib.hid (show cutsOK m xs = false by
          have := all_false_at (fun x => inB x 0 (m.d - 1)) xs k hlt hp
          simp [cutsOK, allW, this])
        go_wp2_with fail
        go_quiet ((go_at_call 49; first | exact quietSA (l01In_any _ _ _ _) | exact quietS (l01In_any _ _ _ _)))
        go_wp2_with fail
        go_ret
        exact ⟨retB HR.out.symm, belowD (belowD HB.out _) _⟩
    · obtain rfl : k = xs.length := by omega
      have HR := Lib.hid (show cutsOK m xs = ((xs.length : Int) == m.c) by
        have := Hrel.out; rw [List.take_length] at this; simp [cutsOK, this])
      go_wp2_with fail
      go_ret
      exact ⟨retB HR.out.symm, belowD HB.out _⟩
set_option maxHeartbeats 1000000 in
theorem areCuts_any (m : Mk) (A : Option Addr) (c : Nat) (xs : List Int) (w : World) (h : RI w A xs) (hm : isMaker m = true) :
    Calls Tryz.prog 68 #[.agg #[.int .i64 m.c, .int .i64 m.d, .int .i64 m.s, .int .i64 m.a, .int .i64 m.l], .slice A xs.length c] w fun e w' => e = .returned (.bool (cutsOK m xs)) ∧ Below w.heap.size w w' := by
  have HB := Lib.hid ((Below.refl w.heap.size w).alloc (Nat.le_refl _) (.cells #[.int .i64 m.c, .int .i64 m.d, .int .i64 m.s, .int .i64 m.a, .int .i64 m.l] 25))
  have hmk := isMaker_iff.1 hm
  have d1 := hmk.2.1.1; have d2 := hmk.2.1.2
  clear hmk hm
  have hle := h.le
  cases hp : ((xs.length : Int) == m.c) with
  | true =>
    have HR := Lib.hid (show cutsOK m xs = allW 0 (m.d - 1) xs by simp [cutsOK, hp])
    go_enter Tryz.func68, Tryz.ntmps68
    go_wp2_with (go_at_call 48; refine (allWithin_any _ _ _ _ _ _ (h.alloc _)).mono ?_; rintro e w' ⟨rfl, rfl⟩)
    go_ret
    exact ⟨retB HR.out.symm, HB.out⟩
  | false =>
    have HR := Lib.hid (show cutsOK m xs = false by simp [cutsOK, hp])
    go_enter Tryz.func68, Tryz.ntmps68
    go_wp2_with fail
    go_ret
    exact ⟨retB HR.out.symm, HB.out⟩
set_option maxHeartbeats 1000000 in
theorem l02Kinds_any (A : Option Addr) (c : Nat) (xs : List Int) (w : World) (h : RI w A xs) (hcap : xs.length ≤ c) :
    Calls Tryz.prog 86 #[.slice A xs.length c] w fun e w' => e = .returned (.int .i64 (kinds xs)) ∧ ∃ n, w' = w.drewN n := by
  have hle := h.le
  go_enter Tryz.func86, Tryz.ntmps86
  go_wp2_with fail
  go_loopw [3, 4] (fun a i wr => ∃ k n : Nat, k ≤ xs.length ∧ i = .int .i64 k ∧ a = .int .i64 (kindsN xs k) ∧ wr = w.drewN n) (fun _ i _ => xs.length - (intOf i).toNat)
  case atStart => exact ⟨0, 0, by omega, rfl, rfl, rfl⟩
  case round =>
    obtain ⟨k, n, hk, rfl, rfl, rfl⟩ := hrel
    have hkn := kindsN_le xs k
    by_cases hlt : k < xs.length
    · obtain ⟨b, o, rfl, hc⟩ := h.at_ hlt
      have i0 : (0 : Int) ≤ (k : Int) := by omega
      have i1 : (k : Int) < (xs.length : Int) := by omega
      have i2 : (k : Int) ≤ (c : Int) := by omega
      have hs := Lib.hid (kindsN_succ xs k)
      have hni := Lib.hid (newAt_in hlt)
      have hr := h.take k
      have hl : (xs.take k).length = k := by simp; omega
      have CC := fun W (hW : RI W (some ⟨b, o, none⟩) (xs.take k)) => l01Has_any (some ⟨b, o, none⟩) c (xs.take k) xs[k] W hW
      rw [hl] at CC
      have HCC := Lib.hid CC; clear CC hl
      cases hp : hasI (xs.take k) xs[k] with
      | true =>
        go_wp2_with fail
        go_quiet ((go_at_call 110; first | exact quietSA (HCC.out _ (hr.drewN _)) | exact quietS (HCC.out _ (hr.drewN _))))
        go_wp2_with fail
        go_roundw
        case rel => exact ⟨k + 1, _, by omega, by go_num, by rw [hs.out, hni.out, hp]; rfl, rfl⟩
        case measure => simp [intOf]; omega
      | false =>
        go_wp2_with fail
        go_quiet ((go_at_call 110; first | exact quietSA (HCC.out _ (hr.drewN _)) | exact quietS (HCC.out _ (hr.drewN _))))
        go_wp2_with fail
        go_roundw
        case rel => exact ⟨k + 1, _, by omega, by go_num, by rw [hs.out, hni.out, hp]; go_num, rfl⟩
        case measure => simp [intOf]; omega
    · obtain rfl : k = xs.length := by omega
      go_wp2_with fail
      go_ret
      exact ⟨rfl, n, rfl⟩
set_option maxHeartbeats 1000000 in
theorem different_any (A : Option Addr) (c : Nat) (xs : List Int) (w : World) (h : RI w A xs) (hcap : xs.length ≤ c) :
    Calls Tryz.prog 71 #[.slice A xs.length c] w fun e w' => e = .returned (.int .i64 (kinds xs)) ∧ w = w' := by
  have hle := h.le
  go_enter Tryz.func71, Tryz.ntmps71
  go_wp2_with fail
  go_loop [3, 8] (fun a i => ∃ k : Nat, k ≤ xs.length ∧ i = .int .i64 k ∧ a = .int .i64 (kindsN xs k)) (fun _ i => xs.length - (intOf i).toNat)
  case atStart => exact ⟨0, by omega, rfl, rfl⟩
  case round =>
    obtain ⟨k, hk, rfl, rfl⟩ := hrel
    have hkn := kindsN_le xs k
    by_cases hlt : k < xs.length
    · obtain ⟨b, o, rfl, hc⟩ := h.at_ hlt
      have i2 : (k : Int) ≤ (c : Int) := by omega
      have hs := Lib.hid (kindsN_succ xs k)
      have hni := Lib.hid (newAt_in hlt)
      have hr := h.take k
      have hl : (xs.take k).length = k := by simp; omega
      have CC := sContains_any (some ⟨b, o, none⟩) c (xs.take k) xs[k] w hr
      rw [hl] at CC
      have HCC := Lib.hid CC; clear CC hl
      cases hp : hasI (xs.take k) xs[k] with
      | true =>
        go_wp2_with fail
        refine HCC.out.mono ?_
        rw [hp]
        rintro e w' ⟨rfl, rfl⟩
        go_wp2_with fail
        go_round
        case rel => exact ⟨k + 1, by omega, by go_num, by rw [hs.out, hni.out, hp]; rfl⟩
        case measure => simp [intOf]; omega
      | false =>
        go_wp2_with fail
        refine HCC.out.mono ?_
        rw [hp]
        rintro e w' ⟨rfl, rfl⟩
        go_wp2_with fail
        go_round
        case rel => exact ⟨k + 1, by omega, by go_num, by rw [hs.out, hni.out, hp]; go_num⟩
        case measure => simp [intOf]; omega
    · obtain rfl : k = xs.length := by omega
      go_wp2_with fail
      go_ret
      exact ⟨rfl, rfl⟩
theorem endRun_end {xs : List Int} {r : Nat} (h1 : 1 ≤ r) (h2 : r ≤ xs.length) (hall : ∀ j, j < r → xs.getD (xs.length - 1 - j) 0 = xs.getD (xs.length - 1) 0) (hstop : r = xs.length ∨ xs.getD (xs.length - 1 - r) 0 ≠ xs.getD (xs.length - 1) 0) : endRun xs = r := by
  have hlen : 0 < xs.length := by omega
  unfold endRun
  have hr : xs.reverse ≠ [] := by intro e; rw [List.reverse_eq_nil_iff] at e; subst e; simp at hlen
  have hg : ∀ j, j < xs.length → xs.reverse[j]? = some (xs.getD (xs.length - 1 - j) 0) := by
    intro j hj
    rw [List.getElem?_reverse hj]
    simp [List.getD, List.getElem?_eq_getElem (show xs.length - 1 - j < xs.length by omega)]
  split
  · rename_i e; exact absurd e hr
  · rename_i x t e
    have hx : x = xs.getD (xs.length - 1) 0 := by have := hg 0 hlen; rw [e] at this; simpa using this
    have hl : t.length + 1 = xs.length := by have := congrArg List.length e; simpa using this.symm
    have ht : ∀ j (hj : j < t.length), t[j] = xs.getD (xs.length - 1 - (j + 1)) 0 := by
      intro j hj
      have := hg (j + 1) (by omega)
      rw [e] at this
      simpa [List.getElem?_eq_getElem hj] using this
    have key : ∀ (n : Nat) (l : List Int), n ≤ l.length → (∀ j (hj : j < n) (hl : j < l.length), l[j] = x) → (∀ hl : n < l.length, l[n] ≠ x) → (l.takeWhile (· == x)).length = n := by
      intro n
      induction n with
      | zero =>
        intro l _ _ h3
        cases l with
        | nil => rfl
        | cons y r => have := h3 (by simp); simp at this; simp [this]
      | succ n ih =>
        intro l h1 h2 h3
        cases l with
        | nil => simp at h1
        | cons y r =>
          have hy := h2 0 (by omega) (by simp)
          simp at hy
          subst hy
          simp
          exact ih r (by simpa using h1) (fun j hj hl => by have := h2 (j + 1) (by omega) (by simpa using hl); simpa using this) (fun hl => by have := h3 (by simpa using hl); simpa using this)
    have := key (r - 1) t (by omega) (fun j hj hl => by rw [ht j hl, hx]; exact hall (j + 1) (by omega)) (fun hl => by
      rw [ht _ hl, hx, show r - 1 + 1 = r by omega]
      rcases hstop with h | h
      · omega
      · exact h)
    omega
set_option maxHeartbeats 1000000 in
theorem sameRun_any (A : Option Addr) (c : Nat) (xs : List Int) (w : World) (h : RI w A xs) (h0 : 0 < xs.length) :
    Calls Tryz.prog 70 #[.slice A xs.length c] w fun e w' => e = .returned (.int .i64 (endRun xs)) ∧ ∃ n, w' = w.drewN n := by
  have hle := h.le
  obtain ⟨b, o, rfl, hlast⟩ := h.at_ (k := xs.length - 1) (by omega)
  have eL : xs[xs.length - 1]'(by omega) = xs.getD (xs.length - 1) 0 := by simp [List.getD, List.getElem?_eq_getElem (show xs.length - 1 < xs.length by omega)]
  rw [eL] at hlast
  clear eL
  have j0 : (0 : Int) ≤ (xs.length : Int) - 1 := by omega
  have j1 : (xs.length : Int) - 1 < (xs.length : Int) := by omega
  have e1 : ((xs.length : Int) - 1).toNat = xs.length - 1 := by omega
  generalize hX : xs.getD (xs.length - 1) 0 = X at *
  have HX := Lib.hid hX; clear hX
  go_enter Tryz.func70, Tryz.ntmps70
  go_wp2_with fail
  go_loopw [3] (fun r wr => ∃ k n : Nat, k + 1 ≤ xs.length ∧ r = .int .i64 ((k : Int) + 1) ∧ wr = w.drewN n ∧ ∀ j, j < k + 1 → xs.getD (xs.length - 1 - j) 0 = X) (fun r _ => xs.length - (intOf r).toNat)
  case atStart => exact ⟨0, 0, by omega, rfl, rfl, fun j hj => by rw [← HX.out]; congr 1; omega⟩
  case round =>
    obtain ⟨k, n, hk, rfl, rfl, hrel⟩ := hrel
    have Hrel := Lib.hid hrel; clear hrel
    by_cases hlt : k + 1 < xs.length
    · have hg : (k : Int) + 1 < (xs.length : Int) := by omega
      obtain ⟨b2, o2, e2, hc⟩ := h.at_ (k := xs.length - 1 - (k + 1)) (by omega)
      injection e2 with e2
      injection e2 with e3 e4
      subst e3 e4
      have eC : xs[xs.length - 1 - (k + 1)]'(by omega) = xs.getD (xs.length - 1 - (k + 1)) 0 := by simp [List.getD, List.getElem?_eq_getElem (show xs.length - 1 - (k + 1) < xs.length by omega)]
      rw [eC] at hc
      clear eC
      have i0 : (0 : Int) ≤ (xs.length : Int) - 1 - ((k : Int) + 1) := by omega
      have i1 : (xs.length : Int) - 1 - ((k : Int) + 1) < (xs.length : Int) := by omega
      have e5 : ((xs.length : Int) - 1 - ((k : Int) + 1)).toNat = xs.length - 1 - (k + 1) := by omega
      generalize hY : xs.getD (xs.length - 1 - (k + 1)) 0 = Y at *
      have HY := Lib.hid hY; clear hY
      cases hp : (Y == X) with
      | true =>
        have HP := Lib.hid hp
        go_wp2_with fail
        go_quiet (fail)
        go_wp2_with fail
        go_roundw
        case rel => exact ⟨k + 1, _, by omega, by go_num, rfl, fun j hj => by
          by_cases hj2 : j = k + 1
          · subst hj2; rw [HY.out]; exact beq_iff_eq.1 HP.out
          · exact Hrel.out j (by omega)⟩
        case measure => simp [intOf]; omega
      | false =>
        have HR := Lib.hid (endRun_end (xs := xs) (r := k + 1) (by omega) (by omega) (fun j hj => by rw [HX.out]; exact Hrel.out j hj) (.inr (by rw [HX.out, HY.out]; exact beq_eq_false_iff_ne.1 hp)))
        go_wp2_with fail
        go_quiet (fail)
        go_wp2_with fail
        go_ret
        exact ⟨retI (by rw [HR.out]; omega), drewEx⟩
    · have hg : decide ((k : Int) + 1 < (xs.length : Int)) = false := by simp; omega
      have HR := Lib.hid (endRun_end (xs := xs) (r := k + 1) (by omega) (by omega) (fun j hj => by rw [HX.out]; exact Hrel.out j hj) (.inl (by omega)))
      have Hlt := Lib.hid hlt; clear hlt
      go_wp2_with fail
      go_quiet (fail)
      go_wp2_with fail
      go_ret
      exact ⟨retI (by rw [HR.out]; omega), drewEx⟩
end Go.Proofs.YtdedajohkdbdkaaGreatDoor

/- Contracts of l02Fault, keyFault, isKey, IsKey. -/
namespace Go.Proofs.YtdedajohkdbdkaaGreatDoor
set_option linter.unusedVariables false
open Go.RowKit
theorem cutsOK_len {m : Mk} {xs : List Int} (h : (xs.length : Int) = m.c) : cutsOK m xs = allW 0 (m.d - 1) xs := by simp [cutsOK, h]
/-- the bounds of a maker -/
theorem mk_bounds {m : Mk} (h : isMaker m = true) : 2 ≤ m.c ∧ m.c ≤ 6 ∧ 2 ≤ m.d ∧ m.d ≤ 8 ∧ 1 ≤ m.s ∧ m.s ≤ m.d - 1 ∧ 1 ≤ m.a ∧ m.a ≤ m.c ∧ 1 ≤ m.l ∧ m.l ≤ m.c ∧ m.l ≤ m.d := by
  have := isMaker_iff.1 h; omega
def runOf (xs : List Int) (k : Nat) : Nat := if k = 0 then 0 else endRun (xs.take k)
theorem runOf_le (xs : List Int) (k : Nat) (h : k ≤ xs.length) : runOf xs k ≤ k + 1 := by
  unfold runOf; split
  · omega
  · have := (endRun_le (xs.take k)).2; simp only [List.length_take] at this; omega
set_option maxRecDepth 100000 in
set_option maxHeartbeats 4000000 in
theorem l02Fault_any (m : Mk) (A : Option Addr) (c : Nat) (xs : List Int) (w : World) (h : RI w A xs) (hcap : xs.length ≤ c) (hm : isMaker m = true) :
    Calls Tryz.prog 80 #[.agg #[.int .i64 m.c, .int .i64 m.d, .int .i64 m.s, .int .i64 m.a, .int .i64 m.l], .slice A xs.length c] w fun e w' => e = .returned (.int .i64 (fault m xs)) ∧ Below w.heap.size w w' := by
  have B0 := (Below.refl w.heap.size w).alloc (Nat.le_refl _) (.cells #[.int .i64 m.c, .int .i64 m.d, .int .i64 m.s, .int .i64 m.a, .int .i64 m.l] 25)
  obtain ⟨c1, c2, d1, d2, s1, s2, a1, a2, l1, l2, l3⟩ := mk_bounds hm
  have hle := h.le
  have HM := Lib.hid hm; clear hm
  by_cases hlen : (xs.length : Int) = m.c
  · have t1 : ((xs.length : Int) != m.c) = false := by simp [hlen]
    have HL := Lib.hid hlen
    have hn0 : 2 ≤ xs.length := by omega
    have hn1 : xs.length ≤ 6 := by omega
    clear hlen
    cases h2 : allW 0 (m.d - 1) xs with
    | false =>
      have HR := Lib.hid (fault_2 HL.out h2)
      have h3 : cutsOK m xs = false := by rw [cutsOK_len HL.out]; exact h2
      have H2 := Lib.hid h2; clear h2
      go_enter Tryz.func80, Tryz.ntmps80
      go_wp2_with fail
      refine (l02Cuts_any m A c xs _ (h.alloc _) HM.out).mono ?_
      rw [h3]
      rintro e w1 ⟨rfl, b1⟩
      go_wp2_with fail
      go_ret
      exact ⟨retI HR.out.symm, B0.trans (b1.mono B0.size)⟩
    | true =>
      have h3 : cutsOK m xs = true := by rw [cutsOK_len HL.out]; exact h2
      have H2 := Lib.hid h2; clear h2
      go_enter Tryz.func80, Tryz.ntmps80
      go_wp2_with fail
      refine (l02Cuts_any m A c xs _ (h.alloc _) HM.out).mono ?_
      rw [h3]
      rintro e w1 ⟨rfl, b1⟩
      clear h3
      have C := (bcell b1).1
      have B1 := B0.trans (b1.mono B0.size)
      have h1 := h.below B1
      go_wp2_with fail
      go_loopw [5, 6, 7] (fun r x i wr => ∃ k n : Nat, k ≤ xs.length ∧ i = .int .i64 k ∧ r = .int .i64 (runOf xs k) ∧ x = .int .i64 (maxRun xs k) ∧ wr = w1.drewN n ∧ (List.range k).all (stepAt m.s xs) = true) (fun _ _ i _ => xs.length - (intOf i).toNat)
      case atStart => exact ⟨0, 0, by omega, rfl, rfl, rfl, rfl, rfl⟩
      case round =>
        obtain ⟨k, n, hk, rfl, rfl, rfl, rfl, hst⟩ := hrel
        have Hst := Lib.hid hst; clear hst
        have q1 := runOf_le xs k hk
        have q2 := maxRun_le xs k hk
        by_cases hlt : k < xs.length
        · obtain ⟨b, o, rfl, hc⟩ := h1.at_ hlt
          have i0 : (0 : Int) ≤ (k : Int) := by omega
          have i1 : (k : Int) < (xs.length : Int) := by omega
          have v1 := allW_at H2.out hlt
          have v2 := v1.1; have v3 := v1.2
          clear v1
          by_cases hk0 : k = 0
          · subst hk0
            have t2 : decide ((0 : Int) < ((0 : Nat) : Int)) = false := by simp
            have HS := Lib.hid (show (List.range (0 + 1)).all (stepAt m.s xs) = true by simp [List.range_succ, stepAt])
            have HX := Lib.hid (show endRun (xs.take (0 + 1)) = 1 by rw [List.take_succ_eq_append_getElem hlt]; simp [endRun_one])
            have HY := Lib.hid (show maxRun xs (0 + 1) = 1 by simp only [maxRun]; rw [HX.out]; rfl)
            have r0 : ((runOf xs 0 : Nat) : Int) = 0 := rfl
            have m0 : ((maxRun xs 0 : Nat) : Int) = 0 := rfl
            go_wp2_with fail
            go_quiet (fail)
            go_wp2_with fail
            go_quiet (fail)
            go_wp2_with fail
            go_roundw
            case rel => exact ⟨1, _, by omega, by go_num, by simp only [runOf]; rw [if_neg (by omega)]; rw [HX.out]; rfl, by rw [HY.out]; rfl, rfl, HS.out⟩
            case measure => simp [intOf]; omega
          · obtain ⟨j, rfl⟩ : ∃ j, k = j + 1 := ⟨k - 1, by omega⟩
            obtain ⟨b2, o2, e2, hc2⟩ := h1.at_ (k := j) (by omega)
            injection e2 with e2
            injection e2 with e3 e4
            subst e3 e4
            have v4 := allW_at H2.out (k := j) (by omega)
            have v5 := v4.1; have v6 := v4.2
            clear v4
            have i2 : (0 : Int) ≤ (j : Int) := by omega
            have i3 : (j : Int) < (xs.length : Int) := by omega
            have i4 : (0 : Int) < (j : Int) + 1 := by omega
            have HS := Lib.hid (stepAt_pos (s := m.s) hlt)
            have HE := Lib.hid (endRun_succ xs j hlt)
            have HM1 := Lib.hid (show maxRun xs (j + 1 + 1) = max (maxRun xs (j + 1)) (endRun (xs.take (j + 1 + 1))) from rfl)
            have HR1 := Lib.hid (show runOf xs (j + 1) = endRun (xs.take (j + 1)) by simp [runOf])
            have HR2 := Lib.hid (show runOf xs (j + 1 + 1) = endRun (xs.take (j + 1 + 1)) by simp [runOf])
            have e5 := fun W => l01Abs_any (xs[j + 1] - xs[j]) W (by omega) (by omega)
            have E5 := Lib.hid e5; clear e5
            cases hp : decide (m.s < absI (xs[j + 1] - xs[j])) with
            | true =>
              have HR := Lib.hid (fault_3 HL.out H2.out (rangeAll_bad hlt (by rw [HS.out]; simp at hp ⊢; omega)))
              go_wp2_with fail
              go_quiet ((go_at_call 103; first | exact quietSA (E5.out _) | exact quietS (E5.out _)))
              go_wp2_with fail
              go_ret
              exact ⟨retI HR.out.symm, belowD (belowD B1 _) _⟩
            | false =>
              have HO := Lib.hid (show (List.range (j + 1 + 1)).all (stepAt m.s xs) = true by rw [rangeAll_next, Hst.out, HS.out]; simp at hp ⊢; omega)
              cases hq : (xs[j + 1] != xs[j]) with
              | true =>
                have HQ := Lib.hid (show endRun (xs.take (j + 1 + 1)) = 1 by rw [HE.out, if_neg (by simp at hq; omega)])
                go_wp2_with fail
                go_quiet ((go_at_call 103; first | exact quietSA (E5.out _) | exact quietS (E5.out _)))
                go_wp2_with fail
                go_quiet (fail)
                go_wp2_with fail
                all_goals go_roundw
                all_goals first
                  | exact ⟨j + 1 + 1, _, by omega, by go_num, by rw [HR2.out, HQ.out]; rfl, by rw [HM1.out, HQ.out]; congr 1; omega, rfl, HO.out⟩
                  | (simp [intOf]; omega)
              | false =>
                have HQ := Lib.hid (show endRun (xs.take (j + 1 + 1)) = runOf xs (j + 1) + 1 by rw [HE.out, if_pos (by simp at hq; omega), HR1.out])
                go_wp2_with fail
                go_quiet ((go_at_call 103; first | exact quietSA (E5.out _) | exact quietS (E5.out _)))
                go_wp2_with fail
                go_quiet (fail)
                go_wp2_with fail
                all_goals go_roundw
                all_goals first
                  | exact ⟨j + 1 + 1, _, by omega, by go_num, by rw [HR2.out, HQ.out]; go_num, by rw [HM1.out, HQ.out]; congr 1; omega, rfl, HO.out⟩
                  | (simp [intOf]; omega)
        · obtain rfl : k = xs.length := by omega
          have HO := Lib.hid (show stepsOK m.s xs = true from Hst.out)
          have HA := Lib.hid (maxRun_all (a := m.a) (xs := xs) (by omega))
          cases hp : decide (m.a < ((maxRun xs xs.length : Nat) : Int)) with
          | true =>
            have HR := Lib.hid (fault_4 HL.out H2.out HO.out (by rw [HA.out]; simp at hp ⊢; omega))
            go_wp2_with fail
            go_ret
            exact ⟨retI HR.out.symm, belowD B1 _⟩
          | false =>
            have HA2 := Lib.hid (show runsOK m.a xs = true by rw [HA.out]; simp at hp ⊢; omega)
            cases hq : decide (kinds xs < m.l) with
            | true =>
              have HR := Lib.hid (fault_5 HL.out H2.out HO.out HA2.out (by simpa using hq))
              go_wp2_with fail
              go_quiet ((go_at_call 86; first | exact quietQA (l02Kinds_any _ _ _ _ (h1.drewN _) hcap) | exact quietQ (l02Kinds_any _ _ _ _ (h1.drewN _) hcap)))
              go_wp2_with fail
              go_ret
              exact ⟨retI HR.out.symm, belowD (belowD B1 _) _⟩
            | false =>
              have HR := Lib.hid (fault_0 HL.out H2.out HO.out HA2.out (by simpa using hq))
              go_wp2_with fail
              go_quiet ((go_at_call 86; first | exact quietQA (l02Kinds_any _ _ _ _ (h1.drewN _) hcap) | exact quietQ (l02Kinds_any _ _ _ _ (h1.drewN _) hcap)))
              go_wp2_with fail
              go_ret
              exact ⟨retI HR.out.symm, belowD (belowD B1 _) _⟩
  · have t1 : ((xs.length : Int) != m.c) = true := by simp [hlen]
    have HR := Lib.hid (fault_1 (m := m) (xs := xs) hlen)
    clear hlen
    go_enter Tryz.func80, Tryz.ntmps80
    go_wp2_with fail
    go_ret
    exact ⟨retI HR.out.symm, B0⟩
set_option maxRecDepth 100000 in
set_option maxHeartbeats 4000000 in
theorem keyFault_any (m : Mk) (A : Option Addr) (c : Nat) (xs : List Int) (w : World) (h : RI w A xs) (hcap : xs.length ≤ c) (hm : isMaker m = true) :
    Calls Tryz.prog 51 #[.agg #[.int .i64 m.c, .int .i64 m.d, .int .i64 m.s, .int .i64 m.a, .int .i64 m.l], .slice A xs.length c] w fun e w' => e = .returned (.int .i64 (fault m xs)) ∧ Below w.heap.size w w' := by
  have B0 := (Below.refl w.heap.size w).alloc (Nat.le_refl _) (.cells #[.int .i64 m.c, .int .i64 m.d, .int .i64 m.s, .int .i64 m.a, .int .i64 m.l] 25)
  obtain ⟨c1, c2, d1, d2, s1, s2, a1, a2, l1, l2, l3⟩ := mk_bounds hm
  have hle := h.le
  have HM := Lib.hid hm; clear hm
  by_cases hlen : (xs.length : Int) = m.c
  · have t1 : ((xs.length : Int) != m.c) = false := by simp [hlen]
    have HL := Lib.hid hlen
    have hn0 : 2 ≤ xs.length := by omega
    have hn1 : xs.length ≤ 6 := by omega
    clear hlen
    cases h2 : allW 0 (m.d - 1) xs with
    | false =>
      have HR := Lib.hid (fault_2 HL.out h2)
      have h3 : cutsOK m xs = false := by rw [cutsOK_len HL.out]; exact h2
      have H2 := Lib.hid h2; clear h2
      go_enter Tryz.func51, Tryz.ntmps51
      go_wp2_with fail
      refine (areCuts_any m A c xs _ (h.alloc _) HM.out).mono ?_
      rw [h3]
      rintro e w1 ⟨rfl, b1⟩
      go_wp2_with fail
      go_ret
      exact ⟨retI HR.out.symm, B0.trans (b1.mono B0.size)⟩
    | true =>
      have h3 : cutsOK m xs = true := by rw [cutsOK_len HL.out]; exact h2
      have H2 := Lib.hid h2; clear h2
      go_enter Tryz.func51, Tryz.ntmps51
      go_wp2_with fail
      refine (areCuts_any m A c xs _ (h.alloc _) HM.out).mono ?_
      rw [h3]
      rintro e w1 ⟨rfl, b1⟩
      clear h3
      have C := (bcell b1).1
      have B1 := B0.trans (b1.mono B0.size)
      have h1 := h.below B1
      go_wp2_with fail
      go_loopw [5] (fun i wr => ∃ k n : Nat, k + 1 ≤ xs.length ∧ i = .int .i64 ((k : Int) + 1) ∧ wr = w1.drewN n ∧ (List.range (k + 1)).all (stepAt m.s xs) = true) (fun i _ => xs.length - (intOf i).toNat)
      case atStart => exact ⟨0, 0, by omega, rfl, rfl, rfl⟩
      case round =>
        obtain ⟨j, n, hk, rfl, rfl, hst⟩ := hrel
        have Hst := Lib.hid hst; clear hst
        by_cases hlt : j + 1 < xs.length
        · obtain ⟨b, o, rfl, hc⟩ := h1.at_ hlt
          have i0 : (0 : Int) ≤ (j : Int) + 1 := by omega
          have i1 : (j : Int) + 1 < (xs.length : Int) := by omega
          have v1 := allW_at H2.out hlt
          have v2 := v1.1; have v3 := v1.2
          clear v1
          obtain ⟨b2, o2, e2, hc2⟩ := h1.at_ (k := j) (by omega)
          injection e2 with e2
          injection e2 with e3 e4
          subst e3 e4
          have v4 := allW_at H2.out (k := j) (by omega)
          have v5 := v4.1; have v6 := v4.2
          clear v4
          have i2 : (0 : Int) ≤ (j : Int) := by omega
          have i3 : (j : Int) < (xs.length : Int) := by omega
          have i4 : (0 : Int) < (j : Int) + 1 := by omega
          have HS := Lib.hid (stepAt_pos (s := m.s) hlt)
          have e5 := fun W => absolute_any (xs[j + 1] - xs[j]) W (by omega) (by omega)
          have E5 := Lib.hid e5; clear e5
          have E6 := Lib.hid (show ((j : Int) + 1).toNat = j + 1 by omega)
          cases hp : decide (m.s < absI (xs[j + 1] - xs[j])) with
          | true =>
            have HR := Lib.hid (fault_3 HL.out H2.out (rangeAll_bad hlt (by rw [HS.out]; simp at hp ⊢; omega)))
            go_wp2_with fail
            go_quiet ((go_at_call 69; first | exact quietSA (E5.out _) | exact quietS (E5.out _)))
            go_wp2_with fail
            go_ret
            exact ⟨retI HR.out.symm, belowD (belowD B1 _) _⟩
          | false =>
            have HO := Lib.hid (show (List.range (j + 1 + 1)).all (stepAt m.s xs) = true by rw [rangeAll_next, Hst.out, HS.out]; simp at hp ⊢; omega)
            go_wp2_with fail
            go_quiet ((go_at_call 69; first | exact quietSA (E5.out _) | exact quietS (E5.out _)))
            go_wp2_with fail
            go_roundw
            case rel => exact ⟨j + 1, _, by omega, by go_num, rfl, HO.out⟩
            case measure => simp [intOf]; omega
        · have hje : xs.length = j + 1 := by omega
          have HO := Lib.hid (show stepsOK m.s xs = true by unfold stepsOK; rw [hje]; exact Hst.out)
          clear hje
          have hj : ¬ (j : Int) + 1 < (xs.length : Int) := by omega
          go_wp2_with fail
          go_loopw [6, 38] (fun _ i wr => ∃ k n : Nat, k ≤ xs.length ∧ i = .int .i64 k ∧ wr = w1.drewN n ∧ (List.range k).all (runAt m.a xs) = true) (fun _ i _ => xs.length - (intOf i).toNat)
          case atStart => exact ⟨0, _, by omega, rfl, rfl, rfl⟩
          case round =>
            obtain ⟨k, n2, hk2, rfl, rfl, hru⟩ := hrel
            have Hru := Lib.hid hru; clear hru
            by_cases hlt2 : k < xs.length
            · have i0 : (0 : Int) ≤ (k : Int) + 1 := by omega
              have i1 : (k : Int) + 1 ≤ (c : Int) := by omega
              have i2 : (0 : Int) ≤ (k : Int) := by omega
              have i3 : (k : Int) < (xs.length : Int) := by omega
              have E6 := Lib.hid (show ((k : Int) + 1).toNat = k + 1 by omega)
              obtain ⟨b, o, rfl, hc⟩ := h1.at_ hlt2
              have hr := h1.take (k + 1)
              have hl : (xs.take (k + 1)).length = k + 1 := by simp; omega
              have e5 := fun n => sameRun_any (some ⟨b, o, none⟩) c (xs.take (k + 1)) (w1.drewN n) (hr.drewN n) (by omega)
              rw [hl] at e5
              have E5 := Lib.hid e5; clear e5 hl hr
              have HE := Lib.hid (show runAt m.a xs k = decide ((endRun (xs.take (k + 1)) : Int) ≤ m.a) from rfl)
              cases hp : decide (m.a < ((endRun (xs.take (k + 1)) : Nat) : Int)) with
              | true =>
                have HR := Lib.hid (fault_4 HL.out H2.out HO.out (rangeAll_bad hlt2 (by rw [HE.out]; simp at hp ⊢; omega)))
                go_wp2_with fail
                go_quiet ((go_at_call 70; first | exact quietQA (E5.out _) | exact quietQ (E5.out _)))
                go_wp2_with fail
                go_ret
                exact ⟨retI HR.out.symm, belowD (belowD B1 _) _⟩
              | false =>
                have HO2 := Lib.hid (show (List.range (k + 1)).all (runAt m.a xs) = true by rw [rangeAll_next, Hru.out, HE.out]; simp at hp ⊢; omega)
                go_wp2_with fail
                go_quiet ((go_at_call 70; first | exact quietQA (E5.out _) | exact quietQ (E5.out _)))
                go_wp2_with fail
                go_roundw
                case rel => exact ⟨k + 1, _, by omega, by go_num, rfl, HO2.out⟩
                case measure => simp [intOf]; omega
            · obtain rfl : k = xs.length := by omega
              have HA2 := Lib.hid (show runsOK m.a xs = true from Hru.out)
              cases hq : decide (kinds xs < m.l) with
              | true =>
                have HR := Lib.hid (fault_5 HL.out H2.out HO.out HA2.out (by simpa using hq))
                go_wp2_with fail
                go_quiet ((go_at_call 71; first | exact quietSA (different_any _ _ _ _ (h1.drewN _) hcap) | exact quietS (different_any _ _ _ _ (h1.drewN _) hcap)))
                go_wp2_with fail
                go_ret
                exact ⟨retI HR.out.symm, belowD (belowD B1 _) _⟩
              | false =>
                have HR := Lib.hid (fault_0 HL.out H2.out HO.out HA2.out (by simpa using hq))
                go_wp2_with fail
                go_quiet ((go_at_call 71; first | exact quietSA (different_any _ _ _ _ (h1.drewN _) hcap) | exact quietS (different_any _ _ _ _ (h1.drewN _) hcap)))
                go_wp2_with fail
                go_ret
                exact ⟨retI HR.out.symm, belowD (belowD B1 _) _⟩
  · have t1 : ((xs.length : Int) != m.c) = true := by simp [hlen]
    have HR := Lib.hid (fault_1 (m := m) (xs := xs) hlen)
    clear hlen
    go_enter Tryz.func51, Tryz.ntmps51
    go_wp2_with fail
    go_ret
    exact ⟨retI HR.out.symm, B0⟩
def isKey (m : Mk) (xs : List Int) : Bool := fault m xs == 0
set_option maxHeartbeats 1000000 in
theorem isKey_any (m : Mk) (A : Option Addr) (c : Nat) (xs : List Int) (w : World) (h : RI w A xs) (hcap : xs.length ≤ c) (hm : isMaker m = true) :
    Calls Tryz.prog 32 #[.agg #[.int .i64 m.c, .int .i64 m.d, .int .i64 m.s, .int .i64 m.a, .int .i64 m.l], .slice A xs.length c] w fun e w' => e = .returned (.bool (isKey m xs)) ∧ Below w.heap.size w w' := by
  have B0 := (Below.refl w.heap.size w).alloc (Nat.le_refl _) (.cells #[.int .i64 m.c, .int .i64 m.d, .int .i64 m.s, .int .i64 m.a, .int .i64 m.l] 25)
  have HM := Lib.hid hm; clear hm
  go_enter Tryz.func32, Tryz.ntmps32
  go_wp2_with fail
  refine (keyFault_any m A c xs _ (h.alloc _) hcap HM.out).mono ?_
  rintro e w1 ⟨rfl, b1⟩
  go_wp2_with fail
  go_ret
  exact ⟨rfl, B0.trans (b1.mono B0.size)⟩
end Go.Proofs.YtdedajohkdbdkaaGreatDoor

/- Contracts of IsRising, IsProgression, l13Fits, changes, IsChangeKey. -/
namespace Go.Proofs.YtdedajohkdbdkaaGreatDoor
set_option linter.unusedVariables false
open Go.RowKit
/-- is the number at place i in range and above the one ahead of it? -/
def risesAt (n : Int) (xs : List Int) (i : Nat) : Bool := decide (0 ≤ xs.getD i 0) && (decide (xs.getD i 0 < n) && (i == 0 || decide (xs.getD (i - 1) 0 < xs.getD i 0)))
def isRising (n : Int) (xs : List Int) : Bool := (List.range xs.length).all (risesAt n xs)
theorem risesAt_0 {n : Int} {xs : List Int} (h : 0 < xs.length) : risesAt n xs 0 = (decide (0 ≤ xs[0]) && decide (xs[0] < n)) := by
  simp [risesAt, List.getElem?_eq_getElem h]
theorem risesAt_s {n : Int} {xs : List Int} {k : Nat} (h : k + 1 < xs.length) : risesAt n xs (k + 1) = (decide (0 ≤ xs[k + 1]) && (decide (xs[k + 1] < n) && decide (xs[k] < xs[k + 1]))) := by
  simp [risesAt, List.getElem?_eq_getElem h, List.getElem?_eq_getElem (show k < xs.length by omega)]
theorem risesAt_lo {n : Int} {xs : List Int} {k : Nat} (h : k < xs.length) (hn : xs[k] < 0) : risesAt n xs k = false := by
  simp [risesAt, List.getElem?_eq_getElem h]; omega
theorem risesAt_hi {n : Int} {xs : List Int} {k : Nat} (h : k < xs.length) (hn : n ≤ xs[k]) : risesAt n xs k = false := by
  simp [risesAt, List.getElem?_eq_getElem h]; omega
set_option maxRecDepth 100000 in
set_option maxHeartbeats 4000000 in
theorem implIsRising_any (A : Option Addr) (c : Nat) (xs : List Int) (n : Int) (w : World) (h : RI w A xs) :
    Calls Tryz.prog 67 #[.slice A xs.length c, .int .i64 n] w fun e w' => e = .returned (.bool (isRising n xs)) ∧ ∃ m, w' = w.drewN m := by
  have hle := h.le
  go_enter Tryz.func67, Tryz.ntmps67
  go_wp2_with fail
  go_loopw [5, 6, 9] (fun _ _ i wr => ∃ k m : Nat, k ≤ xs.length ∧ i = .int .i64 k ∧ wr = w.drewN m ∧ (List.range k).all (risesAt n xs) = true) (fun _ _ i _ => xs.length - (intOf i).toNat)
  case atStart => exact ⟨0, 0, by omega, rfl, rfl, rfl⟩
  case round =>
    obtain ⟨k, m, hk, rfl, rfl, hst⟩ := hrel
    have Hst := Lib.hid hst; clear hst
    by_cases hlt : k < xs.length
    · obtain ⟨b, o, rfl, hc⟩ := h.at_ hlt
      have i0 : (0 : Int) ≤ (k : Int) := by omega
      have i1 : (k : Int) < (xs.length : Int) := by omega
      by_cases p1 : xs[k] < 0
      · have g1 : decide (xs[k] < 0) = true := by simpa using p1
        have HR := Lib.hid (show isRising n xs = false from rangeAll_bad hlt (risesAt_lo hlt p1))
        go_wp2_with fail
        try go_quiet (fail)
        try go_wp2_with fail
        go_ret
        exact ⟨retB HR.out.symm, by first | exact ⟨_, rfl⟩ | exact drewEx⟩
      · have g1 : decide (xs[k] < 0) = false := by simpa using p1
        by_cases p2 : n ≤ xs[k]
        · have g2 : decide (n ≤ xs[k]) = true := by simpa using p2
          have HR := Lib.hid (show isRising n xs = false from rangeAll_bad hlt (risesAt_hi hlt p2))
          go_wp2_with fail
          try go_quiet (fail)
          try go_wp2_with fail
          go_ret
          exact ⟨retB HR.out.symm, by first | exact ⟨_, rfl⟩ | exact drewEx⟩
        · have g2 : decide (n ≤ xs[k]) = false := by simpa using p2
          rcases Nat.eq_zero_or_pos k with rfl | hkp
          · have t2 : decide ((0 : Int) < ((0 : Nat) : Int)) = false := by simp
            simp only [Nat.add_zero] at hc
            have HO := Lib.hid (show (List.range (0 + 1)).all (risesAt n xs) = true by rw [rangeAll_next, risesAt_0 hlt]; simp; omega)
            go_wp2_with fail
            try go_quiet (fail)
            try go_wp2_with fail
            go_roundw
            case rel => exact ⟨1, _, by omega, by go_num, rfl, HO.out⟩
            case measure => simp [intOf]; omega
          · obtain ⟨j, rfl⟩ : ∃ j, k = j + 1 := ⟨k - 1, by omega⟩
            obtain ⟨b2, o2, e2, hc2⟩ := h.at_ (k := j) (by omega)
            injection e2 with e2
            injection e2 with e3 e4
            subst e3 e4
            have i2 : (0 : Int) ≤ (j : Int) := by omega
            have i3 : (j : Int) < (xs.length : Int) := by omega
            have i4 : (0 : Int) < (j : Int) + 1 := by omega
            by_cases p3 : xs[j + 1] ≤ xs[j]
            · have g3 : decide (xs[j + 1] ≤ xs[j]) = true := by simpa using p3
              have HR := Lib.hid (show isRising n xs = false from rangeAll_bad hlt (by rw [risesAt_s hlt]; simp; omega))
              go_wp2_with fail
              try go_quiet (fail)
              try go_wp2_with fail
              go_ret
              exact ⟨retB HR.out.symm, by first | exact ⟨_, rfl⟩ | exact drewEx⟩
            · have g3 : decide (xs[j + 1] ≤ xs[j]) = false := by simpa using p3
              have HO := Lib.hid (show (List.range (j + 1 + 1)).all (risesAt n xs) = true by rw [rangeAll_next, risesAt_s hlt, Hst.out]; simp; omega)
              go_wp2_with fail
              try go_quiet (fail)
              try go_wp2_with fail
              go_roundw
              case rel => exact ⟨j + 1 + 1, _, by omega, by go_num, rfl, HO.out⟩
              case measure => simp [intOf]; omega
    · obtain rfl : k = xs.length := by omega
      go_wp2_with fail
      go_ret
      exact ⟨retB (by have := Hst.out; exact this.symm), _, rfl⟩
def isProg (m : Mk) (xs ys : List Int) (s : Int) : Bool := isKey m xs && (decide (0 < ys.length) && (isRising m.c ys && inB s 1 2))
def isProgF (m : Mk) (xs ys : List Int) (s : Int) : Bool := isMaker m && isProg m xs ys s
end Go.Proofs.YtdedajohkdbdkaaGreatDoor
