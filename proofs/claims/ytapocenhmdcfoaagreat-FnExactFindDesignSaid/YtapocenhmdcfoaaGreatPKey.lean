/- Plain words and laws on keys: steps, runs, kinds, faults. No program. -/
import Derived.Test.YtapocenhmdcfoaaGreatFMaker
namespace Go.Proofs.YtapocenhmdcfoaaGreat
set_option linter.unusedVariables false
def absI (n : Int) : Int := max n (-n)
theorem absI_le {n a : Int} : absI n ≤ a ↔ n ≤ a ∧ -n ≤ a := by unfold absI; omega
/-- how many cuts at the end are equal (1 of none) -/
def endRun (xs : List Int) : Nat := match xs.reverse with
  | [] => 1
  | x :: r => 1 + (r.takeWhile (· == x)).length
theorem endRun_one (x : Int) : endRun [x] = 1 := by simp [endRun]
theorem endRun_nil : endRun [] = 1 := rfl
theorem endRun_snoc2 (ys : List Int) (a b : Int) : endRun (ys ++ [a] ++ [b]) = if a = b then endRun (ys ++ [a]) + 1 else 1 := by
  simp only [endRun, List.reverse_append, List.reverse_cons, List.reverse_nil, List.nil_append, List.cons_append]
  by_cases h : a = b
  · subst h; simp; omega
  · simp [h]
theorem endRun_succ (xs : List Int) (k : Nat) (h : k + 1 < xs.length) : endRun (xs.take (k + 1 + 1)) = if xs[k] = xs[k + 1] then endRun (xs.take (k + 1)) + 1 else 1 := by
  rw [List.take_succ_eq_append_getElem h, List.take_succ_eq_append_getElem (show k < xs.length by omega), endRun_snoc2]
theorem takeWhile_le (p : Int → Bool) (l : List Int) : (l.takeWhile p).length ≤ l.length := by
  induction l with
  | nil => simp
  | cons x r ih => rw [List.takeWhile_cons]; split <;> simp <;> omega
theorem endRun_le (xs : List Int) : 1 ≤ endRun xs ∧ endRun xs ≤ xs.length + 1 := by
  unfold endRun
  have hl : xs.reverse.length = xs.length := List.length_reverse
  split
  · omega
  · rename_i x r e
    rw [e] at hl
    have := takeWhile_le (· == x) r
    simp at hl; omega
/-- does the step at place i keep to s? -/
def stepAt (s : Int) (xs : List Int) (i : Nat) : Bool := i == 0 || decide (absI (xs.getD i 0 - xs.getD (i - 1) 0) ≤ s)
def stepsOK (s : Int) (xs : List Int) : Bool := (List.range xs.length).all (stepAt s xs)
/-- is the run at place i at most a? -/
def runAt (a : Int) (xs : List Int) (i : Nat) : Bool := decide ((endRun (xs.take (i + 1)) : Int) ≤ a)
def runsOK (a : Int) (xs : List Int) : Bool := (List.range xs.length).all (runAt a xs)
/-- is place i the first one of its number? -/
def newAt (xs : List Int) (i : Nat) : Bool := !hasI (xs.take i) (xs.getD i 0)
def kindsN (xs : List Int) (k : Nat) : Nat := ((List.range k).filter (newAt xs)).length
def kinds (xs : List Int) : Int := (kindsN xs xs.length : Nat)
def cutsOK (m : Mk) (xs : List Int) : Bool := (xs.length : Int) == m.c && allW 0 (m.d - 1) xs
def fault (m : Mk) (xs : List Int) : Int :=
  if (xs.length : Int) ≠ m.c then 1 else if allW 0 (m.d - 1) xs = false then 2 else if stepsOK m.s xs = false then 3 else if runsOK m.a xs = false then 4 else if kinds xs < m.l then 5 else 0
theorem rangeAll_bad {p : Nat → Bool} {n k : Nat} (hk : k < n) (h : p k = false) : (List.range n).all p = false := by
  rw [Bool.eq_false_iff]; intro ha; rw [List.all_eq_true] at ha; have := ha k (List.mem_range.2 hk); rw [h] at this; cases this
theorem rangeAll_next (p : Nat → Bool) (k : Nat) : (List.range (k + 1)).all p = ((List.range k).all p && p k) := by simp [List.range_succ]
theorem kindsN_succ (xs : List Int) (k : Nat) : kindsN xs (k + 1) = kindsN xs k + if newAt xs k = true then 1 else 0 := by
  unfold kindsN; rw [List.range_succ, List.filter_append, List.length_append]
  cases h : newAt xs k <;> simp [h]
theorem kindsN_le (xs : List Int) (k : Nat) : kindsN xs k ≤ k := by
  unfold kindsN; exact Nat.le_trans (List.length_filter_le _ _) (by simp)
/-- the greatest run so far -/
def maxRun (xs : List Int) : Nat → Nat
  | 0 => 0
  | k + 1 => max (maxRun xs k) (endRun (xs.take (k + 1)))
theorem maxRun_le (xs : List Int) (k : Nat) (h : k ≤ xs.length) : maxRun xs k ≤ xs.length + 1 := by
  induction k with
  | zero => simp [maxRun]
  | succ k ih =>
    have := (endRun_le (xs.take (k + 1))).2
    simp only [List.length_take] at this
    have := ih (by omega); simp only [maxRun]; omega
theorem maxRun_ok (a : Int) (xs : List Int) (k : Nat) : ((List.range k).all (runAt a xs) = true) ↔ ((maxRun xs k : Int) ≤ a ∨ k = 0) := by
  induction k with
  | zero => simp
  | succ k ih =>
    rw [rangeAll_next, Bool.and_eq_true, ih]
    simp only [runAt, decide_eq_true_eq]
    have h1 := (endRun_le (xs.take (k + 1))).1
    have e : maxRun xs (k + 1) = max (maxRun xs k) (endRun (xs.take (k + 1))) := rfl
    rw [e]
    rcases Nat.eq_zero_or_pos k with rfl | hk
    · simp only [maxRun]; omega
    · rcases Nat.le_total (maxRun xs k) (endRun (xs.take (k + 1))) with h | h
      · rw [Nat.max_eq_right h]; omega
      · rw [Nat.max_eq_left h]; omega
theorem maxRun_all {a : Int} {xs : List Int} (hn : 0 < xs.length) : runsOK a xs = decide ((maxRun xs xs.length : Int) ≤ a) := by
  rw [Bool.eq_iff_iff, decide_eq_true_eq]; unfold runsOK; rw [maxRun_ok]; omega
theorem fault_1 {m : Mk} {xs : List Int} (h : (xs.length : Int) ≠ m.c) : fault m xs = 1 := by simp [fault, h]
theorem fault_2 {m : Mk} {xs : List Int} (h : (xs.length : Int) = m.c) (h2 : allW 0 (m.d - 1) xs = false) : fault m xs = 2 := by simp [fault, h, h2]
theorem fault_3 {m : Mk} {xs : List Int} (h : (xs.length : Int) = m.c) (h2 : allW 0 (m.d - 1) xs = true) (h3 : stepsOK m.s xs = false) : fault m xs = 3 := by simp [fault, h, h2, h3]
theorem fault_4 {m : Mk} {xs : List Int} (h : (xs.length : Int) = m.c) (h2 : allW 0 (m.d - 1) xs = true) (h3 : stepsOK m.s xs = true) (h4 : runsOK m.a xs = false) : fault m xs = 4 := by simp [fault, h, h2, h3, h4]
theorem fault_5 {m : Mk} {xs : List Int} (h : (xs.length : Int) = m.c) (h2 : allW 0 (m.d - 1) xs = true) (h3 : stepsOK m.s xs = true) (h4 : runsOK m.a xs = true) (h5 : kinds xs < m.l) : fault m xs = 5 := by simp [fault, h, h2, h3, h4, h5]
theorem fault_0 {m : Mk} {xs : List Int} (h : (xs.length : Int) = m.c) (h2 : allW 0 (m.d - 1) xs = true) (h3 : stepsOK m.s xs = true) (h4 : runsOK m.a xs = true) (h5 : ¬ kinds xs < m.l) : fault m xs = 0 := by simp [fault, h, h2, h3, h4, h5]
theorem allW_at {lo hi : Int} {xs : List Int} (h : allW lo hi xs = true) {k : Nat} (hk : k < xs.length) : lo ≤ xs[k] ∧ xs[k] ≤ hi := by
  unfold allW at h; rw [List.all_eq_true] at h; exact inB_iff.1 (h _ (List.getElem_mem hk))
theorem stepAt_pos {s : Int} {xs : List Int} {k : Nat} (h : k + 1 < xs.length) : stepAt s xs (k + 1) = decide (absI (xs[k + 1] - xs[k]) ≤ s) := by
  simp [stepAt, List.getElem?_eq_getElem h, List.getElem?_eq_getElem (show k < xs.length by omega)]
theorem newAt_in {xs : List Int} {k : Nat} (h : k < xs.length) : newAt xs k = !hasI (xs.take k) xs[k] := by
  simp [newAt, List.getElem?_eq_getElem h]
theorem fault_zero_iff {m : Mk} {xs : List Int} : fault m xs = 0 ↔ (xs.length : Int) = m.c ∧ allW 0 (m.d - 1) xs = true ∧ stepsOK m.s xs = true ∧ runsOK m.a xs = true ∧ m.l ≤ kinds xs := by
  unfold fault
  by_cases h1 : (xs.length : Int) = m.c
  · rw [if_neg (by simpa using h1)]
    cases h2 : allW 0 (m.d - 1) xs
    · simp
    · cases h3 : stepsOK m.s xs
      · simp
      · cases h4 : runsOK m.a xs
        · simp
        · by_cases h5 : kinds xs < m.l
          · simp [h5]; try omega
          · simp [h5, h1]; try omega
  · simp [h1]
end Go.Proofs.YtapocenhmdcfoaaGreat
