/- Contracts of IsRising, IsProgression, l13Fits, changes, IsChangeKey. -/
import Derived.Test.YtapocenhmdcfoaaGreatFFault
namespace Go.Proofs.YtapocenhmdcfoaaGreat
set_option linter.unusedVariables false
open Go.RowKit
/-- is the number at place i in range and above the one ahead of it? -/
def risesAt (n : Int) (xs : List Int) (i : Nat) : Bool := decide (0 ≤ xs.getD i 0) && (decide (xs.getD i 0 < n) && (i == 0 || decide (xs.getD (i - 1) 0 < xs.getD i 0)))
def isRising (n : Int) (xs : List Int) : Bool := (List.range xs.length).all (risesAt n xs)
theorem risesAt_0 {n : Int} {xs : List Int} (h : 0 < xs.length) : risesAt n xs 0 = (decide (0 ≤ xs[0]) && decide (xs[0] < n)) := by
  simp [risesAt, List.getElem?_eq_getElem h]
theorem risesAt_s {n : Int} {xs : List Int} {k : Nat} (h : k + 1 < xs.length) : risesAt n xs (k + 1) = (decide (0 ≤ xs[k + 1]) && (decide (xs[k + 1] < n) && decide (xs[k] < xs[k + 1]))) := by
  simp [risesAt, List.getElem?_eq_getElem h, List.getElem?_eq_getElem (show k < xs.length by omega)]
theorem risesAt_lo {n : Int} {xs : List Int} {k : Nat} (h : k < xs.length) (hn : xs[k] < 0) : risesAt n xs k = false := by
  simp [risesAt, List.getElem?_eq_getElem h]; omega
theorem risesAt_hi {n : Int} {xs : List Int} {k : Nat} (h : k < xs.length) (hn : n ≤ xs[k]) : risesAt n xs k = false := by
  simp [risesAt, List.getElem?_eq_getElem h]; omega
def isProg (m : Mk) (xs ys : List Int) (s : Int) : Bool := isKey m xs && (decide (0 < ys.length) && (isRising m.c ys && inB s 1 2))
def isProgF (m : Mk) (xs ys : List Int) (s : Int) : Bool := isMaker m && isProg m xs ys s
end Go.Proofs.YtapocenhmdcfoaaGreat
