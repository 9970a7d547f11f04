/- Contracts of l13Fits, changes, IsChangeKey. -/
import Derived.Test.YtdedajohkdbdkaaGreatFKey
namespace Go.Proofs.YtdedajohkdbdkaaGreat
set_option linter.unusedVariables false
open Go.RowKit
/-- may the cut stand in the chamber of a change key? -/
def fits (xs ys : List Int) (s : Int) (ch : Nat) (d : Int) : Bool := if hasI ys ch = true then (d - xs.getD ch 0 != 0 && (d - xs.getD ch 0).tmod s == 0) else d - xs.getD ch 0 == 0
theorem getD_at' {xs : List Int} {k : Nat} (h : k < xs.length) : xs.getD k 0 = xs[k] := by simp [List.getD, List.getElem?_eq_getElem h]
def changeAt (xs ys : List Int) (s : Int) (key : List Int) (i : Nat) : Bool := fits xs ys s i (key.getD i 0)
def isChange (xs ys : List Int) (s : Int) (key : List Int) : Bool := (List.range key.length).all (changeAt xs ys s key)
/-- small numbers -/
def small (xs : List Int) : Prop := ∀ k (hk : k < xs.length), -1000 ≤ xs[k] ∧ xs[k] ≤ 1000
/-- the bounds of a key -/
theorem key_small {m : Mk} {xs : List Int} (hm : isMaker m = true) (h : isKey m xs = true) : (xs.length : Int) = m.c ∧ small xs := by
  have := fault_zero_iff.1 (show fault m xs = 0 by simpa [isKey] using h)
  obtain ⟨_, _, _, d8, _⟩ := mk_bounds hm
  exact ⟨this.1, fun k hk => by have := allW_at this.2.1 hk; omega⟩
theorem isProg_iff {m : Mk} {xs ys : List Int} {s : Int} : isProg m xs ys s = true ↔ isKey m xs = true ∧ 0 < ys.length ∧ isRising m.c ys = true ∧ 1 ≤ s ∧ s ≤ 2 := by
  unfold isProg; simp only [Bool.and_eq_true, decide_eq_true_eq, inB_iff]
def isChangeKeyF (m : Mk) (xs ys : List Int) (s : Int) (key : List Int) : Bool := isProgF m xs ys s && (isKey m key && isChange xs ys s key)
end Go.Proofs.YtdedajohkdbdkaaGreat
