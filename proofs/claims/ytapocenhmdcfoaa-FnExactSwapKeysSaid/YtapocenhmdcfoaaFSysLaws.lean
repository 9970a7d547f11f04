/- Contracts of LocksOf, IsDesign, IsOpenPart, CountFalse, FalseOpenings, PartFault. -/
import Derived.Test.YtapocenhmdcfoaaFPartCode
namespace Go.Proofs.Ytapocenhmdcfoaa
set_option linter.unusedVariables false
open Go.RowKit
def ResLSC (w : World) (r : List (List (List Int)) × Int) (e : Ending) (w' : World) : Prop :=
  ∃ A c, e = .returned (.tuple #[.slice A r.1.length c, .int .i64 r.2]) ∧ r.1.length ≤ c ∧ RLS w' A r.1 ∧ OLS w' w.heap.size w'.heap.size (.slice A r.1.length c) r.1 ∧ Below w.heap.size w w'
def locksR (m : Mk) (t cuts : List (List Int)) : List (List (List Int)) × Int := if cutsC m t cuts = 0 then (locksF m t cuts, 0) else ([], cutsC m t cuts)
theorem locks_no {m : Mk} {t cuts : List (List Int)} (h : cutsC m t cuts ≠ 0) : ([], cutsC m t cuts) = locksR m t cuts := by unfold locksR; rw [if_neg h]
theorem locks_yes {m : Mk} {t cuts : List (List Int)} (h : cutsC m t cuts = 0) : (locksF m t cuts, 0) = locksR m t cuts := by unfold locksR; rw [if_pos h]
/-! ### IsDesign, IsOpenPart -/
def designF (m : Mk) (t cuts : List (List Int)) : Bool := (cutsC m t cuts == 0) && openPart m t cuts
def openPartF (m : Mk) (t cuts : List (List Int)) : Bool := (partC m t cuts == 0) && openPart m t cuts
end Go.Proofs.Ytapocenhmdcfoaa
