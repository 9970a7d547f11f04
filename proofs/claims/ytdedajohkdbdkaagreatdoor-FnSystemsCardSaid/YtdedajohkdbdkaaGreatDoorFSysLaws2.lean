/- Contracts of CountFalse, FalseOpenings, PartFault. -/
import Derived.Test.YtdedajohkdbdkaaGreatDoorFSysLaws
namespace Go.Proofs.YtdedajohkdbdkaaGreatDoor
set_option linter.unusedVariables false
open Go.RowKit
def cFalseR (m : Mk) (t cuts : List (List Int)) : Int × Int := if partC m t cuts = 0 then (((faultsF m t cuts).length : Int), 0) else (0, partC m t cuts)
theorem cFalse_no {m : Mk} {t cuts : List (List Int)} (h : partC m t cuts ≠ 0) : (0, partC m t cuts) = cFalseR m t cuts := by unfold cFalseR; rw [if_neg h]
theorem cFalse_yes {m : Mk} {t cuts : List (List Int)} (h : partC m t cuts = 0) : (((faultsF m t cuts).length : Int), 0) = cFalseR m t cuts := by unfold cFalseR; rw [if_pos h]
def falseR (m : Mk) (t cuts : List (List Int)) : List (List Int) × Int := if cutsC m t cuts = 0 then (faultsF m t cuts, 0) else ([], cutsC m t cuts)
theorem false_no {m : Mk} {t cuts : List (List Int)} (h : cutsC m t cuts ≠ 0) : ([], cutsC m t cuts) = falseR m t cuts := by unfold falseR; rw [if_neg h]
theorem false_yes {m : Mk} {t cuts : List (List Int)} (h : cutsC m t cuts = 0) : (faultsF m t cuts, 0) = falseR m t cuts := by unfold falseR; rw [if_pos h]
/-! ### PartFault -/
def ResNNN (w : World) (r : Int × Int × Int) (e : Ending) (w' : World) : Prop := e = .returned (.tuple #[.int .i64 r.1, .int .i64 r.2.1, .int .i64 r.2.2]) ∧ Below w.heap.size w w'
theorem resNNN_of {w w' : World} {r : Int × Int × Int} {a b c : Int} (h : (a, b, c) = r) (hb : Below w.heap.size w w') : ResNNN w r (.returned (.tuple #[.int .i64 a, .int .i64 b, .int .i64 c])) w' := by subst h; exact ⟨rfl, hb⟩
def faultOf (fs : List (List Int)) : Int × Int × Int := match fs with
  | [] => (0, 0, 4)
  | x :: _ => (x.getD 0 0, x.getD 1 0, 0)
def partFaultR (m : Mk) (t cuts : List (List Int)) : Int × Int × Int := if partC m t cuts = 0 then faultOf (faultsF m t cuts) else (0, 0, partC m t cuts)
theorem pf_no {m : Mk} {t cuts : List (List Int)} (h : partC m t cuts ≠ 0) : (0, 0, partC m t cuts) = partFaultR m t cuts := by unfold partFaultR; rw [if_neg h]
theorem pf_yes {m : Mk} {t cuts : List (List Int)} (h : partC m t cuts = 0) : faultOf (faultsF m t cuts) = partFaultR m t cuts := by unfold partFaultR; rw [if_pos h]
theorem faults_two {m : Mk} {t cuts : List (List Int)} {x : List Int} (h : x ∈ faultsF m t cuts) : x.length = 2 := by
  unfold faultsF faultsN at h
  obtain ⟨k, _, hx⟩ := List.mem_flatMap.1 h
  unfold faultRow at hx
  obtain ⟨d, _, rfl⟩ := List.mem_map.1 hx
  rfl
theorem faultOf_0 {fs : List (List Int)} (h : fs.length = 0) : (0, 0, 4) = faultOf fs := by cases fs; rfl; simp at h
theorem faultOf_1 {fs : List (List Int)} (h : 0 < fs.length) (h2 : fs[0].length = 2) : (fs[0][0], fs[0][1], 0) = faultOf fs := by
  cases fs with
  | nil => simp at h
  | cons x r =>
    simp only [List.getElem_cons_zero] at h2 ⊢
    unfold faultOf
    simp [h2]
end Go.Proofs.YtdedajohkdbdkaaGreatDoor
