/- Plain laws: parts, as the program tells them; a key of every maker. No program. -/
import Derived.Test.YtdedajohkdbdkaaGreatPSysLaw
import Derived.Test.YtdedajohkdbdkaaGreatFSysLaws2
namespace Go.Proofs.YtdedajohkdbdkaaGreat
set_option linter.unusedVariables false
/-- what is told of partial cuts agrees -/
theorem parts_end {m : Mk} {t cuts : List (List Int)} {n c one i k three : Int} (h : partC m t cuts = 0) (hl : longR m t cuts = (n, 0)) (hc : cFalseR m t cuts = (c, one)) (hp : partFaultR m t cuts = (i, k, three)) :
    (c == 0) = openPart m t cuts ∧ (three == 4) = openPart m t cuts ∧ (n == (cuts.length : Int)) = openPart m t cuts ∧ n = (longF m t cuts : Int) := by
  unfold longR at hl; unfold cFalseR at hc; unfold partFaultR at hp
  rw [if_pos h] at hl hc hp
  have e1 : n = (longF m t cuts : Int) := (congrArg Prod.fst hl).symm
  have e2 : c = ((faultsF m t cuts).length : Int) := (congrArg Prod.fst hc).symm
  have e3 : three = (faultOf (faultsF m t cuts)).2.2 := (congrArg (fun x => x.2.2) hp).symm
  refine ⟨by rw [e2]; rfl, ?_, ?_, e1⟩
  · rw [e3]
    unfold openPart
    cases faultsF m t cuts with
    | nil => rfl
    | cons x r => simp [faultOf]; omega
  · rw [e1, long_all, Bool.eq_iff_iff, beq_iff_eq, decide_eq_true_eq]; omega
theorem parts_bad {m : Mk} {t cuts : List (List Int)} {n k : Int} (hl : longR m t cuts = (n, k)) : partC m t cuts = k := by
  unfold longR at hl
  by_cases h : partC m t cuts = 0
  · rw [if_pos h] at hl; rw [h]; exact congrArg Prod.snd hl
  · rw [if_neg h] at hl; exact congrArg Prod.snd hl
theorem parts_at {m : Mk} {t cuts : List (List Int)} {j : Nat} (h : partC m t cuts = 0) (hj : j ≤ cuts.length) : ((partC m t (cuts.take j) == 0) && openPart m t (cuts.take j)) = decide ((j : Int) ≤ (longF m t cuts : Int)) := by
  rw [partC_take h, long_law hj]
  simp
end Go.Proofs.YtdedajohkdbdkaaGreat
