/- Contracts of isPath, levelsCode, l12Code. -/
import Derived.Test.YtdedajohkdbdkaaGreatFKey
import Derived.Test.YtdedajohkdbdkaaGreatFLevels
import Derived.Test.YtdedajohkdbdkaaGreatMem
namespace Go.Proofs.YtdedajohkdbdkaaGreat
set_option linter.unusedVariables false
open Go.RowKit
theorem powW_tab : ∀ b : Fin 8, ∀ n : Fin 7, 1 ≤ b.val → 1 ≤ powW (b.val : Int) n.val ∧ powW (b.val : Int) n.val ≤ 117649 := by decide +kernel
theorem powW_in {b : Int} {n : Nat} (h1 : 1 ≤ b) (h2 : b ≤ 7) (h3 : n ≤ 6) : 1 ≤ powW b n ∧ powW b n ≤ 117649 := by
  obtain ⟨k, rfl⟩ := Int.eq_ofNat_of_zero_le (show 0 ≤ b by omega)
  exact powW_tab ⟨k, by omega⟩ ⟨n, by omega⟩ (by simp only; omega)
def pathAt (m : Mk) (ls ps : List Int) (i : Nat) : Bool := inB (ps.getD i 0) 0 (powW (m.d - 1) (ls.getD i 0).toNat - 1)
def isPath (m : Mk) (ls ps : List Int) : Bool := decide (ps.length ≤ ls.length) && (List.range ps.length).all (pathAt m ls ps)
def levelsCode (m : Mk) (ms ls ps : List Int) : Int := if (isMaker m && cutsOK m ms) = false then 1 else if (areLevels m ls && isPath m ls ps) = false then 2 else 0
theorem pathAt_in {m : Mk} {ls ps : List Int} {k : Nat} (h : k < ps.length) (h2 : k < ls.length) : pathAt m ls ps k = inB ps[k] 0 (powW (m.d - 1) ls[k].toNat - 1) := by
  simp [pathAt, List.getElem?_eq_getElem h, List.getElem?_eq_getElem h2]
theorem lc_1 {m : Mk} {ms ls ps : List Int} (h : isMaker m = false) : levelsCode m ms ls ps = 1 := by simp [levelsCode, h]
theorem lc_1' {m : Mk} {ms ls ps : List Int} (h : cutsOK m ms = false) : levelsCode m ms ls ps = 1 := by simp [levelsCode, h]
theorem lc_2 {m : Mk} {ms ls ps : List Int} (h : isMaker m = true) (h2 : cutsOK m ms = true) (h3 : areLevels m ls = false) : levelsCode m ms ls ps = 2 := by simp [levelsCode, h, h2, h3]
theorem lc_2' {m : Mk} {ms ls ps : List Int} (h : isMaker m = true) (h2 : cutsOK m ms = true) (h3 : isPath m ls ps = false) : levelsCode m ms ls ps = 2 := by simp [levelsCode, h, h2, h3]
theorem lc_0 {m : Mk} {ms ls ps : List Int} (h : isMaker m = true) (h2 : cutsOK m ms = true) (h3 : areLevels m ls = true) (h4 : isPath m ls ps = true) : levelsCode m ms ls ps = 0 := by simp [levelsCode, h, h2, h3, h4]
theorem lc_0_iff {m : Mk} {ms ls ps : List Int} : levelsCode m ms ls ps = 0 ↔ isMaker m = true ∧ cutsOK m ms = true ∧ areLevels m ls = true ∧ isPath m ls ps = true := by
  unfold levelsCode
  cases isMaker m <;> cases cutsOK m ms <;> cases areLevels m ls <;> cases isPath m ls ps <;> simp
end Go.Proofs.YtdedajohkdbdkaaGreat
