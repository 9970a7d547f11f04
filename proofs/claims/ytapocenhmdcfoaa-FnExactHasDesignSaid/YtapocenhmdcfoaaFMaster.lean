/- Contracts of MasterKeys. -/
import Derived.Test.YtapocenhmdcfoaaFTable
namespace Go.Proofs.Ytapocenhmdcfoaa
set_option linter.unusedVariables false
open Go.RowKit
/-- the numbers of the rows that p keeps -/
def selF (p : List Int → Bool) (t : List (List Int)) : List Int := (t.zipIdx.filter fun x => p x.1).map fun x => (x.2 : Int)
theorem selF_succ (p : List Int → Bool) (t : List (List Int)) (k : Nat) (h : k < t.length) : selF p (t.take (k + 1)) = selF p (t.take k) ++ if p t[k] then [(k : Int)] else [] := by
  have hl : (t.take k).length = k := by simp; omega
  unfold selF
  rw [List.take_succ_eq_append_getElem h, List.zipIdx_append, List.filter_append, List.map_append, hl]
  cases hp : p t[k] <;> simp [hp]
theorem selF_len (p : List Int → Bool) (t : List (List Int)) : (selF p t).length ≤ t.length := by
  unfold selF
  rw [List.length_map]
  exact Nat.le_trans (List.length_filter_le _ _) (by simp)
def masterKeys (t : List (List Int)) : List Int × Int := if isTable t then (selF (fun r => !hasI r 0) t, 0) else ([], 1)
end Go.Proofs.Ytapocenhmdcfoaa
