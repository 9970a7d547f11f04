/- Contracts of l12Cuts, cutsAt, CutsAt. -/
import Derived.Test.YtdedajohkdbdkaaGreatPCuts
namespace Go.Proofs.YtdedajohkdbdkaaGreat
set_option linter.unusedVariables false
open Go.RowKit
theorem getD_at'' {xs : List Int} {k : Nat} (h : k < xs.length) : xs.getD k 0 = xs[k] := by simp [List.getD, List.getElem?_eq_getElem h]
def cutsAtR (m : Mk) (ms ls ps : List Int) : List Int × Int := if levelsCode m ms ls ps = 0 then (cutsAtF m ms ls ps, 0) else ([], levelsCode m ms ls ps)
theorem resI_C {w a w' : World} {r : List Int × Int} {xs : List Int} {k : Int} {A : Option Addr} {c : Nat} (h : (xs, k) = r) (hc : xs.length ≤ c) (hr : RI w' A xs) (ho : OI w' a.heap.size w'.heap.size (.slice A xs.length c) xs) (hb : Below w.heap.size w a) (hb2 : Below a.heap.size a w') :
    ResIC w r (.returned (.tuple #[.slice A xs.length c, .int .i64 k])) w' := resIC_of h hc hr ho hb hb2
end Go.Proofs.YtdedajohkdbdkaaGreat
