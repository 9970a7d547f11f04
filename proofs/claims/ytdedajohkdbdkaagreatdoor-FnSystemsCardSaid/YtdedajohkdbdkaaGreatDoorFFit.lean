/- Contracts of CountCombinations, allowedOpeners, l14Fitting. -/
import Derived.Test.YtdedajohkdbdkaaGreatDoorFGhost
import Derived.Test.YtdedajohkdbdkaaGreatDoorPGhost
import Derived.Test.YtdedajohkdbdkaaGreatDoorMem
namespace Go.Proofs.YtdedajohkdbdkaaGreatDoor
set_option linter.unusedVariables false
open Go.RowKit
def prodW (l : List (List Int)) : Int := l.foldl (fun a s => wrap64 (a * (s.length : Int))) 1
theorem prodW_succ (l : List (List Int)) (k : Nat) (h : k < l.length) : prodW (l.take (k + 1)) = wrap64 (prodW (l.take k) * (l[k].length : Int)) := by
  unfold prodW; rw [List.take_succ_eq_append_getElem h, List.foldl_append]; rfl
def combR (m : Mk) (l : List (List Int)) : Int × Int := if isLockF m l = true then (prodW l, 0) else (0, 1)
theorem comb_1 {m : Mk} {l : List (List Int)} (h : isLockF m l = false) : (0, 1) = combR m l := by simp [combR, h]
theorem comb_0 {m : Mk} {l : List (List Int)} (h : isLockF m l = true) : (prodW l, 0) = combR m l := by simp [combR, h]
theorem RowsR.snoc {w : World} {us : List Value} {xss : List (List Int)} {A : Option Addr} {c : Nat} {xs : List Int} (h : RowsR w us xss) (hc : xs.length ≤ c) (hr : RI w A xs) : RowsR w (us ++ [.slice A xs.length c]) (xss ++ [xs]) :=
  h.app ⟨rfl, fun j hj => by
    match j, hj with
    | 0, _ => exact ⟨A, c, rfl, hc, hr⟩⟩
end Go.Proofs.YtdedajohkdbdkaaGreatDoor
