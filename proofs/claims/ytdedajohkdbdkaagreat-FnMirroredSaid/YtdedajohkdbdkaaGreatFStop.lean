/- Contracts of StopChamber. -/
import Derived.Test.YtdedajohkdbdkaaGreatFSysLaws2
namespace Go.Proofs.YtdedajohkdbdkaaGreat
set_option linter.unusedVariables false
open Go.RowKit
/-- the first of n chambers in which the cut does not stand in the lock's set -/
def firstStop (l : List (List Int)) (xs : List Int) : Nat → Int × Int
  | 0 => (0, 4)
  | n + 1 => if (firstStop l xs n).2 = 4 then (if opensAt l xs n = true then (0, 4) else ((n : Int), 0)) else firstStop l xs n
theorem firstStop_all {l : List (List Int)} {xs : List Int} : ∀ {n : Nat}, (List.range n).all (opensAt l xs) = true → firstStop l xs n = (0, 4)
  | 0, _ => rfl
  | n + 1, h => by
    rw [rangeAll_next, Bool.and_eq_true] at h
    unfold firstStop
    rw [firstStop_all h.1, if_pos rfl, if_pos h.2]
theorem firstStop_hit {l : List (List Int)} {xs : List Int} {k : Nat} (h : (List.range k).all (opensAt l xs) = true) (h2 : opensAt l xs k = false) : ∀ n, k < n → firstStop l xs n = ((k : Int), 0)
  | 0, hn => by omega
  | n + 1, hn => by
    by_cases e : k = n
    · subst e
      unfold firstStop
      rw [firstStop_all h, if_pos rfl, if_neg (by rw [h2]; simp)]
    · unfold firstStop
      rw [firstStop_hit h h2 n (by omega), if_neg (by simp)]
def pairOK (t : List (List Int)) (k d : Int) : Bool := inB k 0 (t.length - 1) && inB d 0 ((t.headD []).length - 1)
def stopL (m : Mk) (t cuts : List (List Int)) (k d : Int) : Int × Int := firstStop (hullF m.c.toNat m.d.toNat (keysFor t cuts d.toNat)) (cuts.getD k.toNat []) m.c.toNat
def stopR (m : Mk) (t cuts : List (List Int)) (k d : Int) : Int × Int := if cutsC m t cuts = 0 then (if pairOK t k d = true then stopL m t cuts k d else (0, 2)) else (0, cutsC m t cuts)
theorem stop_no {m : Mk} {t cuts : List (List Int)} {k d : Int} (h : cutsC m t cuts ≠ 0) : (0, cutsC m t cuts) = stopR m t cuts k d := by unfold stopR; rw [if_neg h]
theorem stop_no2 {m : Mk} {t cuts : List (List Int)} {k d : Int} (h : cutsC m t cuts = 0) (h2 : pairOK t k d = false) : (0, 2) = stopR m t cuts k d := by unfold stopR; rw [if_pos h, if_neg (by rw [h2]; simp)]
theorem stop_yes {m : Mk} {t cuts : List (List Int)} {k d : Int} (h : cutsC m t cuts = 0) (h2 : pairOK t k d = true) : stopL m t cuts k d = stopR m t cuts k d := by unfold stopR; rw [if_pos h, if_pos h2]
end Go.Proofs.YtdedajohkdbdkaaGreat
