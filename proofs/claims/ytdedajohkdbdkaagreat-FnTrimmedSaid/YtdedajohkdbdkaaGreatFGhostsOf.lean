/- Contracts of GhostsOf. -/
import Derived.Test.YtdedajohkdbdkaaGreatFEachGhost
import Derived.Test.YtdedajohkdbdkaaGreatFChKeys
namespace Go.Proofs.YtdedajohkdbdkaaGreat
set_option linter.unusedVariables false
open Go.RowKit
def visG (most : Nat) (s : List (List Int)) (k : List Int) : Bool × List (List Int) := if s.length < most then (decide (s.length + 1 < most), s ++ [k]) else (false, s)
theorem visG_lt {most : Nat} {s : List (List Int)} (h : s.length < most) (k : List Int) : visG most s k = (decide (s.length + 1 < most), s ++ [k]) := by unfold visG; rw [if_pos h]
theorem visG_ge {most : Nat} {s : List (List Int)} (h : ¬ s.length < most) (k : List Int) : visG most s k = (false, s) := by unfold visG; rw [if_neg h]
theorem runVis_G (most : Nat) : ∀ (ks s : List (List Int)), s.length ≤ most → (runVis (visG most) s ks).2 = (s ++ ks).take most
  | [], s, h => by rw [runVis, List.append_nil, List.take_of_length_le (by omega)]
  | k :: ks, s, h => by
    rw [runVis]
    by_cases hl : s.length < most
    · rw [visG_lt hl]
      by_cases hm : s.length + 1 < most
      · rw [if_pos (by simp [hm])]
        have := runVis_G most ks (s ++ [k]) (by simp; omega)
        rw [this, List.append_assoc]; rfl
      · rw [if_neg (by simp; omega)]
        simp only
        rw [show s ++ k :: ks = (s ++ [k]) ++ ks by simp, List.take_append_of_le_length (by simp; omega), List.take_of_length_le (by simp; omega)]
    · rw [visG_ge hl, if_neg (by simp)]
      simp only
      rw [List.take_append_of_le_length (by omega), List.take_of_length_le (by omega)]
def ghostsOfR (m : Mk) (l al : List (List Int)) (most : Int) : List (List Int) × Int := if allowedC m l al [] = 0 then (if inB most 0 300 = true then ((ghosts m l al).take most.toNat, 0) else ([], 2)) else ([], allowedC m l al [])
theorem gho_1 {m : Mk} {l al : List (List Int)} {most : Int} (h : allowedC m l al [] ≠ 0) : ([], allowedC m l al []) = ghostsOfR m l al most := by unfold ghostsOfR; rw [if_neg h]
theorem gho_2 {m : Mk} {l al : List (List Int)} {most : Int} (h : allowedC m l al [] = 0) (h2 : inB most 0 300 = false) : ([], 2) = ghostsOfR m l al most := by unfold ghostsOfR; rw [if_pos h, if_neg (by rw [h2]; simp)]
theorem gho_0 {m : Mk} {l al : List (List Int)} {most : Int} (h : allowedC m l al [] = 0) (h2 : inB most 0 300 = true) : ((ghosts m l al).take most.toNat, 0) = ghostsOfR m l al most := by unfold ghostsOfR; rw [if_pos h, if_pos h2]
theorem RII.take {w : World} {A : Option Addr} {xss : List (List Int)} (h : RII w A xss) (k : Nat) : RII w A (xss.take k) := by
  obtain ⟨us, h1, h2, h3⟩ := h
  refine ⟨us.take k, by simp [h1], h2.take k, fun j hj => ?_⟩
  simp only [List.length_take] at hj
  obtain ⟨A', c, a, b, d⟩ := h3 j (by omega)
  refine ⟨A', c, ?_, ?_, ?_⟩
  · rw [List.getElem?_take_of_lt (by omega), List.getElem_take]; exact a
  · rw [List.getElem_take]; exact b
  · rw [List.getElem_take]; exact d
end Go.Proofs.YtdedajohkdbdkaaGreat
