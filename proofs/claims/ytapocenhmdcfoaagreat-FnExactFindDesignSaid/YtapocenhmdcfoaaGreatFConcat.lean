/- Contracts of slices.Grow on nil, slices.Concat, at lists of lists. -/
import Derived.Test.YtapocenhmdcfoaaGreatFSets
import Derived.Lib.AppendZeros
namespace Go.Proofs.YtapocenhmdcfoaaGreat
set_option linter.unusedVariables false
open Go.RowKit
/-- the cells us are rows that read as xss -/
def RowsR (w : World) (us : List Value) (xss : List (List Int)) : Prop :=
  us.length = xss.length ∧ ∀ j (hj : j < xss.length), ∃ A' c, us[j]? = some (.slice A' xss[j].length c) ∧ xss[j].length ≤ c ∧ RI w A' xss[j]
theorem RowsR.below {w w' : World} {us : List Value} {xss : List (List Int)} (h : RowsR w us xss) (hb : Below w.heap.size w w') : RowsR w' us xss :=
  ⟨h.1, fun j hj => by obtain ⟨A', c, a, b, d⟩ := h.2 j hj; exact ⟨A', c, a, b, d.below hb⟩⟩
theorem RII.rows {w : World} {A : Option Addr} {xss : List (List Int)} (h : RII w A xss) : ∃ us, RV w A us ∧ RowsR w us xss := by
  obtain ⟨us, h1, h2, h3⟩ := h
  exact ⟨us, h2, h1, h3⟩
theorem RowsR.one {w : World} {us : List Value} {xss : List (List Int)} (h : RowsR w us xss) : ∀ u ∈ us, u.oneCell' = true := by
  intro u hu
  obtain ⟨j, hj, rfl⟩ := List.getElem_of_mem hu
  obtain ⟨A', c, a, _⟩ := h.2 j (by rw [← h.1]; exact hj)
  rw [List.getElem?_eq_getElem hj] at a
  injection a with a
  rw [a]; rfl
theorem RowsR.app {w : World} {us vs : List Value} {xss yss : List (List Int)} (h : RowsR w us xss) (g : RowsR w vs yss) : RowsR w (us ++ vs) (xss ++ yss) := by
  refine ⟨by simp [h.1, g.1], fun j hj => ?_⟩
  have hl := h.1
  by_cases hx : j < xss.length
  · rw [List.getElem?_append_left (by omega), List.getElem_append_left hx]
    exact h.2 j hx
  · rw [List.getElem?_append_right (by omega), List.getElem_append_right (by omega), hl]
    exact g.2 (j - xss.length) (by simp at hj; omega)
theorem OV.rows {w : World} {B : Nat} {v : Value} {us : List Value} {xss : List (List Int)} (h : OV w B 47 v us) (g : RowsR w us xss) : ∃ A c, v = .slice A xss.length c ∧ xss.length ≤ c ∧ RII w A xss := by
  obtain ⟨A, c, rfl, hc, hr⟩ := h.reads
  rw [g.1] at hc ⊢
  exact ⟨A, c, rfl, hc, us, g.1, hr, g.2⟩
theorem flat_succ {α : Type} (pss : List (List α)) (k : Nat) (h : k < pss.length) : (pss.take (k + 1)).flatten = (pss.take k).flatten ++ pss[k] := by
  rw [List.take_succ_eq_append_getElem h, List.flatten_append]; simp
theorem flat_le {α : Type} (pss : List (List α)) (k : Nat) : (pss.take k).flatten.length ≤ pss.flatten.length := by
  conv => rhs; rw [← List.take_append_drop k pss, List.flatten_append, List.length_append]
  omega
end Go.Proofs.YtapocenhmdcfoaaGreat
