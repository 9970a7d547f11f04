/- Contracts of l13Lock, l13Keys, CountChanges. -/
import Derived.Test.YtdedajohkdbdkaaGreatFCount
import Derived.Test.YtdedajohkdbdkaaGreatFOpeners
import Derived.Test.YtdedajohkdbdkaaGreatFChange
import Derived.Test.YtdedajohkdbdkaaGreatFGhost
namespace Go.Proofs.YtdedajohkdbdkaaGreat
set_option linter.unusedVariables false
open Go.RowKit
def chSet (m : Mk) (xs ys : List Int) (s : Int) (i : Nat) : List Int := (depths 0 m.d).filter (fits xs ys s i)
def chSets (m : Mk) (xs ys : List Int) (s : Int) : List (List Int) := (List.range xs.length).map (chSet m xs ys s)
def changeKeys (m : Mk) (xs ys : List Int) (s : Int) : List (List Int) := keysG m (fits xs ys s) [] m.c.toNat [] false
theorem inc_depths (hi : Int) (p : Int → Bool) : ∀ (n : Nat) (lo : Int), hi - lo ≤ n → Inc lo hi ((depths lo hi).filter p)
  | 0, lo, h => by rw [depths_nil (by omega)]; trivial
  | n + 1, lo, h => by
    by_cases hlt : lo < hi
    · rw [depths_cons hlt, List.filter_cons]
      have := inc_depths hi p n (lo + 1) (by omega)
      split
      · exact ⟨Int.le_refl _, hlt, this⟩
      · exact Inc.mono (by omega) this
    · rw [depths_nil (by omega)]; trivial
theorem chSets_get (m : Mk) (xs ys : List Int) (s : Int) {i : Nat} (h : i < xs.length) : (chSets m xs ys s).getD i [] = chSet m xs ys s i := by
  simp [chSets, List.getD, h]
theorem chSets_inc (m : Mk) (xs ys : List Int) (s : Int) (i : Nat) : Inc 0 m.d ((chSets m xs ys s).getD i []) := by
  by_cases h : i < xs.length
  · rw [chSets_get m xs ys s h]; exact inc_depths m.d _ m.d.toNat 0 (by omega)
  · rw [show (chSets m xs ys s).getD i [] = [] by simp [chSets, List.getD, show ¬ i < xs.length from h]]; trivial
theorem chOpen (m : Mk) (xs ys : List Int) (s : Int) (hx : (xs.length : Int) = m.c) (most : Int) : openF m (chSets m xs ys s) m.c.toNat [] most = (changeKeys m xs ys s).take most.toNat := by
  rw [openF_eq m _ (chSets_inc m xs ys s), if_pos (begins_nil m)]
  unfold changeKeys
  rw [keysG_congr (al' := fits xs ys s)]
  intro ch d h1 h2 h3
  have hch : ch < xs.length := by simp at h1; omega
  show hasI ((chSets m xs ys s).getD ch []) d = _
  rw [chSets_get m xs ys s hch, Bool.eq_iff_iff, hasI_iff, chSet, List.mem_filter, mem_depths]
  exact ⟨fun h => h.2, fun h => ⟨⟨h2, h3⟩, h⟩⟩
theorem chSet_succ (m : Mk) (xs ys : List Int) (s : Int) (i k : Nat) (h : (k : Int) < m.d) : (depths 0 ((k : Int) + 1)).filter (fits xs ys s i) = (depths 0 (k : Int)).filter (fits xs ys s i) ++ (if fits xs ys s i k = true then [(k : Int)] else []) := by
  have e : depths 0 ((k : Int) + 1) = depths 0 (k : Int) ++ [(k : Int)] := by
    unfold depths
    rw [show ((k : Int) + 1 - 0).toNat = k + 1 by omega, show ((k : Int) - 0).toNat = k by omega, List.range_succ, List.map_append]
    simp
  rw [e, List.filter_append, List.filter_cons]; rfl
theorem chSets_succ (m : Mk) (xs ys : List Int) (s : Int) (k : Nat) (h : k < xs.length) : (chSets m xs ys s).take (k + 1) = (chSets m xs ys s).take k ++ [chSet m xs ys s k] := by
  have hl : k < (chSets m xs ys s).length := by simp [chSets]; exact h
  rw [List.take_succ_eq_append_getElem hl]
  congr 1
  simp [chSets]
theorem chSets_len (m : Mk) (xs ys : List Int) (s : Int) : (chSets m xs ys s).length = xs.length := by simp [chSets]
/-- the set so far -/
def chPart (xs ys : List Int) (s : Int) (i k : Nat) : List Int := (depths 0 (k : Int)).filter (fits xs ys s i)
theorem chPart_len (xs ys : List Int) (s : Int) (i k : Nat) : (chPart xs ys s i k).length ≤ k := by
  unfold chPart
  refine Nat.le_trans (List.length_filter_le _ _) ?_
  simp [depths]
theorem RowsK.mono {w : World} {K K' : Nat → Prop} {us : List Value} {xss : List (List Int)} (h : RowsK w K us xss) (hK : ∀ b, K b → K' b) : RowsK w K' us xss := ⟨h.1, fun j hj => by
  obtain ⟨A, c, h1, h2, h3, h4⟩ := h.2 j hj
  exact ⟨A, c, h1, h2, h3, fun b o e => ⟨hK b (h4 b o e).1, (h4 b o e).2⟩⟩⟩
/-! ### CountChanges -/
def cChangesR (m : Mk) (xs ys : List Int) (s : Int) : Int × Int := if isProgF m xs ys s = true then (((changeKeys m xs ys s).length : Int), 0) else (0, 1)
theorem cch_no {m : Mk} {xs ys : List Int} {s : Int} (h : isProgF m xs ys s = false) : (0, 1) = cChangesR m xs ys s := by unfold cChangesR; rw [if_neg (by rw [h]; simp)]
theorem cch_yes {m : Mk} {xs ys : List Int} {s : Int} (h : isProgF m xs ys s = true) : (((changeKeys m xs ys s).length : Int), 0) = cChangesR m xs ys s := by unfold cChangesR; rw [if_pos h]
theorem prog_facts {m : Mk} {xs ys : List Int} {s : Int} (h : isProgF m xs ys s = true) : isMaker m = true ∧ (xs.length : Int) = m.c ∧ small xs ∧ 1 ≤ s ∧ s ≤ 2 := by
  unfold isProgF at h; rw [Bool.and_eq_true] at h
  have h2 := isProg_iff.1 h.2
  have h3 := key_small h.1 h2.1
  exact ⟨h.1, h3.1, h3.2, h2.2.2.2⟩
end Go.Proofs.YtdedajohkdbdkaaGreat
