/- Contract of l04Openers. -/
import Derived.Test.YtapocenhmdcfoaaGreatFBegins
import Derived.Test.YtapocenhmdcfoaaGreatEach
namespace Go.Proofs.YtapocenhmdcfoaaGreat
set_option linter.unusedVariables false
open Go.RowKit
/-- rows that read, in blocks of which K holds -/
def RowsK (w : World) (K : Nat → Prop) (us : List Value) (xss : List (List Int)) : Prop :=
  us.length = xss.length ∧ ∀ j (hj : j < xss.length), ∃ A c, us[j]? = some (.slice A xss[j].length c) ∧ xss[j].length ≤ c ∧ RI w A xss[j] ∧ ∀ b o, A = some ⟨b, o, none⟩ → K b ∧ b < w.heap.size
theorem RowsK.app {w : World} {K : Nat → Prop} {us vs : List Value} {xss yss : List (List Int)} (h : RowsK w K us xss) (g : RowsK w K vs yss) : RowsK w K (us ++ vs) (xss ++ yss) := by
  refine ⟨by simp [h.1, g.1], fun j hj => ?_⟩
  have hl := h.1
  by_cases hx : j < xss.length
  · rw [List.getElem?_append_left (by omega), List.getElem_append_left hx]
    exact h.2 j hx
  · rw [List.getElem?_append_right (by omega), List.getElem_append_right (by omega), hl]
    exact g.2 (j - xss.length) (by simp at hj; omega)
theorem RowsK.keep {w w' : World} {K K' G : Nat → Prop} {us : List Value} {xss : List (List Int)} (h : RowsK w K us xss) (k : KeepF G w w') (hG : ∀ b, b < w.heap.size → K b → ¬ G b ∧ K' b) : RowsK w' K' us xss := by
  refine ⟨h.1, fun j hj => ?_⟩
  obtain ⟨A, c, h1, h2, h3, h4⟩ := h.2 j hj
  exact ⟨A, c, h1, h2, RV.keepF h3 k (fun b o e => (hG b (h4 b o e).2 (h4 b o e).1).1), fun b o e => ⟨(hG b (h4 b o e).2 (h4 b o e).1).2, by have := k.size; have := (h4 b o e).2; omega⟩⟩
theorem RowsK.nil {w : World} {K : Nat → Prop} : RowsK w K [] [] := ⟨rfl, fun j hj => by simp at hj⟩
theorem RowsK.one {w : World} {K : Nat → Prop} {A : Option Addr} {c : Nat} {xs : List Int} (hc : xs.length ≤ c) (h : RI w A xs) (hk : ∀ b o, A = some ⟨b, o, none⟩ → K b ∧ b < w.heap.size) : RowsK w K [.slice A xs.length c] [xs] := by
  refine ⟨rfl, fun j hj => ?_⟩
  match j, hj with
  | 0, _ => exact ⟨A, c, rfl, hc, h, hk⟩
theorem RowsK.rii {w : World} {K : Nat → Prop} {A : Option Addr} {us : List Value} {xss : List (List Int)} (h : RowsK w K us xss) (g : RV w A us) : RII w A xss :=
  ⟨us, h.1, g, fun j hj => by obtain ⟨A, c, h1, h2, h3, _⟩ := h.2 j hj; exact ⟨A, c, h1, h2, h3⟩⟩
theorem RowsK.ones {w : World} {K : Nat → Prop} {us : List Value} {xss : List (List Int)} (h : RowsK w K us xss) : ∀ u ∈ us, u.oneCell' = true := by
  intro u hu
  obtain ⟨j, hj, rfl⟩ := List.getElem_of_mem hu
  obtain ⟨A, c, h1, _⟩ := h.2 j (by have := h.1; omega)
  rw [List.getElem?_eq_getElem hj] at h1
  injection h1 with h1
  rw [h1]; rfl
/-- lists of lists that read, in blocks of which K holds -/
def ResK (w : World) (K : Nat → Prop) (xss : List (List Int)) (e : Ending) (w' : World) : Prop :=
  ∃ A c us, e = .returned (.slice A xss.length c) ∧ xss.length ≤ c ∧ RV w' A us ∧ RowsK w' K us xss ∧ Below w.heap.size w w'
theorem ResK.rd {w w' : World} {K : Nat → Prop} {xss : List (List Int)} {e : Ending} (h : ResK w K xss e w') : RdII w xss e w' := by
  obtain ⟨A, c, us, h1, h2, h3, h4, h5⟩ := h
  exact ⟨A, c, h1, h2, h4.rii h3, h5⟩
theorem resK_nil {w w' : World} {K : Nat → Prop} {xss : List (List Int)} (h : xss = []) (hb : Below w.heap.size w w') : ResK w K xss (.returned (.slice none 0 0)) w' := by
  subst h; exact ⟨none, 0, [], rfl, Nat.le_refl _, ⟨by simp, fun h => absurd rfl h⟩, RowsK.nil, hb⟩
theorem openF_len (m : Mk) (l : List (List Int)) (hl : ∀ i, Inc 0 m.d (l.getD i [])) (r : Nat) (cuts : List Int) (most : Int) : (openF m l r cuts most).length ≤ most.toNat := by
  rw [openF_eq m l hl]; split
  · rw [List.length_take]; omega
  · simp
theorem openF_no (m : Mk) (l : List (List Int)) (r : Nat) (cuts : List Int) (most : Int) (h : (begins m cuts && decide (0 < most)) = false) : openF m l r cuts most = [] := by
  cases r <;> rw [openF, if_neg (by rw [h]; simp)]
/-- the openers with the first k depths of the set -/
def openG (m : Mk) (l : List (List Int)) (r : Nat) (cuts : List Int) (most : Int) (ds : List Int) : List (List Int) := ds.foldl (fun out d => out ++ openF m l r (cuts ++ [d]) (most - (out.length : Int))) []
theorem openG_succ (m : Mk) (l : List (List Int)) (r : Nat) (cuts : List Int) (most : Int) (ds : List Int) (k : Nat) (h : k < ds.length) : openG m l r cuts most (ds.take (k + 1)) = openG m l r cuts most (ds.take k) ++ openF m l r (cuts ++ [ds[k]]) (most - ((openG m l r cuts most (ds.take k)).length : Int)) := by
  unfold openG; rw [List.take_succ_eq_append_getElem h, List.foldl_append]; rfl
theorem openF_succ (m : Mk) (l : List (List Int)) (r : Nat) (cuts : List Int) (most : Int) (hb : begins m cuts = true) (h : 0 < most) : openF m l (r + 1) cuts most = openG m l r cuts most (l.getD cuts.length []) := by
  rw [openF, if_pos (by rw [hb]; simpa using h)]; rfl
theorem inc_few {hi : Int} : ∀ {xs : List Int} {lo : Int}, Inc lo hi xs → (xs.length : Int) ≤ hi - lo ∨ xs = []
  | [], _, _ => .inr rfl
  | x :: r, lo, h => by
    left
    have := h.1; have := h.2.1
    rcases inc_few h.2.2 with h1 | h1
    · rw [List.length_cons]; omega
    · subst h1; simp; omega
theorem allW_snoc {lo hi d : Int} {xs : List Int} (h : allW lo hi xs = true) (h1 : lo ≤ d) (h2 : d ≤ hi) : allW lo hi (xs ++ [d]) = true := by
  unfold allW at *; rw [List.all_append, h]; simp [inB]; omega
end Go.Proofs.YtapocenhmdcfoaaGreat
