/- Contracts of members, Compare, IndexFunc, ContainsFunc. -/
import Derived.Test.YtapocenhmdcfoaaGreatMem3
namespace Go.Proofs.YtapocenhmdcfoaaGreat
set_option linter.unusedVariables false
open Go.RowKit
/-- the elements of a set that is told by its bits -/
def memG : Nat → Nat → Nat → List Int
  | 0, _, _ => []
  | f + 1, k, n => if n = 0 then [] else (if n % 2 = 1 then [(k : Int)] else []) ++ memG f (k + 1) (n / 2)
def membersF (n : Nat) : List Int := memG 64 0 n
theorem bits_tab : ∀ n : Fin 1024, bits BinOp.and IntKind.i64 (n.val : Int) 1 = ((n.val % 2 : Nat) : Int) := by decide +kernel
theorem bits_and {n : Nat} (h : n ≤ 1023) : bits BinOp.and IntKind.i64 (n : Int) 1 = ((n % 2 : Nat) : Int) := bits_tab ⟨n, by omega⟩
theorem memG_len : ∀ (f k n : Nat), (memG f k n).length ≤ f
  | 0, _, _ => by simp [memG]
  | f + 1, k, n => by
    have := memG_len f (k + 1) (n / 2)
    rw [memG]; split
    · simp
    · rw [List.length_append]; split <;> simp <;> omega
/-- a list of numbers in new memory, not nil -/
def ResIs (w : World) (xs : List Int) (e : Ending) (w' : World) : Prop := ∃ a c, e = .returned (.slice (some a) xs.length c) ∧ xs.length ≤ c ∧ RI w' (some a) xs ∧ OI w' w.heap.size w'.heap.size (.slice (some a) xs.length c) xs ∧ Below w.heap.size w w'
theorem resIs_own {w w' : World} {v : Value} {xs : List Int} {B : Nat} (ho : OV w' B 2 v (ints xs)) (hv : v ≠ .slice none 0 0) (hB : w.heap.size ≤ B) (hb : Below w.heap.size w w') : ResIs w xs (.returned v) w' := by
  obtain ⟨A, c, h1, h2, h3, h4, h5⟩ := resI_own ho hB hb
  injection h1 with h1
  subst h1
  cases A with
  | none =>
    exfalso
    rcases ho.2 with ⟨h, _⟩ | ⟨g, cap, cur, h, _⟩
    · exact hv h
    · injection h with h; cases h
  | some a => exact ⟨a, c, rfl, h2, h3, h4, h5⟩
/-! ### searches with a function -/
def findP {α : Type} (p : α → Bool) (t : List α) : Int := match t.findIdx? p with | some i => (i : Int) | none => -1
theorem findP_hit {α : Type} {p : α → Bool} {t : List α} {k : Nat} (h : k < t.length) (hk : p t[k] = true) (hn : ∀ j (hj : j < k), p (t[j]'(by omega)) = false) : findP p t = k := by
  unfold findP
  have : t.findIdx? p = some k := by
    rw [List.findIdx?_eq_some_iff_getElem]
    exact ⟨h, hk, fun j hj => by rw [hn j hj]; simp⟩
  rw [this]
theorem findP_none {α : Type} {p : α → Bool} {t : List α} (hn : ∀ j (hj : j < t.length), p t[j] = false) : findP p t = -1 := by
  unfold findP
  have : t.findIdx? p = none := by
    rw [List.findIdx?_eq_none_iff]
    intro x hx
    obtain ⟨i, hi, rfl⟩ := List.getElem_of_mem hx
    exact hn i hi
  rw [this]
theorem findP_any {α : Type} (p : α → Bool) (t : List α) : (decide (0 ≤ findP p t) : Bool) = t.any p := by
  unfold findP
  cases h : t.findIdx? p with
  | none =>
    rw [List.findIdx?_eq_none_iff] at h
    have : t.any p = false := by rw [List.any_eq_false]; intro x hx; rw [h x hx]; simp
    rw [this]; rfl
  | some i =>
    rw [List.findIdx?_eq_some_iff_getElem] at h
    obtain ⟨hi, hp, _⟩ := h
    have : t.any p = true := by rw [List.any_eq_true]; exact ⟨_, List.getElem_mem hi, hp⟩
    rw [this]; simp
/-! ### the order of lists -/
def cmpI (x y : Int) : Int := if x < y then -1 else if y < x then 1 else 0
def cmpL : List Int → List Int → Int
  | [], [] => 0
  | [], _ :: _ => -1
  | _ :: _, [] => 1
  | a :: r, b :: s => if cmpI a b = 0 then cmpL r s else cmpI a b
theorem cmpL_next {xs ys : List Int} {k : Nat} (h1 : k < xs.length) (h2 : k < ys.length) : cmpL (xs.drop k) (ys.drop k) = if cmpI xs[k] ys[k] = 0 then cmpL (xs.drop (k + 1)) (ys.drop (k + 1)) else cmpI xs[k] ys[k] := by
  rw [List.drop_eq_getElem_cons h1, List.drop_eq_getElem_cons h2, cmpL]
/-- fewer elements, or as many and less -/
def fewer (a b : List Int) : Bool := decide (a.length < b.length) || (decide (a.length = b.length) && decide (cmpL a b < 0))
end Go.Proofs.YtapocenhmdcfoaaGreat
