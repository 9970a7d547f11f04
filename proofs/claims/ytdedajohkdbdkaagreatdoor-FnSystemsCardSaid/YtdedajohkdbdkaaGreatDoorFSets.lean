/- Contracts of members, Compare, IndexFunc, ContainsFunc. -/
import Derived.Test.YtdedajohkdbdkaaGreatDoorMem
import Derived.Lib.AppendZeros
namespace Go.Proofs.YtdedajohkdbdkaaGreatDoor
set_option linter.unusedVariables false
open Go.RowKit
/-- the elements of a set that is told by its bits -/
def memG : Nat → Nat → Nat → List Int
  | 0, _, _ => []
  | f + 1, k, n => if n = 0 then [] else (if n % 2 = 1 then [(k : Int)] else []) ++ memG f (k + 1) (n / 2)
def membersF (n : Nat) : List Int := memG 64 0 n
theorem bits_tab : ∀ n : Fin 1024, bits BinOp.and IntKind.i64 (n.val : Int) 1 = ((n.val % 2 : Nat) : Int) := by decide +kernel
theorem bits_and {n : Nat} (h : n ≤ 1023) : bits BinOp.and IntKind.i64 (n : Int) 1 = ((n % 2 : Nat) : Int) := bits_tab ⟨n, by omega⟩
theorem memG_len : ∀ (f k n : Nat), (memG f k n).length ≤ f
  | 0, _, _ => by simp [memG]
  | f + 1, k, n => by
    have := memG_len f (k + 1) (n / 2)
    rw [memG]; split
    · simp
    · rw [List.length_append]; split <;> simp <;> omega
/-- a list of numbers in new memory, not nil -/
def ResIs (w : World) (xs : List Int) (e : Ending) (w' : World) : Prop := ∃ a c, e = .returned (.slice (some a) xs.length c) ∧ xs.length ≤ c ∧ RI w' (some a) xs ∧ OI w' w.heap.size w'.heap.size (.slice (some a) xs.length c) xs ∧ Below w.heap.size w w'
theorem resIs_own {w w' : World} {v : Value} {xs : List Int} {B : Nat} (ho : OV w' B 2 v (ints xs)) (hv : v ≠ .slice none 0 0) (hB : w.heap.size ≤ B) (hb : Below w.heap.size w w') : ResIs w xs (.returned v) w' := by
  obtain ⟨A, c, h1, h2, h3, h4, h5⟩ := resI_own ho hB hb
  injection h1 with h1
  subst h1
  cases A with
  | none =>
    exfalso
    rcases ho.2 with ⟨h, _⟩ | ⟨g, cap, cur, h, _⟩
    · exact hv h
    · injection h with h; cases h
  | some a => exact ⟨a, c, rfl, h2, h3, h4, h5⟩
/-! ### searches with a function -/
def findP {α : Type} (p : α → Bool) (t : List α) : Int := match t.findIdx? p with | some i => (i : Int) | none => -1
theorem findP_hit {α : Type} {p : α → Bool} {t : List α} {k : Nat} (h : k < t.length) (hk : p t[k] = true) (hn : ∀ j (hj : j < k), p (t[j]'(by omega)) = false) : findP p t = k := by
  unfold findP
  have : t.findIdx? p = some k := by
    rw [List.findIdx?_eq_some_iff_getElem]
    exact ⟨h, hk, fun j hj => by rw [hn j hj]; simp⟩
  rw [this]
theorem findP_none {α : Type} {p : α → Bool} {t : List α} (hn : ∀ j (hj : j < t.length), p t[j] = false) : findP p t = -1 := by
  unfold findP
  have : t.findIdx? p = none := by
    rw [List.findIdx?_eq_none_iff]
    intro x hx
    obtain ⟨i, hi, rfl⟩ := List.getElem_of_mem hx
    exact hn i hi
  rw [this]
theorem findP_any {α : Type} (p : α → Bool) (t : List α) : (decide (0 ≤ findP p t) : Bool) = t.any p := by
  unfold findP
  cases h : t.findIdx? p with
  | none =>
    rw [List.findIdx?_eq_none_iff] at h
    have : t.any p = false := by rw [List.any_eq_false]; intro x hx; rw [h x hx]; simp
    rw [this]; rfl
  | some i =>
    rw [List.findIdx?_eq_some_iff_getElem] at h
    obtain ⟨hi, hp, _⟩ := h
    have : t.any p = true := by rw [List.any_eq_true]; exact ⟨_, List.getElem_mem hi, hp⟩
    rw [this]; simp
/-! ### the order of lists -/
def cmpI (x y : Int) : Int := if x < y then -1 else if y < x then 1 else 0
def cmpL : List Int → List Int → Int
  | [], [] => 0
  | [], _ :: _ => -1
  | _ :: _, [] => 1
  | a :: r, b :: s => if cmpI a b = 0 then cmpL r s else cmpI a b
theorem cmpL_next {xs ys : List Int} {k : Nat} (h1 : k < xs.length) (h2 : k < ys.length) : cmpL (xs.drop k) (ys.drop k) = if cmpI xs[k] ys[k] = 0 then cmpL (xs.drop (k + 1)) (ys.drop (k + 1)) else cmpI xs[k] ys[k] := by
  rw [List.drop_eq_getElem_cons h1, List.drop_eq_getElem_cons h2, cmpL]
/-- fewer elements, or as many and less -/
def fewer (a b : List Int) : Bool := decide (a.length < b.length) || (decide (a.length = b.length) && decide (cmpL a b < 0))
end Go.Proofs.YtdedajohkdbdkaaGreatDoor

/- Contracts of slices.Grow on nil, slices.Concat, at lists of lists. -/
namespace Go.Proofs.YtdedajohkdbdkaaGreatDoor
set_option linter.unusedVariables false
open Go.RowKit
/-- the cells us are rows that read as xss -/
def RowsR (w : World) (us : List Value) (xss : List (List Int)) : Prop :=
  us.length = xss.length ∧ ∀ j (hj : j < xss.length), ∃ A' c, us[j]? = some (.slice A' xss[j].length c) ∧ xss[j].length ≤ c ∧ RI w A' xss[j]
theorem RowsR.below {w w' : World} {us : List Value} {xss : List (List Int)} (h : RowsR w us xss) (hb : Below w.heap.size w w') : RowsR w' us xss :=
  ⟨h.1, fun j hj => by obtain ⟨A', c, a, b, d⟩ := h.2 j hj; exact ⟨A', c, a, b, d.below hb⟩⟩
theorem RII.rows {w : World} {A : Option Addr} {xss : List (List Int)} (h : RII w A xss) : ∃ us, RV w A us ∧ RowsR w us xss := by
  obtain ⟨us, h1, h2, h3⟩ := h
  exact ⟨us, h2, h1, h3⟩
theorem RowsR.one {w : World} {us : List Value} {xss : List (List Int)} (h : RowsR w us xss) : ∀ u ∈ us, u.oneCell' = true := by
  intro u hu
  obtain ⟨j, hj, rfl⟩ := List.getElem_of_mem hu
  obtain ⟨A', c, a, _⟩ := h.2 j (by rw [← h.1]; exact hj)
  rw [List.getElem?_eq_getElem hj] at a
  injection a with a
  rw [a]; rfl
theorem RowsR.app {w : World} {us vs : List Value} {xss yss : List (List Int)} (h : RowsR w us xss) (g : RowsR w vs yss) : RowsR w (us ++ vs) (xss ++ yss) := by
  refine ⟨by simp [h.1, g.1], fun j hj => ?_⟩
  have hl := h.1
  by_cases hx : j < xss.length
  · rw [List.getElem?_append_left (by omega), List.getElem_append_left hx]
    exact h.2 j hx
  · rw [List.getElem?_append_right (by omega), List.getElem_append_right (by omega), hl]
    exact g.2 (j - xss.length) (by simp at hj; omega)
theorem OV.rows {w : World} {B : Nat} {v : Value} {us : List Value} {xss : List (List Int)} (h : OV w B 44 v us) (g : RowsR w us xss) : ∃ A c, v = .slice A xss.length c ∧ xss.length ≤ c ∧ RII w A xss := by
  obtain ⟨A, c, rfl, hc, hr⟩ := h.reads
  rw [g.1] at hc ⊢
  exact ⟨A, c, rfl, hc, us, g.1, hr, g.2⟩
theorem flat_succ {α : Type} (pss : List (List α)) (k : Nat) (h : k < pss.length) : (pss.take (k + 1)).flatten = (pss.take k).flatten ++ pss[k] := by
  rw [List.take_succ_eq_append_getElem h, List.flatten_append]; simp
theorem flat_le {α : Type} (pss : List (List α)) (k : Nat) : (pss.take k).flatten.length ≤ pss.flatten.length := by
  conv => rhs; rw [← List.take_append_drop k pss, List.flatten_append, List.length_append]
  omega
end Go.Proofs.YtdedajohkdbdkaaGreatDoor

/- Plain laws: sets of keys by their bits, and in the order of their sizes. No program. -/
namespace Go.Proofs.YtdedajohkdbdkaaGreatDoor
set_option linter.unusedVariables false
open Go.RowKit
def shiftL (f : Nat) (r : List Int) : List Int := (f : Int) :: r.map (fun x => x + (f : Int) + 1)
def choices : Nat → Nat → List (List Int)
  | 0, _ => [[]]
  | k + 1, n => (List.range (n - k)).flatMap fun f => (choices k (n - f - 1)).map (shiftL f)
def upto (k n f : Nat) : List (List Int) := (List.range f).flatMap fun g => (choices k (n - g - 1)).map (shiftL g)
theorem upto_succ (k n f : Nat) : upto k n (f + 1) = upto k n f ++ (choices k (n - f - 1)).map (shiftL f) := by simp [upto, List.range_succ]
theorem choices_succ (k n : Nat) : choices (k + 1) n = upto k n (n - k) := rfl
theorem upto_len (k n : Nat) (ih : ∀ m, (choices k m).length ≤ 2 ^ m) : ∀ f, f ≤ n → (upto k n f).length + 2 ^ (n - f) ≤ 2 ^ n
  | 0, _ => by simp [upto]
  | f + 1, h => by
    have h1 := upto_len k n ih f (by omega)
    have h2 := ih (n - f - 1)
    have h3 : 2 ^ (n - f) = 2 ^ (n - f - 1) + 2 ^ (n - f - 1) := by
      rw [show n - f = (n - f - 1) + 1 by omega, Nat.pow_succ]; simp; omega
    rw [upto_succ, List.length_append, List.length_map, show n - (f + 1) = n - f - 1 by omega]
    omega
theorem choices_len : ∀ (k n : Nat), (choices k n).length ≤ 2 ^ n
  | 0, n => by simp only [choices, List.length_singleton]; exact Nat.one_le_two_pow
  | k + 1, n => by
    have := upto_len k n (choices_len k) (n - k) (by omega)
    rw [choices_succ]
    have := Nat.one_le_two_pow (n := n - (n - k))
    omega
/-- strictly increasing from lo on, below hi -/
def Inc (lo hi : Int) : List Int → Prop
  | [] => True
  | x :: r => lo ≤ x ∧ x < hi ∧ Inc (x + 1) hi r
theorem Inc.shift {lo hi c : Int} : ∀ {r : List Int}, Inc lo hi r → Inc (lo + c) (hi + c) (r.map (fun x => x + c))
  | [], _ => trivial
  | x :: r, h => ⟨show lo + c ≤ x + c by have := h.1; omega, show x + c < hi + c by have := h.2.1; omega, by have := Inc.shift (c := c) h.2.2; rwa [show x + 1 + c = x + c + 1 by omega] at this⟩
theorem Inc.mono {lo lo' hi : Int} (hl : lo' ≤ lo) : ∀ {r : List Int}, Inc lo hi r → Inc lo' hi r
  | [], _ => trivial
  | x :: r, h => ⟨by have := h.1; omega, h.2⟩
theorem map_back (c : Int) (r : List Int) : (r.map (fun x => x - c)).map (fun x => x + c) = r := by
  rw [List.map_map]; conv => rhs; rw [← List.map_id r]
  apply List.map_congr_left; intro x _; simp
theorem shiftL_eq (f : Nat) (r : List Int) : shiftL f r = (f : Int) :: r.map (fun x => x + ((f : Int) + 1)) := by
  unfold shiftL; congr 1; apply List.map_congr_left; intro x _; omega
theorem mem_choices : ∀ (k n : Nat) (l : List Int), l ∈ choices k n ↔ l.length = k ∧ Inc 0 n l
  | 0, n, l => by
    simp only [choices, List.mem_singleton, List.length_eq_zero_iff]
    exact ⟨fun h => by subst h; exact ⟨rfl, trivial⟩, fun h => h.1⟩
  | k + 1, n, l => by
    simp only [choices, List.mem_flatMap, List.mem_range, List.mem_map]
    constructor
    · rintro ⟨f, hf, r, hr, rfl⟩
      have h := (mem_choices k (n - f - 1) r).1 hr
      rw [shiftL_eq]
      refine ⟨by simp [h.1], by omega, by omega, ?_⟩
      have := Inc.shift (c := (f : Int) + 1) h.2
      rwa [show (0 : Int) + ((f : Int) + 1) = (f : Int) + 1 by omega, show ((n - f - 1 : Nat) : Int) + ((f : Int) + 1) = (n : Int) by omega] at this
    · rintro ⟨hl, hi⟩
      match l, hl, hi with
      | x :: r, hl, hi =>
        obtain ⟨f, rfl⟩ := Int.eq_ofNat_of_zero_le hi.1
        have hfn := hi.2.1
        have hrest := hi.2.2
        have hlen : r.length = k := by simpa using hl
        have hbound : ∀ (r : List Int) (lo : Int), Inc lo n r → lo + r.length ≤ n ∨ r = [] := by
          intro r
          induction r with
          | nil => intro _ _; exact .inr rfl
          | cons y s ih =>
            intro lo h
            left
            rcases ih _ h.2.2 with h2 | h2
            · have := h.1; simp; omega
            · subst h2; have := h.1; have := h.2.1; simp; omega
        have hfk : f < n - k := by
          rcases hbound r _ hrest with h2 | h2
          · omega
          · subst h2; simp at hlen; omega
        refine ⟨f, hfk, r.map (fun x => x - ((f : Int) + 1)), (mem_choices k (n - f - 1) _).2 ⟨by simpa using hlen, ?_⟩, ?_⟩
        · have := Inc.shift (c := -((f : Int) + 1)) hrest
          rw [show (f : Int) + 1 + -((f : Int) + 1) = 0 by omega, show (n : Int) + -((f : Int) + 1) = ((n - f - 1 : Nat) : Int) by omega] at this
          exact this
        · rw [shiftL_eq, map_back]
theorem cmpL_cons (a : Int) (r s : List Int) : cmpL (a :: r) (a :: s) = cmpL r s := by simp [cmpL, cmpI]
theorem cmpL_lt {a b : Int} (h : a < b) (r s : List Int) : cmpL (a :: r) (b :: s) = -1 := by simp [cmpL, cmpI, h]
theorem cmpL_map (c : Int) : ∀ (r s : List Int), cmpL (r.map (fun x => x + c)) (s.map (fun x => x + c)) = cmpL r s
  | [], [] => rfl
  | [], _ :: _ => rfl
  | _ :: _, [] => rfl
  | a :: r, b :: s => by
    have h1 : cmpI (a + c) (b + c) = cmpI a b := by unfold cmpI; split <;> split <;> first | rfl | omega | (split <;> first | rfl | omega) | skip
    simp only [List.map_cons, cmpL, h1, cmpL_map c r s]
theorem pair_map {α β : Type} {R : α → α → Prop} {S : β → β → Prop} {f : α → β} (h : ∀ a b, R a b → S (f a) (f b)) : ∀ {l : List α}, l.Pairwise R → (l.map f).Pairwise S
  | [], _ => List.Pairwise.nil
  | a :: l, hp => by
    rw [List.pairwise_cons] at hp
    rw [List.map_cons, List.pairwise_cons]
    exact ⟨fun b hb => by obtain ⟨c, hc, rfl⟩ := List.mem_map.1 hb; exact h _ _ (hp.1 c hc), pair_map h hp.2⟩
theorem choices_sorted : ∀ (k n : Nat), (choices k n).Pairwise fun a b => cmpL a b < 0
  | 0, n => by simp [choices]
  | k + 1, n => by
    rw [choices_succ]
    have key : ∀ f, (upto k n f).Pairwise fun a b => cmpL a b < 0 := by
      intro f
      induction f with
      | zero => simp [upto]
      | succ f ih =>
        rw [upto_succ, List.pairwise_append]
        refine ⟨ih, pair_map (R := fun a b => cmpL a b < 0) (fun a b h => ?_) (choices_sorted k _), fun a ha b hb => ?_⟩
        · rw [shiftL_eq, shiftL_eq, cmpL_cons, cmpL_map]; exact h
        · simp only [upto, List.mem_flatMap, List.mem_range, List.mem_map] at ha
          obtain ⟨g, hg, r, _, rfl⟩ := ha
          obtain ⟨s, _, rfl⟩ := List.mem_map.1 hb
          unfold shiftL
          rw [cmpL_lt (by omega)]; omega
    exact key _
def allChoices (n : Nat) : List (List Int) := (List.range (n + 1)).flatMap fun k => choices k n
theorem all_sorted (n : Nat) : (allChoices n).Pairwise fun a b => fewer a b = true := by
  have key : ∀ f, ((List.range f).flatMap fun k => choices k n).Pairwise fun a b => fewer a b = true := by
    intro f
    induction f with
    | zero => simp
    | succ f ih =>
      rw [List.range_succ, List.flatMap_append, List.pairwise_append]
      refine ⟨ih, ?_, fun a ha b hb => ?_⟩
      · simp only [List.flatMap_cons, List.flatMap_nil, List.append_nil]
        refine (choices_sorted f n).imp_of_mem fun {a b} ha hb h => ?_
        have h1 := ((mem_choices f n a).1 ha).1
        have h2 := ((mem_choices f n b).1 hb).1
        simp [fewer, h1, h2, h]
      · simp only [List.mem_flatMap, List.mem_range] at ha
        obtain ⟨g, hg, ha⟩ := ha
        simp only [List.flatMap_cons, List.flatMap_nil, List.append_nil] at hb
        have h1 := ((mem_choices g n a).1 ha).1
        have h2 := ((mem_choices f n b).1 hb).1
        have : a.length < b.length := by omega
        simp [fewer, this]
  exact key _
theorem mem_all (n : Nat) (l : List Int) : l ∈ allChoices n ↔ Inc 0 n l := by
  simp only [allChoices, List.mem_flatMap, List.mem_range, mem_choices]
  constructor
  · rintro ⟨k, _, _, h⟩; exact h
  · intro h
    refine ⟨l.length, ?_, rfl, h⟩
    have hbound : ∀ (r : List Int) (lo : Int), Inc lo n r → lo + r.length ≤ n ∨ r = [] := by
      intro r
      induction r with
      | nil => intro _ _; exact .inr rfl
      | cons y s ih =>
        intro lo h
        left
        rcases ih _ h.2.2 with h2 | h2
        · have := h.1; simp; omega
        · subst h2; have := h.1; have := h.2.1; simp; omega
    rcases hbound l 0 h with h2 | h2
    · omega
    · subst h2; simp
/-! ### sets by bits -/
theorem memG_zero (f k : Nat) : memG f k 0 = [] := by cases f <;> simp [memG]
theorem memG_inc : ∀ (d f k s : Nat), d ≤ f → s < 2 ^ d → Inc k ((k + d : Nat) : Int) (memG f k s)
  | 0, f, k, s, _, hs => by
    have : s = 0 := by simpa using hs
    subst this; rw [memG_zero]; trivial
  | d + 1, 0, k, s, h, _ => by omega
  | d + 1, f + 1, k, s, h, hs => by
    rw [memG]
    split
    · trivial
    · have ih := memG_inc d f (k + 1) (s / 2) (by omega) (by rw [Nat.pow_succ] at hs; omega)
      rw [show ((k + 1 + d : Nat) : Int) = ((k + (d + 1) : Nat) : Int) by omega] at ih
      split
      · exact ⟨by omega, by omega, by simpa using ih⟩
      · exact Inc.mono (lo := ((k + 1 : Nat) : Int)) (by omega) ih
theorem memG_onto : ∀ (d k : Nat) (l : List Int), Inc k ((k + d : Nat) : Int) l → ∃ s, s < 2 ^ d ∧ ∀ f, d ≤ f → memG f k s = l
  | 0, k, [], _ => ⟨0, by simp, fun f _ => memG_zero f k⟩
  | 0, k, x :: r, h => by have := h.1; have := h.2.1; omega
  | d + 1, k, [], _ => ⟨0, Nat.two_pow_pos _, fun f _ => memG_zero f k⟩
  | d + 1, k, x :: r, h => by
    have hd : ((k + (d + 1) : Nat) : Int) = ((k + 1 + d : Nat) : Int) := by omega
    rw [hd] at h
    by_cases hx : x = k
    · subst hx
      obtain ⟨s, hs, hf⟩ := memG_onto d (k + 1) r (by have := h.2.2; simpa using this)
      refine ⟨2 * s + 1, by rw [Nat.pow_succ]; omega, fun f hf' => ?_⟩
      obtain ⟨f, rfl⟩ : ∃ t, f = t + 1 := ⟨f - 1, by omega⟩
      rw [memG, if_neg (by omega), if_pos (by omega), show (2 * s + 1) / 2 = s by omega, hf f (by omega)]
      rfl
    · obtain ⟨s, hs, hf⟩ := memG_onto d (k + 1) (x :: r) ⟨by have := h.1; omega, h.2⟩
      refine ⟨2 * s, by rw [Nat.pow_succ]; omega, fun f hf' => ?_⟩
      obtain ⟨f, rfl⟩ : ∃ t, f = t + 1 := ⟨f - 1, by omega⟩
      have h1 := hf f (by omega)
      by_cases hs0 : s = 0
      · subst hs0; rw [memG_zero] at h1; cases h1
      · rw [memG, if_neg (by omega), if_neg (by omega), show 2 * s / 2 = s by omega, h1]
        rfl
theorem members_in {n s : Nat} (hn : n ≤ 64) (hs : s < 2 ^ n) : membersF s ∈ allChoices n := by
  rw [mem_all]
  have := memG_inc n 64 0 s hn hs
  simpa [membersF] using this
theorem members_onto {n : Nat} (hn : n ≤ 64) {l : List Int} (h : l ∈ allChoices n) : ∃ s, s < 2 ^ n ∧ membersF s = l := by
  rw [mem_all] at h
  obtain ⟨s, hs, hf⟩ := memG_onto n 0 l (by simpa using h)
  exact ⟨s, hs, hf 64 hn⟩
/-! ### the least set -/
def bestStep (ok : List Int → Bool) (best : Option (List Int)) (keys : List Int) : Option (List Int) :=
  match best with
  | none => if ok keys = true then some keys else none
  | some b => if ok keys = true ∧ fewer keys b = true then some keys else some b
def bestUpto (ok : List Int → Bool) : Nat → Option (List Int)
  | 0 => none
  | s + 1 => bestStep ok (bestUpto ok s) (membersF s)
theorem best_inv (ok : List Int → Bool) : ∀ s, (bestUpto ok s = none → ∀ i, i < s → ok (membersF i) = false) ∧
    ∀ b, bestUpto ok s = some b → ok b = true ∧ (∃ i, i < s ∧ membersF i = b) ∧ ∀ i, i < s → ok (membersF i) = true → True
  | 0 => ⟨fun _ i hi => by omega, fun b h => by cases h⟩
  | s + 1 => by
    have ih := best_inv ok s
    constructor
    · intro h i hi
      unfold bestUpto bestStep at h
      cases hb : bestUpto ok s with
      | none =>
        rw [hb] at h
        simp only at h
        split at h
        · cases h
        · rename_i hk
          by_cases hi' : i = s
          · subst hi'; simpa using hk
          · exact ih.1 hb i (by omega)
      | some b =>
        rw [hb] at h
        simp only at h
        split at h <;> cases h
    · intro b h
      unfold bestUpto bestStep at h
      cases hb : bestUpto ok s with
      | none =>
        rw [hb] at h
        simp only at h
        split at h
        · rename_i hk; injection h with h; subst h
          exact ⟨hk, ⟨s, by omega, rfl⟩, fun _ _ _ => trivial⟩
        · cases h
      | some b' =>
        rw [hb] at h
        have := ih.2 b' hb
        simp only at h
        split at h
        · rename_i hk; injection h with h; subst h
          exact ⟨hk.1, ⟨s, by omega, rfl⟩, fun _ _ _ => trivial⟩
        · injection h with h; subst h
          obtain ⟨i, hi, e⟩ := this.2.1
          exact ⟨this.1, ⟨i, by omega, e⟩, fun _ _ _ => trivial⟩
theorem fewer_trans {a b c : List Int} (h : fewer a b = true) (k : fewer b c = true) (tr : ∀ a b c : List Int, cmpL a b < 0 → cmpL b c < 0 → cmpL a c < 0) : fewer a c = true := by
  simp only [fewer, Bool.or_eq_true, Bool.and_eq_true, decide_eq_true_eq] at h k ⊢
  rcases h with h | ⟨h1, h2⟩ <;> rcases k with k | ⟨k1, k2⟩
  · left; omega
  · left; omega
  · left; omega
  · right; exact ⟨by omega, tr a b c h2 k2⟩
theorem cmpL_trans : ∀ a b c : List Int, cmpL a b < 0 → cmpL b c < 0 → cmpL a c < 0
  | [], [], c, h, _ => by simp [cmpL] at h
  | [], _ :: _, [], _, k => by simp [cmpL] at k
  | [], _ :: _, _ :: _, _, _ => by simp [cmpL]
  | _ :: _, [], _, h, _ => by simp [cmpL] at h
  | _ :: _, _ :: _, [], _, k => by simp [cmpL] at k
  | x :: a, y :: b, z :: c, h, k => by
    rcases Int.lt_trichotomy x y with h1 | h1 | h1
    · rcases Int.lt_trichotomy y z with h2 | h2 | h2
      · rw [cmpL_lt (by omega)]; omega
      · rw [cmpL_lt (by omega)]; omega
      · simp [cmpL, cmpI, show ¬ y < z by omega, h2] at k
    · subst h1
      rcases Int.lt_trichotomy x z with h2 | h2 | h2
      · rw [cmpL_lt h2]; omega
      · subst h2
        rw [cmpL_cons] at h k ⊢
        exact cmpL_trans a b c h k
      · simp [cmpL, cmpI, show ¬ x < z by omega, h2] at k
    · simp [cmpL, cmpI, show ¬ x < y by omega, h1] at h
theorem cmpL_irrefl : ∀ a : List Int, cmpL a a = 0
  | [] => rfl
  | x :: a => by rw [cmpL_cons, cmpL_irrefl a]
theorem best_min (ok : List Int → Bool) : ∀ s b, bestUpto ok s = some b → ∀ i, i < s → ok (membersF i) = true → fewer (membersF i) b = false
  | 0, b, h => by cases h
  | s + 1, b, h => by
    intro i hi hok
    have irr : ∀ a : List Int, fewer a a = false := fun a => by simp [fewer, cmpL_irrefl]
    unfold bestUpto bestStep at h
    cases hb : bestUpto ok s with
    | none =>
      rw [hb] at h
      have hn := (best_inv ok s).1 hb
      simp only at h
      split at h
      · injection h with h; subst h
        by_cases hi' : i = s
        · subst hi'; exact irr _
        · rw [hn i (by omega)] at hok; cases hok
      · cases h
    | some b' =>
      rw [hb] at h
      have ih := best_min ok s b' hb
      simp only at h
      split at h
      · rename_i hk; injection h with h; subst h
        by_cases hi' : i = s
        · subst hi'; exact irr _
        · have h1 := ih i (by omega) hok
          rw [Bool.eq_false_iff]; intro h2
          have h3 := fewer_trans h2 hk.2 cmpL_trans
          rw [h1] at h3; cases h3
      · rename_i hk; injection h with h; subst h
        by_cases hi' : i = s
        · subst hi'
          rw [Bool.eq_false_iff]; intro h2
          exact hk ⟨hok, h2⟩
        · exact ih i (by omega) hok
theorem best_eq (ok : List Int → Bool) {n : Nat} (hn : n ≤ 64) : bestUpto ok (2 ^ n) = (allChoices n).find? ok := by
  cases hf : (allChoices n).find? ok with
  | none =>
    rw [List.find?_eq_none] at hf
    cases hb : bestUpto ok (2 ^ n) with
    | none => rfl
    | some b =>
      obtain ⟨hok, ⟨i, hi, e⟩, _⟩ := (best_inv ok _).2 b hb
      exact absurd hok (hf b (by rw [← e]; exact members_in hn hi))
  | some l =>
    rw [List.find?_eq_some_iff_append] at hf
    obtain ⟨hok, l1, l2, he, has⟩ := hf
    have hmem : l ∈ allChoices n := by rw [he]; simp
    obtain ⟨s, hs, rfl⟩ := members_onto hn hmem
    have hsort := all_sorted n
    rw [he, List.pairwise_append] at hsort
    have hbs := (List.pairwise_cons.1 hsort.2.1).1
    cases hb : bestUpto ok (2 ^ n) with
    | none => rw [(best_inv ok _).1 hb s hs] at hok; cases hok
    | some b =>
      obtain ⟨hokb, ⟨i, hi, e⟩, _⟩ := (best_inv ok _).2 b hb
      have hmin := best_min ok _ b hb s hs hok
      have hbm : b ∈ allChoices n := by rw [← e]; exact members_in hn hi
      rw [he] at hbm
      simp only [List.mem_append, List.mem_cons] at hbm
      rcases hbm with h | h | h
      · have := has b h; simp [hokb] at this
      · rw [h]
      · rw [hbs b h] at hmin; cases hmin
end Go.Proofs.YtdedajohkdbdkaaGreatDoor
