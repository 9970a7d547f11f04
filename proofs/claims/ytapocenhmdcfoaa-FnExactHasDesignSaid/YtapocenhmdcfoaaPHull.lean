/- Plain laws for hulls: what Sort and Compact make of a column is the rising list of its different numbers. No program. -/
import Derived.Test.YtapocenhmdcfoaaMem
import Derived.Test.YtapocenhmdcfoaaNum
import Derived.Lib.SlicesCompact
namespace Go.Proofs.Ytapocenhmdcfoaa
open Go.RowKit
/-- Two strictly rising lists with the same elements are one. -/
theorem sorted_ext : ∀ {xs ys : List Int}, xs.Pairwise (· < ·) → ys.Pairwise (· < ·) → (∀ x, x ∈ xs ↔ x ∈ ys) → xs = ys
  | [], [], _, _, _ => rfl
  | [], y :: _, _, _, h => absurd ((h y).2 List.mem_cons_self) (by simp)
  | x :: _, [], _, _, h => absurd ((h x).1 List.mem_cons_self) (by simp)
  | x :: r, y :: s, h1, h2, h => by
    rw [List.pairwise_cons] at h1 h2
    have hxy : x = y := by
      rcases List.mem_cons.1 ((h x).1 List.mem_cons_self) with e | e
      · exact e
      · rcases List.mem_cons.1 ((h y).2 List.mem_cons_self) with e' | e'
        · exact e'.symm
        · have a := h2.1 x e; have b := h1.1 y e'; omega
    subst hxy
    rw [sorted_ext h1.2 h2.2 fun z => ?_]
    constructor
    · intro hz
      rcases List.mem_cons.1 ((h z).1 (List.mem_cons_of_mem _ hz)) with e | e
      · subst e; have := h1.1 z hz; omega
      · exact e
    · intro hz
      rcases List.mem_cons.1 ((h z).2 (List.mem_cons_of_mem _ hz)) with e | e
      · subst e; have := h2.1 z hz; omega
      · exact e
theorem bang_at {zs : List Int} {j : Nat} (h : j < zs.length) : zs.toArray[j]! = zs[j] := by simp [getElem!_pos, h]
/-- Compact of a rising list: strictly rising, the same elements. -/
theorem compact_sorted {zs : List Int} (hs : zs.Pairwise (· ≤ ·)) : (Lib.compact zs).Pairwise (· < ·) := by
  have hle : ∀ i j, i ≤ j → j < zs.length → zs.toArray[i]! ≤ zs.toArray[j]! := by
    intro i j hij hj
    rw [bang_at (by omega), bang_at hj]
    by_cases e : i = j
    · subst e; omega
    · exact List.pairwise_iff_getElem.1 hs i j (by omega) hj (by omega)
  unfold Lib.compact Lib.compactUpTo
  have h0 : ((List.range zs.length).filter (Lib.keeps zs.toArray)).Pairwise (· < ·) := List.Pairwise.filter _ List.pairwise_lt_range
  refine List.pairwise_map.2 (h0.imp_of_mem fun {a b} ha hb hab => ?_)
  have hb1 := List.mem_filter.1 hb
  have hbl := List.mem_range.1 hb1.1
  have hk := hb1.2
  simp only [Lib.keeps, decide_eq_true_eq] at hk
  have h1 := hle a (b - 1) (by omega) (by omega)
  have h2 := hle (b - 1) b (by omega) hbl
  have h3 : zs.toArray[b]! ≠ zs.toArray[b - 1]! := hk.resolve_left (by omega)
  omega
theorem mem_compact {zs : List Int} {x : Int} : x ∈ Lib.compact zs ↔ x ∈ zs := by
  unfold Lib.compact Lib.compactUpTo
  rw [List.mem_map]
  constructor
  · rintro ⟨j, hj, rfl⟩
    have := List.mem_range.1 (List.mem_filter.1 hj).1
    rw [bang_at this]; exact List.getElem_mem this
  · intro h
    obtain ⟨j, hj, e⟩ := List.getElem_of_mem h
    clear h
    induction j with
    | zero => exact ⟨0, List.mem_filter.2 ⟨List.mem_range.2 hj, by simp [Lib.keeps]⟩, by rw [bang_at hj, e]⟩
    | succ j ih =>
      by_cases hd : zs[j + 1] = zs[j]
      · exact ih (by omega) (by rw [← hd]; exact e)
      · exact ⟨j + 1, List.mem_filter.2 ⟨List.mem_range.2 hj, by
          simp only [Lib.keeps, decide_eq_true_eq]; right; rw [bang_at hj, show j + 1 - 1 = j by omega, bang_at (by omega)]; exact hd⟩, by rw [bang_at hj, e]⟩
/-- the depths that stand in a column -/
def hullSet (n : Nat) (xs : List Int) : List Int := (seqI 0 n).filter (hasI xs)
theorem mem_seqI {n : Nat} {x : Int} : x ∈ seqI 0 n ↔ 0 ≤ x ∧ x < n := by
  unfold seqI
  rw [List.mem_map]
  constructor
  · rintro ⟨j, hj, rfl⟩; have := List.mem_range.1 hj; omega
  · rintro ⟨h1, h2⟩; exact ⟨x.toNat, List.mem_range.2 (by omega), by omega⟩
theorem seqI_rising (n : Nat) : (seqI 0 n).Pairwise (· < ·) := by
  unfold seqI
  refine List.pairwise_map.2 (List.pairwise_lt_range.imp fun {a b} h => ?_)
  omega
theorem hullSet_rising (n : Nat) (xs : List Int) : (hullSet n xs).Pairwise (· < ·) := List.Pairwise.filter _ (seqI_rising n)
theorem mem_hullSet {n : Nat} {xs : List Int} {x : Int} : x ∈ hullSet n xs ↔ (0 ≤ x ∧ x < n) ∧ x ∈ xs := by
  unfold hullSet; rw [List.mem_filter, mem_seqI, hasI_iff]
theorem hullSet_succ (n : Nat) (xs : List Int) : hullSet (n + 1) xs = hullSet n xs ++ (if hasI xs n = true then [(n : Int)] else []) := by
  unfold hullSet
  rw [seqI_succ, List.filter_append]
  congr 1
  by_cases h : hasI xs n = true
  · simp [h]
  · simp [h]
theorem hullSet_len (n : Nat) (xs : List Int) : (hullSet n xs).length ≤ n := by
  have := List.length_filter_le (hasI xs) (seqI 0 n)
  rw [seqI_length] at this; exact this
/-- Sort, then Compact. -/
theorem hull_sort {n : Nat} {xs : List Int} (h : ∀ x ∈ xs, 0 ≤ x ∧ x < n) : Lib.compact (xs.mergeSort fun x y => decide (x ≤ y)) = hullSet n xs := by
  have hs : (xs.mergeSort fun x y => decide (x ≤ y)).Pairwise (· ≤ ·) :=
    (List.pairwise_mergeSort (le := fun x y : Int => decide (x ≤ y)) (fun a b c h1 h2 => by simp only [decide_eq_true_eq] at *; omega) (fun a b => by simp only [Bool.or_eq_true, decide_eq_true_eq]; omega) xs).imp (fun {a b} h => by simpa using h)
  refine sorted_ext (compact_sorted hs) (hullSet_rising n xs) fun x => ?_
  rw [mem_compact, List.mem_mergeSort, mem_hullSet]
  exact ⟨fun hx => ⟨h x hx, hx⟩, fun hx => hx.2⟩
/-- the column of some lists -/
def colI (ks : List (List Int)) (i : Nat) : List Int := ks.map fun k => k.getD i 0
theorem colI_succ (ks : List (List Int)) (i k : Nat) (h : k < ks.length) : colI (ks.take (k + 1)) i = colI (ks.take k) i ++ [ks[k].getD i 0] := by
  unfold colI; rw [List.take_succ_eq_append_getElem h, List.map_append]; rfl
theorem colI_length (ks : List (List Int)) (i : Nat) : (colI ks i).length = ks.length := by simp [colI]
/-- the hull of keys: c chambers, n depths -/
def hullF (c n : Nat) (ks : List (List Int)) : List (List Int) := (List.range c).map fun i => hullSet n (colI ks i)
theorem hullF_succ (c n : Nat) (ks : List (List Int)) : hullF (c + 1) n ks = hullF c n ks ++ [hullSet n (colI ks c)] := by
  unfold hullF; rw [List.range_succ, List.map_append]; rfl
theorem hullF_length (c n : Nat) (ks : List (List Int)) : (hullF c n ks).length = c := by simp [hullF]
theorem hullF_at {c n i : Nat} {ks : List (List Int)} (h : i < c) : (hullF c n ks)[i]'(by rw [hullF_length]; exact h) = hullSet n (colI ks i) := by simp [hullF]
theorem hullF_row {c n : Nat} {ks : List (List Int)} {i : Nat} (h : i < (hullF c n ks).length) : (hullF c n ks)[i].length ≤ n := by
  rw [hullF_length] at h; rw [hullF_at h]; exact hullSet_len _ _
/-- the hull of two numbers -/
theorem hullSet_two {n : Nat} {a b : Int} (ha : 0 ≤ a ∧ a < n) (hb : 0 ≤ b ∧ b < n) : hullSet n [a, b] = if b < a then [b, a] else if a < b then [a, b] else [a] := by
  by_cases h1 : b < a
  · rw [if_pos h1]
    refine sorted_ext (hullSet_rising _ _) (by simpa using h1) fun x => ?_
    rw [mem_hullSet]; simp only [List.mem_cons, List.mem_nil_iff, or_false]
    constructor
    · rintro ⟨_, h | h⟩ <;> simp [h]
    · rintro (h | h) <;> subst h <;> simp [ha, hb]
  · rw [if_neg h1]
    by_cases h2 : a < b
    · rw [if_pos h2]
      refine sorted_ext (hullSet_rising _ _) (by simpa using h2) fun x => ?_
      rw [mem_hullSet]; simp only [List.mem_cons, List.mem_nil_iff, or_false]
      constructor
      · rintro ⟨_, h⟩; exact h
      · rintro (h | h) <;> subst h <;> simp [ha, hb]
    · rw [if_neg h2]
      have e : a = b := by omega
      subst e
      refine sorted_ext (hullSet_rising _ _) (by simp) fun x => ?_
      rw [mem_hullSet]; simp only [List.mem_cons, List.mem_nil_iff, or_false, or_self]
      constructor
      · rintro ⟨_, h⟩; exact h
      · rintro h; subst h; exact ⟨ha, rfl⟩
end Go.Proofs.Ytapocenhmdcfoaa
