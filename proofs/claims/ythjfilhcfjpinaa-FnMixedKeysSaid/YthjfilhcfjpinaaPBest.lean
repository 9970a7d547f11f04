/- Plain laws: the best of some lists: the first greatest of a sorted list is the greatest with the least list. No program. -/
import Derived.Test.YthjfilhcfjpinaaFSets
namespace Go.Proofs.Ythjfilhcfjpinaa
set_option linter.unusedVariables false
def stepC (cnt : List Int → Int) (st : List Int × Int) (ys : List Int) : List Int × Int := if st.2 < cnt ys then (ys, cnt ys) else st
def stepM (cnt : List Int → Int) (st : List Int × Int) (ys : List Int) : List Int × Int := if st.2 < cnt ys ∨ (cnt ys = st.2 ∧ cmpL ys st.1 < 0) then (ys, cnt ys) else st
/-- the state is the best of the lists met -/
def BestOf (cnt : List Int → Int) (P : List (List Int)) (st : List Int × Int) : Prop :=
  (P = [] ∧ st.2 = -1) ∨ (st.1 ∈ P ∧ st.2 = cnt st.1 ∧ ∀ z, z ∈ P → cnt z < st.2 ∨ (cnt z = st.2 ∧ ¬ cmpL z st.1 < 0))
theorem bestC_step {cnt : List Int → Int} (h0 : ∀ y, 0 ≤ cnt y) {P : List (List Int)} {st : List Int × Int} (h : BestOf cnt P st) {y : List Int} (hs : ∀ z, z ∈ P → cmpL z y < 0) : BestOf cnt (P ++ [y]) (stepC cnt st y) := by
  have hy := h0 y
  rcases h with ⟨rfl, h2⟩ | ⟨h1, h2, h3⟩
  · unfold stepC; rw [if_pos (by omega)]
    right
    refine ⟨by simp, rfl, fun z hz => ?_⟩
    simp at hz; subst hz
    right; exact ⟨rfl, by rw [cmpL_irrefl]; omega⟩
  · unfold stepC
    by_cases hc : st.2 < cnt y
    · rw [if_pos hc]
      right
      refine ⟨by simp, rfl, fun z hz => ?_⟩
      rcases List.mem_append.1 hz with hz | hz
      · left; simp only; rcases h3 z hz with h | h <;> omega
      · simp at hz; subst hz; right; exact ⟨rfl, by rw [cmpL_irrefl]; omega⟩
    · rw [if_neg hc]
      right
      refine ⟨List.mem_append_left _ h1, h2, fun z hz => ?_⟩
      rcases List.mem_append.1 hz with hz | hz
      · exact h3 z hz
      · simp at hz; subst hz
        by_cases e : cnt z = st.2
        · right; refine ⟨e, fun hl => ?_⟩
          have := cmpL_trans _ _ _ hl (hs _ h1)
          rw [cmpL_irrefl] at this; omega
        · left; omega
theorem bestM_step {cnt : List Int → Int} (h0 : ∀ y, 0 ≤ cnt y) {P : List (List Int)} {st : List Int × Int} (h : BestOf cnt P st) (y : List Int) : BestOf cnt (P ++ [y]) (stepM cnt st y) := by
  have hy := h0 y
  rcases h with ⟨rfl, h2⟩ | ⟨h1, h2, h3⟩
  · unfold stepM; rw [if_pos (by left; omega)]
    right
    refine ⟨by simp, rfl, fun z hz => ?_⟩
    simp at hz; subst hz
    right; exact ⟨rfl, by rw [cmpL_irrefl]; omega⟩
  · unfold stepM
    by_cases hc : st.2 < cnt y ∨ (cnt y = st.2 ∧ cmpL y st.1 < 0)
    · rw [if_pos hc]
      right
      refine ⟨by simp, rfl, fun z hz => ?_⟩
      rcases List.mem_append.1 hz with hz | hz
      · simp only
        rcases hc with hc | ⟨hc, hl⟩
        · left; rcases h3 z hz with h | h <;> omega
        · rcases h3 z hz with h | ⟨h, h'⟩
          · left; omega
          · right; exact ⟨by omega, fun hzy => h' (cmpL_trans _ _ _ hzy hl)⟩
      · simp at hz; subst hz; right; exact ⟨rfl, by rw [cmpL_irrefl]; omega⟩
    · rw [if_neg hc]
      right
      refine ⟨List.mem_append_left _ h1, h2, fun z hz => ?_⟩
      rcases List.mem_append.1 hz with hz | hz
      · exact h3 z hz
      · simp at hz; subst hz
        by_cases e : cnt z = st.2
        · right; exact ⟨e, fun hl => hc (.inr ⟨e, hl⟩)⟩
        · left; omega
theorem cmpL_tri : ∀ a b : List Int, ¬ cmpL a b < 0 → ¬ cmpL b a < 0 → a = b
  | [], [], _, _ => rfl
  | [], b :: s, h, _ => by simp [cmpL] at h
  | a :: r, [], _, h => by simp [cmpL] at h
  | a :: r, b :: s, h1, h2 => by
    by_cases hab : a < b
    · rw [cmpL_lt hab] at h1; omega
    · by_cases hba : b < a
      · rw [cmpL_lt hba] at h2; omega
      · have e : a = b := by omega
        subst e
        rw [cmpL_cons] at h1 h2
        rw [cmpL_tri r s h1 h2]
theorem best_unique {cnt : List Int → Int} {P Q : List (List Int)} {st st' : List Int × Int} (h : BestOf cnt P st) (k : BestOf cnt Q st') (hm : ∀ z, z ∈ P ↔ z ∈ Q) (hne : P ≠ []) : st = st' := by
  rcases h with ⟨h, _⟩ | ⟨h1, h2, h3⟩
  · exact absurd h hne
  · rcases k with ⟨k, _⟩ | ⟨k1, k2, k3⟩
    · subst k; have := (hm _).1 h1; simp at this
    · have a := h3 _ ((hm _).2 k1)
      have b := k3 _ ((hm _).1 h1)
      have e : st.2 = st'.2 := by omega
      have e1 : st.1 = st'.1 := by
        apply cmpL_tri
        · rcases b with b | b
          · omega
          · exact b.2
        · rcases a with a | a
          · omega
          · exact a.2
      exact Prod.ext e1 e
/-- the reference's fold -/
theorem bestC_fold {cnt : List Int → Int} (h0 : ∀ y, 0 ≤ cnt y) {S : List (List Int)} (hs : S.Pairwise fun a b => cmpL a b < 0) (b0 : List Int) : ∀ k, k ≤ S.length → BestOf cnt (S.take k) ((S.take k).foldl (stepC cnt) (b0, -1))
  | 0, _ => by left; simp
  | k + 1, hk => by
    have ih := bestC_fold h0 hs b0 k (by omega)
    rw [List.take_succ_eq_append_getElem (by omega), List.foldl_append]
    refine bestC_step h0 ih (fun z hz => ?_)
    obtain ⟨i, hi, rfl⟩ := List.getElem_of_mem hz
    simp only [List.length_take] at hi
    rw [List.getElem_take]
    exact List.pairwise_iff_getElem.1 hs i k (by omega) (by omega) (by omega)
/-- the program's fold over all sets of chambers -/
def setsN (n k : Nat) : List (List Int) := ((List.range k).map membersF).filter fun y => decide (y.length = n)
theorem setsN_succ (n k : Nat) : setsN n (k + 1) = setsN n k ++ (if (membersF k).length = n then [membersF k] else []) := by
  unfold setsN
  rw [List.range_succ, List.map_append, List.filter_append]
  congr 1
  by_cases h : (membersF k).length = n <;> simp [h]
theorem bestM_fold {cnt : List Int → Int} (h0 : ∀ y, 0 ≤ cnt y) (n : Nat) (b0 : List Int) : ∀ k, BestOf cnt (setsN n k) ((setsN n k).foldl (stepM cnt) (b0, -1))
  | 0 => by left; simp [setsN]
  | k + 1 => by
    have ih := bestM_fold h0 n b0 k
    rw [setsN_succ]
    by_cases h : (membersF k).length = n
    · rw [if_pos h, List.foldl_append]; exact bestM_step h0 ih _
    · rw [if_neg h, List.append_nil]; exact ih
theorem mem_setsN (n c : Nat) (hc : c ≤ 64) (z : List Int) : z ∈ setsN n (2 ^ c) ↔ z ∈ choices n c := by
  unfold setsN
  rw [List.mem_filter, List.mem_map, mem_choices]
  constructor
  · rintro ⟨⟨s, hs, rfl⟩, hl⟩
    rw [List.mem_range] at hs
    exact ⟨by simpa using hl, (mem_all c _).1 (members_in hc hs)⟩
  · rintro ⟨h1, h2⟩
    obtain ⟨s, hs, e⟩ := members_onto hc ((mem_all c z).2 h2)
    exact ⟨⟨s, List.mem_range.2 hs, e⟩, by simpa using h1⟩
theorem best_both {cnt : List Int → Int} (h0 : ∀ y, 0 ≤ cnt y) (n c : Nat) (hc : c ≤ 64) (b0 b1 : List Int) (hne : choices n c ≠ []) : (choices n c).foldl (stepC cnt) (b0, -1) = (setsN n (2 ^ c)).foldl (stepM cnt) (b1, -1) := by
  have h1 := bestC_fold h0 (choices_sorted n c) b0 (choices n c).length (Nat.le_refl _)
  rw [List.take_length] at h1
  exact best_unique h1 (bestM_fold h0 n b1 (2 ^ c)) (fun z => (mem_setsN n c hc z).symm) hne
end Go.Proofs.Ythjfilhcfjpinaa
