/- Plain laws: false openings of partial cuts; the longest open part; rows open their doors. No program. -/
import Derived.Test.YtdedajohkdbdkaaGreatDoorFGhost
import Derived.Test.YtdedajohkdbdkaaGreatDoorPGhost
namespace Go.Proofs.YtdedajohkdbdkaaGreatDoor
set_option linter.unusedVariables false
/-- keys that open the hull of keys -/
theorem hull_iff {m : Mk} {ks : List (List Int)} {x : List Int} (hx : isKey m x = true) :
    opensL (hullF m.c.toNat m.d.toNat ks) x = true ↔ ∀ i, i < x.length → ∃ k ∈ ks, k.getD i 0 = x.getD i 0 := by
  rw [opensL_iff]
  have hl := isKey_len hx
  have hv := allW_iff.1 (begins_fault.1 hx).2.1
  constructor
  · intro h i hi
    have h1 := h i hi
    unfold frees at h1
    have hic : i < m.c.toNat := by omega
    rw [getD_row (by rw [hullF_length]; exact hic), hullF_at hic, hasI_iff, mem_hullSet] at h1
    have h2 := h1.2
    unfold colI at h2
    exact List.mem_map.1 h2
  · intro h i hi
    have hic : i < m.c.toNat := by omega
    unfold frees
    rw [getD_row (by rw [hullF_length]; exact hic), hullF_at hic, hasI_iff, mem_hullSet]
    have := hv i hi
    refine ⟨⟨this.1, by omega⟩, ?_⟩
    unfold colI
    exact List.mem_map.2 (h i hi)
theorem mem_kf {t cuts : List (List Int)} {d : Nat} {k : List Int} : k ∈ keysFor t cuts d ↔ ∃ j, j < cuts.length ∧ oneAt d (t.getD j []) = true ∧ cuts.getD j [] = k := by
  unfold keysFor keysForN
  simp only [List.mem_map, List.mem_filter, List.mem_range]
  constructor
  · rintro ⟨j, ⟨h1, h2⟩, h3⟩; exact ⟨j, h1, h2, h3⟩
  · rintro ⟨j, h1, h2, h3⟩; exact ⟨j, ⟨h1, h2⟩, h3⟩
/-- row i falsely opens door d -/
def Faulty (t cuts : List (List Int)) (i d : Nat) : Prop :=
  i < cuts.length ∧ d < (t.headD []).length ∧ (t.getD i []).getD d 0 = 0 ∧ ∀ ch, ch < (cuts.getD i []).length → ∃ j, j < cuts.length ∧ oneAt d (t.getD j []) = true ∧ (cuts.getD j []).getD ch 0 = (cuts.getD i []).getD ch 0
theorem PartOK.key {m : Mk} {t cuts : List (List Int)} (hp : PartOK m t cuts) {i : Nat} (hi : i < cuts.length) : isKey m (cuts.getD i []) = true := by rw [getD_row hi]; exact hp.keys i hi
theorem fault_iff {m : Mk} {t cuts : List (List Int)} (hp : PartOK m t cuts) {x : List Int} : x ∈ faultsF m t cuts ↔ ∃ i d : Nat, Faulty t cuts i d ∧ x = [(i : Int), (d : Int)] := by
  rw [mem_faultsF]
  have key : ∀ i d, i < cuts.length → d < (t.headD []).length → (isFault t cuts (locksF m t cuts) i d = true ↔ (t.getD i []).getD d 0 = 0 ∧ ∀ ch, ch < (cuts.getD i []).length → ∃ j, j < cuts.length ∧ oneAt d (t.getD j []) = true ∧ (cuts.getD j []).getD ch 0 = (cuts.getD i []).getD ch 0) := by
    intro i d hi hd
    have hd1 : d < (locksF m t cuts).length := by rw [locksF_len]; exact hd
    unfold isFault
    rw [Bool.and_eq_true, beq_iff_eq, getD_lock hd1, locksF_at hd1, hull_iff (hp.key hi)]
    constructor
    · rintro ⟨h1, h2⟩
      refine ⟨h1, fun ch hch => ?_⟩
      obtain ⟨k, hk, e⟩ := h2 ch hch
      obtain ⟨j, a, b, c⟩ := mem_kf.1 hk
      exact ⟨j, a, b, by rw [c]; exact e⟩
    · rintro ⟨h1, h2⟩
      refine ⟨h1, fun ch hch => ?_⟩
      obtain ⟨j, a, b, e⟩ := h2 ch hch
      exact ⟨cuts.getD j [], mem_kf.2 ⟨j, a, b, rfl⟩, e⟩
  constructor
  · rintro ⟨i, d, hi, hd, hf, rfl⟩; exact ⟨i, d, ⟨hi, hd, (key i d hi hd).1 hf⟩, rfl⟩
  · rintro ⟨i, d, ⟨hi, hd, hf⟩, rfl⟩; exact ⟨i, d, hi, hd, (key i d hi hd).2 hf, rfl⟩
theorem open_iff {m : Mk} {t cuts : List (List Int)} (hp : PartOK m t cuts) : openPart m t cuts = true ↔ ∀ i d, ¬ Faulty t cuts i d := by
  rw [openPart_iff]
  constructor
  · intro h i d hf; exact h _ ((fault_iff hp).2 ⟨i, d, hf, rfl⟩)
  · intro h x hx; obtain ⟨i, d, hf, _⟩ := (fault_iff hp).1 hx; exact h i d hf
/-- each key opens the doors of its row -/
theorem row_opens {m : Mk} {t cuts : List (List Int)} (hp : PartOK m t cuts) {i d : Nat} (hi : i < cuts.length) (hd : d < (locksF m t cuts).length) (h1 : oneAt d (t.getD i []) = true) : opensL ((locksF m t cuts)[d]) (cuts.getD i []) = true := by
  rw [locksF_at hd, hull_iff (hp.key hi)]
  exact fun ch hch => ⟨cuts.getD i [], mem_kf.2 ⟨i, hi, h1, rfl⟩, rfl⟩
/-! ### parts -/
theorem partC_take {m : Mk} {t cuts : List (List Int)} (h : partC m t cuts = 0) (k : Nat) : partC m t (cuts.take k) = 0 := by
  unfold partC at h ⊢
  by_cases h1 : isSystem m t = true
  · rw [if_pos h1] at h ⊢
    by_cases h2 : (decide (cuts.length ≤ t.length) && areKeysF m cuts) = true
    · rw [Bool.and_eq_true, decide_eq_true_eq] at h2
      unfold areKeysF at h2 ⊢
      rw [List.all_eq_true] at h2
      rw [if_pos]
      rw [Bool.and_eq_true, decide_eq_true_eq, List.all_eq_true, List.length_take]
      exact ⟨by omega, fun x hx => h2.2 x (List.mem_of_mem_take hx)⟩
    · rw [if_neg h2] at h; cases h
  · rw [if_neg h1] at h; cases h
theorem longDown_le {p : Nat → Bool} : ∀ n, longDown p n ≤ n
  | 0 => Nat.le_refl _
  | n + 1 => by
    rw [longDown]; split
    · exact Nat.le_refl _
    · have := longDown_le (p := p) n; omega
theorem longDown_is {p : Nat → Bool} (h0 : p 0 = true) : ∀ n, p (longDown p n) = true
  | 0 => h0
  | n + 1 => by
    rw [longDown]; split
    · assumption
    · exact longDown_is h0 n
theorem longDown_no {p : Nat → Bool} : ∀ n j, longDown p n < j → j ≤ n → p j = false
  | 0, j, h1, h2 => by simp [longDown] at h1; omega
  | n + 1, j, h1, h2 => by
    rw [longDown] at h1
    by_cases h : p (n + 1) = true
    · rw [if_pos h] at h1; omega
    · rw [if_neg h] at h1
      by_cases e : j = n + 1
      · subst e; simpa using h
      · exact longDown_no n j h1 (by omega)
theorem long_le {m : Mk} {t cuts : List (List Int)} : longF m t cuts ≤ cuts.length := longDown_le _
/-- the beginnings that are open are those up to the longest one -/
theorem long_law {m : Mk} {t cuts : List (List Int)} {j : Nat} (hj : j ≤ cuts.length) : openPart m t (cuts.take j) = decide (j ≤ longF m t cuts) := by
  by_cases h : j ≤ longF m t cuts
  · rw [decide_eq_true h]
    have h1 : openPart m t (cuts.take (longF m t cuts)) = true := longDown_is (p := fun k => openPart m t (cuts.take k)) openPart_nil cuts.length
    have := openPart_down (k := j) h1
    rwa [List.take_take, Nat.min_eq_left h] at this
  · rw [decide_eq_false h]
    exact longDown_no (p := fun k => openPart m t (cuts.take k)) cuts.length j (by unfold longF at h; omega) hj
theorem long_all {m : Mk} {t cuts : List (List Int)} : openPart m t cuts = decide (longF m t cuts = cuts.length) := by
  have h := long_law (m := m) (t := t) (cuts := cuts) (Nat.le_refl _)
  rw [List.take_length] at h
  rw [h]
  have := long_le (m := m) (t := t) (cuts := cuts)
  by_cases e : longF m t cuts = cuts.length
  · rw [decide_eq_true e, decide_eq_true (by omega)]
  · rw [decide_eq_false e, decide_eq_false (by omega)]
/-! ### candidates -/
theorem partC_snoc {m : Mk} {t cuts : List (List Int)} {x : List Int} (h : moreC m t cuts = 0) (hx : isKey m x = true) : partC m t (cuts ++ [x]) = 0 := by
  have h0 : partC m t cuts = 0 := by
    unfold moreC at h
    by_cases e : partC m t cuts = 0
    · exact e
    · rw [if_neg e] at h; exact absurd h e
  have hne : cuts.length ≠ t.length := by
    unfold moreC at h
    rw [if_pos h0] at h
    intro e; rw [if_pos e] at h; cases h
  unfold partC at h0 ⊢
  by_cases h1 : isSystem m t = true
  · rw [if_pos h1] at h0 ⊢
    by_cases h2 : (decide (cuts.length ≤ t.length) && areKeysF m cuts) = true
    · rw [Bool.and_eq_true, decide_eq_true_eq] at h2
      rw [if_pos]
      rw [Bool.and_eq_true, decide_eq_true_eq, keys_app, h2.2, Bool.true_and]
      refine ⟨by simp; omega, ?_⟩
      unfold areKeysF; simp [hx]
    · rw [if_neg h2] at h0; cases h0
  · rw [if_neg h1] at h0; cases h0
/-- with a key partial cuts stay open exactly if it is a candidate -/
theorem cand_law {m : Mk} {t cuts : List (List Int)} {x : List Int} (h : moreC m t cuts = 0) (hx : isKey m x = true) (ha : x ∈ allK m) : (decide (partC m t (cuts ++ [x]) = 0) && openPart m t (cuts ++ [x])) = hasL (candsF m t cuts) x := by
  rw [decide_eq_true (partC_snoc h hx), Bool.true_and, Bool.eq_iff_iff, hasL_iff]
  unfold candsF
  rw [List.mem_filter]
  exact ⟨fun h => ⟨ha, h⟩, fun h => h.2⟩
end Go.Proofs.YtdedajohkdbdkaaGreatDoor
