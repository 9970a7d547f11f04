/- Plain laws: beginnings of open parts are open; the longest one. No program. -/
import Derived.Test.YtapocenhmdcfoaaGreatFPartCode
namespace Go.Proofs.YtapocenhmdcfoaaGreat
open Go.RowKit
theorem opensL_sub {c n : Nat} {ks ks' : List (List Int)} {x : List Int} (hs : ∀ k ∈ ks, k ∈ ks') (h : opensL (hullF c n ks) x = true) : opensL (hullF c n ks') x = true := by
  unfold opensL at h ⊢
  rw [List.all_eq_true] at h ⊢
  intro i hi
  have h1 := h i hi
  unfold opensAt frees at h1 ⊢
  by_cases hc : i < c
  · rw [getD_row (by rw [hullF_length]; exact hc), hullF_at hc, hasI_iff, mem_hullSet] at h1 ⊢
    refine ⟨h1.1, ?_⟩
    unfold colI at h1 ⊢
    obtain ⟨k, hk, e⟩ := List.mem_map.1 h1.2
    exact List.mem_map.2 ⟨k, hs k hk, e⟩
  · have e : (hullF c n ks).getD i [] = [] := by
      simp [List.getD, List.getElem?_eq_none (show (hullF c n ks).length ≤ i by rw [hullF_length]; omega)]
    rw [e] at h1
    simp [hasI] at h1
theorem keysFor_take {t cuts : List (List Int)} {d k : Nat} {x : List Int} (h : x ∈ keysFor t (cuts.take k) d) : x ∈ keysFor t cuts d := by
  unfold keysFor keysForN at h ⊢
  obtain ⟨i, hi, rfl⟩ := List.mem_map.1 h
  obtain ⟨hi1, hi2⟩ := List.mem_filter.1 hi
  have hi3 := List.mem_range.1 hi1
  rw [List.length_take] at hi3
  refine List.mem_map.2 ⟨i, List.mem_filter.2 ⟨List.mem_range.2 (by omega), hi2⟩, ?_⟩
  simp only [List.getD, List.getElem?_take]
  rw [if_pos (by omega)]
theorem mem_faultsF {m : Mk} {t cuts : List (List Int)} {x : List Int} : x ∈ faultsF m t cuts ↔ ∃ k d : Nat, k < cuts.length ∧ d < (t.headD []).length ∧ isFault t cuts (locksF m t cuts) k d = true ∧ x = [(k : Int), (d : Int)] := by
  unfold faultsF faultsN faultRow
  simp only [List.mem_flatMap, List.mem_range, List.mem_map, List.mem_filter, locksF_len]
  constructor
  · rintro ⟨k, hk, d, ⟨hd, hf⟩, rfl⟩; exact ⟨k, d, hk, hd, hf, rfl⟩
  · rintro ⟨k, d, hk, hd, hf, rfl⟩; exact ⟨k, hk, d, ⟨hd, hf⟩, rfl⟩
theorem getD_lock {ls : List (List (List Int))} {d : Nat} (h : d < ls.length) : ls.getD d [] = ls[d] := by simp [List.getD, List.getElem?_eq_getElem h]
theorem faultsF_take {m : Mk} {t cuts : List (List Int)} {k : Nat} {x : List Int} (h : x ∈ faultsF m t (cuts.take k)) : x ∈ faultsF m t cuts := by
  obtain ⟨i, d, hi, hd, hf, rfl⟩ := mem_faultsF.1 h
  rw [List.length_take] at hi
  refine mem_faultsF.2 ⟨i, d, by omega, hd, ?_, rfl⟩
  have hd1 : d < (locksF m t (cuts.take k)).length := by rw [locksF_len]; exact hd
  have hd2 : d < (locksF m t cuts).length := by rw [locksF_len]; exact hd
  unfold isFault at hf ⊢
  rw [Bool.and_eq_true] at hf ⊢
  refine ⟨hf.1, ?_⟩
  have e : (cuts.take k).getD i [] = cuts.getD i [] := by simp only [List.getD, List.getElem?_take]; rw [if_pos (by omega)]
  have h2 := hf.2
  rw [e, getD_lock hd1, locksF_at hd1] at h2
  rw [getD_lock hd2, locksF_at hd2]
  exact opensL_sub (fun x hx => keysFor_take hx) h2
theorem openPart_iff {m : Mk} {t cuts : List (List Int)} : openPart m t cuts = true ↔ ∀ x, x ∉ faultsF m t cuts := by
  unfold openPart
  rw [beq_iff_eq, ← List.eq_nil_iff_forall_not_mem, ← List.length_eq_zero_iff]
  omega
theorem openPart_down {m : Mk} {t cuts : List (List Int)} {k : Nat} (h : openPart m t cuts = true) : openPart m t (cuts.take k) = true := by
  rw [openPart_iff] at h ⊢
  exact fun x hx => h x (faultsF_take hx)
theorem openPart_nil {m : Mk} {t cuts : List (List Int)} : openPart m t (cuts.take 0) = true := by
  rw [openPart_iff]; intro x hx
  obtain ⟨i, d, hi, _⟩ := mem_faultsF.1 hx
  simp at hi
/-- the greatest number that is not above n at which p holds -/
def longDown (p : Nat → Bool) : Nat → Nat
  | 0 => 0
  | n + 1 => if p (n + 1) = true then n + 1 else longDown p n
theorem longDown_at {p : Nat → Bool} : ∀ {n : Nat}, p n = true → longDown p n = n
  | 0, _ => rfl
  | n + 1, h => by rw [longDown, if_pos h]
theorem longDown_pred {p : Nat → Bool} (h0 : p 0 = true) : ∀ {n : Nat}, p n = false → 0 < n ∧ longDown p n = longDown p (n - 1)
  | 0, h => by rw [h0] at h; cases h
  | n + 1, h => ⟨by omega, by rw [longDown, if_neg (by rw [h]; simp)]; rfl⟩
theorem longDown_stop {p : Nat → Bool} {n : Nat} (hn : p n = true) : ∀ {k : Nat}, n ≤ k → (∀ j, n < j → j ≤ k → p j = false) → longDown p k = n
  | 0, hk, _ => by have : n = 0 := by omega
                   subst this; rfl
  | k + 1, hk, h => by
    by_cases e : n = k + 1
    · subst e; exact longDown_at hn
    · rw [longDown, if_neg (by rw [h (k + 1) (by omega) (Nat.le_refl _)]; simp)]
      exact longDown_stop hn (by omega) fun j a b => h j a (by omega)
def longF (m : Mk) (t cuts : List (List Int)) : Nat := longDown (fun k => openPart m t (cuts.take k)) cuts.length
def longR (m : Mk) (t cuts : List (List Int)) : Int × Int := if partC m t cuts = 0 then ((longF m t cuts : Int), 0) else (0, partC m t cuts)
theorem long_no {m : Mk} {t cuts : List (List Int)} (h : partC m t cuts ≠ 0) : (0, partC m t cuts) = longR m t cuts := by unfold longR; rw [if_neg h]
theorem long_yes {m : Mk} {t cuts : List (List Int)} (h : partC m t cuts = 0) : ((longF m t cuts : Int), 0) = longR m t cuts := by unfold longR; rw [if_pos h]
theorem longF_up {m : Mk} {t cuts : List (List Int)} {n : Nat} (hn : n ≤ cuts.length) (h : openPart m t (cuts.take n) = true) (he : n = cuts.length ∨ openPart m t (cuts.take (n + 1)) = false) : n = longF m t cuts := by
  unfold longF
  refine (longDown_stop (p := fun k => openPart m t (cuts.take k)) h hn fun j hj hjl => ?_).symm
  rcases he with e | e
  · omega
  · cases hq : openPart m t (cuts.take j) with
    | false => rfl
    | true =>
      have := openPart_down (k := n + 1) hq
      rw [List.take_take, Nat.min_eq_left (by omega), e] at this
      cases this
theorem PartOK.take {m : Mk} {t cuts : List (List Int)} (h : PartOK m t cuts) (k : Nat) : PartOK m t (cuts.take k) :=
  ⟨h.mak, h.t1, h.t10, h.row, by have := h.le; rw [List.length_take]; omega, fun j hj => by rw [List.getElem_take]; exact h.keys j (by rw [List.length_take] at hj; omega)⟩
end Go.Proofs.YtapocenhmdcfoaaGreat
