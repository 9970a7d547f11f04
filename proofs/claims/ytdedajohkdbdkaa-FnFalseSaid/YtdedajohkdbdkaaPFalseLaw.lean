/- Plain laws: chambers that stop a key. No program. -/
import Derived.Test.YtdedajohkdbdkaaPSysLaw
import Derived.Test.YtdedajohkdbdkaaFStop
namespace Go.Proofs.Ytdedajohkdbdkaa
set_option linter.unusedVariables false
theorem pairOK_iff {t : List (List Int)} {k d : Int} : pairOK t k d = true ↔ (0 ≤ k ∧ k ≤ t.length - 1) ∧ 0 ≤ d ∧ d ≤ ((t.headD []).length : Int) - 1 := by
  unfold pairOK inB
  rw [Bool.and_eq_true, decide_eq_true_eq, decide_eq_true_eq]
/-- a key that is stopped at a door does not open it -/
theorem stop_law {m : Mk} {t cuts : List (List Int)} {k d : Int} (h : (stopR m t cuts k d).2 = 0) : cutsC m t cuts = 0 ∧ pairOK t k d = true ∧ oneAt d.toNat (t.getD k.toNat []) = false := by
  unfold stopR at h
  by_cases h0 : cutsC m t cuts = 0
  · rw [if_pos h0] at h
    by_cases h1 : pairOK t k d = true
    · rw [if_pos h1] at h
      refine ⟨h0, h1, ?_⟩
      rw [Bool.eq_false_iff]
      intro h2
      have hp := cutsC_ok h0
      have hl := (cutsC_0 h0).2.1
      have hk := pairOK_iff.1 h1
      have hi : k.toNat < cuts.length := by omega
      have hd : d.toNat < (locksF m t cuts).length := by rw [locksF_len]; omega
      have ho := row_opens hp hi hd h2
      rw [locksF_at hd] at ho
      have hlen := isKey_len (hp.key hi)
      unfold opensL at ho
      rw [show (cuts.getD k.toNat []).length = m.c.toNat by omega] at ho
      have := firstStop_all ho
      unfold stopL at h
      rw [this] at h; cases h
    · rw [if_neg h1] at h; cases h
  · rw [if_neg h0] at h; exact absurd h h0
/-- a false opening has no chamber that stops it -/
theorem false_law {m : Mk} {t cuts : List (List Int)} (h : cutsC m t cuts = 0) {x : List Int} (hx : x ∈ faultsF m t cuts) : x.length = 2 ∧ (stopR m t cuts (x.getD 0 0) (x.getD 1 0)).2 = 4 ∧ (0 ≤ x.getD 0 0 ∧ x.getD 0 0 ≤ 1000) ∧ 0 ≤ x.getD 1 0 ∧ x.getD 1 0 ≤ 1000 := by
  have hp := cutsC_ok h
  obtain ⟨k, d, hk, hd, hf, rfl⟩ := mem_faultsF.1 hx
  have hle := hp.le
  have ht := hp.t10
  have h0 : 0 < t.length := by omega
  have hr := hp.row 0 h0
  have hhd := hp.head h0
  refine ⟨rfl, ?_, ⟨by simp, by simp; omega⟩, by simp, by simp; omega⟩
  show (stopR m t cuts (k : Int) (d : Int)).2 = 4
  unfold stopR
  rw [if_pos h, if_pos (pairOK_iff.2 ⟨⟨by omega, by omega⟩, by omega, by omega⟩)]
  unfold stopL
  rw [Int.toNat_natCast, Int.toNat_natCast]
  unfold isFault at hf
  rw [Bool.and_eq_true] at hf
  have hd1 : d < (locksF m t cuts).length := by rw [locksF_len]; exact hd
  have ho := hf.2
  rw [getD_lock hd1, locksF_at hd1] at ho
  have hlen := isKey_len (hp.key hk)
  unfold opensL at ho
  rw [show (cuts.getD k []).length = m.c.toNat by omega] at ho
  rw [firstStop_all ho]
end Go.Proofs.Ytdedajohkdbdkaa
