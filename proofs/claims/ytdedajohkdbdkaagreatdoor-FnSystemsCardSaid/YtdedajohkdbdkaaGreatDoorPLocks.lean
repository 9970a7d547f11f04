/- Plain laws: the locks of a system are locks, and each key opens the doors of its row. No program. -/
import Derived.Test.YtdedajohkdbdkaaGreatDoorPSysLaw
import Derived.Test.YtdedajohkdbdkaaGreatDoorFOpens
import Derived.Test.YtdedajohkdbdkaaGreatDoorFSysLaws
namespace Go.Proofs.YtdedajohkdbdkaaGreatDoor
set_option linter.unusedVariables false
theorem sys_lock {m : Mk} {t cs : List (List Int)} (h : cutsC m t cs = 0) {d : Nat} (hd : d < (locksF m t cs).length) : isLockF m ((locksF m t cs)[d]) = true := by
  have hp := cutsC_ok h
  obtain ⟨h1, h2, h3⟩ := cutsC_0 h
  rw [locksF_at hd]
  refine hull_lock hp.mak (hp.cuts fun k hk => ?_) ?_
  · obtain ⟨j, hj, _, e⟩ := mem_kf.1 hk
    rw [getD_row hj] at e
    rw [← e]; exact List.getElem_mem hj
  · unfold isSystem at h1
    rw [Bool.and_eq_true, Bool.and_eq_true, List.all_eq_true] at h1
    have ho := h1.2 d (List.mem_range.2 (by rw [locksF_len] at hd; exact hd))
    unfold opened at ho
    rw [List.any_eq_true] at ho
    obtain ⟨r, hr, hr1⟩ := ho
    obtain ⟨j, hj, e⟩ := List.getElem_of_mem hr
    have hm : cs.getD j [] ∈ keysFor t cs d := mem_kf.2 ⟨j, by omega, by rw [getD_row hj, e]; exact hr1, rfl⟩
    exact List.length_pos_of_mem hm
theorem sys_opens {m : Mk} {t cs ls : List (List Int)} (h : cutsC m t cs = 0) {i k : Nat} (hi : i < cs.length) (hk : k < (locksF m t cs).length) :
    ∃ b, (b, 0) = opensR m ((locksF m t cs)[k]) cs[i] ∧ ((t.getD i []).getD k 0 = 1 → b = true) := by
  have hp := cutsC_ok h
  refine ⟨opensL ((locksF m t cs)[k]) cs[i], ?_, fun h1 => ?_⟩
  · unfold opensR; rw [if_pos (sys_lock h hk), if_pos (hp.keys i hi)]
  · have := row_opens hp hi hk (show oneAt k (t.getD i []) = true by unfold oneAt; rw [beq_iff_eq]; exact h1)
    rwa [getD_row hi] at this
theorem locks_yes0 {m : Mk} {t cs : List (List Int)} {ls : List (List (List Int))} (h : locksR m t cs = (ls, 0)) : cutsC m t cs = 0 ∧ ls = locksF m t cs := by
  unfold locksR at h
  by_cases h0 : cutsC m t cs = 0
  · rw [if_pos h0] at h; exact ⟨h0, (congrArg Prod.fst h).symm⟩
  · rw [if_neg h0] at h; exact absurd (congrArg Prod.snd h) h0
/-- what the walk's last loops ask -/
theorem sys_all {m : Mk} {t cs : List (List Int)} {ls : List (List (List Int))} (h : locksR m t cs = (ls, 0)) :
    isSystem m t = true ∧ cs.length = t.length ∧ (∀ i k (hi : i < cs.length) (hk : k < ls.length), ∃ b, (b, 0) = opensR m ls[k] cs[i] ∧ ((t.getD i []).getD k 0 = 1 → b = true)) ∧ ∀ i (hi : i < t.length), t[i].length = ls.length := by
  obtain ⟨h0, e⟩ := locks_yes0 h
  subst e
  obtain ⟨h1, h2, h3⟩ := cutsC_0 h0
  have hp := cutsC_ok h0
  exact ⟨h1, h2, fun i k hi hk => sys_opens (ls := []) h0 hi hk, fun i hi => by rw [locksF_len]; exact (hp.row i hi).1⟩
end Go.Proofs.YtdedajohkdbdkaaGreatDoor
