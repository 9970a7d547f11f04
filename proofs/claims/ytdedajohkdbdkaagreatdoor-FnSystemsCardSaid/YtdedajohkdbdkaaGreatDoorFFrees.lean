/- Contracts of frees, l14Ghosts, CountGhosts. -/
import Derived.Test.YtdedajohkdbdkaaGreatDoorFCount
import Derived.Test.YtdedajohkdbdkaaGreatDoorFOpeners
import Derived.Test.YtdedajohkdbdkaaGreatDoorFFit
namespace Go.Proofs.YtdedajohkdbdkaaGreatDoor
set_option linter.unusedVariables false
open Go.RowKit
theorem filter_take_succ {α : Type} (p : α → Bool) (xs : List α) (k : Nat) (h : k < xs.length) : (xs.take (k + 1)).filter p = (xs.take k).filter p ++ (if p xs[k] = true then [xs[k]] else []) := by
  rw [List.take_succ_eq_append_getElem h, List.filter_append, List.filter_cons]; rfl
theorem openers_eq (m : Mk) (hm : isMaker m = true) (l : List (List Int)) (hl : isLockF m l = true) : openF m l m.c.toNat [] 1000000 = openers m l := by
  rw [openF_eq m l (lock_inc hl), if_pos (begins_nil m), List.take_of_length_le]; rfl
  have := keys_few m hm (frees l); omega
/-! ### CountGhosts -/
def cGhostsR (m : Mk) (l al : List (List Int)) : Int × Int := if allowedC m l al [] = 0 then (((ghosts m l al).length : Int), 0) else (0, allowedC m l al [])
theorem cghosts_no {m : Mk} {l al : List (List Int)} (h : allowedC m l al [] ≠ 0) : (0, allowedC m l al []) = cGhostsR m l al := by unfold cGhostsR; rw [if_neg h]
theorem cghosts_yes {m : Mk} {l al : List (List Int)} (h : allowedC m l al [] = 0) : (((ghosts m l al).length : Int), 0) = cGhostsR m l al := by unfold cGhostsR; rw [if_pos h]
theorem allowed_lens' {m : Mk} {l al : List (List Int)} (h : allowedC m l al [] = 0) : ∀ k (hk : k < al.length), al[k].length ≤ l.length := by
  obtain ⟨h1, h2, h3⟩ := allowedC_0 h
  rw [List.append_nil] at h3
  intro k hk
  unfold areKeysF at h3; rw [List.all_eq_true] at h3
  have := isKey_len (h3 _ (List.getElem_mem hk)); have := isLock_len h1; omega
end Go.Proofs.YtdedajohkdbdkaaGreatDoor
