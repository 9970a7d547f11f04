/- Contracts of GhostBound. -/
import Derived.Test.YtdedajohkdbdkaaGreatFFit
namespace Go.Proofs.YtdedajohkdbdkaaGreat
set_option linter.unusedVariables false
open Go.RowKit
def ghostBoundR (m : Mk) (l al : List (List Int)) : Int × Int := if allowedC m l al [] = 0 then (wrap64 (prodW l - ((fitF l al).length : Int)), 0) else (0, allowedC m l al [])
theorem gbound_no {m : Mk} {l al : List (List Int)} (h : allowedC m l al [] ≠ 0) : (0, allowedC m l al []) = ghostBoundR m l al := by unfold ghostBoundR; rw [if_neg h]
theorem gbound_yes {m : Mk} {l al : List (List Int)} (h : allowedC m l al [] = 0) : (wrap64 (prodW l - ((fitF l al).length : Int)), 0) = ghostBoundR m l al := by unfold ghostBoundR; rw [if_pos h]
theorem comb_ok {m : Mk} {l : List (List Int)} (h : isLockF m l = true) : combR m l = (prodW l, 0) := (comb_0 h).symm
theorem allowed_lens {m : Mk} {l al : List (List Int)} (h : allowedC m l al [] = 0) : ∀ k (hk : k < al.length), al[k].length ≤ l.length := by
  obtain ⟨h1, h2, h3⟩ := allowedC_0 h
  rw [List.append_nil] at h3
  intro k hk
  unfold areKeysF at h3; rw [List.all_eq_true] at h3
  have := isKey_len (h3 _ (List.getElem_mem hk)); have := isLock_len h1; omega
end Go.Proofs.YtdedajohkdbdkaaGreat
