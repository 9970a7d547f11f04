/- Contracts of allowedCode, l14Code, l14Key, IsGhost. -/
import Derived.Test.YtapocenhmdcfoaaGreatFCodes
import Derived.StillTailTactics
namespace Go.Proofs.YtapocenhmdcfoaaGreat
set_option linter.unusedVariables false
open Go.RowKit
theorem alloc_at {w : World} {vs : Array Value} {T b j : Nat} {v : Value} (h : b = w.heap.size) (hv : vs[j]? = some v) : (w.alloc (.cells vs T)).cell? ⟨b, j, none⟩ = some v := by
  subst h; rw [World.cell?_alloc_at (hn := rfl)]; exact hv
theorem allowedC_1 {m : Mk} {l al ks : List (List Int)} (h : isLockF m l = false) : allowedC m l al ks = 1 := by simp [allowedC, h]
theorem allowedC_2 {m : Mk} {l al ks : List (List Int)} (h : isLockF m l = true) (h2 : 300 < al.length) : allowedC m l al ks = 2 := by simp [allowedC, h]; omega
theorem allowedC_k {m : Mk} {l al ks : List (List Int)} (h : isLockF m l = true) (h2 : al.length ≤ 300) : keysC m (al ++ ks) = allowedC m l al ks := by
  simp [allowedC, keysC, h, h2, isLock_mk h]
theorem lockC_1 {m : Mk} {l : List (List Int)} (h : isLockF m l = false) : lockC m l = 1 := by simp [lockC, h]
theorem lockC_0 {m : Mk} {l : List (List Int)} (h : isLockF m l = true) : lockC m l = 0 := by simp [lockC, h]
theorem RII.one {w : World} {g c : Nat} {A : Option Addr} {xs : List Int} (hc : xs.length ≤ c) (h : RI w A xs) (hcell : w.cell? ⟨g, 0, none⟩ = some (.slice A xs.length c)) : RII w (some ⟨g, 0, none⟩) [xs] := by
  refine ⟨[.slice A xs.length c], rfl, ⟨by simp, fun _ => ⟨g, 0, rfl, fun j u hu => ?_⟩⟩, fun j hj => ?_⟩
  · match j, hu with
    | 0, hu => simp at hu; subst hu; exact hcell
  · match j, hj with
    | 0, _ => exact ⟨A, c, rfl, hc, h⟩
theorem allowedC_0 {m : Mk} {l al ks : List (List Int)} (h : allowedC m l al ks = 0) : isLockF m l = true ∧ al.length ≤ 300 ∧ areKeysF m (al ++ ks) = true := by
  unfold allowedC at h
  split at h
  · rename_i h1
    split at h
    · rename_i h2
      rw [Bool.and_eq_true, decide_eq_true_eq] at h2
      exact ⟨h1, h2.1, h2.2⟩
    · cases h
  · cases h
theorem keys_app {m : Mk} {al ks : List (List Int)} : areKeysF m (al ++ ks) = (areKeysF m al && areKeysF m ks) := List.all_append
theorem ghost_len {m : Mk} {l al : List (List Int)} {key : List Int} (h : allowedC m l al [key] = 0) : key.length ≤ l.length := by
  obtain ⟨h1, h2, h3⟩ := allowedC_0 h
  rw [keys_app, Bool.and_eq_true] at h3
  have h4 : isKey m key = true := by have := h3.2; simpa [areKeysF] using this
  have := isLock_len h1; have := isKey_len h4; omega
end Go.Proofs.YtapocenhmdcfoaaGreat
