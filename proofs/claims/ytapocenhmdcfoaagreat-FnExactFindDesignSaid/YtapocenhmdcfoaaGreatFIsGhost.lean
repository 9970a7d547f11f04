/- Contracts of l14Key, IsGhost. -/
import Derived.Test.YtapocenhmdcfoaaGreatFGhost
namespace Go.Proofs.YtapocenhmdcfoaaGreat
set_option linter.unusedVariables false
open Go.RowKit
def isGhostR (m : Mk) (l al : List (List Int)) (key : List Int) : Bool × Int := if allowedC m l al [key] = 0 then (opensL l key && !hasL al key, 0) else (false, allowedC m l al [key])
theorem isGhost_no {m : Mk} {l al : List (List Int)} {key : List Int} (h : allowedC m l al [key] ≠ 0) : (false, allowedC m l al [key]) = isGhostR m l al key := by unfold isGhostR; rw [if_neg h]
theorem isGhost_yes {m : Mk} {l al : List (List Int)} {key : List Int} (h : allowedC m l al [key] = 0) : (opensL l key && !hasL al key, 0) = isGhostR m l al key := by unfold isGhostR; rw [if_pos h]
/-- a truth and a code -/
def ResBC (w : World) (r : Bool × Int) (e : Ending) (w' : World) : Prop := e = .returned (.tuple #[.bool r.1, .int .i64 r.2]) ∧ Below w.heap.size w w'
theorem resBC_of {w w' : World} {r : Bool × Int} {b : Bool} {c : Int} (h : (b, c) = r) (hb : Below w.heap.size w w') : ResBC w r (.returned (.tuple #[.bool b, .int .i64 c])) w' := by subst h; exact ⟨rfl, hb⟩
/-- two numbers -/
def ResNC (w : World) (r : Int × Int) (e : Ending) (w' : World) : Prop := e = .returned (.tuple #[.int .i64 r.1, .int .i64 r.2]) ∧ Below w.heap.size w w'
theorem resNC_of {w w' : World} {r : Int × Int} {b c : Int} (h : (b, c) = r) (hb : Below w.heap.size w w') : ResNC w r (.returned (.tuple #[.int .i64 b, .int .i64 c])) w' := by subst h; exact ⟨rfl, hb⟩
theorem allowedC_key {m : Mk} {l al : List (List Int)} {key : List Int} (h : allowedC m l al [] = 0) : allowedC m l al [key] = if isKey m key = true then 0 else 2 := by
  obtain ⟨h1, h2, h3⟩ := allowedC_0 h
  rw [List.append_nil] at h3
  unfold allowedC
  rw [if_pos h1, keys_app, h3]
  simp [h2, areKeysF]
theorem allowedC_keyn {m : Mk} {l al : List (List Int)} {key : List Int} (h : allowedC m l al [] ≠ 0) : allowedC m l al [key] = allowedC m l al [] := by
  unfold allowedC at *
  by_cases h1 : isLockF m l = true
  · rw [if_pos h1] at *
    rw [if_pos h1]
    rw [List.append_nil] at *
    by_cases h2 : (decide (al.length ≤ 300) && areKeysF m al) = true
    · rw [if_pos h2] at h; exact absurd rfl h
    · rw [if_neg h2, if_neg]
      intro h3
      apply h2
      rw [keys_app, ← Bool.and_assoc, Bool.and_eq_true] at h3
      exact h3.1
  · rw [if_neg h1, if_neg h1]
theorem isKey_fault {m : Mk} {xs : List Int} : (fault m xs != 0) = !isKey m xs := rfl
end Go.Proofs.YtapocenhmdcfoaaGreat
