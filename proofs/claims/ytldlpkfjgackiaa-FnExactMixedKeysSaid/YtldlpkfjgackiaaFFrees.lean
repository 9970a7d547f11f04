/- Contracts of frees, l14Ghosts, CountGhosts. -/
import Derived.Test.YtldlpkfjgackiaaFCount
import Derived.Test.YtldlpkfjgackiaaFOpeners
import Derived.Test.YtldlpkfjgackiaaFFit
namespace Go.Proofs.Ytldlpkfjgackiaa
set_option linter.unusedVariables false
open Go.RowKit
set_option maxHeartbeats 1000000 in
theorem freesClo_any (g : Nat) (D : Option Addr) (q : Nat) (l : List (List Int)) (ch : Nat) (d : Int) (w : World) (h : RII w D l) (hc : w.cell? ⟨g, 0, none⟩ = some (.slice D l.length q)) (hch : ch < l.length) :
    Calls Try.prog 125 #[.int .i64 (ch : Int), .int .i64 d, .pointer (some ⟨g, 0, none⟩)] w fun e w' => e = .returned (.bool (frees l ch d)) ∧ Below w.heap.size w w' := by
  obtain ⟨b, o, A', c', rfl, hc1, hcc, hr⟩ := h.at_ hch
  have HR := Lib.hid (show frees l ch d = hasI l[ch] d by unfold frees; rw [getD_row hch])
  have i0 : (0 : Int) ≤ (ch : Int) := by omega
  have i1 : (ch : Int) < (l.length : Int) := by omega
  go_enter Try.func125, Try.ntmps125
  go_wp2_with fail
  refine (sContains_any A' c' l[ch] d w hr).mono ?_
  rintro e w1 ⟨rfl, hw⟩
  subst hw
  go_wp2_with fail
  go_ret
  exact ⟨retB HR.out.symm, Below.refl _ _⟩
theorem freesAl (m : Mk) (g : Nat) (D : Option Addr) (q : Nat) (l : List (List Int)) (w : World) (h : RII w D l) (hc : w.cell? ⟨g, 0, none⟩ = some (.slice D l.length q)) (hl : (l.length : Int) = m.c) : AlB 125 #[.pointer (some ⟨g, 0, none⟩)] (frees l) m w :=
  ⟨enters Try.func125 (by kernel_rfl) rfl, fun w' hw ch d h1 _ _ => freesClo_any g D q l ch d w' (h.below hw) (cell_in hw (World.block_lt_of_cell? w _ hc) hc) (by omega)⟩
set_option maxHeartbeats 400000 in
theorem frees_any (D : Option Addr) (q : Nat) (l : List (List Int)) (w : World) :
    Calls Try.prog 83 #[.agg #[.slice D l.length q]] w fun e w' => e = .returned (.func (.func 125) #[] #[.pointer (some ⟨w.heap.size, 0, none⟩)]) ∧ w' = w.alloc (.cells #[.slice D l.length q] 48) := by
  go_enter Try.func83, Try.ntmps83
  go_wp2_with fail
  go_ret
  exact ⟨rfl, rfl⟩
theorem filter_take_succ {α : Type} (p : α → Bool) (xs : List α) (k : Nat) (h : k < xs.length) : (xs.take (k + 1)).filter p = (xs.take k).filter p ++ (if p xs[k] = true then [xs[k]] else []) := by
  rw [List.take_succ_eq_append_getElem h, List.filter_append, List.filter_cons]; rfl
theorem openers_eq (m : Mk) (hm : isMaker m = true) (l : List (List Int)) (hl : isLockF m l = true) : openF m l m.c.toNat [] 1000000 = openers m l := by
  rw [openF_eq m l (lock_inc hl), if_pos (begins_nil m), List.take_of_length_le]; rfl
  have := keys_few m hm (frees l); omega
/-! ### CountGhosts -/
def cGhostsR (m : Mk) (l al : List (List Int)) : Int × Int := if allowedC m l al [] = 0 then (((ghosts m l al).length : Int), 0) else (0, allowedC m l al [])
theorem cghosts_no {m : Mk} {l al : List (List Int)} (h : allowedC m l al [] ≠ 0) : (0, allowedC m l al []) = cGhostsR m l al := by unfold cGhostsR; rw [if_neg h]
theorem cghosts_yes {m : Mk} {l al : List (List Int)} (h : allowedC m l al [] = 0) : (((ghosts m l al).length : Int), 0) = cGhostsR m l al := by unfold cGhostsR; rw [if_pos h]
theorem allowed_lens' {m : Mk} {l al : List (List Int)} (h : allowedC m l al [] = 0) : ∀ k (hk : k < al.length), al[k].length ≤ l.length := by
  obtain ⟨h1, h2, h3⟩ := allowedC_0 h
  rw [List.append_nil] at h3
  intro k hk
  unfold areKeysF at h3; rw [List.all_eq_true] at h3
  have := isKey_len (h3 _ (List.getElem_mem hk)); have := isLock_len h1; omega
end Go.Proofs.Ytldlpkfjgackiaa
