/- Contracts of likeRows and likeOwnLock, of lists and locks that read the same. -/
import Derived.Test.YtdedajohkdbdkaaGreatDoorLikeG
namespace Go.Proofs.YtdedajohkdbdkaaGreatDoor
set_option linter.unusedVariables false
open Go.RowKit
set_option maxHeartbeats 2000000 in
theorem likeRows_same (A B : Option Addr) (c d : Nat) (xss : List (List Int)) (w : World) (h : RII w A xss) (g : RII w B xss) :
    Calls Tryz.prog 22 #[.slice A xss.length c, .slice B xss.length d] w fun e w' => e = .returned (.bool true) ∧ ∃ n, w' = w.drewN n := by
  have hle := h.le
  go_enter Tryz.func22, Tryz.ntmps22
  go_wp2_with fail
  go_loopw [5] (fun i wr => ∃ k n : Nat, k ≤ xss.length ∧ i = .int .i64 k ∧ wr = w.drewN n) (fun i _ => xss.length - (intOf i).toNat)
  case atStart => exact ⟨0, 0, by omega, rfl, rfl⟩
  case round =>
    obtain ⟨k, n, hk, rfl, rfl⟩ := hrel
    by_cases hlt : k < xss.length
    · obtain ⟨b, o, A1, c1, rfl, hc, _, hr1⟩ := h.at_ hlt
      obtain ⟨b', o', A2, c2, rfl, hc', _, hr2⟩ := g.at_ hlt
      have i0 : (0 : Int) ≤ (k : Int) := by omega
      have i1 : (k : Int) < (xss.length : Int) := by omega
      go_wp2_with fail
      go_quiet ((go_at_call 44; first | exact quietQA (likeInts_same _ _ _ _ _ _ (hr1.drewN _) (hr2.drewN _)) | exact quietQ (likeInts_same _ _ _ _ _ _ (hr1.drewN _) (hr2.drewN _))))
      go_wp2_with fail
      go_roundw
      case rel => exact ⟨k + 1, _, by omega, by go_num, by first | exact World.drewN_drewN _ _ _ | rfl⟩
      case measure => simp [intOf]; omega
    · obtain rfl : k = xss.length := by omega
      go_wp2_with fail
      go_ret
      exact ⟨rfl, n, rfl⟩
theorem RLS.drewN {w : World} {A : Option Addr} {ls : List (List (List Int))} (h : RLS w A ls) (n : Nat) : RLS (w.drewN n) A ls := h
set_option maxHeartbeats 2000000 in
theorem likeOwnLock_same (A B : Option Addr) (c d : Nat) (ls : List (List (List Int))) (w : World) (h : RLS w A ls) (g : RLS w B ls) :
    Calls Tryz.prog 8 #[.slice A ls.length c, .slice B ls.length d] w fun e w' => e = .returned (.bool true) ∧ ∃ n, w' = w.drewN n := by
  have hle := h.le
  go_enter Tryz.func8, Tryz.ntmps8
  go_wp2_with fail
  go_loopw [5] (fun i wr => ∃ k n : Nat, k ≤ ls.length ∧ i = .int .i64 k ∧ wr = w.drewN n) (fun i _ => ls.length - (intOf i).toNat)
  case atStart => exact ⟨0, 0, by omega, rfl, rfl⟩
  case round =>
    obtain ⟨k, n, hk, rfl, rfl⟩ := hrel
    by_cases hlt : k < ls.length
    · obtain ⟨b, o, A1, c1, rfl, hc, _, hr1⟩ := h.at_ hlt
      obtain ⟨b', o', A2, c2, rfl, hc', _, hr2⟩ := g.at_ hlt
      have i0 : (0 : Int) ≤ (k : Int) := by omega
      have i1 : (k : Int) < (ls.length : Int) := by omega
      go_wp2_with fail
      go_quiet ((go_at_call 22; first | exact quietQA (likeRows_same _ _ _ _ _ _ (hr1.drewN _) (hr2.drewN _)) | exact quietQ (likeRows_same _ _ _ _ _ _ (hr1.drewN _) (hr2.drewN _))))
      go_wp2_with fail
      go_roundw
      case rel => exact ⟨k + 1, _, by omega, by go_num, by first | exact World.drewN_drewN _ _ _ | rfl⟩
      case measure => simp [intOf]; omega
    · obtain rfl : k = ls.length := by omega
      go_wp2_with fail
      go_ret
      exact ⟨rfl, n, rfl⟩
theorem likeOwnLockB {A B : Option Addr} {c d : Nat} {ls : List (List (List Int))} {w : World} (h : RLS w A ls) (g : RLS w B ls) :
    Calls Tryz.prog 8 #[.slice A ls.length c, .slice B ls.length d] w fun e w' => e = .returned (.bool true) ∧ Below w.heap.size w w' :=
  (likeOwnLock_same A B c d ls w h g).mono fun e w' ⟨h1, n, h2⟩ => ⟨h1, by rw [h2]; exact belowD (Below.refl _ _) n⟩
end Go.Proofs.YtdedajohkdbdkaaGreatDoor
