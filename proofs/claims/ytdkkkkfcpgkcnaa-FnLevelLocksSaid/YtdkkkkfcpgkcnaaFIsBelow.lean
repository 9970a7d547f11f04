/- Contracts of IsBelow, of the program and of the reference. -/
import Derived.Test.YtdkkkkfcpgkcnaaMem
namespace Go.Proofs.Ytdkkkkfcpgkcnaa
set_option linter.unusedVariables false
open Go.RowKit
def isBelowF (xs ys : List Int) : Bool := decide (ys.length ≤ xs.length) && (xs.take ys.length == ys)
set_option maxHeartbeats 400000 in
theorem specIsBelow_any (A B : Option Addr) (c d : Nat) (xs ys : List Int) (w : World) (h : RI w A xs) (g : RI w B ys) (hc : xs.length ≤ c) :
    Calls Try.prog 55 #[.slice A xs.length c, .slice B ys.length d] w fun e w' => e = .returned (.bool (isBelowF xs ys)) ∧ ∃ n, w' = w.drewN n := by
  by_cases hl : ys.length ≤ xs.length
  · have hle : (xs.take ys.length).length = ys.length := by simp; omega
    have C := fun W (h : RI W A xs) (g : RI W B ys) => l01Same_any A B c d (xs.take ys.length) ys W (h.take _) g
    rw [hle] at C
    have HC := Lib.hid C; clear C hle
    have i1 : (ys.length : Int) ≤ (xs.length : Int) := by omega
    have i2 : (ys.length : Int) ≤ (c : Int) := by omega
    have hr : isBelowF xs ys = (xs.take ys.length == ys) := by simp [isBelowF, hl]
    have HR := Lib.hid hr; clear hr
    go_enter Try.func55, Try.ntmps55
    go_wp2_with (go_at_call 106; refine (HC.out _ h g).mono ?_; rintro e w' ⟨rfl, n, rfl⟩)
    go_ret
    exact ⟨retB HR.out.symm, _, rfl⟩
  · have hr : isBelowF xs ys = false := by simp [isBelowF, hl]
    have HR := Lib.hid hr; clear hr
    have i1 : ¬ ((ys.length : Int) ≤ (xs.length : Int)) := by omega
    go_enter Try.func55, Try.ntmps55
    go_wp2
    go_ret
    exact ⟨retB HR.out.symm, 0, rfl⟩
set_option maxHeartbeats 400000 in
theorem implIsBelow_any (A B : Option Addr) (c d : Nat) (xs ys : List Int) (w : World) (h : RI w A xs) (g : RI w B ys) (hc : xs.length ≤ c) :
    Calls Try.prog 54 #[.slice A xs.length c, .slice B ys.length d] w fun e w' => e = .returned (.bool (isBelowF xs ys)) ∧ ∃ n, w' = w.drewN n := by
  by_cases hl : ys.length ≤ xs.length
  · have hle : (xs.take ys.length).length = ys.length := by simp; omega
    have C := fun W (h : RI W A xs) (g : RI W B ys) => sEqual_any A B c d (xs.take ys.length) ys W (h.take _) g
    rw [hle] at C
    have HC := Lib.hid C; clear C hle
    have i1 : (ys.length : Int) ≤ (xs.length : Int) := by omega
    have i2 : (ys.length : Int) ≤ (c : Int) := by omega
    have hr : isBelowF xs ys = (xs.take ys.length == ys) := by simp [isBelowF, hl]
    have HR := Lib.hid hr; clear hr
    go_enter Try.func54, Try.ntmps54
    go_wp2_with (go_at_call 105; refine (HC.out _ h g).mono ?_; rintro e w' ⟨rfl, n, rfl⟩)
    go_ret
    exact ⟨retB HR.out.symm, _, rfl⟩
  · have hr : isBelowF xs ys = false := by simp [isBelowF, hl]
    have HR := Lib.hid hr; clear hr
    have i1 : ¬ ((ys.length : Int) ≤ (xs.length : Int)) := by omega
    go_enter Try.func54, Try.ntmps54
    go_wp2
    go_ret
    exact ⟨retB HR.out.symm, 0, rfl⟩
end Go.Proofs.Ytdkkkkfcpgkcnaa
