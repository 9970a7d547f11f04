/- Contracts for CountKeysAt: what its closure allows. -/
import Derived.Test.YtdkkkkfcpgkcnaaFCount
import Derived.Test.YtdkkkkfcpgkcnaaFChange
namespace Go.Proofs.Ytdkkkkfcpgkcnaa
set_option linter.unusedVariables false
open Go.RowKit
/-- the first cuts are fixed, the others differ from the master's -/
def atAl (cs ms : List Int) (fx : Int) (ch : Nat) (x : Int) : Bool := if (ch : Int) < fx then x == cs.getD ch 0 else x != ms.getD ch 0
set_option maxHeartbeats 1000000 in
theorem atClo_any (gf gc gm : Nat) (A B : Option Addr) (c d : Nat) (cs ms : List Int) (fx : Int) (ch : Nat) (x : Int) (w : World) (h : RI w A cs) (g : RI w B ms) (cf : w.cell? ⟨gf, 0, none⟩ = some (.int .i64 fx)) (cc : w.cell? ⟨gc, 0, none⟩ = some (.slice A cs.length c)) (cm : w.cell? ⟨gm, 0, none⟩ = some (.slice B ms.length d))
    (h1 : ch < cs.length) (h2 : ch < ms.length) : Calls Try.prog 125 #[.int .i64 (ch : Int), .int .i64 x, .pointer (some ⟨gf, 0, none⟩), .pointer (some ⟨gc, 0, none⟩), .pointer (some ⟨gm, 0, none⟩)] w fun e w' => e = .returned (.bool (atAl cs ms fx ch x)) ∧ Below w.heap.size w w' := by
  have i0 : (0 : Int) ≤ (ch : Int) := by omega
  have i1 : (ch : Int) < (cs.length : Int) := by omega
  have i2 : (ch : Int) < (ms.length : Int) := by omega
  have hle := h.le; have hge := g.le
  by_cases hf : (ch : Int) < fx
  · obtain ⟨b, o, rfl, hc⟩ := h.at_ h1
    have HR := Lib.hid (show atAl cs ms fx ch x = (x == cs[ch]) by unfold atAl; rw [if_pos hf, getD_at' h1])
    go_enter Try.func125, Try.ntmps125
    go_wp2_with fail
    go_ret
    exact ⟨retB HR.out.symm, Below.refl _ _⟩
  · obtain ⟨b, o, rfl, hc⟩ := g.at_ h2
    have HR := Lib.hid (show atAl cs ms fx ch x = (x != ms[ch]) by unfold atAl; rw [if_neg hf, getD_at' h2])
    have hf' : decide ((ch : Int) < fx) = false := decide_eq_false hf
    go_enter Try.func125, Try.ntmps125
    go_wp2_with fail
    go_ret
    exact ⟨retB HR.out.symm, Below.refl _ _⟩
theorem atAlB (m : Mk) (gf gc gm : Nat) (A B : Option Addr) (c d : Nat) (cs ms : List Int) (fx : Int) (w : World) (h : RI w A cs) (g : RI w B ms) (cf : w.cell? ⟨gf, 0, none⟩ = some (.int .i64 fx)) (cc : w.cell? ⟨gc, 0, none⟩ = some (.slice A cs.length c)) (cm : w.cell? ⟨gm, 0, none⟩ = some (.slice B ms.length d))
    (h1 : (cs.length : Int) = m.c) (h2 : (ms.length : Int) = m.c) : AlB 125 #[.pointer (some ⟨gf, 0, none⟩), .pointer (some ⟨gc, 0, none⟩), .pointer (some ⟨gm, 0, none⟩)] (atAl cs ms fx) m w :=
  ⟨enters Try.func125 (by kernel_rfl) rfl, fun w' hw ch x hc _ _ => atClo_any gf gc gm A B c d cs ms fx ch x w' (h.below hw) (g.below hw) (cell_in hw (World.block_lt_of_cell? w _ cf) cf) (cell_in hw (World.block_lt_of_cell? w _ cc) cc) (cell_in hw (World.block_lt_of_cell? w _ cm) cm) (by omega) (by omega)⟩
end Go.Proofs.Ytdkkkkfcpgkcnaa
