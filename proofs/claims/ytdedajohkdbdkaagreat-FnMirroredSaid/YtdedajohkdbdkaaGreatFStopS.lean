/- Contracts of l15Pair and of the reference's StopChamber. -/
import Derived.Test.YtdedajohkdbdkaaGreatFStop
namespace Go.Proofs.YtdedajohkdbdkaaGreat
set_option linter.unusedVariables false
open Go.RowKit
set_option maxRecDepth 100000 in
set_option maxHeartbeats 2000000 in
theorem l15Pair_any (m : Mk) (A : Option Addr) (c : Nat) (t : List (List Int)) (k dd : Int) (w : World) (h : RII w A t) (h0 : 0 < t.length) (ht0 : t[0].length ≤ 12) (ht10 : t.length ≤ 10) :
    Calls Tryz.prog 70 #[.agg #[.int .i64 m.c, .int .i64 m.d, .int .i64 m.s, .int .i64 m.a, .int .i64 m.l, .slice A t.length c], .int .i64 k, .int .i64 dd] w fun e w' => e = .returned (.bool (pairOK t k dd)) ∧ Below w.heap.size w w' := by
  have B0 := (Below.refl w.heap.size w).alloc (Nat.le_refl _) (.cells #[.int .i64 m.c, .int .i64 m.d, .int .i64 m.s, .int .i64 m.a, .int .i64 m.l, .slice A t.length c] 45)
  have hhd : (t.headD []) = t[0] := headD_len h0
  obtain ⟨b, o, A', c', rfl, hc, hcc, hr⟩ := h.at_ h0
  simp only [Nat.add_zero] at hc
  have hbw : b < w.heap.size := World.block_lt_of_cell? w _ hc
  cases hk : inB k 0 ((t.length : Int) - 1) with
  | false =>
    have HR := Lib.hid (show pairOK t k dd = false by unfold pairOK; rw [hk]; rfl)
    have HK := Lib.hid hk; clear hk
    go_enter Tryz.func70, Tryz.ntmps70
    go_wp2_with fail
    refine (l01In_any _ _ _ _).mono ?_
    rw [HK.out]
    rintro e w1 ⟨rfl, rfl⟩
    go_wp2_with fail
    go_ret
    exact ⟨retB HR.out.symm, B0⟩
  | true =>
    have HR := Lib.hid (show pairOK t k dd = inB dd 0 ((t[0].length : Int) - 1) by unfold pairOK; rw [hk, hhd]; rfl)
    have HK := Lib.hid hk; clear hk
    have HHD := Lib.hid hhd; clear hhd
    go_enter Tryz.func70, Tryz.ntmps70
    go_wp2_with fail
    refine (l01In_any _ _ _ _).mono ?_
    rw [HK.out]
    rintro e w1 ⟨rfl, rfl⟩
    go_wp2_with fail
    refine (l01In_any _ _ _ _).mono ?_
    rintro e w1 ⟨rfl, rfl⟩
    go_wp2_with fail
    go_ret
    exact ⟨retB HR.out.symm, B0⟩
end Go.Proofs.YtdedajohkdbdkaaGreat
