/- Contracts of the statements' helpers on locks. -/
import Derived.Test.YtldlpkfjgackiaaHelp
import Derived.Test.YtldlpkfjgackiaaFMaker
namespace Go.Proofs.Ytldlpkfjgackiaa
set_option linter.unusedVariables false
open Go.RowKit
set_option maxRecDepth 100000 in
set_option maxHeartbeats 2000000 in
theorem eqL_t (A B : Option Addr) (c d : Nat) (xss : List (List Int)) (w : World) (h : RII w A xss) (g : RII w B xss) :
    Calls Try.prog 33 #[.agg #[.slice A xss.length c], .agg #[.slice B xss.length d]] w fun e w' => e = .returned (.bool true) ∧ Below w.heap.size w w' := by
  have B0 : Below w.heap.size w ((w.alloc (.cells #[.slice A xss.length c] 48)).alloc (.cells #[.slice B xss.length d] 48)) :=
    ((Below.refl w.heap.size w).alloc (Nat.le_refl _) _).alloc (by simp only [World.size_alloc]; omega) _
  go_enter Try.func33, Try.ntmps33
  go_wp2_with fail
  refine (eqII_t A B c d xss _ (h.below B0) (g.below B0)).mono ?_
  rintro e w2 ⟨rfl, b2⟩
  go_wp2_with fail
  go_ret
  exact ⟨rfl, B0.trans (b2.mono B0.size)⟩
set_option maxHeartbeats 1000000 in
theorem markL_t (v : Value) (xss : List (List Int)) (B C : Nat) (K : Int) (w : World) (h : OII w B C v xss) (hn : xss.length ≤ 4194304) (hm : sumLen xss ≤ 2097152) (h0 : 0 ≤ K) (h1 : K ≤ 2097152) (hC : C ≤ w.heap.size) :
    Calls Try.prog 35 #[.agg #[v], .int .i64 K] w fun e w' => e = .returned (.int .i64 (K + sumLen xss)) ∧ OII w' B C v (numII K xss) ∧ Only B C w w' := by
  obtain ⟨A, c, rfl, hc, hr⟩ := h.reads
  have B0 : Below w.heap.size w (w.alloc (.cells #[.slice A xss.length c] 48)) := (Below.refl w.heap.size w).alloc (Nat.le_refl _) _
  go_enter Try.func35, Try.ntmps35
  go_wp2_with fail
  refine (markII_t (.slice A xss.length c) xss B C K _ (h.below (B0.mono hC)) hn hm h0 h1).mono ?_
  rintro e w1 ⟨rfl, ho, hon⟩
  go_wp2_with fail
  go_ret
  exact ⟨rfl, ho, ⟨hon.os.trans B0.os, hon.tape.trans B0.tape, hon.output.trans B0.output, Nat.le_trans B0.size hon.size, fun k hk hd => (hon.block k (Nat.lt_of_lt_of_le hk B0.size) hd).trans (B0.block k hk)⟩⟩
set_option maxHeartbeats 1000000 in
theorem heldL_t (A : Option Addr) (c : Nat) (xss : List (List Int)) (K : Int) (w : World) (h : RII w A (numII K xss)) (hn : xss.length ≤ 4194304) (hm : sumLen xss ≤ 2097152) (h0 : 0 ≤ K) (h1 : K ≤ 2097152) :
    Calls Try.prog 36 #[.agg #[.slice A xss.length c], .int .i64 K] w fun e w' => e = .returned (.int .i64 (K + sumLen xss)) ∧ Below w.heap.size w w' := by
  have B0 : Below w.heap.size w (w.alloc (.cells #[.slice A xss.length c] 48)) := (Below.refl w.heap.size w).alloc (Nat.le_refl _) _
  go_enter Try.func36, Try.ntmps36
  go_wp2_with fail
  refine (heldII_t A c xss K _ (h.below B0) hn hm h0 h1).mono ?_
  rintro e w1 ⟨rfl, b1⟩
  have t1 : ¬ K + (sumLen xss : Int) < 0 := by omega
  go_wp2_with fail
  go_ret
  exact ⟨rfl, B0.trans (b1.mono B0.size)⟩
end Go.Proofs.Ytldlpkfjgackiaa
