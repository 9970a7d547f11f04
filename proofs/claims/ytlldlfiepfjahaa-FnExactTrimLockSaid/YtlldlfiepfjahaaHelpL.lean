/- Contracts of the statements' helpers on locks. -/
import Derived.Test.YtlldlfiepfjahaaHelp
import Derived.Test.YtlldlfiepfjahaaFMaker
namespace Go.Proofs.Ytlldlfiepfjahaa
set_option linter.unusedVariables false
open Go.RowKit
def CopyL (w : World) (xss : List (List Int)) (e : Ending) (w' : World) : Prop :=
  ∃ A c, e = .returned (.agg #[.slice A xss.length c]) ∧ xss.length ≤ c ∧ RII w' A xss ∧ OII w' w.heap.size w'.heap.size (.slice A xss.length c) xss ∧ Below w.heap.size w w'
set_option maxRecDepth 100000 in
set_option maxHeartbeats 2000000 in
theorem toL (A : Option Addr) (c : Nat) (xss : List (List Int)) (w : World) (h : RII w A xss) (hn : xss.length ≤ 1048576) (hm : ∀ k (hk : k < xss.length), xss[k].length ≤ 1048576) :
    Calls Try.prog 36 #[.agg #[.slice A xss.length c]] w (CopyL w xss) := by
  go_enter Try.func36, Try.ntmps36
  go_wp2_with fail
  refine (toII A c xss _ (((h.alloc _).alloc _).alloc _) hn hm).mono ?_
  rintro e w6 ⟨A6, c6, rfl, hc6, r6, o6, b6⟩
  have C6 := (bcell b6).1
  have F6 := (bcell b6).2
  have s5 := b6.size
  simp only [World.size_alloc] at s5
  have t2 : w.heap.size + 1 + 1 < w6.heap.size := by omega
  have t3 : w.heap.size + 1 < w6.heap.size := by omega
  have t4 : w.heap.size < w6.heap.size := by omega
  have B1 : Below w.heap.size w w6 := ((((Below.refl w.heap.size w).alloc (Nat.le_refl _) _).alloc (by simp only [World.size_alloc]; omega) _).alloc (by simp only [World.size_alloc]; omega) _).trans (b6.mono (by simp only [World.size_alloc]; omega))
  go_wp2_with fail
  refine bodyPost_ret (v := .agg #[.slice A6 xss.length c6]) (by simp [results, Try.results36, go_sem, C6]) rfl ?_
  obtain ⟨B, hB, hBw, o6'⟩ : ∃ B, w.heap.size + 1 + 1 < B ∧ w.heap.size ≤ B ∧ OII w6 B w6.heap.size (.slice A6 xss.length c6) xss := ⟨_, by simp only [World.size_alloc]; omega, by simp only [World.size_alloc]; omega, o6⟩
  clear o6 C6 F6 b6
  refine ⟨A6, c6, rfl, hc6, OII.rii (B := B) (C := w6.heap.size) (n := xss.length) (c := c6) ?_, OII.wide (B := B) (C := w6.heap.size) ?_ hBw (by simp), ?_⟩
  · iterate 2 (refine OII.setLow (by simp only; omega) ?_)
    exact o6'
  · iterate 2 (refine OII.setLow (by simp only; omega) ?_)
    exact o6'
  · iterate 2 (refine Below.setCell ?_ (by simp only; omega) _)
    exact B1
set_option maxRecDepth 100000 in
set_option maxHeartbeats 2000000 in
theorem eqL_t (A B : Option Addr) (c d : Nat) (xss : List (List Int)) (w : World) (h : RII w A xss) (g : RII w B xss) :
    Calls Try.prog 38 #[.agg #[.slice A xss.length c], .agg #[.slice B xss.length d]] w fun e w' => e = .returned (.bool true) ∧ Below w.heap.size w w' := by
  have B0 : Below w.heap.size w ((w.alloc (.cells #[.slice A xss.length c] 52)).alloc (.cells #[.slice B xss.length d] 52)) :=
    ((Below.refl w.heap.size w).alloc (Nat.le_refl _) _).alloc (by simp only [World.size_alloc]; omega) _
  go_enter Try.func38, Try.ntmps38
  go_wp2_with fail
  refine (eqII_t A B c d xss _ (h.below B0) (g.below B0)).mono ?_
  rintro e w2 ⟨rfl, b2⟩
  go_wp2_with fail
  go_ret
  exact ⟨rfl, B0.trans (b2.mono B0.size)⟩
set_option maxHeartbeats 1000000 in
theorem szL (A : Option Addr) (c : Nat) (xss : List (List Int)) (L : Int) (w : World) (h : RII w A xss) (h0 : 0 ≤ L) (h1 : L ≤ 1048576) :
    Calls Try.prog 33 #[.agg #[.slice A xss.length c], .int .i64 L] w (ResLeftB w L (xss.length + sumLen xss)) := by
  have B0 : Below w.heap.size w (w.alloc (.cells #[.slice A xss.length c] 50)) := (Below.refl w.heap.size w).alloc (Nat.le_refl _) _
  go_enter Try.func33, Try.ntmps33
  go_wp2_with fail
  refine (szII A c xss L _ (h.below B0) h0 h1).mono ?_
  rintro e w1 ⟨r, rfl, hL, rfl, hm1⟩
  by_cases hneg : r < 0
  · go_wp2_with fail
    go_ret
    have := hL.2; have := hL.1
    exact ⟨-1, rfl, ⟨by omega, by omega⟩, B0, by omega⟩
  · go_wp2_with fail
    go_ret
    exact ⟨r, rfl, hL, B0, hm1⟩
set_option maxHeartbeats 1000000 in
theorem markL_t (v : Value) (xss : List (List Int)) (B C : Nat) (K : Int) (w : World) (h : OII w B C v xss) (hn : xss.length ≤ 4194304) (hm : sumLen xss ≤ 2097152) (h0 : 0 ≤ K) (h1 : K ≤ 2097152) (hC : C ≤ w.heap.size) :
    Calls Try.prog 39 #[.agg #[v], .int .i64 K] w fun e w' => e = .returned (.int .i64 (K + sumLen xss)) ∧ OII w' B C v (numII K xss) ∧ Only B C w w' := by
  obtain ⟨A, c, rfl, hc, hr⟩ := h.reads
  have B0 : Below w.heap.size w (w.alloc (.cells #[.slice A xss.length c] 52)) := (Below.refl w.heap.size w).alloc (Nat.le_refl _) _
  go_enter Try.func39, Try.ntmps39
  go_wp2_with fail
  refine (markII_t (.slice A xss.length c) xss B C K _ (h.below (B0.mono hC)) hn hm h0 h1).mono ?_
  rintro e w1 ⟨rfl, ho, hon⟩
  go_wp2_with fail
  go_ret
  exact ⟨rfl, ho, ⟨hon.os.trans B0.os, hon.tape.trans B0.tape, hon.output.trans B0.output, Nat.le_trans B0.size hon.size, fun k hk hd => (hon.block k (Nat.lt_of_lt_of_le hk B0.size) hd).trans (B0.block k hk)⟩⟩
set_option maxHeartbeats 1000000 in
theorem heldL_t (A : Option Addr) (c : Nat) (xss : List (List Int)) (K : Int) (w : World) (h : RII w A (numII K xss)) (hn : xss.length ≤ 4194304) (hm : sumLen xss ≤ 2097152) (h0 : 0 ≤ K) (h1 : K ≤ 2097152) :
    Calls Try.prog 40 #[.agg #[.slice A xss.length c], .int .i64 K] w fun e w' => e = .returned (.int .i64 (K + sumLen xss)) ∧ Below w.heap.size w w' := by
  have B0 : Below w.heap.size w (w.alloc (.cells #[.slice A xss.length c] 52)) := (Below.refl w.heap.size w).alloc (Nat.le_refl _) _
  go_enter Try.func40, Try.ntmps40
  go_wp2_with fail
  refine (heldII_t A c xss K _ (h.below B0) hn hm h0 h1).mono ?_
  rintro e w1 ⟨rfl, b1⟩
  have t1 : ¬ K + (sumLen xss : Int) < 0 := by omega
  go_wp2_with fail
  go_ret
  exact ⟨rfl, B0.trans (b1.mono B0.size)⟩
end Go.Proofs.Ytlldlfiepfjahaa
