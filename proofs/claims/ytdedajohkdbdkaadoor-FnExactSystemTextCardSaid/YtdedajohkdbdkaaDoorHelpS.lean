/- Contracts of the statements' helpers on systems. -/
import Derived.Test.YtdedajohkdbdkaaDoorMem
import Derived.Test.YtdedajohkdbdkaaDoorFTable
namespace Go.Proofs.YtdedajohkdbdkaaDoor
set_option linter.unusedVariables false
open Go.RowKit
def CopyS (w : World) (m : Mk) (xss : List (List Int)) (e : Ending) (w' : World) : Prop :=
  ∃ A c, e = .returned (.agg #[.int .i64 m.c, .int .i64 m.d, .int .i64 m.s, .int .i64 m.a, .int .i64 m.l, .slice A xss.length c]) ∧ xss.length ≤ c ∧ RII w' A xss ∧ OII w' w.heap.size w'.heap.size (.slice A xss.length c) xss ∧ Below w.heap.size w w'
set_option maxRecDepth 100000 in
set_option maxHeartbeats 2000000 in
theorem toS (m : Mk) (A : Option Addr) (c : Nat) (xss : List (List Int)) (w : World) (h : RII w A xss) (hn : xss.length ≤ 1048576) (hm : ∀ k (hk : k < xss.length), xss[k].length ≤ 1048576) :
    Calls Tryd.prog 7 #[.agg #[.int .i64 m.c, .int .i64 m.d, .int .i64 m.s, .int .i64 m.a, .int .i64 m.l, .slice A xss.length c]] w (CopyS w m xss) := by
  go_enter Tryd.func7, Tryd.ntmps7
  go_wp2_with fail
  refine (toM m.c m.d m.s m.a m.l _).mono ?_
  rintro e w1 ⟨rfl, b1⟩
  have h1 := (((h.alloc _).alloc _).alloc _).below b1
  have C1 := (bcell b1).1
  have F1 := (bcell b1).2
  have s1 := b1.size
  simp only [World.size_alloc] at s1
  have s2 : w.heap.size + 1 + 1 < w1.heap.size := by omega
  have s3 : w.heap.size + 1 < w1.heap.size := by omega
  have s4 : w.heap.size < w1.heap.size := by omega
  go_wp2_with fail
  have B1 : Below w.heap.size w w1 := ((((Below.refl w.heap.size w).alloc (Nat.le_refl _) _).alloc (by simp only [World.size_alloc]; omega) _).alloc (by simp only [World.size_alloc]; omega) _).trans (b1.mono (by simp only [World.size_alloc]; omega))
  have B5 := ((((B1.setCell (p := ⟨w.heap.size + 1 + 1, 0, none⟩) (by simp only; omega) (.int .i64 m.c)).setCell (p := ⟨w.heap.size + 1 + 1, 1, none⟩) (by simp only; omega) (.int .i64 m.d)).setCell (p := ⟨w.heap.size + 1 + 1, 2, none⟩) (by simp only; omega) (.int .i64 m.s)).setCell (p := ⟨w.heap.size + 1 + 1, 3, none⟩) (by simp only; omega) (.int .i64 m.a)).setCell (p := ⟨w.heap.size + 1 + 1, 4, none⟩) (by simp only; omega) (.int .i64 m.l)
  refine (toII A c xss _ (h.below B5) hn hm).mono ?_
  rintro e w6 ⟨A6, c6, rfl, hc6, r6, o6, b6⟩
  have C6 := (bcell b6).1
  have F6 := (bcell b6).2
  have s5 := b6.size
  simp only [World.size_setCell] at s5
  have t2 : w.heap.size + 1 + 1 < w6.heap.size := by omega
  have t3 : w.heap.size + 1 < w6.heap.size := by omega
  have t4 : w.heap.size < w6.heap.size := by omega
  go_wp2_with fail
  refine bodyPost_ret (v := .agg #[.int .i64 m.c, .int .i64 m.d, .int .i64 m.s, .int .i64 m.a, .int .i64 m.l, .slice A6 xss.length c6]) (by simp [results, Tryd.results7, go_sem, C6, C1, s3]) rfl ?_
  have B6 := B5.trans (b6.mono B5.size)
  obtain ⟨B, hB, hBw, o6'⟩ : ∃ B, w.heap.size + 1 + 1 < B ∧ w.heap.size ≤ B ∧ OII w6 B w6.heap.size (.slice A6 xss.length c6) xss := ⟨_, by simp only [World.size_setCell]; omega, by simp only [World.size_setCell]; omega, o6⟩
  clear o6 C6 F6 C1 F1 B5 b6
  refine ⟨A6, c6, rfl, hc6, OII.rii (B := B) (C := w6.heap.size) (n := xss.length) (c := c6) ?_, OII.wide (B := B) (C := w6.heap.size) ?_ hBw (by simp), ?_⟩
  · iterate 7 (refine OII.setLow (by simp only; omega) ?_)
    exact o6'
  · iterate 7 (refine OII.setLow (by simp only; omega) ?_)
    exact o6'
  · iterate 7 (refine Below.setCell ?_ (by simp only; omega) _)
    exact B6
set_option maxHeartbeats 1000000 in
theorem eqM_t (m : Mk) (w : World) :
    Calls Tryd.prog 19 #[.agg #[.int .i64 m.c, .int .i64 m.d, .int .i64 m.s, .int .i64 m.a, .int .i64 m.l], .agg #[.int .i64 m.c, .int .i64 m.d, .int .i64 m.s, .int .i64 m.a, .int .i64 m.l]] w fun e w' => e = .returned (.bool true) ∧ Below w.heap.size w w' := by
  have n1 : (m.c != m.c) = false := by simp
  have n2 : (m.d != m.d) = false := by simp
  have n3 : (m.s != m.s) = false := by simp
  have n4 : (m.a != m.a) = false := by simp
  have n5 : (m.l != m.l) = false := by simp
  go_enter Tryd.func19, Tryd.ntmps19
  go_wp2
  go_ret
  exact ⟨rfl, ((Below.refl w.heap.size w).alloc (Nat.le_refl _) _).alloc (by simp only [World.size_alloc]; omega) _⟩
set_option maxRecDepth 100000 in
set_option maxHeartbeats 2000000 in
theorem eqS_t (m : Mk) (A B : Option Addr) (c d : Nat) (xss : List (List Int)) (w : World) (h : RII w A xss) (g : RII w B xss) :
    Calls Tryd.prog 10 #[.agg #[.int .i64 m.c, .int .i64 m.d, .int .i64 m.s, .int .i64 m.a, .int .i64 m.l, .slice A xss.length c], .agg #[.int .i64 m.c, .int .i64 m.d, .int .i64 m.s, .int .i64 m.a, .int .i64 m.l, .slice B xss.length d]] w fun e w' => e = .returned (.bool true) ∧ Below w.heap.size w w' := by
  have B0 : Below w.heap.size w ((w.alloc (.cells #[.int .i64 m.c, .int .i64 m.d, .int .i64 m.s, .int .i64 m.a, .int .i64 m.l, .slice A xss.length c] 33)).alloc (.cells #[.int .i64 m.c, .int .i64 m.d, .int .i64 m.s, .int .i64 m.a, .int .i64 m.l, .slice B xss.length d] 33)) :=
    ((Below.refl w.heap.size w).alloc (Nat.le_refl _) _).alloc (by simp only [World.size_alloc]; omega) _
  go_enter Tryd.func10, Tryd.ntmps10
  go_wp2_with fail
  refine (eqM_t m _).mono ?_
  rintro e w1 ⟨rfl, b1⟩
  have C1 := (bcell b1).1
  have B1 := B0.trans (b1.mono B0.size)
  go_wp2_with fail
  refine (eqII_t A B c d xss _ (h.below B1) (g.below B1)).mono ?_
  rintro e w2 ⟨rfl, b2⟩
  go_wp2_with fail
  go_ret
  exact ⟨rfl, B1.trans (b2.mono B1.size)⟩
set_option maxHeartbeats 1000000 in
theorem szS (m : Mk) (A : Option Addr) (c : Nat) (xss : List (List Int)) (L : Int) (w : World) (h : RII w A xss) (h0 : 0 ≤ L) (h1 : L ≤ 1048576) :
    Calls Tryd.prog 4 #[.agg #[.int .i64 m.c, .int .i64 m.d, .int .i64 m.s, .int .i64 m.a, .int .i64 m.l, .slice A xss.length c], .int .i64 L] w (ResLeftB w L (xss.length + sumLen xss)) := by
  have B0 : Below w.heap.size w (w.alloc (.cells #[.int .i64 m.c, .int .i64 m.d, .int .i64 m.s, .int .i64 m.a, .int .i64 m.l, .slice A xss.length c] 26)) := (Below.refl w.heap.size w).alloc (Nat.le_refl _) _
  go_enter Tryd.func4, Tryd.ntmps4
  go_wp2_with fail
  refine (szII A c xss L _ (h.below B0) h0 h1).mono ?_
  rintro e w1 ⟨r, rfl, hL, rfl, hm1⟩
  by_cases hneg : r < 0
  · go_wp2_with fail
    go_ret
    have := hL.2; have := hL.1
    exact ⟨-1, rfl, ⟨by omega, by omega⟩, B0, by omega⟩
  · go_wp2_with fail
    go_ret
    exact ⟨r, rfl, hL, B0, hm1⟩
end Go.Proofs.YtdedajohkdbdkaaDoor
