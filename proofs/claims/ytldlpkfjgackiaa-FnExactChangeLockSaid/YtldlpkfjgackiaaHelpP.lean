/- Contracts of the statements' helpers on progressions. -/
import Derived.Test.YtldlpkfjgackiaaHelp
import Derived.Test.YtldlpkfjgackiaaFMaker
namespace Go.Proofs.Ytldlpkfjgackiaa
set_option linter.unusedVariables false
open Go.RowKit
/-- The two lists of a progression are owned, in blocks apart. -/
def OP (w : World) (lo hi : Nat) (v1 v2 : Value) (xs ys : List Int) : Prop := ∃ N, lo ≤ N ∧ N ≤ hi ∧ OI w lo N v1 xs ∧ OI w N hi v2 ys
theorem OP.below {w w' : World} {lo hi : Nat} {v1 v2 : Value} {xs ys : List Int} (h : OP w lo hi v1 v2 xs ys) (hb : Below hi w w') : OP w' lo hi v1 v2 xs ys := by
  obtain ⟨N, h1, h2, h3, h4⟩ := h; exact ⟨N, h1, h2, h3.below (hb.mono h2), h4.below hb⟩
theorem OP.only {w w' : World} {lo hi a b : Nat} {v1 v2 : Value} {xs ys : List Int} (h : OP w lo hi v1 v2 xs ys) (ho : Only a b w w') (hd : hi ≤ a ∨ b ≤ lo) : OP w' lo hi v1 v2 xs ys := by
  obtain ⟨N, h1, h2, h3, h4⟩ := h; exact ⟨N, h1, h2, h3.only ho (by omega), h4.only ho (by omega)⟩
def CopyP (w : World) (xs ys : List Int) (s : Int) (e : Ending) (w' : World) : Prop :=
  ∃ A c B d, e = .returned (.agg #[.slice A xs.length c, .slice B ys.length d, .int .i64 s]) ∧ xs.length ≤ c ∧ RI w' A xs ∧ ys.length ≤ d ∧ RI w' B ys ∧ OP w' w.heap.size w'.heap.size (.slice A xs.length c) (.slice B ys.length d) xs ys ∧ Below w.heap.size w w'
set_option maxRecDepth 100000 in
set_option maxHeartbeats 2000000 in
theorem toP (A : Option Addr) (c : Nat) (xs : List Int) (B : Option Addr) (d : Nat) (ys : List Int) (s : Int) (w : World) (h : RI w A xs) (g : RI w B ys) (hn : xs.length ≤ 1048576) (hm : ys.length ≤ 1048576) :
    Calls Try.prog 39 #[.agg #[.slice A xs.length c, .slice B ys.length d, .int .i64 s]] w (CopyP w xs ys s) := by
  go_enter Try.func39, Try.ntmps39
  go_wp2_with fail
  refine (toI A c xs _ (((h.alloc _).alloc _).alloc _) hn).mono ?_
  rintro e w1 ⟨A1, c1, rfl, hc1, r1, o1, b1, z1⟩
  clear z1
  have C1 := (bcell b1).1
  have F1 := (bcell b1).2
  have s1 := b1.size
  simp only [World.size_alloc] at s1
  have s2 : w.heap.size + 1 + 1 < w1.heap.size := by omega
  have s3 : w.heap.size + 1 < w1.heap.size := by omega
  have s4 : w.heap.size < w1.heap.size := by omega
  have B1 : Below w.heap.size w w1 := ((((Below.refl w.heap.size w).alloc (Nat.le_refl _) _).alloc (by simp only [World.size_alloc]; omega) _).alloc (by simp only [World.size_alloc]; omega) _).trans (b1.mono (by simp only [World.size_alloc]; omega))
  have B2 := B1.setCell (p := ⟨w.heap.size + 1 + 1, 0, none⟩) (by simp only; omega) (.slice A1 xs.length c1)
  have o1' : OI (w1.setCell ⟨w.heap.size + 1 + 1, 0, none⟩ (.slice A1 xs.length c1)) (w.heap.size + 3) w1.heap.size (.slice A1 xs.length c1) xs := (o1.wide (by simp only [World.size_alloc]; omega) (Nat.le_refl _)).setLow (by simp only; omega)
  go_wp2_with fail
  refine (toI B d ys _ (g.below B2) hm).mono ?_
  rintro e w2 ⟨A2, c2, rfl, hc2, r2, o2, b2, z2⟩
  clear z2
  have C2 := (bcell b2).1
  have F2 := (bcell b2).2
  have s5 := b2.size
  simp only [World.size_setCell] at s5
  have t2 : w.heap.size + 1 + 1 < w2.heap.size := by omega
  have t3 : w.heap.size + 1 < w2.heap.size := by omega
  have t4 : w.heap.size < w2.heap.size := by omega
  go_wp2_with fail
  refine bodyPost_ret (v := .agg #[.slice A1 xs.length c1, .slice A2 ys.length c2, .int .i64 s]) (by simp [results, Try.results39, go_sem, C2, C1, s3]) rfl ?_
  have B3 := B2.trans (b2.mono B2.size)
  have o3 : OI w2 (w.heap.size + 3) w1.heap.size (.slice A1 xs.length c1) xs := o1'.below (b2.mono (by simp))
  have o4 : OI w2 w1.heap.size w2.heap.size (.slice A2 ys.length c2) ys := o2.wide (by simp) (Nat.le_refl _)
  clear o2 o1 o1' C2 F2 C1 F1 B2 b2
  have p3 : OI (((((w2.setCell ⟨w.heap.size + 1 + 1, 1, none⟩ (.slice A2 ys.length c2)).setCell ⟨w.heap.size + 1 + 1, 2, none⟩ (.int .i64 s)).setCell ⟨w.heap.size + 1, 0, none⟩ (.slice A1 xs.length c1)).setCell ⟨w.heap.size + 1, 1, none⟩ (.slice A2 ys.length c2)).setCell ⟨w.heap.size + 1, 2, none⟩ (.int .i64 s)) (w.heap.size + 3) w1.heap.size (.slice A1 xs.length c1) xs := by
    iterate 5 (refine OR.setLow (by simp only; omega) ?_)
    exact o3
  have p4 : OI (((((w2.setCell ⟨w.heap.size + 1 + 1, 1, none⟩ (.slice A2 ys.length c2)).setCell ⟨w.heap.size + 1 + 1, 2, none⟩ (.int .i64 s)).setCell ⟨w.heap.size + 1, 0, none⟩ (.slice A1 xs.length c1)).setCell ⟨w.heap.size + 1, 1, none⟩ (.slice A2 ys.length c2)).setCell ⟨w.heap.size + 1, 2, none⟩ (.int .i64 s)) w1.heap.size w2.heap.size (.slice A2 ys.length c2) ys := by
    iterate 5 (refine OR.setLow (by simp only; omega) ?_)
    exact o4
  refine ⟨A1, c1, A2, c2, rfl, hc1, p3.ri, hc2, p4.ri, ⟨w1.heap.size, by omega, by simp; omega, p3.wide (by omega) (Nat.le_refl _), p4.wide (Nat.le_refl _) (by simp)⟩, ?_⟩
  iterate 5 (refine Below.setCell ?_ (by simp only; omega) _)
  exact B3
set_option maxRecDepth 100000 in
set_option maxHeartbeats 2000000 in
theorem eqP_t (A B : Option Addr) (c d : Nat) (xs : List Int) (A' B' : Option Addr) (c' d' : Nat) (ys : List Int) (s : Int) (w : World) (h : RI w A xs) (g : RI w B xs) (h' : RI w A' ys) (g' : RI w B' ys) :
    Calls Try.prog 41 #[.agg #[.slice A xs.length c, .slice A' ys.length c', .int .i64 s], .agg #[.slice B xs.length d, .slice B' ys.length d', .int .i64 s]] w fun e w' => e = .returned (.bool true) ∧ Below w.heap.size w w' := by
  have B0 : Below w.heap.size w ((w.alloc (.cells #[.slice A xs.length c, .slice A' ys.length c', .int .i64 s] 58)).alloc (.cells #[.slice B xs.length d, .slice B' ys.length d', .int .i64 s] 58)) :=
    ((Below.refl w.heap.size w).alloc (Nat.le_refl _) _).alloc (by simp only [World.size_alloc]; omega) _
  have n1 : (s != s) = false := by simp
  go_enter Try.func41, Try.ntmps41
  go_wp2_with fail
  refine (eqI_t A B c d xs _ (h.below B0) (g.below B0)).mono ?_
  rintro e w1 ⟨rfl, b1⟩
  have C1 := (bcell b1).1
  have B1 := B0.trans (b1.mono B0.size)
  go_wp2_with fail
  refine (eqI_t A' B' c' d' ys _ (h'.below B1) (g'.below B1)).mono ?_
  rintro e w2 ⟨rfl, b2⟩
  have C2 := (bcell b2).1
  have s1 := b1.size
  simp only [World.size_alloc] at s1
  have i1 : w.heap.size < w1.heap.size := by omega
  have i2 : w.heap.size + 1 < w1.heap.size := by omega
  go_wp2_with fail
  go_ret
  exact ⟨rfl, B1.trans (b2.mono B1.size)⟩
set_option maxHeartbeats 1000000 in
theorem szP (A : Option Addr) (c : Nat) (xs : List Int) (B : Option Addr) (d : Nat) (ys : List Int) (s : Int) (L : Int) (w : World) (h : RI w A xs) (g : RI w B ys) (h0 : 0 ≤ L) (h1 : L ≤ 1048576) :
    Calls Try.prog 37 #[.agg #[.slice A xs.length c, .slice B ys.length d, .int .i64 s], .int .i64 L] w (ResLeftB w L (xs.length + ys.length)) := by
  have B0 : Below w.heap.size w (w.alloc (.cells #[.slice A xs.length c, .slice B ys.length d, .int .i64 s] 55)) := (Below.refl w.heap.size w).alloc (Nat.le_refl _) _
  have l1 := h.le
  have l2 := g.le
  go_enter Try.func37, Try.ntmps37
  go_wp2_with fail
  refine (szI A c xs.length L _ l1 h0 h1).mono ?_
  rintro e w1 ⟨r, rfl, hL, rfl, hm1⟩
  by_cases hneg : r < 0
  · go_wp2_with fail
    go_ret
    have := hL.2; have := hL.1
    exact ⟨-1, rfl, ⟨by omega, by omega⟩, B0, by omega⟩
  · have hL1 := hL.1
    have HL := Lib.hid hL; clear hL
    go_wp2_with fail
    refine (szI B d ys.length r _ l2 (by omega) (by omega)).mono ?_
    rintro e w2 ⟨r2, rfl, hK, rfl, hm2⟩
    by_cases hneg2 : r2 < 0
    · go_wp2_with fail
      go_ret
      have := hK.2; have := hK.1; have := HL.out.1; have := HL.out.2
      exact ⟨-1, rfl, ⟨by omega, by omega⟩, B0, by omega⟩
    · go_wp2_with fail
      go_ret
      have := hK.2; have := hK.1; have := HL.out.1; have := HL.out.2
      exact ⟨r2, rfl, ⟨by omega, by omega⟩, B0, hm2⟩
set_option maxRecDepth 100000 in
set_option maxHeartbeats 2000000 in
theorem markP_t (A : Option Addr) (c : Nat) (xs : List Int) (B : Option Addr) (d : Nat) (ys : List Int) (s : Int) (lo hi : Nat) (K : Int) (w : World) (h : OP w lo hi (.slice A xs.length c) (.slice B ys.length d) xs ys) (hn : xs.length ≤ 1048576) (hm : ys.length ≤ 1048576) (h0 : 0 ≤ K) (h1 : K ≤ 2097152) (hC : hi ≤ w.heap.size) :
    Calls Try.prog 42 #[.agg #[.slice A xs.length c, .slice B ys.length d, .int .i64 s], .int .i64 K] w fun e w' => e = .returned (.int .i64 (K + xs.length + ys.length)) ∧ True ∧ Only lo hi w w' := by
  obtain ⟨N, k1, k2, hx, hy⟩ := h
  have B0 : Below w.heap.size w (w.alloc (.cells #[.slice A xs.length c, .slice B ys.length d, .int .i64 s] 58)) := (Below.refl w.heap.size w).alloc (Nat.le_refl _) _
  have bx : BoxC (w.alloc (.cells #[.slice A xs.length c, .slice B ys.length d, .int .i64 s] 58)) w.heap.size 0 [.slice A xs.length c, .slice B ys.length d, .int .i64 s] := BoxC.new _ rfl
  go_enter Try.func42, Try.ntmps42
  go_wp2_with fail
  refine (markI_t (.slice A xs.length c) xs lo N K _ (hx.below (B0.mono (by omega))) (by omega) h0 (by omega)).mono ?_
  rintro e w1 ⟨rfl, _, on1⟩
  have q : w1.cell? ⟨w.heap.size, 0, none⟩ = some (.slice A xs.length c) ∧ w1.cell? ⟨w.heap.size, 1, none⟩ = some (.slice B ys.length d) ∧ w1.cell? ⟨w.heap.size, 2, none⟩ = some (.int .i64 s) ∧ True := bx.only on1 (.inr (by omega))
  go_wp2_with fail
  refine (markI_t (.slice B ys.length d) ys N hi (K + xs.length) w1 ((hy.below (B0.mono hC)).only on1 (.inr (Nat.le_refl _))) (by omega) (by omega) (by omega)).mono ?_
  rintro e w2 ⟨rfl, _, on2⟩
  go_wp2_with fail
  go_ret
  refine ⟨rfl, trivial, ⟨on2.os.trans (on1.os.trans B0.os), on2.tape.trans (on1.tape.trans B0.tape), on2.output.trans (on1.output.trans B0.output), Nat.le_trans B0.size (Nat.le_trans on1.size on2.size), fun k hk hd => ?_⟩⟩
  have s1 := on1.size
  have s0 := B0.size
  rw [on2.block k (by omega) (by omega), on1.block k (by omega) (by omega), B0.block k hk]
end Go.Proofs.Ytldlpkfjgackiaa
