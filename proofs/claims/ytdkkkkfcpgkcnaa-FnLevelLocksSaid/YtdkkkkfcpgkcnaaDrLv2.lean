/- Contracts of the draws of levels: DrawLeastLevels, DrawLevelSizes, DrawIsBelow. -/
import Derived.Test.YtdkkkkfcpgkcnaaDrLv
import Derived.Deep.CutBlock
import Derived.Deep.CutRange
namespace Go.Proofs.Ytdkkkkfcpgkcnaa
set_option linter.unusedVariables false
open Go.RowKit
theorem results_cell_tmp1 {fn : Func} {p u : Tmp} {ty : TypeId} (h : fn.results = #[.cell p ty, .tmp u]) (tmps : Array Value) (P : Program) (w : World) :
    (results fn tmps).run P w =
      ((asAddr (tmps.getD p undef)).run P w).andThen fun a w₁ => ((loadVar ty a).run P w₁).andThen fun y w₂ => .ok (.tuple #[y, tmps.getD u undef]) w₂ := by
  simp only [results, h]
  simp [Sem.run_bind, Result.andThen]
theorem results_cell_row_tmp1 {P : Program} {fn : Func} {p u : Tmp} {ty : TypeId} (h : fn.results = #[.cell p ty, .tmp u]) (tmps : Array Value) (w : World) (g : Nat) (t : TypeId) (cs : Array Value) (fr : Nat × Nat) (d : TypeDesc)
    (hp : tmps.getD p undef = .pointer (some ⟨g, 0, none⟩)) (hg : w.heap[g]? = some (.cells cs t fr))
    (hu : P.underlying ty = some d) (hd : (match d with | .struct _ | .array _ _ => true | _ => false) = true) (hi : (P.info? ty).map (·.size) = some cs.size) :
    (results fn tmps).run P w = .ok (.tuple #[.agg cs, tmps.getD u undef]) w := by
  rw [results_cell_tmp1 h, hp]
  simp [asAddr, Result.andThen, run_loadVar_row w g t ty cs fr d hg hu hd hi]
/-- a drawn maker and a list -/
def DrM1 (w : World) (e : Ending) (w' : World) : Prop :=
  ∃ (m : Mk) (A1 : Option Addr) (c1 : Nat) (xs : List Int), e = .returned (.tuple #[.agg #[.int .i64 m.c, .int .i64 m.d, .int .i64 m.s, .int .i64 m.a, .int .i64 m.l], .slice A1 xs.length c1]) ∧ MkD m ∧ xs.length ≤ c1 ∧ RI w' A1 xs ∧ Below w.heap.size w w'
set_option maxRecDepth 100000 in
set_option maxHeartbeats 4000000 in
theorem drawLevelSizes_any (A : Option Addr) (c : Nat) (bs : List Int) (w : World) (h : RCode w A bs) : Calls Try.prog 52 #[.slice A bs.length c] w (DrM1 w) := by
  obtain ⟨w0, hw0⟩ : ∃ w0, w0 = w.alloc (.cells #[.int .i64 0, .int .i64 0, .int .i64 0, .int .i64 0, .int .i64 0] 45) := ⟨_, rfl⟩
  have B0 : Below w.heap.size w w0 := by rw [hw0]; exact (Below.refl w.heap.size w).alloc (Nat.le_refl _) _
  have hz0 : w0.heap.size = w.heap.size + 1 := by rw [hw0]; simp
  have hbk : w0.heap[w.heap.size]? = some (.cells #[.int .i64 0, .int .i64 0, .int .i64 0, .int .i64 0, .int .i64 0] 45 (0, 0)) := by
    have := heap_alloc_new w (.cells #[.int .i64 0, .int .i64 0, .int .i64 0, .int .i64 0, .int .i64 0] 45)
    rw [hw0]; simpa using this
  have HBK := Lib.hid hbk; have HB0 := Lib.hid B0; have HZ0 := Lib.hid hz0
  have HF := Lib.hid (l01From_any A c bs w0 (RV.below h.1 B0) h.2)
  clear h hbk B0 hz0
  go_enter Try.func52, Try.ntmps52
  go_wp2_with fail
  rw [← hw0]
  clear hw0
  refine HF.out.mono ?_
  rintro e w1 ⟨rfl, hS, hb, hz⟩
  have HD := Lib.hid (l12Draw_any _ _ _ _ w1 hS)
  have HB1 := Lib.hid hb
  have hs1 : w.heap.size < w1.heap.size := by have := HZ0.out; omega
  have HBK1 := Lib.hid ((hb.block w.heap.size (by have := HZ0.out; omega)).trans HBK.out)
  clear hS hb hz
  go_wp2_with fail
  refine HD.out.mono ?_
  rintro e w2 ⟨m, A1, c1, xs, A2, c2, ls, A3, c3, ps, rfl, hm, hk, h1, h2, h3, hD⟩
  have hs12 := hD.size
  have HR := Lib.hid h2; have HD2 := Lib.hid hD; have HM := Lib.hid (And.intro hm hk)
  clear hm hk h1 h2 h3
  have hw2l : w.heap.size < w2.heap.size := by omega
  have hne : w.heap.size ≠ w2.heap.size := by omega
  have lb := (hD.keep.block w.heap.size hs1 (by have := HZ0.out; omega)).trans HBK1.out
  have n0 := boxC_of_heap lb 0 _ rfl
  have n1 := boxC_of_heap lb 1 _ rfl
  have n2 := boxC_of_heap lb 2 _ rfl
  have n3 := boxC_of_heap lb 3 _ rfl
  have n4 := boxC_of_heap lb 4 _ rfl
  have m0 := frozen_of_heap lb
  have l0 := m0 0; have l1 := m0 1; have l2 := m0 2; have l3 := m0 3; have l4 := m0 4
  have HLB := Lib.hid lb
  clear lb m0
  clear hD
  go_wp2_with fail
  have lb := HLB.out
  have h5 : (((((w2.setCell ⟨w.heap.size, 0, none⟩ (.int .i64 m.c)).setCell ⟨w.heap.size, 1, none⟩ (.int .i64 m.d)).setCell ⟨w.heap.size, 2, none⟩ (.int .i64 m.s)).setCell ⟨w.heap.size, 3, none⟩ (.int .i64 m.a)).setCell ⟨w.heap.size, 4, none⟩ (.int .i64 m.l)).heap[w.heap.size]? = some (.cells #[.int .i64 m.c, .int .i64 m.d, .int .i64 m.s, .int .i64 m.a, .int .i64 m.l] 45 (0, 0)) := by simp [World.setCell, Array.getElem?_modify, lb]
  have ha : Below (((((w2.setCell ⟨w.heap.size, 0, none⟩ (.int .i64 m.c)).setCell ⟨w.heap.size, 1, none⟩ (.int .i64 m.d)).setCell ⟨w.heap.size, 2, none⟩ (.int .i64 m.s)).setCell ⟨w.heap.size, 3, none⟩ (.int .i64 m.a)).setCell ⟨w.heap.size, 4, none⟩ (.int .i64 m.l)).heap.size (((((w2.setCell ⟨w.heap.size, 0, none⟩ (.int .i64 m.c)).setCell ⟨w.heap.size, 1, none⟩ (.int .i64 m.d)).setCell ⟨w.heap.size, 2, none⟩ (.int .i64 m.s)).setCell ⟨w.heap.size, 3, none⟩ (.int .i64 m.a)).setCell ⟨w.heap.size, 4, none⟩ (.int .i64 m.l)) ((((((w2.setCell ⟨w.heap.size, 0, none⟩ (.int .i64 m.c)).setCell ⟨w.heap.size, 1, none⟩ (.int .i64 m.d)).setCell ⟨w.heap.size, 2, none⟩ (.int .i64 m.s)).setCell ⟨w.heap.size, 3, none⟩ (.int .i64 m.a)).setCell ⟨w.heap.size, 4, none⟩ (.int .i64 m.l)).alloc (.cells #[.int .i64 m.c, .int .i64 m.d, .int .i64 m.s, .int .i64 m.a, .int .i64 m.l] 45)) := (Below.refl _ _).alloc (Nat.le_refl _) _
  refine bodyPost_ret (results_cell_row_tmp1 rfl _ _ w.heap.size 45 #[.int .i64 m.c, .int .i64 m.d, .int .i64 m.s, .int .i64 m.a, .int .i64 m.l] (0, 0) _ (by rfl) ((ha.block w.heap.size (by simpa using hw2l)).trans h5) Try.underlying45 rfl (by kernel_rfl)) rfl ?_
  have kf := keep_five w2 w.heap.size (.int .i64 m.c) (.int .i64 m.d) (.int .i64 m.s) (.int .i64 m.a) (.int .i64 m.l)
  have hz0' := HZ0.out
  have hbb : Below w.heap.size w w2 := Dr.toBelow2 (HB0.out.trans (HB1.out.mono (by omega))) (by omega) HD2.out (by omega)
  exact ⟨m, A2, c2, ls, rfl, HM.out.1, HM.out.2.2.1, ((HR.out.keepF kf (fun g e => by omega)).1).below ha, (hbb.trans (kf.toBelow hbb.size (fun g hg e => by omega))).trans (ha.mono (by simp; omega))⟩
/-- two drawn lists -/
def DrII2 (w : World) (e : Ending) (w' : World) : Prop :=
  ∃ (A1 : Option Addr) (c1 : Nat) (xs : List Int) (A2 : Option Addr) (c2 : Nat) (ys : List Int), e = .returned (.tuple #[.slice A1 xs.length c1, .slice A2 ys.length c2]) ∧ xs.length ≤ c1 ∧ ys.length ≤ c2 ∧ RI w' A1 xs ∧ RI w' A2 ys ∧ Below w.heap.size w w'
set_option maxRecDepth 100000 in
set_option maxHeartbeats 4000000 in
theorem drawIsBelow_any (A : Option Addr) (c : Nat) (bs : List Int) (w : World) (h : RCode w A bs) : Calls Try.prog 51 #[.slice A bs.length c] w (DrII2 w) := by
  have HF := Lib.hid (l01From_any A c bs w h.1 h.2)
  clear h
  go_enter Try.func51, Try.ntmps51
  go_wp2_with fail
  refine HF.out.mono ?_
  rintro e w1 ⟨rfl, hS, hb, hz⟩
  have HD := Lib.hid (l12Draw_any _ _ _ _ w1 hS)
  have HB1 := Lib.hid hb
  have hs1 : w.heap.size < w1.heap.size := by omega
  clear hS hb hz
  go_wp2_with fail
  refine HD.out.mono ?_
  rintro e w2 ⟨m, A1, c1, xs, A2, c2, ls, A3, c3, ps, rfl, hm, hk, h1, h2, h3, hD⟩
  obtain ⟨w3, hw3⟩ : ∃ w3, w3 = w2.alloc (.cells #[.int .i64 m.c, .int .i64 m.d, .int .i64 m.s, .int .i64 m.a, .int .i64 m.l] 45) := ⟨_, rfl⟩
  have hb3 : Below w2.heap.size w2 w3 := by rw [hw3]; exact (Below.refl _ _).alloc (Nat.le_refl _) _
  have HR := Lib.hid (h3.below hb3); have HD3 := Lib.hid (hD.below hb3)
  have hpc : ps.length ≤ c3 := hk.2.2.1
  have hp16 : ps.length ≤ 16 := hk.2.2.2.2.2
  have HN := Lib.hid (l01Next_dr HD3.out.src 2)
  clear hm hk h1 h2 h3 hD hb3
  go_wp2_with fail
  rw [← hw3]
  clear hw3
  refine HN.out.mono ?_
  rintro e w4 ⟨r, rfl, r0, r1, hd4, hz4⟩
  have HD4 := Lib.hid (HD3.out.trans hd4)
  have HR4 := Lib.hid (HR.out.dr hs1 hd4)
  clear hd4 hz4 r1
  by_cases hr : r = 0
  · subst hr
    go_wp2_with fail
    refine wp_region_held_drew (S := (fun _ => True)) (by kernel_rfl) (trivial) (fun hHeld => ?_)
    refine takeD (i := 0) (some 25) (.slice A3 ps.length c3) rfl (by kernel_rfl) (by kernel_rfl) (by kernel_rfl) (by kernel_rfl) (fun _ _ _ h => h) (by assumption) (Or.inl ⟨by rfl, fun w hSw => by (try dsimp only at hSw); go_simp⟩) ?_
    simp only [Act.put, List.setIfInBounds_toArray, List.set_cons_zero, List.set_cons_succ]
    refine takeD (i := 1) (some 26) (.slice A3 ps.length c3) rfl (by kernel_rfl) (by kernel_rfl) (by kernel_rfl) (by kernel_rfl) (fun _ _ _ h => h) (by assumption) (Or.inl ⟨by rfl, fun w hSw => by (try dsimp only at hSw); go_simp⟩) ?_
    simp only [Act.put, List.setIfInBounds_toArray, List.set_cons_zero, List.set_cons_succ]
    refine takeD (i := 2) (some 27) (.pointer (some ⟨w.heap.size, 0, none⟩)) rfl (by kernel_rfl) (by kernel_rfl) (by kernel_rfl) (by kernel_rfl) (fun _ _ _ h => h) (by assumption) (Or.inl ⟨by rfl, fun w hSw => by (try dsimp only at hSw); go_simp⟩) ?_
    simp only [Act.put, List.setIfInBounds_toArray, List.set_cons_zero, List.set_cons_succ]
    refine takeD (i := 3) (some 28) (.slice A3 ps.length c3) rfl (by kernel_rfl) (by kernel_rfl) (by kernel_rfl) (by kernel_rfl) (fun _ _ _ h => h) (by assumption) (Or.inl ⟨by rfl, fun w hSw => by (try dsimp only at hSw); go_simp⟩) ?_
    simp only [Act.put, List.setIfInBounds_toArray, List.set_cons_zero, List.set_cons_succ]
    refine takeD (i := 4) (some 29) (.int .i64 (ps.length : Int)) rfl (by kernel_rfl) (by kernel_rfl) (by kernel_rfl) (by kernel_rfl) (fun _ _ _ h => h) (by assumption) (Or.inl ⟨by rfl, fun w hSw => by (try dsimp only at hSw); go_simp⟩) ?_
    simp only [Act.put, List.setIfInBounds_toArray, List.set_cons_zero, List.set_cons_succ]
    refine takeD (i := 5) (some 30) (.int .i64 ((ps.length : Int) + 1)) rfl (by kernel_rfl) (by kernel_rfl) (by kernel_rfl) (by kernel_rfl) (fun _ _ _ h => h) (by assumption) (Or.inl ⟨by rfl, fun w hSw => by (try dsimp only at hSw); go_simp; (rw [IntKind.wrap_i64]; omega)⟩) ?_
    simp only [Act.put, List.setIfInBounds_toArray, List.set_cons_zero, List.set_cons_succ]
    refine wpAnyH_ready (rs := [6]) (by kernel_rfl) (by simp) (AllReadyH.cons rfl (fun K hK => ?_) AllReadyH.nil)
    go_simp
    refine (l01Next_dr HD4.out.drew.src _).mono ?_
    rintro e w5 ⟨q, rfl, q0, q1, hd5, hz5⟩
    obtain ⟨k, rfl⟩ : ∃ k : Nat, q = (k : Int) := ⟨q.toNat, by omega⟩
    have hkp : k ≤ ps.length := by omega
    have hkc : (k : Int) ≤ (c3 : Int) := by omega
    have hk0 : (0 : Int) ≤ (k : Int) := by omega
    have HD5 := Lib.hid (HD4.out.drew.trans hd5)
    have HR5 := Lib.hid ((HR4.out.below (belowDrew0 _)).dr hs1 hd5)
    clear hd5 hz5 q1
    have HHeld := trivial
    refine hK.out _ _ HHeld (fun _ => ?_)
    clear hK K
    try simp only [Act.put, List.setIfInBounds_toArray, List.set_cons_zero, List.set_cons_succ]
    refine takeD (i := 7) (some 32) (.slice A3 k c3) rfl (by kernel_rfl) (by kernel_rfl) (by kernel_rfl) (by kernel_rfl) (fun _ _ _ h => h) (by assumption) (Or.inl ⟨by rfl, fun w hSw => by (try dsimp only at hSw); go_simp⟩) ?_
    simp only [Act.put, List.setIfInBounds_toArray, List.set_cons_zero, List.set_cons_succ]
    refine takeD (i := 8) (some 2) (.slice A3 ps.length c3) rfl (by kernel_rfl) (by kernel_rfl) (by kernel_rfl) (by kernel_rfl) (fun _ _ _ h => h) (by assumption) (Or.inl ⟨by rfl, fun w hSw => by (try dsimp only at hSw); go_simp⟩) ?_
    simp only [Act.put, List.setIfInBounds_toArray, List.set_cons_zero, List.set_cons_succ]
    refine takeD (i := 9) (some 3) (.slice A3 k c3) rfl (by kernel_rfl) (by kernel_rfl) (by kernel_rfl) (by kernel_rfl) (fun _ _ _ h => h) (by assumption) (Or.inl ⟨by rfl, fun w hSw => by (try dsimp only at hSw); go_simp⟩) ?_
    simp only [Act.put, List.setIfInBounds_toArray, List.set_cons_zero, List.set_cons_succ]
    refine wpAnyH_done (by kernel_rfl) ?_ _
    go_wp2_with fail
    go_ret2
    have hl : (ps.take k).length = k := by simp; omega
    have hr2 := HR5.out.1.take k
    refine ⟨A3, c3, ps, A3, c3, ps.take k, by rw [hl]; rfl, hpc, by rw [hl]; omega, HR5.out.1, hr2, Dr.toBelow HB1.out HD5.out⟩
  · have hr' : (r == 0) = false := by simpa using hr
    have HD5 := Lib.hid (l12Draw_any _ _ _ _ w4 HD4.out.src)
    go_wp2_with fail
    refine HD5.out.mono ?_
    rintro e w5 ⟨n, Y1, d1, ys, Y2, d2, zs, Y3, d3, qs, rfl, hm, hk, h1, h2, h3, hd5⟩
    have HD5' := Lib.hid (HD4.out.trans hd5)
    have HR5 := Lib.hid (HR4.out.dr hs1 hd5)
    have HQ := Lib.hid h3
    have hqc : qs.length ≤ d3 := hk.2.2.1
    clear hm hk h1 h2 h3 hd5
    go_wp2_with fail
    go_ret2
    exact ⟨A3, c3, ps, Y3, d3, qs, rfl, hpc, hqc, HR5.out.1.below ((Below.refl _ _).alloc (Nat.le_refl _) _), HQ.out.1.below ((Below.refl _ _).alloc (Nat.le_refl _) _), (Dr.toBelow HB1.out HD5'.out).alloc (by have := (Dr.toBelow HB1.out HD5'.out).size; omega) _⟩
def LLR (S : Nat) (A : Option Addr) (c : Nat) (bs : List Int) (w3 : World) (v : Value) (wx : World) : Prop := ∃ xs : List Int, OV wx w3.heap.size 2 v (ints xs) ∧ Dr S A c bs w3 wx
set_option maxRecDepth 100000 in
set_option maxHeartbeats 4000000 in
theorem drawLeastLevels_any (A : Option Addr) (c : Nat) (bs : List Int) (w : World) (h : RCode w A bs) : Calls Try.prog 40 #[.slice A bs.length c] w (DrM1 w) := by
  obtain ⟨w0, hw0⟩ : ∃ w0, w0 = w.alloc (.cells #[.int .i64 0, .int .i64 0, .int .i64 0, .int .i64 0, .int .i64 0] 45) := ⟨_, rfl⟩
  have B0 : Below w.heap.size w w0 := by rw [hw0]; exact (Below.refl w.heap.size w).alloc (Nat.le_refl _) _
  have hz0 : w0.heap.size = w.heap.size + 1 := by rw [hw0]; simp
  have hbk : w0.heap[w.heap.size]? = some (.cells #[.int .i64 0, .int .i64 0, .int .i64 0, .int .i64 0, .int .i64 0] 45 (0, 0)) := by
    have := heap_alloc_new w (.cells #[.int .i64 0, .int .i64 0, .int .i64 0, .int .i64 0, .int .i64 0] 45)
    rw [hw0]; simpa using this
  have HBK := Lib.hid hbk; have HB0 := Lib.hid B0; have HZ0 := Lib.hid hz0
  have HF := Lib.hid (l01From_any A c bs w0 (RV.below h.1 B0) h.2)
  clear h hbk B0 hz0
  go_enter Try.func40, Try.ntmps40
  go_wp2_with fail
  rw [← hw0]
  clear hw0
  refine HF.out.mono ?_
  rintro e w1 ⟨rfl, hS, hb, hz⟩
  obtain ⟨S, hSe⟩ : ∃ S, S = w0.heap.size := ⟨_, rfl⟩
  have HB1 := Lib.hid hb
  have hs1 : w.heap.size < w1.heap.size := by have := HZ0.out; omega
  have HBK1 := Lib.hid ((hb.block w.heap.size (by have := HZ0.out; omega)).trans HBK.out)
  rw [← hSe] at hS ⊢
  have HSE := Lib.hid hSe
  have HD := Lib.hid (l02Draw_any S _ _ _ w1 hS)
  have HS1 := Lib.hid hS
  have hSw : w.heap.size < S := by have := HZ0.out; omega
  have hS1 : S < w1.heap.size := by omega
  clear hS hb hz hSe
  go_wp2_with fail
  refine HD.out.mono ?_
  rintro e w2 ⟨m, rfl, hm, hS2, hK2⟩
  have HM := Lib.hid hm
  have HD2 := Lib.hid (show Dr S A c bs w1 w2 from ⟨HS1.out, hS2, hK2⟩)
  obtain ⟨w3, hw3⟩ : ∃ w3, w3 = w2.alloc (.cells #[.int .i64 m.c, .int .i64 m.d, .int .i64 m.s, .int .i64 m.a, .int .i64 m.l] 45) := ⟨_, rfl⟩
  have HD3 := Lib.hid (show Dr S A c bs w1 w3 by rw [hw3]; exact HD2.out.alloc _)
  have HX3 := Lib.hid (show BoxC w3 w2.heap.size 0 (mkCells m) by rw [hw3]; exact BoxC.new (mkCells m) rfl)
  have hz3 : w3.heap.size = w2.heap.size + 1 := by rw [hw3]; simp
  have hs12 : w1.heap.size ≤ w2.heap.size := hK2.size
  have HO3 := Lib.hid (OV.new0 (w := w3) (B := w3.heap.size) (e := 2) (Nat.le_refl _))
  have HN3 := Lib.hid (l01Next_dr (HD3.out.alloc (.cells #[] 2)).src 3)
  clear hm hS2 hK2
  go_wp2_with fail
  rw [← hw3]
  clear hw3
  refine HN3.out.mono ?_
  rintro e w4 ⟨r, rfl, r0, r1, hd4, hz4⟩
  have HD4 := Lib.hid (((Dr.refl HD3.out.src).alloc (.cells #[] 2)).trans hd4)
  have HO4 := Lib.hid (HO3.out.dr (show S < w3.heap.size by omega) hd4)
  have rb : r < 3 := by omega
  clear hd4 hz4 r1
  go_wp2_with fail
  go_loopw [6, 7] (fun v i wr => ∃ (xs : List Int) (q : Int), i = .int .i64 q ∧ 0 ≤ q ∧ xs.length + q ≤ 3 ∧ 1 ≤ xs.length + q ∧ OV wr w3.heap.size 2 v (ints xs) ∧ Dr S A c bs w3 wr) (fun _ i _ => (intOf i).toNat)
  case atStart => exact ⟨[], 1 + r, rfl, by omega, by simp; omega, by simp; omega, by rw [← hz3]; exact HO4.out, HD4.out⟩
  case round =>
    obtain ⟨xs, q, rfl, q0, q3, q1, ho, hD⟩ := hrel
    have HO := Lib.hid ho; have HDR := Lib.hid hD
    have hsz := hD.size
    clear ho hD
    by_cases hlt : q > 0
    · have hlt1 : 0 < q := hlt
      have HN := Lib.hid (l01Next_dr HDR.out.src 12)
      go_wp2_with fail
      refine HN.out.mono ?_
      rintro e w5 ⟨y, rfl, y0, y1, hd5, hz5⟩
      have HD5 := Lib.hid (HDR.out.trans hd5)
      have HO5 := Lib.hid (HO.out.dr (show S < w3.heap.size by omega) hd5)
      have yb : y < 12 := by omega
      have HP := Lib.hid (show Calls Try.prog 118 #[.pointer (some ⟨S, 0, none⟩), .slice (some ⟨w5.heap.size, 0, none⟩) 6 6] (w5.alloc (.cells #[.int .i64 1, .int .i64 2, .int .i64 3, .int .i64 4, .int .i64 9, .int .i64 (1 + y)] 2)) _ from l01Pick_new HD5.out.src [1, 2, 3, 4, 9, 1 + y] (by simp) (by simp))
      clear hd5 hz5 y1
      go_wp2_with fail
      refine HP.out.mono ?_
      rintro e w6 ⟨z, rfl, hz, hd6, hz6⟩
      have HD6 := Lib.hid (HD5.out.trans hd6)
      have ho6 := HO5.out.dr (show S < w3.heap.size by omega) hd6
      have hs6 := HD6.out.size
      have hxl : xs.length ≤ 3 := by omega
      clear hz hd6 hz6
      go_wp2_with (at_builtin; refine wpList_app1 _ rfl _ _ _ rfl w3.heap.size 2 _ 8 Try.underlying30 info_int rfl (by omega) _ _ rfl (ho6.alloc _) _ _ rfl (one_cell _ _ _) rfl (by rw [ints_length]; omega) (by simp; omega) ?_; intro v' w7 ho7 hg7 hn7 hat7)
      go_roundw
      case rel => exact ⟨xs ++ [z], q - 1, by go_num, by omega, by simp; omega, by simp; omega, by rw [ints_append]; exact ho7, HD6.out.app ho6 (Nat.le_refl _) hg7⟩
      case measure => simp [intOf]; omega
    · have hlt' : decide (q > 0) = false := decide_eq_false hlt
      have HN := Lib.hid (l01Next_dr HDR.out.src 20)
      have hx1 : 1 ≤ xs.length := by omega
      have hx3 : xs.length ≤ 3 := by omega
      go_wp2_with fail
      refine HN.out.mono ?_
      rintro e w5 ⟨y, rfl, y0, y1, hd5, hz5⟩
      have HD5 := Lib.hid (HDR.out.trans hd5)
      have HO5 := Lib.hid (HO.out.dr (show S < w3.heap.size by omega) hd5)
      have hs5 := HD5.out.size
      clear hd5 hz5 y1
      have FIN := Lib.hid (show ∀ (wx wy : World) (v : Value) (ks : List Int), OV wx w3.heap.size 2 v (ints ks) → Below w.heap.size w wx → KeepF (fun g => g = w.heap.size) wx wy → DrM1 w (.returned (.tuple #[.agg #[.int .i64 m.c, .int .i64 m.d, .int .i64 m.s, .int .i64 m.a, .int .i64 m.l], v])) wy from fun wx wy v ks ho hbb kf => by
        obtain ⟨K, q, rfl, hq, hr⟩ := RIn.ofOI' ho
        exact ⟨m, K, q, ks, rfl, HM.out, hq, (hr.keepF kf (fun g e => by omega)).1, hbb.trans (kf.toBelow hbb.size (fun g hg e => by omega))⟩)
      go_upto_block 2 with fail
      go_cut [6] from 31 to 44 (fun v wx => LLR S A c bs w3 v wx)
      case first =>
        by_cases p0 : y = 0
        · subst p0
          obtain ⟨gL, cL, eL, hgL, hgL2, hcL, hL, hfL⟩ := HO5.out.open1 (by omega)
          subst eL
          have hxne : xs ≠ [] := by rintro rfl; simp at hx1
          have hi1 : (0 : Int) < (xs.length : Int) := by omega
          have HP := Lib.hid (show Calls Try.prog 118 #[.pointer (some ⟨S, 0, none⟩), .slice (some ⟨w5.heap.size, 0, none⟩) 3 3] (w5.alloc (.cells #[.int .i64 0, .int .i64 1000000000000, .int .i64 1000000000001] 2)) _ from l01Pick_new HD5.out.src [0, 1000000000000, 1000000000001] (by simp) (by simp))
          clear hL hfL
          go_wp2_with fail
          refine HP.out.mono ?_
          rintro e w6 ⟨z, rfl, hz, hd6, hz6⟩
          have HD6 := Lib.hid (HD5.out.trans hd6)
          have ho6 := HO5.out.dr (show S < w3.heap.size by omega) hd6
          obtain ⟨gM, cM, eM, hgM, hgM2, hcM, hM, hfM⟩ := ho6.open1 (by omega)
          have e1 : gM = gL := by injection eM with eM; injection eM with eM; injection eM with eM _ _; exact eM.symm
          subst e1
          have y0' := hM 0 (by omega)
          have f0 := hfM 0
          have HP6 := Lib.hid (OV.put ho6 rfl 0 z)
          have HD7 := Lib.hid (HD6.out.set ⟨gM, 0, none⟩ (by simp only; omega) (.int .i64 z))
          clear hz hd6 hz6 ho6 hM hfM
          go_wp2_with fail
          go_meet
          exact ⟨xs.set 0 z, HP6.out, HD7.out⟩
        by_cases p1 : y = 1
        · subst p1
          have hr3 := rv_three w5 1 1 1 2
          have ho5 := HO5.out
          go_wp2_with (at_builtin; refine wpList_app _ rfl _ _ _ rfl w3.heap.size 2 _ 8 Try.underlying30 info_int rfl _ _ rfl (ho5.alloc _) (some ⟨w5.heap.size, 0, none⟩) 3 3 (ints [1, 1, 1]) rfl rfl hr3 (ints_one _) (by simp [ints_length]; omega) (by simp [ints_length]; omega) (by simp; omega) ?_; intro v6 w6 ho6 hg6 hn6 hat6)
          go_meet
          exact ⟨xs ++ [1, 1, 1], by rw [ints_append]; exact ho6, HD5.out.app ho5 (Nat.le_refl _) hg6⟩
        by_cases p2 : y = 2
        · subst p2
          have hwl : w2.heap.size < w5.heap.size := by have := HD5.out.size; omega
          obtain ⟨x0, x1, x2, x3, x4, _⟩ := HX3.out.dr (by omega) (by omega) HD5.out
          simp only [Nat.zero_add] at x1 x2 x3 x4
          have HD17 := Lib.hid (HD3.out.trans HD5.out)
          have lb := (HD17.out.keep.block w.heap.size hs1 (by omega)).trans HBK1.out
          have n0 := boxC_of_heap lb 0 _ rfl
          have n1 := boxC_of_heap lb 1 _ rfl
          have n2 := boxC_of_heap lb 2 _ rfl
          have n3 := boxC_of_heap lb 3 _ rfl
          have n4 := boxC_of_heap lb 4 _ rfl
          have m0 := frozen_of_heap lb
          have l0 := m0 0; have l1 := m0 1; have l2 := m0 2; have l3 := m0 3; have l4 := m0 4
          have HLB := Lib.hid lb
          clear lb m0
          go_wp2_with fail
          have lb := HLB.out
          refine bodyPost_ret (results_cell_row_tmp1 rfl _ _ w.heap.size 45 #[.int .i64 m.c, .int .i64 m.d, .int .i64 m.s, .int .i64 m.a, .int .i64 m.l] (0, 0) _ (by rfl) (by simp [World.setCell, Array.getElem?_modify, lb]) Try.underlying45 rfl (by kernel_rfl)) rfl ?_
          have kf := keep_five w5 w.heap.size (.int .i64 m.c) (.int .i64 m.d) (.int .i64 m.s) (.int .i64 m.a) (.int .i64 m.l)
          have hbb : Below w.heap.size w w5 := Dr.toBelow2 (HB0.out.trans (HB1.out.mono (by have := HZ0.out; omega))) (by omega) HD17.out (by omega)
          exact FIN.out _ _ _ [] OV.nil hbb kf
        · have q0 : (y == 0) = false := by simpa using p0
          have q1 : (y == 1) = false := by simpa using p1
          have q2 : (y == 2) = false := by simpa using p2
          go_wp2_with fail
          go_meet
          exact ⟨xs, HO5.out, HD5.out⟩
      case rest =>
        obtain ⟨ks, hok, hdk⟩ := hcut
        have HOK := Lib.hid hok; have HDK := Lib.hid hdk
        clear hok hdk
        have hwl : w2.heap.size < wc.heap.size := by have := HDK.out.size; omega
        obtain ⟨x0, x1, x2, x3, x4, _⟩ := HX3.out.dr (by omega) (by omega) HDK.out
        simp only [Nat.zero_add] at x1 x2 x3 x4
        have HD17 := Lib.hid (HD3.out.trans HDK.out)
        have lb := (HD17.out.keep.block w.heap.size hs1 (by omega)).trans HBK1.out
        have n0 := boxC_of_heap lb 0 _ rfl
        have n1 := boxC_of_heap lb 1 _ rfl
        have n2 := boxC_of_heap lb 2 _ rfl
        have n3 := boxC_of_heap lb 3 _ rfl
        have n4 := boxC_of_heap lb 4 _ rfl
        have m0 := frozen_of_heap lb
        have l0 := m0 0; have l1 := m0 1; have l2 := m0 2; have l3 := m0 3; have l4 := m0 4
        have HLB := Lib.hid lb
        clear lb m0
        go_wp2_with fail
        have lb := HLB.out
        refine bodyPost_ret (results_cell_row_tmp1 rfl _ _ w.heap.size 45 #[.int .i64 m.c, .int .i64 m.d, .int .i64 m.s, .int .i64 m.a, .int .i64 m.l] (0, 0) _ (by rfl) (by simp [World.setCell, Array.getElem?_modify, lb]) Try.underlying45 rfl (by kernel_rfl)) rfl ?_
        have kf := keep_five wc w.heap.size (.int .i64 m.c) (.int .i64 m.d) (.int .i64 m.s) (.int .i64 m.a) (.int .i64 m.l)
        have hbb : Below w.heap.size w wc := Dr.toBelow2 (HB0.out.trans (HB1.out.mono (by have := HZ0.out; omega))) (by omega) HD17.out (by omega)
        exact FIN.out _ _ _ ks HOK.out hbb kf
end Go.Proofs.Ytdkkkkfcpgkcnaa
