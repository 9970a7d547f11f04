/- Contracts of the draws of progressions. -/
import Derived.Test.YthjfilhcfjpinaaDrRes
import Derived.Test.YthjfilhcfjpinaaFChanges
import Derived.Deep.CutBlock
import Derived.Deep.CutRange
namespace Go.Proofs.Ythjfilhcfjpinaa
set_option linter.unusedVariables false
open Go.RowKit
/-- a drawn progression of a valid maker -/
def ResPr (m : Mk) (S : Nat) (A : Option Addr) (c : Nat) (bs : List Int) (w : World) (e : Ending) (w' : World) : Prop :=
  ∃ (A1 : Option Addr) (c1 : Nat) (xs : List Int) (A2 : Option Addr) (c2 : Nat) (ys : List Int) (st : Int), e = .returned (.agg #[.slice A1 xs.length c1, .slice A2 ys.length c2, .int .i64 st]) ∧ xs.length ≤ c1 ∧ RIn w.heap.size w' A1 xs ∧ RIn w.heap.size w' A2 ys ∧ Dr S A c bs w w'
set_option maxRecDepth 100000 in
set_option maxHeartbeats 8000000 in
theorem l13Valid_any (S : Nat) (A : Option Addr) (c : Nat) (bs : List Int) (m : Mk) (w : World) (h : Src S A c bs w) (hm : isMaker m = true) :
    Calls Try.prog 148 #[.pointer (some ⟨S, 0, none⟩), .agg #[.int .i64 m.c, .int .i64 m.d, .int .i64 m.s, .int .i64 m.a, .int .i64 m.l]] w (ResPr m S A c bs w) := by
  obtain ⟨w0, hw0⟩ : ∃ w0, w0 = (w.alloc (.cells #[.int .i64 m.c, .int .i64 m.d, .int .i64 m.s, .int .i64 m.a, .int .i64 m.l] 25)).alloc (.cells #[.slice none 0 0, .slice none 0 0, .int .i64 0] 52) := ⟨_, rfl⟩
  have HD0 := Lib.hid (show Dr S A c bs w w0 by rw [hw0]; exact ((Dr.refl h).alloc _).alloc _)
  have hz0 : w0.heap.size = w.heap.size + 1 + 1 := by rw [hw0]; simp
  have HBX := Lib.hid (show BoxC w0 w.heap.size 0 (mkCells m) by rw [hw0]; exact (BoxC.new (mkCells m) rfl).below ((Below.refl _ _).alloc (Nat.le_refl _) _))
  have HBK := Lib.hid (show w0.heap[w.heap.size + 1]? = some (.cells #[.slice none 0 0, .slice none 0 0, .int .i64 0] 52 (0, 0)) by
    have := heap_alloc_new (w.alloc (.cells #[.int .i64 m.c, .int .i64 m.d, .int .i64 m.s, .int .i64 m.a, .int .i64 m.l] 25)) (.cells #[.slice none 0 0, .slice none 0 0, .int .i64 0] 52)
    rw [hw0]; simpa using this)
  have hSl : S < w.heap.size := h.xl
  have HM := Lib.hid hm
  obtain ⟨c1, c2, _⟩ := mk_bounds hm
  have HN0 := Lib.hid (OV.new0 (w := w0) (B := w0.heap.size) (e := 2) (Nat.le_refl _))
  have HD1 := Lib.hid ((Dr.refl HD0.out.src).alloc (.cells #[] 2))
  clear h hm
  go_enter Try.func148, Try.ntmps148
  go_wp2_with fail
  rw [← hw0]
  clear hw0
  go_loopw [5, 6] (fun v i wr => ∃ (k : Nat) (ys : List Int), i = .int .i64 k ∧ (k : Int) ≤ m.c ∧ ys.length ≤ k ∧ OV wr w0.heap.size 2 v (ints ys) ∧ Dr S A c bs w0 wr) (fun _ i _ => (m.c - intOf i).toNat)
  case atStart => exact ⟨0, [], rfl, by simp; omega, by simp, by rw [← hz0]; exact HN0.out, HD1.out⟩
  case round =>
    obtain ⟨k, ys, rfl, hk, hyl, ho, hD⟩ := hrel
    have HO := Lib.hid ho; have HD := Lib.hid hD
    have hsz := hD.size
    have hy6 : ys.length ≤ 6 := by omega
    obtain ⟨x0, _⟩ := HBX.out.dr (by omega) (by omega) hD
    clear ho hD
    by_cases hlt : (k : Int) < m.c
    · have HN := Lib.hid (l01Next_dr HD.out.src 2)
      go_wp2_with fail
      clear x0
      refine HN.out.mono ?_
      rintro e w4 ⟨r, rfl, r0, r1, hd4, -⟩
      have HO4 := Lib.hid (HO.out.dr (show S < w0.heap.size by omega) hd4)
      have HD4 := Lib.hid (HD.out.trans hd4)
      clear hd4 r1
      by_cases hr : r = 0
      · subst hr
        have ho4 := HO4.out
        have hs4 := HD4.out.size
        go_wp2_with (at_builtin; refine wpList_app1 _ rfl _ _ _ rfl w0.heap.size 2 _ 8 Try.underlying38 info_int rfl (by omega) _ _ rfl (ho4.alloc _) _ _ rfl (one_cell _ _ _) rfl (by rw [ints_length]; omega) (by simp; omega) ?_; intro v' w5 ho5 hg5 hn5 hat5)
        go_roundw
        case rel => exact ⟨k + 1, ys ++ [(k : Int)], by go_num, by omega, by simp; omega, by rw [ints_append]; exact ho5, HD4.out.app HO4.out (Nat.le_refl _) hg5⟩
        case measure => simp [intOf]; omega
      · have hr' : (r == 0) = false := by simpa using hr
        go_wp2_with fail
        go_roundw
        case rel => exact ⟨k + 1, ys, by go_num, by omega, by omega, HO4.out, HD4.out⟩
        case measure => simp [intOf]; omega
    · have hge : decide ((k : Int) < m.c) = false := decide_eq_false hlt
      have hkc : (k : Int) = m.c := by omega
      have HKC := Lib.hid hkc
      clear hkc
      by_cases hy0 : ys = []
      · subst hy0
        obtain ⟨Av, cv, ev, _, _⟩ := HO.out.reads
        simp only [ints_length, List.length_nil] at ev
        subst ev
        obtain ⟨x0, _⟩ := HBX.out.dr (by omega) (by omega) HD.out
        have HN := Lib.hid (l01Next_dr HD.out.src m.c)
        go_wp2_with fail
        clear x0
        refine HN.out.mono ?_
        rintro e w4 ⟨r, rfl, r0, r1, hd4, -⟩
        have HO4 := Lib.hid (HO.out.dr (show S < w0.heap.size by omega) hd4)
        have HD4 := Lib.hid (HD.out.trans hd4)
        clear hd4 r1
        have ho4 := HO4.out
        have hs4 := HD4.out.size
        go_wp2_with (
          at_builtin
          refine wpList_app1 _ rfl _ _ _ rfl w0.heap.size 2 _ 8 Try.underlying38 info_int rfl (by omega) _ _ rfl (ho4.alloc _) _ _ rfl (one_cell _ _ _) rfl (by rw [ints_length]; omega) (by simp; omega) ?_
          intro v' w5 ho5 hg5 hn5 hat5
          have HO9 := Lib.hid (show OV w5 w0.heap.size 2 v' (ints [r]) from ho5)
          have HD9 := Lib.hid (HD4.out.app ho4 (Nat.le_refl _) hg5)
          obtain ⟨x0, x1, x2, x3, x4, _⟩ := HBX.out.dr (by omega) (by omega) HD9.out
          simp only [Nat.zero_add] at x1 x2 x3 x4
          clear ho5 hg5 hn5 hat5)
        clear x0 x1 x2 x3 x4
        obtain ⟨ys, hys⟩ : ∃ ys, ys = [r] := ⟨_, rfl⟩
        rw [← hys] at HO9
        have hs9 := HD9.out.size
        have HE := Lib.hid (l02Some_any S A c bs m w5 HD9.out.src HM.out)
        refine HE.out.mono ?_
        rintro e w7 ⟨A1, c1, xs, rfl, hc1, hk7, hr7, hd7⟩
        have HR7 := Lib.hid hr7; have HC7 := Lib.hid hc1
        have HD7 := Lib.hid (HD9.out.trans hd7)
        have HO7 := Lib.hid (HO9.out.dr (by omega) hd7)
        have HP := Lib.hid (show Calls Try.prog 67 #[.pointer (some ⟨S, 0, none⟩), .slice (some ⟨w7.heap.size, 0, none⟩) 3 3] (w7.alloc (.cells #[.int .i64 1, .int .i64 1, .int .i64 2] 2)) _ from l01Pick_new HD7.out.src [1, 1, 2] (by simp) (by simp))
        clear hc1 hk7 hr7 hd7
        go_wp2_with fail
        refine HP.out.mono ?_
        rintro e w8 ⟨st, rfl, hst, hd8, -⟩
        have hs7 := HD7.out.size
        have HR8 := Lib.hid (HR7.out.dr (show S < w5.heap.size by omega) hd8)
        have HO8 := Lib.hid (HO7.out.dr (show S < w0.heap.size by omega) hd8)
        have HD8 := Lib.hid (HD7.out.trans hd8)
        have hs8 := HD8.out.size
        obtain ⟨A2, c2, e2, hc2, hr2⟩ := RIn.ofOI' HO8.out
        have HR2 := Lib.hid hr2
        have lb := (HD8.out.keep.block (w.heap.size + 1) (by omega) (by omega)).trans HBK.out
        have n0 := boxC_of_heap lb 0 _ rfl
        have n1 := boxC_of_heap lb 1 _ rfl
        have n2 := boxC_of_heap lb 2 _ rfl
        have fr := frozen_of_heap lb
        have f0 := fr 0; have f1 := fr 1; have f2 := fr 2
        have HLB := Lib.hid lb
        (try subst e2)
        clear hst hd8 lb fr hr2
        go_wp2_with fail
        have lb := HLB.out
        (try subst hys)
        refine bodyPost_ret (results_cell_row rfl _ _ (w.heap.size + 1) 52 #[.slice A1 xs.length c1, .slice A2 1 c2, .int .i64 st] (0, 0) _ (by rfl) (by simp [World.setCell, Array.getElem?_modify, lb]) Try.underlying52 rfl (by kernel_rfl)) rfl ?_
        have kf : KeepF (fun x => x = w.heap.size + 1) w8 (((w8.setCell ⟨w.heap.size + 1, 0, none⟩ (.slice A1 xs.length c1)).setCell ⟨w.heap.size + 1, 1, none⟩ (.slice A2 1 c2)).setCell ⟨w.heap.size + 1, 2, none⟩ (.int .i64 st)) := (((KeepF.refl (fun x => x = w.heap.size + 1) w8).setCell (p := ⟨w.heap.size + 1, 0, none⟩) (.inl rfl) _).setCell (p := ⟨w.heap.size + 1, 1, none⟩) (.inl rfl) _).setCell (p := ⟨w.heap.size + 1, 2, none⟩) (.inl rfl) _
        exact ⟨A1, c1, xs, _, _, _, st, rfl, HC7.out, (HR8.out.keepF kf (fun x e => by omega)).mono (by omega), (HR2.out.keepF kf (fun x e => by omega)).mono (by omega), (HD0.out.trans HD8.out).keepF kf (fun x e => by omega)⟩
      · have hd1 : decide (ys.length = 0) = false := decide_eq_false (fun h => hy0 (List.length_eq_zero_iff.1 h))
        have hd2 : ((ys.length : Int) == 0) = false := by
          rw [beq_eq_false_iff_ne]; intro h; exact hy0 (List.length_eq_zero_iff.1 (by omega))
        have HO9 := HO
        have HD9 := HD
        obtain ⟨Av, cv, ev, _, _⟩ := HO.out.reads
        rw [ints_length] at ev
        subst ev
        obtain ⟨x0, x1, x2, x3, x4, _⟩ := HBX.out.dr (by omega) (by omega) HD9.out
        simp only [Nat.zero_add] at x1 x2 x3 x4
        go_wp2_with fail
        clear x0 x1 x2 x3 x4
        have hs9 := HD9.out.size
        have HE := Lib.hid (l02Some_any S A c bs m wr HD9.out.src HM.out)
        refine HE.out.mono ?_
        rintro e w7 ⟨A1, c1, xs, rfl, hc1, hk7, hr7, hd7⟩
        have HR7 := Lib.hid hr7; have HC7 := Lib.hid hc1
        have HD7 := Lib.hid (HD9.out.trans hd7)
        have HO7 := Lib.hid (HO9.out.dr (by omega) hd7)
        have HP := Lib.hid (show Calls Try.prog 67 #[.pointer (some ⟨S, 0, none⟩), .slice (some ⟨w7.heap.size, 0, none⟩) 3 3] (w7.alloc (.cells #[.int .i64 1, .int .i64 1, .int .i64 2] 2)) _ from l01Pick_new HD7.out.src [1, 1, 2] (by simp) (by simp))
        clear hc1 hk7 hr7 hd7
        go_wp2_with fail
        refine HP.out.mono ?_
        rintro e w8 ⟨st, rfl, hst, hd8, -⟩
        have hs7 := HD7.out.size
        have HR8 := Lib.hid (HR7.out.dr (show S < wr.heap.size by omega) hd8)
        have HO8 := Lib.hid (HO7.out.dr (show S < w0.heap.size by omega) hd8)
        have HD8 := Lib.hid (HD7.out.trans hd8)
        have hs8 := HD8.out.size
        obtain ⟨A2, c2, e2, hc2, hr2⟩ := RIn.ofOI' HO8.out
        have HR2 := Lib.hid hr2
        have lb := (HD8.out.keep.block (w.heap.size + 1) (by omega) (by omega)).trans HBK.out
        have n0 := boxC_of_heap lb 0 _ rfl
        have n1 := boxC_of_heap lb 1 _ rfl
        have n2 := boxC_of_heap lb 2 _ rfl
        have fr := frozen_of_heap lb
        have f0 := fr 0; have f1 := fr 1; have f2 := fr 2
        have HLB := Lib.hid lb
        (try subst e2)
        clear hst hd8 lb fr hr2
        injection e2 with e21 _ e23
        subst e21 e23
        go_wp2_with fail
        have lb := HLB.out
        (try subst hys)
        refine bodyPost_ret (results_cell_row rfl _ _ (w.heap.size + 1) 52 #[.slice A1 xs.length c1, .slice Av ys.length cv, .int .i64 st] (0, 0) _ (by rfl) (by simp [World.setCell, Array.getElem?_modify, lb]) Try.underlying52 rfl (by kernel_rfl)) rfl ?_
        have kf : KeepF (fun x => x = w.heap.size + 1) w8 (((w8.setCell ⟨w.heap.size + 1, 0, none⟩ (.slice A1 xs.length c1)).setCell ⟨w.heap.size + 1, 1, none⟩ (.slice Av ys.length cv)).setCell ⟨w.heap.size + 1, 2, none⟩ (.int .i64 st)) := (((KeepF.refl (fun x => x = w.heap.size + 1) w8).setCell (p := ⟨w.heap.size + 1, 0, none⟩) (.inl rfl) _).setCell (p := ⟨w.heap.size + 1, 1, none⟩) (.inl rfl) _).setCell (p := ⟨w.heap.size + 1, 2, none⟩) (.inl rfl) _
        exact ⟨A1, c1, xs, _, _, _, st, rfl, HC7.out, (HR8.out.keepF kf (fun x e => by omega)).mono (by omega), (HR2.out.keepF kf (fun x e => by omega)).mono (by omega), (HD0.out.trans HD8.out).keepF kf (fun x e => by omega)⟩

/-- where the switch of l13Draw ends: the progression's box -/
def L13R (S : Nat) (A : Option Addr) (c : Nat) (bs : List Int) (w0 : World) (M L : Nat) (m : Mk) (wx : World) : Prop :=
  ∃ (A1 : Option Addr) (c1 : Nat) (xs : List Int) (A2 : Option Addr) (c2 : Nat) (ys : List Int) (st : Int), xs.length ≤ c1 ∧ BoxC wx M 0 (mkCells m) ∧ BoxC wx L 0 [.slice A1 xs.length c1, .slice A2 ys.length c2, .int .i64 st] ∧ RIn w0.heap.size wx A1 xs ∧ RIn w0.heap.size wx A2 ys ∧ Dr S A c bs w0 wx
/-- a drawn maker and progression -/
def ResMP (S : Nat) (A : Option Addr) (c : Nat) (bs : List Int) (w : World) (e : Ending) (w' : World) : Prop :=
  ∃ (m : Mk) (A1 : Option Addr) (c1 : Nat) (xs : List Int) (A2 : Option Addr) (c2 : Nat) (ys : List Int) (st : Int), e = .returned (.tuple #[.agg #[.int .i64 m.c, .int .i64 m.d, .int .i64 m.s, .int .i64 m.a, .int .i64 m.l], .agg #[.slice A1 xs.length c1, .slice A2 ys.length c2, .int .i64 st]]) ∧ MkD m ∧ xs.length ≤ c1 ∧ RIn w.heap.size w' A1 xs ∧ RIn w.heap.size w' A2 ys ∧ Dr S A c bs w w'
theorem new_row {w : World} {B : Nat} (hB : B ≤ w.heap.size) (vs : List Int) (hm : vs.length ≤ 100) : RIn B (w.alloc (.cells (ints vs).toArray 2)) (some ⟨w.heap.size, 0, none⟩) vs := by
  have := OV.new (w := w) (B := B) (e := 2) (ints vs).toArray hB (by simp [maxLen, ints]; omega)
  exact RIn.ofOI this

set_option maxRecDepth 100000 in
set_option maxHeartbeats 8000000 in
theorem l13Draw_any (S : Nat) (A : Option Addr) (c : Nat) (bs : List Int) (w : World) (h : Src S A c bs w) :
    Calls Try.prog 95 #[.pointer (some ⟨S, 0, none⟩)] w (ResMP S A c bs w) := by
  obtain ⟨w0, hw0⟩ : ∃ w0, w0 = (w.alloc (.cells #[.int .i64 0, .int .i64 0, .int .i64 0, .int .i64 0, .int .i64 0] 25)).alloc (.cells #[.slice none 0 0, .slice none 0 0, .int .i64 0] 52) := ⟨_, rfl⟩
  have hz0 : w0.heap.size = w.heap.size + 2 := by rw [hw0]; simp
  have B0 : Below w.heap.size w w0 := by rw [hw0]; exact ((Below.refl _ _).alloc (Nat.le_refl _) _).alloc (by simp only [World.size_alloc]; omega) _
  have HR0 := Lib.hid (show w0.heap[w.heap.size]? = some (.cells #[.int .i64 0, .int .i64 0, .int .i64 0, .int .i64 0, .int .i64 0] 25 (0, 0)) by
    have h1 := heap_alloc_new w (.cells #[.int .i64 0, .int .i64 0, .int .i64 0, .int .i64 0, .int .i64 0] 25)
    have h2 := ((Below.refl (w.heap.size + 1) (w.alloc (.cells #[.int .i64 0, .int .i64 0, .int .i64 0, .int .i64 0, .int .i64 0] 25))).alloc (by simp) (.cells #[.slice none 0 0, .slice none 0 0, .int .i64 0] 52)).block (w.heap.size) (by omega)
    rw [hw0]; exact h2.trans (by simpa using h1))
  have HR1 := Lib.hid (show w0.heap[w.heap.size + 1]? = some (.cells #[.slice none 0 0, .slice none 0 0, .int .i64 0] 52 (0, 0)) by
    have h1 := heap_alloc_new (w.alloc (.cells #[.int .i64 0, .int .i64 0, .int .i64 0, .int .i64 0, .int .i64 0] 25)) (.cells #[.slice none 0 0, .slice none 0 0, .int .i64 0] 52)
    rw [hw0]; simpa using h1)
  have HD0 := Lib.hid (show Dr S A c bs w w0 by rw [hw0]; exact ((Dr.refl h).alloc _).alloc _)
  have hSl : S < w.heap.size := h.xl
  have HN0 := Lib.hid (l02Draw_any S A c bs w0 HD0.out.src)
  clear h B0
  go_enter Try.func95, Try.ntmps95
  go_wp2_with fail
  rw [← hw0]
  clear hw0
  refine HN0.out.mono ?_
  rintro e w1 ⟨m, rfl, hm, hS1, hK1⟩
  have HMD := Lib.hid hm
  obtain ⟨w2, hw2⟩ : ∃ w2, w2 = w1.alloc (.cells #[.int .i64 m.c, .int .i64 m.d, .int .i64 m.s, .int .i64 m.a, .int .i64 m.l] 25) := ⟨_, rfl⟩
  have HD2 := Lib.hid (show Dr S A c bs w0 w2 by rw [hw2]; exact ((Dr.refl HD0.out.src).next hS1 hK1).alloc _)
  have hs1 : w0.heap.size ≤ w1.heap.size := hK1.size
  have hz2 : w1.heap.size < w2.heap.size := by rw [hw2]; simp
  have HBX := Lib.hid (show BoxC w2 w1.heap.size 0 (mkCells m) by rw [hw2]; exact BoxC.new (mkCells m) rfl)
  have HI := Lib.hid (specIsMaker_any m w2)
  obtain ⟨x0, x1, x2, x3, x4, _⟩ := HBX.out
  simp only [Nat.zero_add] at x1 x2 x3 x4
  clear hm hS1 hK1
  go_wp2_with fail
  rw [← hw2]
  clear hw2 x0 x1 x2 x3 x4
  refine HI.out.mono ?_
  rintro e w3 ⟨rfl, hb3⟩
  have HD3 := Lib.hid (HD2.out.below hb3)
  have HB3 := Lib.hid (HBX.out.below hb3)
  have hs3 := hb3.size
  clear hb3
  cases hmk : isMaker m with
  | false =>
    obtain ⟨x0, x1, x2, x3, x4, _⟩ := HB3.out
    simp only [Nat.zero_add] at x1 x2 x3 x4
    have lb0 := (HD3.out.keep.block w.heap.size (by omega) (by omega)).trans HR0.out
    have lb1 := (HD3.out.keep.block (w.heap.size + 1) (by omega) (by omega)).trans HR1.out
    have n0 := boxC_of_heap lb0 0 _ rfl
    have n1 := boxC_of_heap lb0 1 _ rfl
    have n2 := boxC_of_heap lb0 2 _ rfl
    have n3 := boxC_of_heap lb0 3 _ rfl
    have n4 := boxC_of_heap lb0 4 _ rfl
    have p0 := boxC_of_heap lb1 0 _ rfl
    have p1 := boxC_of_heap lb1 1 _ rfl
    have p2 := boxC_of_heap lb1 2 _ rfl
    have m0 := frozen_of_heap lb0
    have k0 := frozen_of_heap lb1
    have l0 := m0 0; have l1 := m0 1; have l2 := m0 2; have l3 := m0 3; have l4 := m0 4
    have k1 := k0 0; have k2 := k0 1; have k3 := k0 2
    have HL0 := Lib.hid lb0; have HL1 := Lib.hid lb1
    clear lb0 lb1 m0 k0
    have hwl : w.heap.size + 1 < w3.heap.size := by omega
    have hwl1 : w.heap.size + 1 < w3.heap.size + 1 := by omega
    have hwk : w.heap.size < w3.heap.size := by omega
    have hwk1 : w.heap.size < w3.heap.size + 1 := by omega
    go_wp2_with fail
    have lb0 := HL0.out; have lb1 := HL1.out
    obtain ⟨ws, hws⟩ : ∃ ws, ws = (((((((w3.setCell ⟨w.heap.size, 0, none⟩ (.int .i64 m.c)).setCell ⟨w.heap.size, 1, none⟩ (.int .i64 m.d)).setCell ⟨w.heap.size, 2, none⟩ (.int .i64 m.s)).setCell ⟨w.heap.size, 3, none⟩ (.int .i64 m.a)).setCell ⟨w.heap.size, 4, none⟩ (.int .i64 m.l)).setCell ⟨w.heap.size + 1, 0, none⟩ (.slice (some ⟨w3.heap.size, 0, none⟩) 2 2)).setCell ⟨w.heap.size + 1, 1, none⟩ (.slice (some ⟨w3.heap.size + 1, 0, none⟩) 1 1)).setCell ⟨w.heap.size + 1, 2, none⟩ (.int .i64 1) := ⟨_, rfl⟩
    rw [← hws]
    have hzs : ws.heap.size = w3.heap.size := by rw [hws]; simp
    have kf : KeepF (fun x => x = w.heap.size ∨ x = w.heap.size + 1) w3 ws := by
      rw [hws]
      exact ((((keep_five w3 w.heap.size (.int .i64 m.c) (.int .i64 m.d) (.int .i64 m.s) (.int .i64 m.a) (.int .i64 m.l)).mono fun x hx => .inl hx).setCell (p := ⟨w.heap.size + 1, 0, none⟩) (.inl (.inr rfl)) _).setCell (p := ⟨w.heap.size + 1, 1, none⟩) (.inl (.inr rfl)) _).setCell (p := ⟨w.heap.size + 1, 2, none⟩) (.inl (.inr rfl)) _
    have e0 : ws.heap[w.heap.size]? = some (.cells #[.int .i64 m.c, .int .i64 m.d, .int .i64 m.s, .int .i64 m.a, .int .i64 m.l] 25 (0, 0)) := by rw [hws]; simp [World.setCell, Array.getElem?_modify, lb0]
    have e1 : ws.heap[w.heap.size + 1]? = some (.cells #[.slice (some ⟨w3.heap.size, 0, none⟩) 2 2, .slice (some ⟨w3.heap.size + 1, 0, none⟩) 1 1, .int .i64 1] 52 (0, 0)) := by rw [hws]; simp [World.setCell, Array.getElem?_modify, lb1]
    obtain ⟨w5, hw5⟩ : ∃ w5, w5 = (ws.alloc (.cells #[.int .i64 0, .int .i64 1] 2)).alloc (.cells #[.int .i64 0] 2) := ⟨_, rfl⟩
    rw [← hw5]
    have hb5 : Below ws.heap.size ws w5 := by rw [hw5]; exact ((Below.refl _ _).alloc (Nat.le_refl _) _).alloc (by simp only [World.size_alloc]; omega) _
    have hra : RIn w0.heap.size w5 (some ⟨w3.heap.size, 0, none⟩) [0, 1] := by
      have := (new_row (w := ws) (B := w0.heap.size) (by omega) [0, 1] (by simp)).below ((Below.refl _ _).alloc (Nat.le_refl _) (.cells #[.int .i64 0] 2))
      rw [hzs] at this; rw [hw5]; exact this
    have hrb : RIn w0.heap.size w5 (some ⟨w3.heap.size + 1, 0, none⟩) [0] := by
      have := new_row (w := ws.alloc (.cells #[.int .i64 0, .int .i64 1] 2)) (B := w0.heap.size) (by simp; omega) [0] (by simp)
      rw [World.size_alloc, hzs] at this; rw [hw5]; exact this
    (try simp only [Exit.inBlock, Exit.then])
    refine bodyPost_ret (results_two rfl _ _ w.heap.size 25 #[.int .i64 m.c, .int .i64 m.d, .int .i64 m.s, .int .i64 m.a, .int .i64 m.l] (0, 0) _ (by rfl) ((hb5.block w.heap.size (by omega)).trans e0) Try.underlying25 rfl (by kernel_rfl) (w.heap.size + 1) 52 #[.slice (some ⟨w3.heap.size, 0, none⟩) 2 2, .slice (some ⟨w3.heap.size + 1, 0, none⟩) 1 1, .int .i64 1] (0, 0) _ (by rfl) ((hb5.block (w.heap.size + 1) (by omega)).trans e1) Try.underlying52 rfl (by kernel_rfl)) rfl ?_
    exact ⟨m, _, 2, [0, 1], _, 1, [0], 1, rfl, HMD.out, by simp, hra.mono (by omega), hrb.mono (by omega), ((HD0.out.trans HD3.out).keepF kf (fun g e => by omega)).below hb5⟩
  | true =>
    have HV := Lib.hid (l13Valid_any S A c bs m w3 HD3.out.src hmk)
    obtain ⟨x0, x1, x2, x3, x4, _⟩ := HB3.out
    simp only [Nat.zero_add] at x1 x2 x3 x4
    go_wp2_with fail
    clear x0 x1 x2 x3 x4
    refine HV.out.mono ?_
    rintro e w4 ⟨A1, c1, xs, A2, c2, ys, st, rfl, hc1, hr1, hr2, hd4⟩
    obtain ⟨w5, hw5⟩ : ∃ w5, w5 = w4.alloc (.cells #[.slice A1 xs.length c1, .slice A2 ys.length c2, .int .i64 st] 52) := ⟨_, rfl⟩
    have hb5 : Below w4.heap.size w4 w5 := by rw [hw5]; exact (Below.refl _ _).alloc (Nat.le_refl _) _
    have hs4 := hd4.size
    have HL5 := Lib.hid (show BoxC w5 w4.heap.size 0 [.slice A1 xs.length c1, .slice A2 ys.length c2, .int .i64 st] by rw [hw5]; exact BoxC.new [.slice A1 xs.length c1, .slice A2 ys.length c2, .int .i64 st] rfl)
    have HF5 := Lib.hid (show ∀ i, w5.frozen? ⟨w4.heap.size, i, none⟩ = false from fun i => by rw [hw5]; exact World.frozen?_alloc_at _ _ _ _ rfl)
    have HD5 := Lib.hid ((HD3.out.trans hd4).below hb5)
    have HR5 := Lib.hid (And.intro (hr1.below hb5) (hr2.below hb5))
    have HC1 := Lib.hid hc1
    have HNF := Lib.hid (show NF (fun x => x = w4.heap.size) A1 xs.length ∧ NF (fun x => x = w4.heap.size) A2 ys.length from ⟨fun h0 b o e e' => by have := ri_new hr1.1 h0 e; omega, fun h0 b o e e' => by have := ri_new hr2.1 h0 e; omega⟩)
    have HB5 := Lib.hid ((HB3.out.dr (by omega) (by omega) hd4).below hb5)
    have hz5 : w4.heap.size < w5.heap.size := by rw [hw5]; simp
    have HX := Lib.hid (l01Next_dr HD5.out.src 30)
    clear hr1 hr2 hd4 hb5 hc1
    go_wp2_with fail
    rw [← hw5]
    clear hw5
    refine HX.out.mono ?_
    rintro e w6 ⟨r, rfl, r0, r1, hd6, -⟩
    have HD6 := Lib.hid (HD5.out.trans hd6)
    have HR6 := Lib.hid (And.intro (HR5.out.1.dr (show S < w3.heap.size by omega) hd6) (HR5.out.2.dr (show S < w3.heap.size by omega) hd6))
    have HB6 := Lib.hid (HB5.out.dr (show w1.heap.size < w5.heap.size by omega) (by omega) hd6)
    have HL6 := Lib.hid (HL5.out.dr (show w4.heap.size < w5.heap.size by omega) (by omega) hd6)
    have hss6 : w5.heap.size ≤ w6.heap.size := hd6.size
    have HF6 := Lib.hid (show ∀ i, w6.frozen? ⟨w4.heap.size, i, none⟩ = false from fun i => frozen_dr (HF5.out i) hz5 (by omega) hd6)
    clear hd6 r1
    have STO := Lib.hid (show ∀ (W : World), Dr S A c bs w6 W → (∀ (x : Int), L13R S A c bs w0 w1.heap.size w4.heap.size m (W.setCell ⟨w4.heap.size, 2, none⟩ (.int .i64 x))) ∧
        (∀ (Z : Option Addr) (qz : Nat) (zs : List Int), RIn w6.heap.size W Z zs → L13R S A c bs w0 w1.heap.size w4.heap.size m (W.setCell ⟨w4.heap.size, 1, none⟩ (.slice Z zs.length qz))) ∧
        (∀ (Z : Option Addr) (qz : Nat) (zs : List Int), zs.length ≤ qz → RIn w6.heap.size W Z zs → L13R S A c bs w0 w1.heap.size w4.heap.size m (W.setCell ⟨w4.heap.size, 0, none⟩ (.slice Z zs.length qz))) from by
      intro W hd
      have hsW := hd.size
      obtain ⟨l0, l1, l2, _⟩ := HL6.out.dr (by omega) (by omega) hd
      simp only [Nat.zero_add] at l1 l2
      have kf : ∀ i v, KeepF (fun x => x = w4.heap.size) W (W.setCell ⟨w4.heap.size, i, none⟩ v) := fun i v => (KeepF.refl (fun x => x = w4.heap.size) W).setCell (p := ⟨w4.heap.size, i, none⟩) (.inl rfl) _
      have hb : ∀ i v, BoxC (W.setCell ⟨w4.heap.size, i, none⟩ v) w1.heap.size 0 (mkCells m) := fun i v => (HB6.out.dr (by omega) (by omega) hd).keepF (kf i v) (by omega) (by omega)
      have hr1 : ∀ i v, RIn w0.heap.size (W.setCell ⟨w4.heap.size, i, none⟩ v) A1 xs := fun i v => RIn.mono ⟨(HR6.out.1.dr (show S < w3.heap.size by omega) hd).1.keepN (kf i v) HNF.out.1, HR6.out.1.2⟩ (by omega)
      have hr2 : ∀ i v, RIn w0.heap.size (W.setCell ⟨w4.heap.size, i, none⟩ v) A2 ys := fun i v => RIn.mono ⟨(HR6.out.2.dr (show S < w3.heap.size by omega) hd).1.keepN (kf i v) HNF.out.2, HR6.out.2.2⟩ (by omega)
      have hdd : ∀ i v, Dr S A c bs w0 (W.setCell ⟨w4.heap.size, i, none⟩ v) := fun i v => (HD6.out.trans hd).keepF (kf i v) (fun x e => by omega)
      refine ⟨fun x => ?_, fun Z qz zs hz => ?_, fun Z qz zs hq hz => ?_⟩
      · exact ⟨A1, c1, xs, A2, c2, ys, x, HC1.out, hb _ _, ⟨(World.cell?_setCell_other _ _ _ _ (by simp)).trans l0, (World.cell?_setCell_other _ _ _ _ (by simp)).trans l1, World.cell?_setCell_same _ _ _ l2, trivial⟩, hr1 _ _, hr2 _ _, hdd _ _⟩
      · exact ⟨A1, c1, xs, Z, qz, zs, st, HC1.out, hb _ _, ⟨(World.cell?_setCell_other _ _ _ _ (by simp)).trans l0, World.cell?_setCell_same _ _ _ l1, (World.cell?_setCell_other _ _ _ _ (by simp)).trans l2, trivial⟩, hr1 _ _, (hz.keepF (kf _ _) (fun x e => by omega)).mono (by omega), hdd _ _⟩
      · exact ⟨Z, qz, zs, A2, c2, ys, st, hq, hb _ _, ⟨World.cell?_setCell_same _ _ _ l0, (World.cell?_setCell_other _ _ _ _ (by simp)).trans l1, (World.cell?_setCell_other _ _ _ _ (by simp)).trans l2, trivial⟩, (hz.keepF (kf _ _) (fun x e => by omega)).mono (by omega), hr2 _ _, hdd _ _⟩)
    have hS6 : S < w6.heap.size := HD6.out.src.xl
    have RST := Lib.hid (show L13R S A c bs w0 w1.heap.size w4.heap.size m w6 from ⟨A1, c1, xs, A2, c2, ys, st, HC1.out, HB6.out, HL6.out, HR6.out.1.mono (by omega), HR6.out.2.mono (by omega), HD6.out⟩)
    go_upto_block 0 with fail
    go_cut [20] from 21 to 43 (fun _ wx => L13R S A c bs w0 w1.heap.size w4.heap.size m wx)
    case first =>
      by_cases q0 : r = 0
      · subst q0
        have HP := Lib.hid (show Calls Try.prog 67 #[.pointer (some ⟨S, 0, none⟩), .slice (some ⟨w6.heap.size, 0, none⟩) 3 3] (w6.alloc (.cells #[.int .i64 0, .int .i64 3, .int .i64 (-1)] 2)) _ from l01Pick_new HD6.out.src [0, 3, -1] (by simp) (by simp))
        go_wp2_with fail
        refine HP.out.mono ?_
        rintro e w7 ⟨x, rfl, hx, hd7, -⟩
        have HST := Lib.hid ((STO.out w7 hd7).1 x)
        have f2 := frozen_dr (HF6.out 2) (by omega) (by omega) hd7
        obtain ⟨l0, l1, l2, _⟩ := HL6.out.dr (by omega) (by omega) hd7
        simp only [Nat.zero_add] at l1 l2
        clear hx hd7
        go_wp2_with fail
        go_meet
        exact HST.out
      by_cases q1 : r = 1
      · subst q1
        have HP := Lib.hid (show Calls Try.prog 67 #[.pointer (some ⟨S, 0, none⟩), .slice (some ⟨w6.heap.size, 0, none⟩) 4 4] (w6.alloc (.cells #[.int .i64 0, .int .i64 0, .int .i64 (-1), .int .i64 m.c] 2)) _ from l01Pick_new HD6.out.src [0, 0, -1, m.c] (by simp) (by simp))
        obtain ⟨x0, _⟩ := HB6.out
        go_wp2_with fail
        clear x0
        refine HP.out.mono ?_
        rintro e w7 ⟨x, rfl, hx, hd7, -⟩
        have hs7 := hd7.size
        have hb8 : Below w7.heap.size w7 (w7.alloc (.cells #[.int .i64 x, .int .i64 0] 2)) := (Below.refl _ _).alloc (Nat.le_refl _) _
        have HST := Lib.hid ((STO.out _ (hd7.below hb8)).2.1 (some ⟨w7.heap.size, 0, none⟩) 2 [x, 0] (new_row (w := w7) (B := w6.heap.size) hs7 [x, 0] (by simp)))
        have f1 := frozen_dr (HF6.out 1) (by omega) (by omega) hd7
        obtain ⟨l0, l1, l2, _⟩ := HL6.out.dr (by omega) (by omega) hd7
        simp only [Nat.zero_add] at l1 l2
        have hL7 : w4.heap.size < w7.heap.size := by omega
        clear hx hd7 hb8
        go_wp2_with fail
        go_meet
        rw [← World.setCell_alloc_past _ _ _ _ hL7]
        exact HST.out
      by_cases q2 : r = 2
      · subst q2
        have HST := Lib.hid ((STO.out w6 (Dr.refl HD6.out.src)).2.1 none 0 [] RIn.nil)
        have f1 := HF6.out 1
        obtain ⟨l0, l1, l2, _⟩ := HL6.out
        simp only [Nat.zero_add] at l1 l2
        go_wp2_with fail
        go_meet
        exact HST.out
      by_cases q3 : r = 3
      · subst q3
        have HP := Lib.hid (l02DrawCuts_any S A c bs m w6 HD6.out.src HMD.out)
        obtain ⟨x0, x1, x2, x3, x4, _⟩ := HB6.out
        simp only [Nat.zero_add] at x1 x2 x3 x4
        go_wp2_with fail
        clear x0 x1 x2 x3 x4
        refine HP.out.mono ?_
        rintro e w7 ⟨v, zs, rfl, ho, hz9, hd7⟩
        obtain ⟨Z, qz, rfl, hqz, hrz⟩ := RIn.ofOI' ho
        have HST := Lib.hid ((STO.out w7 hd7).2.2 Z qz zs hqz hrz)
        have f0 := frozen_dr (HF6.out 0) (by omega) (by omega) hd7
        obtain ⟨l0, l1, l2, _⟩ := HL6.out.dr (by omega) (by omega) hd7
        simp only [Nat.zero_add] at l1 l2
        clear hd7 ho hqz hrz hz9
        go_wp2_with fail
        go_meet
        exact HST.out
      · have p0 : (r == 0) = false := by simpa using q0
        have p1 : (r == 1) = false := by simpa using q1
        have p2 : (r == 2) = false := by simpa using q2
        have p3 : (r == 3) = false := by simpa using q3
        go_wp2_with fail
        go_meet
        exact RST.out
    case rest =>
      obtain ⟨A1, c1, xs, A2, c2, ys, st, hc9, hb9, hl9, hr9, hs9, hd9⟩ := hcut
      have HD9 := Lib.hid hd9; have HR9 := Lib.hid (And.intro hr9 hs9); have HC9 := Lib.hid hc9
      have HB9 := Lib.hid hb9; have HL9 := Lib.hid hl9
      have hsz9 := hd9.size
      clear hc9 hb9 hl9 hr9 hs9 hd9 STO RST HR6 HL6 HB6
      have KS := Lib.hid (show ∀ w' : World, KeepF (fun x => x = S ∨ (w.heap.size ≤ x ∧ x < w.heap.size + 2)) wc w' → (w'.cell? ⟨w1.heap.size, 0, none⟩ = some (.int .i64 m.c) ∧ w'.cell? ⟨w1.heap.size, 1, none⟩ = some (.int .i64 m.d) ∧ w'.cell? ⟨w1.heap.size, 2, none⟩ = some (.int .i64 m.s) ∧ w'.cell? ⟨w1.heap.size, 3, none⟩ = some (.int .i64 m.a) ∧ w'.cell? ⟨w1.heap.size, 4, none⟩ = some (.int .i64 m.l) ∧ w'.cell? ⟨w4.heap.size, 0, none⟩ = some (.slice A1 xs.length c1) ∧ w'.cell? ⟨w4.heap.size, 1, none⟩ = some (.slice A2 ys.length c2) ∧ w'.cell? ⟨w4.heap.size, 2, none⟩ = some (.int .i64 st)) from fun w' hw => by
        have hb0 := HB9.out
        obtain ⟨z0_0, z0_1, z0_2, z0_3, z0_4, _⟩ := hb0.keepF hw (World.block_lt_of_cell? _ _ hb0.1) (by omega)
        have hb1 := HL9.out
        obtain ⟨z1_0, z1_1, z1_2, _⟩ := hb1.keepF hw (World.block_lt_of_cell? _ _ hb1.1) (by omega)
        exact ⟨z0_0, z0_1, z0_2, z0_3, z0_4, z1_0, z1_1, z1_2⟩)
      go_wp2_with fail
      refine wp_region_held_drew (S := (fun w' => w'.cell? ⟨w1.heap.size, 0, none⟩ = some (.int .i64 m.c) ∧ w'.cell? ⟨w1.heap.size, 1, none⟩ = some (.int .i64 m.d) ∧ w'.cell? ⟨w1.heap.size, 2, none⟩ = some (.int .i64 m.s) ∧ w'.cell? ⟨w1.heap.size, 3, none⟩ = some (.int .i64 m.a) ∧ w'.cell? ⟨w1.heap.size, 4, none⟩ = some (.int .i64 m.l) ∧ w'.cell? ⟨w4.heap.size, 0, none⟩ = some (.slice A1 xs.length c1) ∧ w'.cell? ⟨w4.heap.size, 1, none⟩ = some (.slice A2 ys.length c2) ∧ w'.cell? ⟨w4.heap.size, 2, none⟩ = some (.int .i64 st))) (by kernel_rfl) (KS.out _ (KeepF.ofBelow (belowDrew0 _))) (fun hHeld => ?_)
      refine takeD (i := 0) (some 44) (.agg #[.int .i64 m.c, .int .i64 m.d, .int .i64 m.s, .int .i64 m.a, .int .i64 m.l]) rfl (by kernel_rfl) (by kernel_rfl) (by kernel_rfl) (by kernel_rfl) (fun _ _ _ h => h) (by assumption) (Or.inl ⟨by rfl, fun w hSw => by (try dsimp only at hSw); go_simp⟩) ?_
      simp only [Act.put, List.setIfInBounds_toArray, List.set_cons_zero, List.set_cons_succ]
      refine takeD (i := 1) (some 45) (.agg #[.slice A1 xs.length c1, .slice A2 ys.length c2, .int .i64 st]) rfl (by kernel_rfl) (by kernel_rfl) (by kernel_rfl) (by kernel_rfl) (fun _ _ _ h => h) (by assumption) (Or.inl ⟨by rfl, fun w hSw => by (try dsimp only at hSw); go_simp⟩) ?_
      simp only [Act.put, List.setIfInBounds_toArray, List.set_cons_zero, List.set_cons_succ]
      have lb0 := ((HD9.out.keep).block (w.heap.size) (by omega) (by omega)).trans HR0.out
      have n0_0 := boxC_of_heap lb0 0 _ rfl
      have n0_1 := boxC_of_heap lb0 1 _ rfl
      have n0_2 := boxC_of_heap lb0 2 _ rfl
      have n0_3 := boxC_of_heap lb0 3 _ rfl
      have n0_4 := boxC_of_heap lb0 4 _ rfl
      have fr0 := frozen_of_heap lb0
      have f0_0 := fr0 0
      have f0_1 := fr0 1
      have f0_2 := fr0 2
      have f0_3 := fr0 3
      have f0_4 := fr0 4
      have HLB0 := Lib.hid lb0
      clear lb0 fr0
      have lb1 := ((HD9.out.keep).block (w.heap.size + 1) (by omega) (by omega)).trans HR1.out
      have n1_0 := boxC_of_heap lb1 0 _ rfl
      have n1_1 := boxC_of_heap lb1 1 _ rfl
      have n1_2 := boxC_of_heap lb1 2 _ rfl
      have fr1 := frozen_of_heap lb1
      have f1_0 := fr1 0
      have f1_1 := fr1 1
      have f1_2 := fr1 2
      have HLB1 := Lib.hid lb1
      clear lb1 fr1
      refine wpAnyH_ready (rs := [2]) (by kernel_rfl) (by simp) (AllReadyH.cons rfl (fun K hK => ?_) AllReadyH.nil)
      go_simp
      have HHeld := KS.out _ (((((((KeepF.refl (fun x => x = S ∨ (w.heap.size ≤ x ∧ x < w.heap.size + 2)) wc).setCell (p := ⟨w.heap.size, 0, none⟩) (.inl (.inr ⟨by simp only; omega, by simp only; omega⟩)) (.int .i64 m.c)).setCell (p := ⟨w.heap.size, 1, none⟩) (.inl (.inr ⟨by simp only; omega, by simp only; omega⟩)) (.int .i64 m.d)).setCell (p := ⟨w.heap.size, 2, none⟩) (.inl (.inr ⟨by simp only; omega, by simp only; omega⟩)) (.int .i64 m.s)).setCell (p := ⟨w.heap.size, 3, none⟩) (.inl (.inr ⟨by simp only; omega, by simp only; omega⟩)) (.int .i64 m.a)).setCell (p := ⟨w.heap.size, 4, none⟩) (.inl (.inr ⟨by simp only; omega, by simp only; omega⟩)) (.int .i64 m.l)).trans (KeepF.ofBelow (F := (fun x => x = S ∨ (w.heap.size ≤ x ∧ x < w.heap.size + 2))) (belowDrew0 _)) (fun _ _ e => e))
      refine hK.out _ _ HHeld (fun _ => ?_)
      clear hK K
      try simp only [Act.put, List.setIfInBounds_toArray, List.set_cons_zero, List.set_cons_succ]
      refine wpAnyH_ready (rs := [3]) (by kernel_rfl) (by simp) (AllReadyH.cons rfl (fun K hK => ?_) AllReadyH.nil)
      go_simp
      have HHeld := KS.out _ ((((((((((KeepF.refl (fun x => x = S ∨ (w.heap.size ≤ x ∧ x < w.heap.size + 2)) wc).setCell (p := ⟨w.heap.size, 0, none⟩) (.inl (.inr ⟨by simp only; omega, by simp only; omega⟩)) (.int .i64 m.c)).setCell (p := ⟨w.heap.size, 1, none⟩) (.inl (.inr ⟨by simp only; omega, by simp only; omega⟩)) (.int .i64 m.d)).setCell (p := ⟨w.heap.size, 2, none⟩) (.inl (.inr ⟨by simp only; omega, by simp only; omega⟩)) (.int .i64 m.s)).setCell (p := ⟨w.heap.size, 3, none⟩) (.inl (.inr ⟨by simp only; omega, by simp only; omega⟩)) (.int .i64 m.a)).setCell (p := ⟨w.heap.size, 4, none⟩) (.inl (.inr ⟨by simp only; omega, by simp only; omega⟩)) (.int .i64 m.l)).setCell (p := ⟨w.heap.size + 1, 0, none⟩) (.inl (.inr ⟨by simp only; omega, by simp only; omega⟩)) (.slice A1 xs.length c1)).setCell (p := ⟨w.heap.size + 1, 1, none⟩) (.inl (.inr ⟨by simp only; omega, by simp only; omega⟩)) (.slice A2 ys.length c2)).setCell (p := ⟨w.heap.size + 1, 2, none⟩) (.inl (.inr ⟨by simp only; omega, by simp only; omega⟩)) (.int .i64 st)).trans (KeepF.ofBelow (F := (fun x => x = S ∨ (w.heap.size ≤ x ∧ x < w.heap.size + 2))) (belowDrew0 _)) (fun _ _ e => e))
      refine hK.out _ _ HHeld (fun _ => ?_)
      clear hK K
      try simp only [Act.put, List.setIfInBounds_toArray, List.set_cons_zero, List.set_cons_succ]
      refine wpAnyH_done (by kernel_rfl) ?_ _
      clear KS
      go_wp2_with fail
      have lb0 := HLB0.out
      have lb1 := HLB1.out
      obtain ⟨wz, hwz⟩ : ∃ wz, wz = ((((((((wc.setCell ⟨w.heap.size, 0, none⟩ (.int .i64 m.c)).setCell ⟨w.heap.size, 1, none⟩ (.int .i64 m.d)).setCell ⟨w.heap.size, 2, none⟩ (.int .i64 m.s)).setCell ⟨w.heap.size, 3, none⟩ (.int .i64 m.a)).setCell ⟨w.heap.size, 4, none⟩ (.int .i64 m.l)).setCell ⟨w.heap.size + 1, 0, none⟩ (.slice A1 xs.length c1)).setCell ⟨w.heap.size + 1, 1, none⟩ (.slice A2 ys.length c2)).setCell ⟨w.heap.size + 1, 2, none⟩ (.int .i64 st)).drew := ⟨_, rfl⟩
      rw [← hwz]
      have kz : KeepF (fun x => w.heap.size ≤ x ∧ x < w.heap.size + 2) wc wz := by rw [hwz]; exact (((((((((KeepF.refl (fun x => w.heap.size ≤ x ∧ x < w.heap.size + 2) wc).setCell (p := ⟨w.heap.size, 0, none⟩) (.inl ⟨by simp only; omega, by simp only; omega⟩) _).setCell (p := ⟨w.heap.size, 1, none⟩) (.inl ⟨by simp only; omega, by simp only; omega⟩) _).setCell (p := ⟨w.heap.size, 2, none⟩) (.inl ⟨by simp only; omega, by simp only; omega⟩) _).setCell (p := ⟨w.heap.size, 3, none⟩) (.inl ⟨by simp only; omega, by simp only; omega⟩) _).setCell (p := ⟨w.heap.size, 4, none⟩) (.inl ⟨by simp only; omega, by simp only; omega⟩) _).setCell (p := ⟨w.heap.size + 1, 0, none⟩) (.inl ⟨by simp only; omega, by simp only; omega⟩) _).setCell (p := ⟨w.heap.size + 1, 1, none⟩) (.inl ⟨by simp only; omega, by simp only; omega⟩) _).setCell (p := ⟨w.heap.size + 1, 2, none⟩) (.inl ⟨by simp only; omega, by simp only; omega⟩) _).trans (KeepF.ofBelow (F := (fun x => w.heap.size ≤ x ∧ x < w.heap.size + 2)) (belowDrew0 _)) (fun _ _ e => e)
      have e0 : wz.heap[w.heap.size]? = some (.cells #[.int .i64 m.c, .int .i64 m.d, .int .i64 m.s, .int .i64 m.a, .int .i64 m.l] 25 (0, 0)) := by rw [hwz]; simp [World.setCell, World.drew, Array.getElem?_modify, lb0]
      have e1 : wz.heap[w.heap.size + 1]? = some (.cells #[.slice A1 xs.length c1, .slice A2 ys.length c2, .int .i64 st] 52 (0, 0)) := by rw [hwz]; simp [World.setCell, World.drew, Array.getElem?_modify, lb1]
      (try simp only [Exit.inBlock, Exit.then])
      refine bodyPost_ret (results_two rfl _ _ (w.heap.size) 25 #[.int .i64 m.c, .int .i64 m.d, .int .i64 m.s, .int .i64 m.a, .int .i64 m.l] (0, 0) _ (by rfl) e0 Try.underlying25 rfl (by kernel_rfl) (w.heap.size + 1) 52 #[.slice A1 xs.length c1, .slice A2 ys.length c2, .int .i64 st] (0, 0) _ (by rfl) e1 Try.underlying52 rfl (by kernel_rfl)) rfl ?_
      exact ⟨m, A1, c1, xs, A2, c2, ys, st, rfl, HMD.out, HC9.out, (HR9.out.1.keepF kz (fun x e => by omega)).mono (by omega), (HR9.out.2.keepF kz (fun x e => by omega)).mono (by omega), (HD0.out.trans HD9.out).keepF kz (fun x e => by omega)⟩

/-- a drawn list, new -/
def ResLi (S : Nat) (A : Option Addr) (c : Nat) (bs : List Int) (w : World) (e : Ending) (w' : World) : Prop :=
  ∃ Z q zs, e = .returned (.slice Z (List.length zs) q) ∧ zs.length ≤ q ∧ RIn w.heap.size w' Z zs ∧ Dr S A c bs w w'
theorem RowsK.riib0 {w' : World} {B : Nat} {A : Option Addr} {us : List Value} {xss : List (List Int)} (hr : RV w' A us) (hk : RowsK w' (fun b => B ≤ b) us xss) (ha : ∀ b o, A = some ⟨b, o, none⟩ → B ≤ b) : RIIb B w' A xss := RowsK.riib hr hk ha
theorem RIIn.at0 {F : Nat → Prop} {w : World} {A : Option Addr} {xss : List (List Int)} (h : RIIn F w A xss) {j : Nat} (hj : j < xss.length) :
    ∃ b o A' c', A = some ⟨b, o, none⟩ ∧ w.cell? ⟨b, o + j, none⟩ = some (.slice A' xss[j].length c') ∧ xss[j].length ≤ c' ∧ RI w A' xss[j] ∧ NF F A' xss[j].length := by
  obtain ⟨us, h1, h2, h3, h4⟩ := h
  obtain ⟨A', c', a, b, d, e⟩ := h4 j hj
  obtain ⟨b', o', e', hc⟩ := h2.at_ (k := j) (by omega)
  refine ⟨b', o', A', c', e', ?_, b, d, e⟩
  rw [hc]
  rw [List.getElem?_eq_getElem (by omega)] at a
  injection a with a; rw [a]
set_option maxRecDepth 100000 in
set_option maxHeartbeats 8000000 in
theorem l13DrawKey_any (S : Nat) (A : Option Addr) (c : Nat) (bs : List Int) (m : Mk) (A1 : Option Addr) (c1 : Nat) (xs : List Int) (A2 : Option Addr) (c2 : Nat) (ys : List Int) (st : Int) (B : Nat) (w : World) (h : Src S A c bs w) (hm : MkD m) (hS : S < B) (hx : RIn B w A1 xs) (hy : RIn B w A2 ys) (hc1 : xs.length ≤ c1) :
    Calls Try.prog 151 #[.pointer (some ⟨S, 0, none⟩), .agg #[.int .i64 m.c, .int .i64 m.d, .int .i64 m.s, .int .i64 m.a, .int .i64 m.l], .agg #[.slice A1 xs.length c1, .slice A2 ys.length c2, .int .i64 st]] w (ResLi S A c bs w) := by
  obtain ⟨w0, hw0⟩ : ∃ w0, w0 = (w.alloc (.cells #[.int .i64 m.c, .int .i64 m.d, .int .i64 m.s, .int .i64 m.a, .int .i64 m.l] 25)).alloc (.cells #[.slice A1 xs.length c1, .slice A2 ys.length c2, .int .i64 st] 52) := ⟨_, rfl⟩
  have hb0 : Below w.heap.size w w0 := by rw [hw0]; exact ((Below.refl _ _).alloc (Nat.le_refl _) _).alloc (by simp only [World.size_alloc]; omega) _
  have HD0 := Lib.hid ((Dr.refl h).below hb0)
  have hz0 : w.heap.size + 1 < w0.heap.size := by rw [hw0]; simp
  have HBX := Lib.hid (show BoxC w0 w.heap.size 0 (mkCells m) by rw [hw0]; exact (BoxC.new (mkCells m) rfl).below ((Below.refl _ _).alloc (Nat.le_refl _) _))
  have HPX := Lib.hid (show BoxC w0 (w.heap.size + 1) 0 [.slice A1 xs.length c1, .slice A2 ys.length c2, .int .i64 st] by rw [hw0]; exact BoxC.new (w := w.alloc (.cells #[.int .i64 m.c, .int .i64 m.d, .int .i64 m.s, .int .i64 m.a, .int .i64 m.l] 25)) [.slice A1 xs.length c1, .slice A2 ys.length c2, .int .i64 st] (by simp))
  have hSl : S < w.heap.size := h.xl
  have HMD := Lib.hid hm
  have HXY := Lib.hid (And.intro (hx.below hb0) (hy.below hb0))
  have HC1 := Lib.hid hc1
  have HIP := Lib.hid (specIsProgression_any m A1 c1 xs A2 c2 ys st w0 HXY.out.1.1 HXY.out.2.1 hc1)
  obtain ⟨x0, x1, x2, x3, x4, _⟩ := HBX.out
  obtain ⟨y0, y1, y2, _⟩ := HPX.out
  simp only [Nat.zero_add] at x1 x2 x3 x4 y1 y2
  clear h hm hx hy hc1 hb0
  go_enter Try.func151, Try.ntmps151
  go_wp2_with fail
  rw [← hw0]
  clear hw0 x0 x1 x2 x3 x4 y0 y1 y2
  refine HIP.out.mono ?_
  rintro e w1 ⟨rfl, hb1⟩
  have HD1 := Lib.hid ((Dr.refl HD0.out.src).below hb1)
  clear hb1 HIP
  cases hpr : isProgF m xs ys st with
  | false =>
    have HE := Lib.hid (l02DrawKey_any S A c bs m w1 HD1.out.src HMD.out)
    obtain ⟨x0, x1, x2, x3, x4, _⟩ := HBX.out.dr (by omega) (by omega) HD1.out
    simp only [Nat.zero_add] at x1 x2 x3 x4
    go_wp2_with fail
    clear x0 x1 x2 x3 x4
    refine HE.out.mono ?_
    rintro e w9 ⟨Z, qz, zs, rfl, hqz, hz9, hrz, hdz⟩
    have HZ := Lib.hid (And.intro hqz (And.intro hrz hdz))
    have hsW := HD1.out.size
    clear hqz hz9 hrz hdz
    go_wp2_with fail
    go_ret
    exact ⟨Z, qz, zs, rfl, HZ.out.1, HZ.out.2.1.mono (by omega), HD0.out.trans (HD1.out.trans HZ.out.2.2)⟩
  | true =>
    have HPR := Lib.hid hpr
    have HN := Lib.hid (l01Next_dr HD1.out.src 6)
    clear hpr
    go_wp2_with fail
    refine HN.out.mono ?_
    rintro e w2 ⟨r, rfl, r0, r1, hd2, -⟩
    have HD2 := Lib.hid (HD1.out.trans hd2)
    clear hd2 r1 HN
    by_cases hr : r > 0
    · have hr' : 0 < r := hr
      obtain ⟨hmk, hxl, hsm, hst1, hst2⟩ := prog_facts HPR.out
      obtain ⟨ks, hks⟩ : ∃ ks, ks = (changeKeys m xs ys st).take (Int.toNat 12) := ⟨_, rfl⟩
      have hkl : ks.length ≤ 12 := by rw [hks, List.length_take]; omega
      have HK := Lib.hid (show Calls Try.prog 97 #[.agg #[.int .i64 m.c, .int .i64 m.d, .int .i64 m.s, .int .i64 m.a, .int .i64 m.l], .agg #[.slice A1 xs.length c1, .slice A2 ys.length c2, .int .i64 st], .int .i64 12] w2 (ResK w2 (fun b => w2.heap.size ≤ b) ks) by rw [hks]; exact l13KeysK_any m A1 c1 xs A2 c2 ys st 12 w2 (HXY.out.1.dr (by omega) HD2.out).1 (HXY.out.2.dr (by omega) HD2.out).1 hmk hsm hxl hst1 hst2 (by omega) (by omega))
      obtain ⟨x0, x1, x2, x3, x4, _⟩ := HBX.out.dr (by omega) (by omega) HD2.out
      obtain ⟨y0, y1, y2, _⟩ := HPX.out.dr (by omega) (by omega) HD2.out
      simp only [Nat.zero_add] at x1 x2 x3 x4 y1 y2
      clear hmk hxl hsm hst1 hst2 hks
      go_wp2_with fail
      clear x0 x1 x2 x3 x4 y0 y1 y2
      refine HK.out.mono ?_
      rintro e w3 ⟨AK, qK, us3, rfl, hqK, hr3, hk3, hb3, na3⟩
      have HLS := Lib.hid (RowsK.riib0 hr3 hk3 na3)
      have HD3 := Lib.hid (HD2.out.below hb3)
      have hs2 := HD2.out.size
      clear hr3 hk3 hb3 na3 HK
      by_cases h0 : 0 < ks.length
      · have h0i : (0 : Int) < (ks.length : Int) := by omega
        have hne : ks ≠ [] := by rintro rfl; simp at h0
        have HN2 := Lib.hid (l01Next_dr HD3.out.src (ks.length : Int))
        go_wp2_with fail
        refine HN2.out.mono ?_
        rintro e w4 ⟨x, rfl, x0, x1, hd4, -⟩
        obtain ⟨j, rfl⟩ : ∃ j : Nat, x = j := ⟨x.toNat, by omega⟩
        have hj : j < ks.length := by omega
        have HD4 := Lib.hid (HD3.out.trans hd4)
        obtain ⟨bO, oO, Z, qz, rfl, hcell, hqz, hrz, hnz⟩ := (HLS.out.dr (by omega) hd4).at0 hj
        obtain ⟨zs, hzs⟩ : ∃ zs, zs = ks[j] := ⟨_, rfl⟩
        rw [← hzs] at hcell hqz hrz hnz
        have HZ := Lib.hid (And.intro hqz (show RIn w2.heap.size w4 Z zs from ⟨hrz, hnz⟩))
        have i0 : (0 : Int) ≤ (j : Int) := by omega
        have i1 : (j : Int) < (ks.length : Int) := by omega
        clear hzs hqz hrz hnz hd4 x1
        go_wp2_with fail
        go_ret
        exact ⟨Z, qz, zs, rfl, HZ.out.1, HZ.out.2.mono (by omega), HD0.out.trans HD4.out⟩
      · have hd1 : decide (0 < ks.length) = false := decide_eq_false h0
        have hd2 : decide ((0 : Int) < (ks.length : Int)) = false := decide_eq_false (by omega)
        clear h0
        have HE := Lib.hid (l02DrawKey_any S A c bs m w3 HD3.out.src HMD.out)
        obtain ⟨x0, x1, x2, x3, x4, _⟩ := HBX.out.dr (by omega) (by omega) HD3.out
        simp only [Nat.zero_add] at x1 x2 x3 x4
        go_wp2_with fail
        clear x0 x1 x2 x3 x4
        refine HE.out.mono ?_
        rintro e w9 ⟨Z, qz, zs, rfl, hqz, hz9, hrz, hdz⟩
        have HZ := Lib.hid (And.intro hqz (And.intro hrz hdz))
        have hsW := HD3.out.size
        clear hqz hz9 hrz hdz
        go_wp2_with fail
        go_ret
        exact ⟨Z, qz, zs, rfl, HZ.out.1, HZ.out.2.1.mono (by omega), HD0.out.trans (HD3.out.trans HZ.out.2.2)⟩
    · have hr0 : r = 0 := by omega
      subst hr0
      have HE := Lib.hid (l02DrawKey_any S A c bs m w2 HD2.out.src HMD.out)
      obtain ⟨x0, x1, x2, x3, x4, _⟩ := HBX.out.dr (by omega) (by omega) HD2.out
      simp only [Nat.zero_add] at x1 x2 x3 x4
      go_wp2_with fail
      clear x0 x1 x2 x3 x4
      refine HE.out.mono ?_
      rintro e w9 ⟨Z, qz, zs, rfl, hqz, hz9, hrz, hdz⟩
      have HZ := Lib.hid (And.intro hqz (And.intro hrz hdz))
      have hsW := HD2.out.size
      clear hqz hz9 hrz hdz
      go_wp2_with fail
      go_ret
      exact ⟨Z, qz, zs, rfl, HZ.out.1, HZ.out.2.1.mono (by omega), HD0.out.trans (HD2.out.trans HZ.out.2.2)⟩
/-- drawn for a statement: a maker and a progression with a number; with a key -/
def Dr13n (w : World) (e : Ending) (w' : World) : Prop :=
  ∃ (m : Mk) (A1 : Option Addr) (c1 : Nat) (xs : List Int) (A2 : Option Addr) (c2 : Nat) (ys : List Int) (st n : Int), e = .returned (.tuple #[.agg #[.int .i64 m.c, .int .i64 m.d, .int .i64 m.s, .int .i64 m.a, .int .i64 m.l], .agg #[.slice A1 xs.length c1, .slice A2 ys.length c2, .int .i64 st], .int .i64 n]) ∧ xs.length ≤ c1 ∧ RI w' A1 xs ∧ RI w' A2 ys ∧ (-1 ≤ n ∧ n ≤ 1001) ∧ Below w.heap.size w w'
def Dr13k (w : World) (e : Ending) (w' : World) : Prop :=
  ∃ (m : Mk) (A1 : Option Addr) (c1 : Nat) (xs : List Int) (A2 : Option Addr) (c2 : Nat) (ys : List Int) (st : Int) (Z : Option Addr) (qz : Nat) (zs : List Int), e = .returned (.tuple #[.agg #[.int .i64 m.c, .int .i64 m.d, .int .i64 m.s, .int .i64 m.a, .int .i64 m.l], .agg #[.slice A1 xs.length c1, .slice A2 ys.length c2, .int .i64 st], .slice Z zs.length qz]) ∧ xs.length ≤ c1 ∧ RIn w.heap.size w' A1 xs ∧ RIn w.heap.size w' A2 ys ∧ zs.length ≤ qz ∧ RIn w.heap.size w' Z zs ∧ Below w.heap.size w w'

set_option maxRecDepth 100000 in
set_option maxHeartbeats 8000000 in
theorem drawChangeKeys_any (A : Option Addr) (c : Nat) (bs : List Int) (w : World) (h : RCode w A bs) : Calls Try.prog 29 #[.slice A bs.length c] w (Dr13n w) := by
  obtain ⟨w0, hw0⟩ : ∃ w0, w0 = (w.alloc (.cells #[.int .i64 0, .int .i64 0, .int .i64 0, .int .i64 0, .int .i64 0] 25)).alloc (.cells #[.slice none 0 0, .slice none 0 0, .int .i64 0] 52) := ⟨_, rfl⟩
  have hz0 : w0.heap.size = w.heap.size + 2 := by rw [hw0]; simp
  have B0 : Below w.heap.size w w0 := by rw [hw0]; exact ((Below.refl _ _).alloc (Nat.le_refl _) _).alloc (by simp only [World.size_alloc]; omega) _
  have HR0 := Lib.hid (show w0.heap[w.heap.size]? = some (.cells #[.int .i64 0, .int .i64 0, .int .i64 0, .int .i64 0, .int .i64 0] 25 (0, 0)) by
    have h1 := heap_alloc_new w (.cells #[.int .i64 0, .int .i64 0, .int .i64 0, .int .i64 0, .int .i64 0] 25)
    have h2 := ((Below.refl (w.heap.size + 1) (w.alloc (.cells #[.int .i64 0, .int .i64 0, .int .i64 0, .int .i64 0, .int .i64 0] 25))).alloc (by simp) (.cells #[.slice none 0 0, .slice none 0 0, .int .i64 0] 52)).block (w.heap.size) (by omega)
    rw [hw0]; exact h2.trans (by simpa using h1))
  have HR1 := Lib.hid (show w0.heap[w.heap.size + 1]? = some (.cells #[.slice none 0 0, .slice none 0 0, .int .i64 0] 52 (0, 0)) by
    have h1 := heap_alloc_new (w.alloc (.cells #[.int .i64 0, .int .i64 0, .int .i64 0, .int .i64 0, .int .i64 0] 25)) (.cells #[.slice none 0 0, .slice none 0 0, .int .i64 0] 52)
    rw [hw0]; simpa using h1)
  have HF := Lib.hid (l01From_any A c bs w0 (RV.below h.1 B0) h.2)
  have HB0 := Lib.hid B0
  clear h B0
  go_enter Try.func29, Try.ntmps29
  go_wp2_with fail
  rw [← hw0]
  clear hw0
  refine HF.out.mono ?_
  rintro e w1 ⟨rfl, hS, hb1, hz1⟩
  obtain ⟨S, hSe⟩ : ∃ S, S = w0.heap.size := ⟨_, rfl⟩
  rw [← hSe] at hS hz1 ⊢
  have hSw : w.heap.size + 2 = S := by omega
  have hs1 : S < w1.heap.size := by omega
  have HB1 := Lib.hid (HB0.out.trans (hb1.mono (by omega)))
  have HK1 := Lib.hid (KeepF.ofBelow (F := fun x => x = S) hb1)
  have HDR := Lib.hid (l13Draw_any S A c bs w1 hS)
  clear hS hb1 hSe hz1 HF
  go_wp2_with fail
  refine HDR.out.mono ?_
  rintro e w2 ⟨m, A1, c1, xs, A2, c2, ys, st, rfl, hm, hc1, hx, hy, hd2⟩
  obtain ⟨w3, hwb⟩ : ∃ wb, wb = (w2.alloc (.cells #[.int .i64 m.c, .int .i64 m.d, .int .i64 m.s, .int .i64 m.a, .int .i64 m.l] 25)).alloc (.cells #[.slice A1 xs.length c1, .slice A2 ys.length c2, .int .i64 st] 52) := ⟨_, rfl⟩
  have hbb : Below w2.heap.size w2 w3 := by rw [hwb]; exact ((Below.refl _ _).alloc (Nat.le_refl _) _).alloc (by simp only [World.size_alloc]; omega) _
  have hs3 : w2.heap.size + 1 < w3.heap.size := by rw [hwb]; simp
  have HBX := Lib.hid (show BoxC w3 w2.heap.size 0 (mkCells m) by rw [hwb]; exact (BoxC.new (mkCells m) rfl).below ((Below.refl _ _).alloc (Nat.le_refl _) _))
  have HLX := Lib.hid (show BoxC w3 (w2.heap.size + 1) 0 [.slice A1 xs.length c1, .slice A2 ys.length c2, .int .i64 st] by rw [hwb]; exact BoxC.new (w := w2.alloc (.cells #[.int .i64 m.c, .int .i64 m.d, .int .i64 m.s, .int .i64 m.a, .int .i64 m.l] 25)) [.slice A1 xs.length c1, .slice A2 ys.length c2, .int .i64 st] (by simp))
  have hs2 := hd2.size
  have HMD := Lib.hid hm; have HC1 := Lib.hid hc1
  have HXY := Lib.hid (And.intro (hx.below hbb) (hy.below hbb))
  have HD3 := Lib.hid (hd2.below hbb)
  clear hm hc1 hx hy hd2 hbb HDR
  have KS := Lib.hid (show ∀ w' : World, KeepF (fun x => x = S ∨ (w.heap.size ≤ x ∧ x < w.heap.size + 2)) w3 w' → (w'.cell? ⟨w2.heap.size, 0, none⟩ = some (.int .i64 m.c) ∧ w'.cell? ⟨w2.heap.size, 1, none⟩ = some (.int .i64 m.d) ∧ w'.cell? ⟨w2.heap.size, 2, none⟩ = some (.int .i64 m.s) ∧ w'.cell? ⟨w2.heap.size, 3, none⟩ = some (.int .i64 m.a) ∧ w'.cell? ⟨w2.heap.size, 4, none⟩ = some (.int .i64 m.l) ∧ w'.cell? ⟨w2.heap.size + 1, 0, none⟩ = some (.slice A1 xs.length c1) ∧ w'.cell? ⟨w2.heap.size + 1, 1, none⟩ = some (.slice A2 ys.length c2) ∧ w'.cell? ⟨w2.heap.size + 1, 2, none⟩ = some (.int .i64 st)) from fun w' hw => by
    have hb0 := HBX.out
    obtain ⟨z0_0, z0_1, z0_2, z0_3, z0_4, _⟩ := hb0.keepF hw (World.block_lt_of_cell? _ _ hb0.1) (by omega)
    have hb1 := HLX.out
    obtain ⟨z1_0, z1_1, z1_2, _⟩ := hb1.keepF hw (World.block_lt_of_cell? _ _ hb1.1) (by omega)
    exact ⟨z0_0, z0_1, z0_2, z0_3, z0_4, z1_0, z1_1, z1_2⟩)
  go_wp2_with fail
  rw [← hwb]
  clear hwb
  refine wp_region_held_drew (S := (fun w' => w'.cell? ⟨w2.heap.size, 0, none⟩ = some (.int .i64 m.c) ∧ w'.cell? ⟨w2.heap.size, 1, none⟩ = some (.int .i64 m.d) ∧ w'.cell? ⟨w2.heap.size, 2, none⟩ = some (.int .i64 m.s) ∧ w'.cell? ⟨w2.heap.size, 3, none⟩ = some (.int .i64 m.a) ∧ w'.cell? ⟨w2.heap.size, 4, none⟩ = some (.int .i64 m.l) ∧ w'.cell? ⟨w2.heap.size + 1, 0, none⟩ = some (.slice A1 xs.length c1) ∧ w'.cell? ⟨w2.heap.size + 1, 1, none⟩ = some (.slice A2 ys.length c2) ∧ w'.cell? ⟨w2.heap.size + 1, 2, none⟩ = some (.int .i64 st))) (by kernel_rfl) (KS.out _ (KeepF.ofBelow (belowDrew0 _))) (fun hHeld => ?_)
  refine takeD (i := 0) (some 15) (.agg #[.int .i64 m.c, .int .i64 m.d, .int .i64 m.s, .int .i64 m.a, .int .i64 m.l]) rfl (by kernel_rfl) (by kernel_rfl) (by kernel_rfl) (by kernel_rfl) (fun _ _ _ h => h) (by assumption) (Or.inl ⟨by rfl, fun w hSw => by (try dsimp only at hSw); go_simp⟩) ?_
  simp only [Act.put, List.setIfInBounds_toArray, List.set_cons_zero, List.set_cons_succ]
  refine takeD (i := 1) (some 16) (.agg #[.slice A1 xs.length c1, .slice A2 ys.length c2, .int .i64 st]) rfl (by kernel_rfl) (by kernel_rfl) (by kernel_rfl) (by kernel_rfl) (fun _ _ _ h => h) (by assumption) (Or.inl ⟨by rfl, fun w hSw => by (try dsimp only at hSw); go_simp⟩) ?_
  simp only [Act.put, List.setIfInBounds_toArray, List.set_cons_zero, List.set_cons_succ]
  refine takeD (i := 2) (some 17) (.pointer (some ⟨S, 0, none⟩)) rfl (by kernel_rfl) (by kernel_rfl) (by kernel_rfl) (by kernel_rfl) (fun _ _ _ h => h) (by assumption) (Or.inl ⟨by rfl, fun w hSw => by (try dsimp only at hSw); go_simp⟩) ?_
  simp only [Act.put, List.setIfInBounds_toArray, List.set_cons_zero, List.set_cons_succ]
  refine wpAnyH_ready (rs := [3]) (by kernel_rfl) (by simp) (AllReadyH.cons rfl (fun K hK => ?_) AllReadyH.nil)
  go_simp
  have hb4 : Below w3.heap.size w3 (w3.drew.alloc (.cells #[.int .i64 0, .int .i64 1, .int .i64 5, .int .i64 20, .int .i64 300, .int .i64 301, .int .i64 (-1)] 2)) := (belowDrew0 w3).alloc (Nat.le_refl _) _
  have HHeld := KS.out _ (KeepF.ofBelow hb4)
  refine hK.out _ _ HHeld (fun _ => ?_)
  clear hK K
  try simp only [Act.put, List.setIfInBounds_toArray, List.set_cons_zero, List.set_cons_succ]
  refine wpAnyH_ready (rs := [4]) (by kernel_rfl) (by simp) (AllReadyH.cons rfl (fun K hK => ?_) AllReadyH.nil)
  go_simp
  refine (show Calls Try.prog 67 #[.pointer (some ⟨S, 0, none⟩), .slice (some ⟨w3.drew.heap.size, 0, none⟩) 7 7] (w3.drew.alloc (.cells #[.int .i64 0, .int .i64 1, .int .i64 5, .int .i64 20, .int .i64 300, .int .i64 301, .int .i64 (-1)] 2)) _ from l01Pick_new (HD3.out.drew).src [0, 1, 5, 20, 300, 301, -1] (by simp) (by simp)).mono ?_
  rintro e w4 ⟨x, rfl, hx, hd4, -⟩
  have HX := Lib.hid hx
  have HD34 := Lib.hid ((Dr.refl HD3.out.src).drew.trans hd4)
  have HK34 := Lib.hid HD34.out.keep
  have hs4 := HD34.out.size
  clear hx hd4
  have HHeld := KS.out _ (HK34.out.mono (fun x e => .inl e))
  refine hK.out _ _ HHeld (fun _ => ?_)
  clear hK K
  try simp only [Act.put, List.setIfInBounds_toArray, List.set_cons_zero, List.set_cons_succ]
  have lb0 := (((HK1.out.trans HD3.out.keep (fun _ _ e => e)).trans (HK34.out) (fun _ _ e => e)).block (w.heap.size) (by omega) (by omega)).trans HR0.out
  have n0_0 := boxC_of_heap lb0 0 _ rfl
  have n0_1 := boxC_of_heap lb0 1 _ rfl
  have n0_2 := boxC_of_heap lb0 2 _ rfl
  have n0_3 := boxC_of_heap lb0 3 _ rfl
  have n0_4 := boxC_of_heap lb0 4 _ rfl
  have fr0 := frozen_of_heap lb0
  have f0_0 := fr0 0
  have f0_1 := fr0 1
  have f0_2 := fr0 2
  have f0_3 := fr0 3
  have f0_4 := fr0 4
  have HLB0 := Lib.hid lb0
  clear lb0 fr0
  have lb1 := (((HK1.out.trans HD3.out.keep (fun _ _ e => e)).trans (HK34.out) (fun _ _ e => e)).block (w.heap.size + 1) (by omega) (by omega)).trans HR1.out
  have n1_0 := boxC_of_heap lb1 0 _ rfl
  have n1_1 := boxC_of_heap lb1 1 _ rfl
  have n1_2 := boxC_of_heap lb1 2 _ rfl
  have fr1 := frozen_of_heap lb1
  have f1_0 := fr1 0
  have f1_1 := fr1 1
  have f1_2 := fr1 2
  have HLB1 := Lib.hid lb1
  clear lb1 fr1
  refine wpAnyH_ready (rs := [5]) (by kernel_rfl) (by simp) (AllReadyH.cons rfl (fun K hK => ?_) AllReadyH.nil)
  go_simp
  have HHeld := KS.out _ (((HK34.out).mono (fun x e => .inl e)).trans ((((((KeepF.refl (fun x => x = S ∨ (w.heap.size ≤ x ∧ x < w.heap.size + 2)) w4).setCell (p := ⟨w.heap.size, 0, none⟩) (.inl (.inr ⟨by simp only; omega, by simp only; omega⟩)) (.int .i64 m.c)).setCell (p := ⟨w.heap.size, 1, none⟩) (.inl (.inr ⟨by simp only; omega, by simp only; omega⟩)) (.int .i64 m.d)).setCell (p := ⟨w.heap.size, 2, none⟩) (.inl (.inr ⟨by simp only; omega, by simp only; omega⟩)) (.int .i64 m.s)).setCell (p := ⟨w.heap.size, 3, none⟩) (.inl (.inr ⟨by simp only; omega, by simp only; omega⟩)) (.int .i64 m.a)).setCell (p := ⟨w.heap.size, 4, none⟩) (.inl (.inr ⟨by simp only; omega, by simp only; omega⟩)) (.int .i64 m.l)) (fun _ _ e => e))
  refine hK.out _ _ HHeld (fun _ => ?_)
  clear hK K
  try simp only [Act.put, List.setIfInBounds_toArray, List.set_cons_zero, List.set_cons_succ]
  refine wpAnyH_ready (rs := [6]) (by kernel_rfl) (by simp) (AllReadyH.cons rfl (fun K hK => ?_) AllReadyH.nil)
  go_simp
  have HHeld := KS.out _ (((HK34.out).mono (fun x e => .inl e)).trans (((((((((KeepF.refl (fun x => x = S ∨ (w.heap.size ≤ x ∧ x < w.heap.size + 2)) w4).setCell (p := ⟨w.heap.size, 0, none⟩) (.inl (.inr ⟨by simp only; omega, by simp only; omega⟩)) (.int .i64 m.c)).setCell (p := ⟨w.heap.size, 1, none⟩) (.inl (.inr ⟨by simp only; omega, by simp only; omega⟩)) (.int .i64 m.d)).setCell (p := ⟨w.heap.size, 2, none⟩) (.inl (.inr ⟨by simp only; omega, by simp only; omega⟩)) (.int .i64 m.s)).setCell (p := ⟨w.heap.size, 3, none⟩) (.inl (.inr ⟨by simp only; omega, by simp only; omega⟩)) (.int .i64 m.a)).setCell (p := ⟨w.heap.size, 4, none⟩) (.inl (.inr ⟨by simp only; omega, by simp only; omega⟩)) (.int .i64 m.l)).setCell (p := ⟨w.heap.size + 1, 0, none⟩) (.inl (.inr ⟨by simp only; omega, by simp only; omega⟩)) (.slice A1 xs.length c1)).setCell (p := ⟨w.heap.size + 1, 1, none⟩) (.inl (.inr ⟨by simp only; omega, by simp only; omega⟩)) (.slice A2 ys.length c2)).setCell (p := ⟨w.heap.size + 1, 2, none⟩) (.inl (.inr ⟨by simp only; omega, by simp only; omega⟩)) (.int .i64 st)) (fun _ _ e => e))
  refine hK.out _ _ HHeld (fun _ => ?_)
  clear hK K
  try simp only [Act.put, List.setIfInBounds_toArray, List.set_cons_zero, List.set_cons_succ]
  refine takeD (i := 7) (some 4) (.int .i64 x) rfl (by kernel_rfl) (by kernel_rfl) (by kernel_rfl) (by kernel_rfl) (fun _ _ _ h => h) (by assumption) (Or.inl ⟨by rfl, fun w hSw => by (try dsimp only at hSw); go_simp⟩) ?_
  simp only [Act.put, List.setIfInBounds_toArray, List.set_cons_zero, List.set_cons_succ]
  refine wpAnyH_done (by kernel_rfl) ?_ _
  clear KS
  go_wp2_with fail
  have lb0 := HLB0.out
  have lb1 := HLB1.out
  obtain ⟨wz, hwz⟩ : ∃ wz, wz = (((((((w4.setCell ⟨w.heap.size, 0, none⟩ (.int .i64 m.c)).setCell ⟨w.heap.size, 1, none⟩ (.int .i64 m.d)).setCell ⟨w.heap.size, 2, none⟩ (.int .i64 m.s)).setCell ⟨w.heap.size, 3, none⟩ (.int .i64 m.a)).setCell ⟨w.heap.size, 4, none⟩ (.int .i64 m.l)).setCell ⟨w.heap.size + 1, 0, none⟩ (.slice A1 xs.length c1)).setCell ⟨w.heap.size + 1, 1, none⟩ (.slice A2 ys.length c2)).setCell ⟨w.heap.size + 1, 2, none⟩ (.int .i64 st) := ⟨_, rfl⟩
  rw [← hwz]
  have kz : KeepF (fun x => w.heap.size ≤ x ∧ x < w.heap.size + 2) w4 wz := by rw [hwz]; exact ((((((((KeepF.refl (fun x => w.heap.size ≤ x ∧ x < w.heap.size + 2) w4).setCell (p := ⟨w.heap.size, 0, none⟩) (.inl ⟨by simp only; omega, by simp only; omega⟩) _).setCell (p := ⟨w.heap.size, 1, none⟩) (.inl ⟨by simp only; omega, by simp only; omega⟩) _).setCell (p := ⟨w.heap.size, 2, none⟩) (.inl ⟨by simp only; omega, by simp only; omega⟩) _).setCell (p := ⟨w.heap.size, 3, none⟩) (.inl ⟨by simp only; omega, by simp only; omega⟩) _).setCell (p := ⟨w.heap.size, 4, none⟩) (.inl ⟨by simp only; omega, by simp only; omega⟩) _).setCell (p := ⟨w.heap.size + 1, 0, none⟩) (.inl ⟨by simp only; omega, by simp only; omega⟩) _).setCell (p := ⟨w.heap.size + 1, 1, none⟩) (.inl ⟨by simp only; omega, by simp only; omega⟩) _).setCell (p := ⟨w.heap.size + 1, 2, none⟩) (.inl ⟨by simp only; omega, by simp only; omega⟩) _
  have e0 : wz.heap[w.heap.size]? = some (.cells #[.int .i64 m.c, .int .i64 m.d, .int .i64 m.s, .int .i64 m.a, .int .i64 m.l] 25 (0, 0)) := by rw [hwz]; simp [World.setCell, Array.getElem?_modify, lb0]
  have e1 : wz.heap[w.heap.size + 1]? = some (.cells #[.slice A1 xs.length c1, .slice A2 ys.length c2, .int .i64 st] 52 (0, 0)) := by rw [hwz]; simp [World.setCell, Array.getElem?_modify, lb1]
  (try simp only [Exit.inBlock, Exit.then])
  refine bodyPost_ret (results_two1 rfl _ _ (w.heap.size) 25 #[.int .i64 m.c, .int .i64 m.d, .int .i64 m.s, .int .i64 m.a, .int .i64 m.l] (0, 0) _ (by rfl) e0 Try.underlying25 rfl (by kernel_rfl) (w.heap.size + 1) 52 #[.slice A1 xs.length c1, .slice A2 ys.length c2, .int .i64 st] (0, 0) _ (by rfl) e1 Try.underlying52 rfl (by kernel_rfl)) rfl ?_
  have hdz := (HD3.out.trans HD34.out)
  have kt : KeepF (fun x => w.heap.size ≤ x) w wz := ((KeepF.ofBelow (F := fun x => w.heap.size ≤ x) (HB1.out.mono (Nat.le_refl _))).trans (hdz.keep.mono fun x e => by omega) (fun _ _ e => e)).trans (kz.mono fun x e => e.1) (fun _ _ e => e)
  exact ⟨m, A1, c1, xs, A2, c2, ys, st, x, rfl, HC1.out, ((HXY.out.1.dr (by omega) HD34.out).keepF kz (fun x e => by omega)).1, ((HXY.out.2.dr (by omega) HD34.out).keepF kz (fun x e => by omega)).1, by have := HX.out; simp at this; omega, kt.toBelow (Nat.le_refl _) (fun x hx e => by omega)⟩

set_option maxRecDepth 100000 in
set_option maxHeartbeats 8000000 in
theorem drawIsChangeKey_any (A : Option Addr) (c : Nat) (bs : List Int) (w : World) (h : RCode w A bs) : Calls Try.prog 98 #[.slice A bs.length c] w (Dr13k w) := by
  obtain ⟨w0, hw0⟩ : ∃ w0, w0 = (w.alloc (.cells #[.int .i64 0, .int .i64 0, .int .i64 0, .int .i64 0, .int .i64 0] 25)).alloc (.cells #[.slice none 0 0, .slice none 0 0, .int .i64 0] 52) := ⟨_, rfl⟩
  have hz0 : w0.heap.size = w.heap.size + 2 := by rw [hw0]; simp
  have B0 : Below w.heap.size w w0 := by rw [hw0]; exact ((Below.refl _ _).alloc (Nat.le_refl _) _).alloc (by simp only [World.size_alloc]; omega) _
  have HR0 := Lib.hid (show w0.heap[w.heap.size]? = some (.cells #[.int .i64 0, .int .i64 0, .int .i64 0, .int .i64 0, .int .i64 0] 25 (0, 0)) by
    have h1 := heap_alloc_new w (.cells #[.int .i64 0, .int .i64 0, .int .i64 0, .int .i64 0, .int .i64 0] 25)
    have h2 := ((Below.refl (w.heap.size + 1) (w.alloc (.cells #[.int .i64 0, .int .i64 0, .int .i64 0, .int .i64 0, .int .i64 0] 25))).alloc (by simp) (.cells #[.slice none 0 0, .slice none 0 0, .int .i64 0] 52)).block (w.heap.size) (by omega)
    rw [hw0]; exact h2.trans (by simpa using h1))
  have HR1 := Lib.hid (show w0.heap[w.heap.size + 1]? = some (.cells #[.slice none 0 0, .slice none 0 0, .int .i64 0] 52 (0, 0)) by
    have h1 := heap_alloc_new (w.alloc (.cells #[.int .i64 0, .int .i64 0, .int .i64 0, .int .i64 0, .int .i64 0] 25)) (.cells #[.slice none 0 0, .slice none 0 0, .int .i64 0] 52)
    rw [hw0]; simpa using h1)
  have HF := Lib.hid (l01From_any A c bs w0 (RV.below h.1 B0) h.2)
  have HB0 := Lib.hid B0
  clear h B0
  go_enter Try.func98, Try.ntmps98
  go_wp2_with fail
  rw [← hw0]
  clear hw0
  refine HF.out.mono ?_
  rintro e w1 ⟨rfl, hS, hb1, hz1⟩
  obtain ⟨S, hSe⟩ : ∃ S, S = w0.heap.size := ⟨_, rfl⟩
  rw [← hSe] at hS hz1 ⊢
  have hSw : w.heap.size + 2 = S := by omega
  have hs1 : S < w1.heap.size := by omega
  have HB1 := Lib.hid (HB0.out.trans (hb1.mono (by omega)))
  have HK1 := Lib.hid (KeepF.ofBelow (F := fun x => x = S) hb1)
  have HDR := Lib.hid (l13Draw_any S A c bs w1 hS)
  clear hS hb1 hSe hz1 HF
  go_wp2_with fail
  refine HDR.out.mono ?_
  rintro e w2 ⟨m, A1, c1, xs, A2, c2, ys, st, rfl, hm, hc1, hx, hy, hd2⟩
  obtain ⟨w3, hwb⟩ : ∃ wb, wb = (w2.alloc (.cells #[.int .i64 m.c, .int .i64 m.d, .int .i64 m.s, .int .i64 m.a, .int .i64 m.l] 25)).alloc (.cells #[.slice A1 xs.length c1, .slice A2 ys.length c2, .int .i64 st] 52) := ⟨_, rfl⟩
  have hbb : Below w2.heap.size w2 w3 := by rw [hwb]; exact ((Below.refl _ _).alloc (Nat.le_refl _) _).alloc (by simp only [World.size_alloc]; omega) _
  have hs3 : w2.heap.size + 1 < w3.heap.size := by rw [hwb]; simp
  have HBX := Lib.hid (show BoxC w3 w2.heap.size 0 (mkCells m) by rw [hwb]; exact (BoxC.new (mkCells m) rfl).below ((Below.refl _ _).alloc (Nat.le_refl _) _))
  have HLX := Lib.hid (show BoxC w3 (w2.heap.size + 1) 0 [.slice A1 xs.length c1, .slice A2 ys.length c2, .int .i64 st] by rw [hwb]; exact BoxC.new (w := w2.alloc (.cells #[.int .i64 m.c, .int .i64 m.d, .int .i64 m.s, .int .i64 m.a, .int .i64 m.l] 25)) [.slice A1 xs.length c1, .slice A2 ys.length c2, .int .i64 st] (by simp))
  have hs2 := hd2.size
  have HMD := Lib.hid hm; have HC1 := Lib.hid hc1
  have HXY := Lib.hid (And.intro (hx.below hbb) (hy.below hbb))
  have HD3 := Lib.hid (hd2.below hbb)
  clear hm hc1 hx hy hd2 hbb HDR
  have KS := Lib.hid (show ∀ w' : World, KeepF (fun x => x = S ∨ (w.heap.size ≤ x ∧ x < w.heap.size + 2)) w3 w' → (w'.cell? ⟨w2.heap.size, 0, none⟩ = some (.int .i64 m.c) ∧ w'.cell? ⟨w2.heap.size, 1, none⟩ = some (.int .i64 m.d) ∧ w'.cell? ⟨w2.heap.size, 2, none⟩ = some (.int .i64 m.s) ∧ w'.cell? ⟨w2.heap.size, 3, none⟩ = some (.int .i64 m.a) ∧ w'.cell? ⟨w2.heap.size, 4, none⟩ = some (.int .i64 m.l) ∧ w'.cell? ⟨w2.heap.size + 1, 0, none⟩ = some (.slice A1 xs.length c1) ∧ w'.cell? ⟨w2.heap.size + 1, 1, none⟩ = some (.slice A2 ys.length c2) ∧ w'.cell? ⟨w2.heap.size + 1, 2, none⟩ = some (.int .i64 st)) from fun w' hw => by
    have hb0 := HBX.out
    obtain ⟨z0_0, z0_1, z0_2, z0_3, z0_4, _⟩ := hb0.keepF hw (World.block_lt_of_cell? _ _ hb0.1) (by omega)
    have hb1 := HLX.out
    obtain ⟨z1_0, z1_1, z1_2, _⟩ := hb1.keepF hw (World.block_lt_of_cell? _ _ hb1.1) (by omega)
    exact ⟨z0_0, z0_1, z0_2, z0_3, z0_4, z1_0, z1_1, z1_2⟩)
  go_wp2_with fail
  rw [← hwb]
  clear hwb
  refine wp_region_held_drew (S := (fun w' => w'.cell? ⟨w2.heap.size, 0, none⟩ = some (.int .i64 m.c) ∧ w'.cell? ⟨w2.heap.size, 1, none⟩ = some (.int .i64 m.d) ∧ w'.cell? ⟨w2.heap.size, 2, none⟩ = some (.int .i64 m.s) ∧ w'.cell? ⟨w2.heap.size, 3, none⟩ = some (.int .i64 m.a) ∧ w'.cell? ⟨w2.heap.size, 4, none⟩ = some (.int .i64 m.l) ∧ w'.cell? ⟨w2.heap.size + 1, 0, none⟩ = some (.slice A1 xs.length c1) ∧ w'.cell? ⟨w2.heap.size + 1, 1, none⟩ = some (.slice A2 ys.length c2) ∧ w'.cell? ⟨w2.heap.size + 1, 2, none⟩ = some (.int .i64 st))) (by kernel_rfl) (KS.out _ (KeepF.ofBelow (belowDrew0 _))) (fun hHeld => ?_)
  refine takeD (i := 0) (some 15) (.agg #[.int .i64 m.c, .int .i64 m.d, .int .i64 m.s, .int .i64 m.a, .int .i64 m.l]) rfl (by kernel_rfl) (by kernel_rfl) (by kernel_rfl) (by kernel_rfl) (fun _ _ _ h => h) (by assumption) (Or.inl ⟨by rfl, fun w hSw => by (try dsimp only at hSw); go_simp⟩) ?_
  simp only [Act.put, List.setIfInBounds_toArray, List.set_cons_zero, List.set_cons_succ]
  refine takeD (i := 1) (some 16) (.agg #[.slice A1 xs.length c1, .slice A2 ys.length c2, .int .i64 st]) rfl (by kernel_rfl) (by kernel_rfl) (by kernel_rfl) (by kernel_rfl) (fun _ _ _ h => h) (by assumption) (Or.inl ⟨by rfl, fun w hSw => by (try dsimp only at hSw); go_simp⟩) ?_
  simp only [Act.put, List.setIfInBounds_toArray, List.set_cons_zero, List.set_cons_succ]
  refine takeD (i := 2) (some 17) (.pointer (some ⟨S, 0, none⟩)) rfl (by kernel_rfl) (by kernel_rfl) (by kernel_rfl) (by kernel_rfl) (fun _ _ _ h => h) (by assumption) (Or.inl ⟨by rfl, fun w hSw => by (try dsimp only at hSw); go_simp⟩) ?_
  simp only [Act.put, List.setIfInBounds_toArray, List.set_cons_zero, List.set_cons_succ]
  refine takeD (i := 3) (some 18) (.agg #[.int .i64 m.c, .int .i64 m.d, .int .i64 m.s, .int .i64 m.a, .int .i64 m.l]) rfl (by kernel_rfl) (by kernel_rfl) (by kernel_rfl) (by kernel_rfl) (fun _ _ _ h => h) (by assumption) (Or.inl ⟨by rfl, fun w hSw => by (try dsimp only at hSw); go_simp⟩) ?_
  simp only [Act.put, List.setIfInBounds_toArray, List.set_cons_zero, List.set_cons_succ]
  refine takeD (i := 4) (some 19) (.agg #[.slice A1 xs.length c1, .slice A2 ys.length c2, .int .i64 st]) rfl (by kernel_rfl) (by kernel_rfl) (by kernel_rfl) (by kernel_rfl) (fun _ _ _ h => h) (by assumption) (Or.inl ⟨by rfl, fun w hSw => by (try dsimp only at hSw); go_simp⟩) ?_
  simp only [Act.put, List.setIfInBounds_toArray, List.set_cons_zero, List.set_cons_succ]
  refine wpAnyH_ready (rs := [5]) (by kernel_rfl) (by simp) (AllReadyH.cons rfl (fun K hK => ?_) AllReadyH.nil)
  go_simp
  refine (l13DrawKey_any S A c bs m A1 c1 xs A2 c2 ys st w1.heap.size _ (HD3.out.drew).src HMD.out (by omega) (HXY.out.1.below (belowDrew0 _)) (HXY.out.2.below (belowDrew0 _)) HC1.out).mono ?_
  rintro e w4 ⟨Z, qz, zs, rfl, hqz, hrz, hd4⟩
  have HZ := Lib.hid (And.intro hqz (show RIn (w0.heap.size + 1) w4 Z zs from hrz.mono (show w0.heap.size + 1 ≤ w3.heap.size by omega)))
  have HD34 := Lib.hid ((Dr.refl HD3.out.src).drew.trans hd4)
  have HK34 := Lib.hid HD34.out.keep
  have hs4 := HD34.out.size
  clear hqz hrz hd4
  have HHeld := KS.out _ (HK34.out.mono (fun x e => .inl e))
  refine hK.out _ _ HHeld (fun _ => ?_)
  clear hK K
  try simp only [Act.put, List.setIfInBounds_toArray, List.set_cons_zero, List.set_cons_succ]
  have lb0 := (((HK1.out.trans HD3.out.keep (fun _ _ e => e)).trans (HK34.out) (fun _ _ e => e)).block (w.heap.size) (by omega) (by omega)).trans HR0.out
  have n0_0 := boxC_of_heap lb0 0 _ rfl
  have n0_1 := boxC_of_heap lb0 1 _ rfl
  have n0_2 := boxC_of_heap lb0 2 _ rfl
  have n0_3 := boxC_of_heap lb0 3 _ rfl
  have n0_4 := boxC_of_heap lb0 4 _ rfl
  have fr0 := frozen_of_heap lb0
  have f0_0 := fr0 0
  have f0_1 := fr0 1
  have f0_2 := fr0 2
  have f0_3 := fr0 3
  have f0_4 := fr0 4
  have HLB0 := Lib.hid lb0
  clear lb0 fr0
  have lb1 := (((HK1.out.trans HD3.out.keep (fun _ _ e => e)).trans (HK34.out) (fun _ _ e => e)).block (w.heap.size + 1) (by omega) (by omega)).trans HR1.out
  have n1_0 := boxC_of_heap lb1 0 _ rfl
  have n1_1 := boxC_of_heap lb1 1 _ rfl
  have n1_2 := boxC_of_heap lb1 2 _ rfl
  have fr1 := frozen_of_heap lb1
  have f1_0 := fr1 0
  have f1_1 := fr1 1
  have f1_2 := fr1 2
  have HLB1 := Lib.hid lb1
  clear lb1 fr1
  refine wpAnyH_ready (rs := [6]) (by kernel_rfl) (by simp) (AllReadyH.cons rfl (fun K hK => ?_) AllReadyH.nil)
  go_simp
  have HHeld := KS.out _ (((HK34.out).mono (fun x e => .inl e)).trans ((((((KeepF.refl (fun x => x = S ∨ (w.heap.size ≤ x ∧ x < w.heap.size + 2)) w4).setCell (p := ⟨w.heap.size, 0, none⟩) (.inl (.inr ⟨by simp only; omega, by simp only; omega⟩)) (.int .i64 m.c)).setCell (p := ⟨w.heap.size, 1, none⟩) (.inl (.inr ⟨by simp only; omega, by simp only; omega⟩)) (.int .i64 m.d)).setCell (p := ⟨w.heap.size, 2, none⟩) (.inl (.inr ⟨by simp only; omega, by simp only; omega⟩)) (.int .i64 m.s)).setCell (p := ⟨w.heap.size, 3, none⟩) (.inl (.inr ⟨by simp only; omega, by simp only; omega⟩)) (.int .i64 m.a)).setCell (p := ⟨w.heap.size, 4, none⟩) (.inl (.inr ⟨by simp only; omega, by simp only; omega⟩)) (.int .i64 m.l)) (fun _ _ e => e))
  refine hK.out _ _ HHeld (fun _ => ?_)
  clear hK K
  try simp only [Act.put, List.setIfInBounds_toArray, List.set_cons_zero, List.set_cons_succ]
  refine wpAnyH_ready (rs := [7]) (by kernel_rfl) (by simp) (AllReadyH.cons rfl (fun K hK => ?_) AllReadyH.nil)
  go_simp
  have HHeld := KS.out _ (((HK34.out).mono (fun x e => .inl e)).trans (((((((((KeepF.refl (fun x => x = S ∨ (w.heap.size ≤ x ∧ x < w.heap.size + 2)) w4).setCell (p := ⟨w.heap.size, 0, none⟩) (.inl (.inr ⟨by simp only; omega, by simp only; omega⟩)) (.int .i64 m.c)).setCell (p := ⟨w.heap.size, 1, none⟩) (.inl (.inr ⟨by simp only; omega, by simp only; omega⟩)) (.int .i64 m.d)).setCell (p := ⟨w.heap.size, 2, none⟩) (.inl (.inr ⟨by simp only; omega, by simp only; omega⟩)) (.int .i64 m.s)).setCell (p := ⟨w.heap.size, 3, none⟩) (.inl (.inr ⟨by simp only; omega, by simp only; omega⟩)) (.int .i64 m.a)).setCell (p := ⟨w.heap.size, 4, none⟩) (.inl (.inr ⟨by simp only; omega, by simp only; omega⟩)) (.int .i64 m.l)).setCell (p := ⟨w.heap.size + 1, 0, none⟩) (.inl (.inr ⟨by simp only; omega, by simp only; omega⟩)) (.slice A1 xs.length c1)).setCell (p := ⟨w.heap.size + 1, 1, none⟩) (.inl (.inr ⟨by simp only; omega, by simp only; omega⟩)) (.slice A2 ys.length c2)).setCell (p := ⟨w.heap.size + 1, 2, none⟩) (.inl (.inr ⟨by simp only; omega, by simp only; omega⟩)) (.int .i64 st)) (fun _ _ e => e))
  refine hK.out _ _ HHeld (fun _ => ?_)
  clear hK K
  try simp only [Act.put, List.setIfInBounds_toArray, List.set_cons_zero, List.set_cons_succ]
  refine takeD (i := 8) (some 4) (.slice Z zs.length qz) rfl (by kernel_rfl) (by kernel_rfl) (by kernel_rfl) (by kernel_rfl) (fun _ _ _ h => h) (by assumption) (Or.inl ⟨by rfl, fun w hSw => by (try dsimp only at hSw); go_simp⟩) ?_
  simp only [Act.put, List.setIfInBounds_toArray, List.set_cons_zero, List.set_cons_succ]
  refine wpAnyH_done (by kernel_rfl) ?_ _
  clear KS
  go_wp2_with fail
  have lb0 := HLB0.out
  have lb1 := HLB1.out
  obtain ⟨wz, hwz⟩ : ∃ wz, wz = (((((((w4.setCell ⟨w.heap.size, 0, none⟩ (.int .i64 m.c)).setCell ⟨w.heap.size, 1, none⟩ (.int .i64 m.d)).setCell ⟨w.heap.size, 2, none⟩ (.int .i64 m.s)).setCell ⟨w.heap.size, 3, none⟩ (.int .i64 m.a)).setCell ⟨w.heap.size, 4, none⟩ (.int .i64 m.l)).setCell ⟨w.heap.size + 1, 0, none⟩ (.slice A1 xs.length c1)).setCell ⟨w.heap.size + 1, 1, none⟩ (.slice A2 ys.length c2)).setCell ⟨w.heap.size + 1, 2, none⟩ (.int .i64 st) := ⟨_, rfl⟩
  rw [← hwz]
  have kz : KeepF (fun x => w.heap.size ≤ x ∧ x < w.heap.size + 2) w4 wz := by rw [hwz]; exact ((((((((KeepF.refl (fun x => w.heap.size ≤ x ∧ x < w.heap.size + 2) w4).setCell (p := ⟨w.heap.size, 0, none⟩) (.inl ⟨by simp only; omega, by simp only; omega⟩) _).setCell (p := ⟨w.heap.size, 1, none⟩) (.inl ⟨by simp only; omega, by simp only; omega⟩) _).setCell (p := ⟨w.heap.size, 2, none⟩) (.inl ⟨by simp only; omega, by simp only; omega⟩) _).setCell (p := ⟨w.heap.size, 3, none⟩) (.inl ⟨by simp only; omega, by simp only; omega⟩) _).setCell (p := ⟨w.heap.size, 4, none⟩) (.inl ⟨by simp only; omega, by simp only; omega⟩) _).setCell (p := ⟨w.heap.size + 1, 0, none⟩) (.inl ⟨by simp only; omega, by simp only; omega⟩) _).setCell (p := ⟨w.heap.size + 1, 1, none⟩) (.inl ⟨by simp only; omega, by simp only; omega⟩) _).setCell (p := ⟨w.heap.size + 1, 2, none⟩) (.inl ⟨by simp only; omega, by simp only; omega⟩) _
  have e0 : wz.heap[w.heap.size]? = some (.cells #[.int .i64 m.c, .int .i64 m.d, .int .i64 m.s, .int .i64 m.a, .int .i64 m.l] 25 (0, 0)) := by rw [hwz]; simp [World.setCell, Array.getElem?_modify, lb0]
  have e1 : wz.heap[w.heap.size + 1]? = some (.cells #[.slice A1 xs.length c1, .slice A2 ys.length c2, .int .i64 st] 52 (0, 0)) := by rw [hwz]; simp [World.setCell, Array.getElem?_modify, lb1]
  (try simp only [Exit.inBlock, Exit.then])
  refine bodyPost_ret (results_two1 rfl _ _ (w.heap.size) 25 #[.int .i64 m.c, .int .i64 m.d, .int .i64 m.s, .int .i64 m.a, .int .i64 m.l] (0, 0) _ (by rfl) e0 Try.underlying25 rfl (by kernel_rfl) (w.heap.size + 1) 52 #[.slice A1 xs.length c1, .slice A2 ys.length c2, .int .i64 st] (0, 0) _ (by rfl) e1 Try.underlying52 rfl (by kernel_rfl)) rfl ?_
  have hdz := (HD3.out.trans HD34.out)
  have kt : KeepF (fun x => w.heap.size ≤ x) w wz := ((KeepF.ofBelow (F := fun x => w.heap.size ≤ x) (HB1.out.mono (Nat.le_refl _))).trans (hdz.keep.mono fun x e => by omega) (fun _ _ e => e)).trans (kz.mono fun x e => e.1) (fun _ _ e => e)
  exact ⟨m, A1, c1, xs, A2, c2, ys, st, Z, qz, zs, rfl, HC1.out, ((HXY.out.1.dr (by omega) HD34.out).keepF kz (fun x e => by omega)).mono (by omega), ((HXY.out.2.dr (by omega) HD34.out).keepF kz (fun x e => by omega)).mono (by omega), HZ.out.1, (HZ.out.2.keepF kz (fun x e => by omega)).mono (by omega), kt.toBelow (Nat.le_refl _) (fun x hx e => by omega)⟩

set_option maxRecDepth 100000 in
set_option maxHeartbeats 8000000 in
theorem drawChangeLock_any (A : Option Addr) (c : Nat) (bs : List Int) (w : World) (h : RCode w A bs) : Calls Try.prog 32 #[.slice A bs.length c] w (Dr13k w) := by
  obtain ⟨w0, hw0⟩ : ∃ w0, w0 = (w.alloc (.cells #[.int .i64 0, .int .i64 0, .int .i64 0, .int .i64 0, .int .i64 0] 25)).alloc (.cells #[.slice none 0 0, .slice none 0 0, .int .i64 0] 52) := ⟨_, rfl⟩
  have hz0 : w0.heap.size = w.heap.size + 2 := by rw [hw0]; simp
  have B0 : Below w.heap.size w w0 := by rw [hw0]; exact ((Below.refl _ _).alloc (Nat.le_refl _) _).alloc (by simp only [World.size_alloc]; omega) _
  have HR0 := Lib.hid (show w0.heap[w.heap.size]? = some (.cells #[.int .i64 0, .int .i64 0, .int .i64 0, .int .i64 0, .int .i64 0] 25 (0, 0)) by
    have h1 := heap_alloc_new w (.cells #[.int .i64 0, .int .i64 0, .int .i64 0, .int .i64 0, .int .i64 0] 25)
    have h2 := ((Below.refl (w.heap.size + 1) (w.alloc (.cells #[.int .i64 0, .int .i64 0, .int .i64 0, .int .i64 0, .int .i64 0] 25))).alloc (by simp) (.cells #[.slice none 0 0, .slice none 0 0, .int .i64 0] 52)).block (w.heap.size) (by omega)
    rw [hw0]; exact h2.trans (by simpa using h1))
  have HR1 := Lib.hid (show w0.heap[w.heap.size + 1]? = some (.cells #[.slice none 0 0, .slice none 0 0, .int .i64 0] 52 (0, 0)) by
    have h1 := heap_alloc_new (w.alloc (.cells #[.int .i64 0, .int .i64 0, .int .i64 0, .int .i64 0, .int .i64 0] 25)) (.cells #[.slice none 0 0, .slice none 0 0, .int .i64 0] 52)
    rw [hw0]; simpa using h1)
  have HF := Lib.hid (drawIsChangeKey_any A c bs w0 (h.below B0))
  have HB0 := Lib.hid B0
  clear h B0
  go_enter Try.func32, Try.ntmps32
  go_wp2_with fail
  rw [← hw0]
  clear hw0
  refine HF.out.mono ?_
  rintro e w2 ⟨m, A1, c1, xs, A2, c2, ys, st, Z, qz, zs, rfl, hc1, hx, hy, hqz, hrz, hb2⟩
  have HA := Lib.hid (And.intro hc1 (And.intro hx (And.intro hy (And.intro hqz (And.intro hrz hb2)))))
  have hs2 := hb2.size
  have lb0 := (hb2.block (w.heap.size) (by omega)).trans HR0.out
  have lb1 := (hb2.block (w.heap.size + 1) (by omega)).trans HR1.out
  have n0_0 := boxC_of_heap lb0 0 _ rfl
  have n0_1 := boxC_of_heap lb0 1 _ rfl
  have n0_2 := boxC_of_heap lb0 2 _ rfl
  have n0_3 := boxC_of_heap lb0 3 _ rfl
  have n0_4 := boxC_of_heap lb0 4 _ rfl
  have fr0 := frozen_of_heap lb0
  have f0_0 := fr0 0
  have f0_1 := fr0 1
  have f0_2 := fr0 2
  have f0_3 := fr0 3
  have f0_4 := fr0 4
  have HLB0 := Lib.hid lb0
  have n1_0 := boxC_of_heap lb1 0 _ rfl
  have n1_1 := boxC_of_heap lb1 1 _ rfl
  have n1_2 := boxC_of_heap lb1 2 _ rfl
  have fr1 := frozen_of_heap lb1
  have f1_0 := fr1 0
  have f1_1 := fr1 1
  have f1_2 := fr1 2
  have HLB1 := Lib.hid lb1
  clear lb0 lb1 fr0 fr1 hc1 hx hy hqz hrz hb2 HF
  go_wp2_with fail
  have lb0 := HLB0.out
  have lb1 := HLB1.out
  obtain ⟨wz, hwz⟩ : ∃ wz, wz = (((((((w2.setCell ⟨w.heap.size, 0, none⟩ (.int .i64 m.c)).setCell ⟨w.heap.size, 1, none⟩ (.int .i64 m.d)).setCell ⟨w.heap.size, 2, none⟩ (.int .i64 m.s)).setCell ⟨w.heap.size, 3, none⟩ (.int .i64 m.a)).setCell ⟨w.heap.size, 4, none⟩ (.int .i64 m.l)).setCell ⟨w.heap.size + 1, 0, none⟩ (.slice A1 xs.length c1)).setCell ⟨w.heap.size + 1, 1, none⟩ (.slice A2 ys.length c2)).setCell ⟨w.heap.size + 1, 2, none⟩ (.int .i64 st) := ⟨_, rfl⟩
  rw [← hwz]
  have kz : KeepF (fun x => w.heap.size ≤ x ∧ x < w.heap.size + 2) w2 wz := by rw [hwz]; exact ((((((((KeepF.refl (fun x => w.heap.size ≤ x ∧ x < w.heap.size + 2) w2).setCell (p := ⟨w.heap.size, 0, none⟩) (.inl ⟨by simp only; omega, by simp only; omega⟩) _).setCell (p := ⟨w.heap.size, 1, none⟩) (.inl ⟨by simp only; omega, by simp only; omega⟩) _).setCell (p := ⟨w.heap.size, 2, none⟩) (.inl ⟨by simp only; omega, by simp only; omega⟩) _).setCell (p := ⟨w.heap.size, 3, none⟩) (.inl ⟨by simp only; omega, by simp only; omega⟩) _).setCell (p := ⟨w.heap.size, 4, none⟩) (.inl ⟨by simp only; omega, by simp only; omega⟩) _).setCell (p := ⟨w.heap.size + 1, 0, none⟩) (.inl ⟨by simp only; omega, by simp only; omega⟩) _).setCell (p := ⟨w.heap.size + 1, 1, none⟩) (.inl ⟨by simp only; omega, by simp only; omega⟩) _).setCell (p := ⟨w.heap.size + 1, 2, none⟩) (.inl ⟨by simp only; omega, by simp only; omega⟩) _
  have e0 : wz.heap[w.heap.size]? = some (.cells #[.int .i64 m.c, .int .i64 m.d, .int .i64 m.s, .int .i64 m.a, .int .i64 m.l] 25 (0, 0)) := by rw [hwz]; simp [World.setCell, Array.getElem?_modify, lb0]
  have e1 : wz.heap[w.heap.size + 1]? = some (.cells #[.slice A1 xs.length c1, .slice A2 ys.length c2, .int .i64 st] 52 (0, 0)) := by rw [hwz]; simp [World.setCell, Array.getElem?_modify, lb1]
  refine bodyPost_ret (results_two1 rfl _ _ (w.heap.size) 25 #[.int .i64 m.c, .int .i64 m.d, .int .i64 m.s, .int .i64 m.a, .int .i64 m.l] (0, 0) _ (by rfl) e0 Try.underlying25 rfl (by kernel_rfl) (w.heap.size + 1) 52 #[.slice A1 xs.length c1, .slice A2 ys.length c2, .int .i64 st] (0, 0) _ (by rfl) e1 Try.underlying52 rfl (by kernel_rfl)) rfl ?_
  have hr : ∀ (Y : Option Addr) (us : List Int), RIn w0.heap.size w2 Y us → RIn w.heap.size wz Y us := fun Y us hu => (hu.keepF kz (fun x e => by omega)).mono (by omega)
  obtain ⟨hc1, hx, hy, hqz, hrz, hb2⟩ := HA.out
  have kt : KeepF (fun x => w.heap.size ≤ x) w wz := ((KeepF.ofBelow (F := fun x => w.heap.size ≤ x) HB0.out).trans (KeepF.ofBelow hb2) (fun _ _ e => e)).trans (kz.mono fun x e => e.1) (fun _ _ e => e)
  exact ⟨m, A1, c1, xs, A2, c2, ys, st, Z, qz, zs, rfl, hc1, hr _ _ hx, hr _ _ hy, hqz, hr _ _ hrz, kt.toBelow (Nat.le_refl _) (fun x hx e => by omega)⟩

set_option maxRecDepth 100000 in
set_option maxHeartbeats 8000000 in
theorem drawMixedKeys_any (A : Option Addr) (c : Nat) (bs : List Int) (w : World) (h : RCode w A bs) : Calls Try.prog 42 #[.slice A bs.length c] w (Dr13k w) := by
  obtain ⟨w0, hw0⟩ : ∃ w0, w0 = (w.alloc (.cells #[.int .i64 0, .int .i64 0, .int .i64 0, .int .i64 0, .int .i64 0] 25)).alloc (.cells #[.slice none 0 0, .slice none 0 0, .int .i64 0] 52) := ⟨_, rfl⟩
  have hz0 : w0.heap.size = w.heap.size + 2 := by rw [hw0]; simp
  have B0 : Below w.heap.size w w0 := by rw [hw0]; exact ((Below.refl _ _).alloc (Nat.le_refl _) _).alloc (by simp only [World.size_alloc]; omega) _
  have HR0 := Lib.hid (show w0.heap[w.heap.size]? = some (.cells #[.int .i64 0, .int .i64 0, .int .i64 0, .int .i64 0, .int .i64 0] 25 (0, 0)) by
    have h1 := heap_alloc_new w (.cells #[.int .i64 0, .int .i64 0, .int .i64 0, .int .i64 0, .int .i64 0] 25)
    have h2 := ((Below.refl (w.heap.size + 1) (w.alloc (.cells #[.int .i64 0, .int .i64 0, .int .i64 0, .int .i64 0, .int .i64 0] 25))).alloc (by simp) (.cells #[.slice none 0 0, .slice none 0 0, .int .i64 0] 52)).block (w.heap.size) (by omega)
    rw [hw0]; exact h2.trans (by simpa using h1))
  have HR1 := Lib.hid (show w0.heap[w.heap.size + 1]? = some (.cells #[.slice none 0 0, .slice none 0 0, .int .i64 0] 52 (0, 0)) by
    have h1 := heap_alloc_new (w.alloc (.cells #[.int .i64 0, .int .i64 0, .int .i64 0, .int .i64 0, .int .i64 0] 25)) (.cells #[.slice none 0 0, .slice none 0 0, .int .i64 0] 52)
    rw [hw0]; simpa using h1)
  have HF := Lib.hid (drawIsChangeKey_any A c bs w0 (h.below B0))
  have HB0 := Lib.hid B0
  clear h B0
  go_enter Try.func42, Try.ntmps42
  go_wp2_with fail
  rw [← hw0]
  clear hw0
  refine HF.out.mono ?_
  rintro e w2 ⟨m, A1, c1, xs, A2, c2, ys, st, Z, qz, zs, rfl, hc1, hx, hy, hqz, hrz, hb2⟩
  have HA := Lib.hid (And.intro hc1 (And.intro hx (And.intro hy (And.intro hqz (And.intro hrz hb2)))))
  have hs2 := hb2.size
  have lb0 := (hb2.block (w.heap.size) (by omega)).trans HR0.out
  have lb1 := (hb2.block (w.heap.size + 1) (by omega)).trans HR1.out
  have n0_0 := boxC_of_heap lb0 0 _ rfl
  have n0_1 := boxC_of_heap lb0 1 _ rfl
  have n0_2 := boxC_of_heap lb0 2 _ rfl
  have n0_3 := boxC_of_heap lb0 3 _ rfl
  have n0_4 := boxC_of_heap lb0 4 _ rfl
  have fr0 := frozen_of_heap lb0
  have f0_0 := fr0 0
  have f0_1 := fr0 1
  have f0_2 := fr0 2
  have f0_3 := fr0 3
  have f0_4 := fr0 4
  have HLB0 := Lib.hid lb0
  have n1_0 := boxC_of_heap lb1 0 _ rfl
  have n1_1 := boxC_of_heap lb1 1 _ rfl
  have n1_2 := boxC_of_heap lb1 2 _ rfl
  have fr1 := frozen_of_heap lb1
  have f1_0 := fr1 0
  have f1_1 := fr1 1
  have f1_2 := fr1 2
  have HLB1 := Lib.hid lb1
  clear lb0 lb1 fr0 fr1 hc1 hx hy hqz hrz hb2 HF
  go_wp2_with fail
  have lb0 := HLB0.out
  have lb1 := HLB1.out
  obtain ⟨wz, hwz⟩ : ∃ wz, wz = (((((((w2.setCell ⟨w.heap.size, 0, none⟩ (.int .i64 m.c)).setCell ⟨w.heap.size, 1, none⟩ (.int .i64 m.d)).setCell ⟨w.heap.size, 2, none⟩ (.int .i64 m.s)).setCell ⟨w.heap.size, 3, none⟩ (.int .i64 m.a)).setCell ⟨w.heap.size, 4, none⟩ (.int .i64 m.l)).setCell ⟨w.heap.size + 1, 0, none⟩ (.slice A1 xs.length c1)).setCell ⟨w.heap.size + 1, 1, none⟩ (.slice A2 ys.length c2)).setCell ⟨w.heap.size + 1, 2, none⟩ (.int .i64 st) := ⟨_, rfl⟩
  rw [← hwz]
  have kz : KeepF (fun x => w.heap.size ≤ x ∧ x < w.heap.size + 2) w2 wz := by rw [hwz]; exact ((((((((KeepF.refl (fun x => w.heap.size ≤ x ∧ x < w.heap.size + 2) w2).setCell (p := ⟨w.heap.size, 0, none⟩) (.inl ⟨by simp only; omega, by simp only; omega⟩) _).setCell (p := ⟨w.heap.size, 1, none⟩) (.inl ⟨by simp only; omega, by simp only; omega⟩) _).setCell (p := ⟨w.heap.size, 2, none⟩) (.inl ⟨by simp only; omega, by simp only; omega⟩) _).setCell (p := ⟨w.heap.size, 3, none⟩) (.inl ⟨by simp only; omega, by simp only; omega⟩) _).setCell (p := ⟨w.heap.size, 4, none⟩) (.inl ⟨by simp only; omega, by simp only; omega⟩) _).setCell (p := ⟨w.heap.size + 1, 0, none⟩) (.inl ⟨by simp only; omega, by simp only; omega⟩) _).setCell (p := ⟨w.heap.size + 1, 1, none⟩) (.inl ⟨by simp only; omega, by simp only; omega⟩) _).setCell (p := ⟨w.heap.size + 1, 2, none⟩) (.inl ⟨by simp only; omega, by simp only; omega⟩) _
  have e0 : wz.heap[w.heap.size]? = some (.cells #[.int .i64 m.c, .int .i64 m.d, .int .i64 m.s, .int .i64 m.a, .int .i64 m.l] 25 (0, 0)) := by rw [hwz]; simp [World.setCell, Array.getElem?_modify, lb0]
  have e1 : wz.heap[w.heap.size + 1]? = some (.cells #[.slice A1 xs.length c1, .slice A2 ys.length c2, .int .i64 st] 52 (0, 0)) := by rw [hwz]; simp [World.setCell, Array.getElem?_modify, lb1]
  refine bodyPost_ret (results_two1 rfl _ _ (w.heap.size) 25 #[.int .i64 m.c, .int .i64 m.d, .int .i64 m.s, .int .i64 m.a, .int .i64 m.l] (0, 0) _ (by rfl) e0 Try.underlying25 rfl (by kernel_rfl) (w.heap.size + 1) 52 #[.slice A1 xs.length c1, .slice A2 ys.length c2, .int .i64 st] (0, 0) _ (by rfl) e1 Try.underlying52 rfl (by kernel_rfl)) rfl ?_
  have hr : ∀ (Y : Option Addr) (us : List Int), RIn w0.heap.size w2 Y us → RIn w.heap.size wz Y us := fun Y us hu => (hu.keepF kz (fun x e => by omega)).mono (by omega)
  obtain ⟨hc1, hx, hy, hqz, hrz, hb2⟩ := HA.out
  have kt : KeepF (fun x => w.heap.size ≤ x) w wz := ((KeepF.ofBelow (F := fun x => w.heap.size ≤ x) HB0.out).trans (KeepF.ofBelow hb2) (fun _ _ e => e)).trans (kz.mono fun x e => e.1) (fun _ _ e => e)
  exact ⟨m, A1, c1, xs, A2, c2, ys, st, Z, qz, zs, rfl, hc1, hr _ _ hx, hr _ _ hy, hqz, hr _ _ hrz, kt.toBelow (Nat.le_refl _) (fun x hx e => by omega)⟩

end Go.Proofs.Ythjfilhcfjpinaa
