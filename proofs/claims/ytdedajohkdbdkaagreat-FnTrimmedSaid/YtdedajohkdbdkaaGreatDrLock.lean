/- Contracts of the draws of locks: l04Valid, l04Draw. -/
import Derived.Test.YtdedajohkdbdkaaGreatDrRes
import Derived.Test.YtdedajohkdbdkaaGreatFHull
import Derived.Deep.CutBlock
import Derived.Deep.CutRange
namespace Go.Proofs.YtdedajohkdbdkaaGreat
set_option linter.unusedVariables false
open Go.RowKit
theorem keys_cuts {m : Mk} {ks : List (List Int)} (h : ∀ x ∈ ks, isKey m x = true) : allCuts m ks := fun k hk => by
  have h3 := fault_zero_iff.1 (show fault m ks[k] = 0 by simpa [isKey] using h _ (List.getElem_mem hk))
  exact ⟨h3.1, h3.2.1⟩
/-- a drawn lock, in memory of its own -/
def ResLk (m : Mk) (S : Nat) (A : Option Addr) (c : Nat) (bs : List Int) (w : World) (e : Ending) (w' : World) : Prop :=
  ∃ D q l, e = .returned (.agg #[.slice D (List.length l) q]) ∧ l.length ≤ q ∧ (l.length : Int) = m.c ∧ OII w' w.heap.size w'.heap.size (.slice D l.length q) l ∧ Dr S A c bs w w'
set_option maxRecDepth 100000 in
set_option maxHeartbeats 4000000 in
theorem l04Valid_any (S : Nat) (A : Option Addr) (c : Nat) (bs : List Int) (m : Mk) (w : World) (h : Src S A c bs w) (hm : isMaker m = true) :
    Calls Tryz.prog 139 #[.pointer (some ⟨S, 0, none⟩), .agg #[.int .i64 m.c, .int .i64 m.d, .int .i64 m.s, .int .i64 m.a, .int .i64 m.l]] w (ResLk m S A c bs w) := by
  obtain ⟨w0, hw0⟩ : ∃ w0, w0 = (w.alloc (.cells #[.int .i64 m.c, .int .i64 m.d, .int .i64 m.s, .int .i64 m.a, .int .i64 m.l] 25)).alloc (.cells #[.slice none 0 0] 28) := ⟨_, rfl⟩
  have HD0 := Lib.hid (show Dr S A c bs w w0 by rw [hw0]; exact ((Dr.refl h).alloc _).alloc _)
  have hz0 : w0.heap.size = w.heap.size + 2 := by rw [hw0]; simp
  have hz0w : w0.heap.size = w.heap.size + 1 + 1 := hz0
  have HBX := Lib.hid (show BoxC w0 w.heap.size 0 (mkCells m) by rw [hw0]; exact (BoxC.new (mkCells m) rfl).below ((Below.refl _ _).alloc (Nat.le_refl _) _))
  have HBK := Lib.hid (show w0.heap[w.heap.size + 1]? = some (.cells #[.slice none 0 0] 28 (0, 0)) by
    have := heap_alloc_new (w.alloc (.cells #[.int .i64 m.c, .int .i64 m.d, .int .i64 m.s, .int .i64 m.a, .int .i64 m.l] 25)) (.cells #[.slice none 0 0] 28)
    rw [hw0]; simpa using this)
  have hSl : S < w.heap.size := h.xl
  have HM := Lib.hid hm
  have HMB := Lib.hid (mk_bounds hm)
  have HN0 := Lib.hid (l01Next_dr (w := w0.alloc (.cells #[] 33)) ((Dr.refl HD0.out.src).alloc _).src 3)
  clear h hm
  go_enter Tryz.func139, Tryz.ntmps139
  go_wp2_with fail
  rw [← hw0]
  clear hw0
  refine HN0.out.mono ?_
  rintro e w1 ⟨y, rfl, y0, y1, hd1, hz1⟩
  have HD1 := Lib.hid (((Dr.refl HD0.out.src).alloc (.cells #[] 33)).trans hd1)
  have HN1 := Lib.hid ((NEST.new0 (w := w0) (B := w0.heap.size) (Nat.le_refl _)).dr (by omega) hd1)
  have yb : y < 3 := by omega
  clear hd1 hz1 y1
  go_wp2_with fail
  go_loopw [5, 6] (fun v i wr => ∃ (k : Int) (us : List Value) (kss : List (List Int)), i = .int .i64 k ∧ 0 ≤ k ∧ k + kss.length ≤ 3 ∧ (∀ x ∈ kss, isKey m x = true) ∧ NEST w0.heap.size wr v us kss ∧ Dr S A c bs w0 wr) (fun _ i _ => (intOf i).toNat)
  case atStart => exact ⟨1 + y, [], [], rfl, by omega, by simp; omega, by simp, by rw [← hz0w]; exact HN1.out, HD1.out⟩
  case round =>
    obtain ⟨k, us, kss, rfl, hk0, hk3, hks, hN, hD⟩ := hrel
    have HKS := Lib.hid hks; have HN := Lib.hid hN; have HD := Lib.hid hD
    have hsz := hD.size
    have hul : us.length ≤ 3 := by have := hN.len; omega
    obtain ⟨x0, x1, x2, x3, x4, _⟩ := HBX.out.dr (by omega) (by omega) hD
    simp only [Nat.zero_add] at x1 x2 x3 x4
    clear hks hN hD
    by_cases hlt : k > 0
    · have hlt' : 0 < k := hlt
      have HE := Lib.hid (l02Some_any S A c bs m wr HD.out.src HM.out)
      go_wp2_with fail
      clear x0 x1 x2 x3 x4
      refine HE.out.mono ?_
      rintro e w4 ⟨K4, q4, ys, rfl, hq4, hk4, hr4, hd4⟩
      have HN4 := Lib.hid (HN.out.dr (show S < w0.heap.size by omega) hd4)
      have HD4 := Lib.hid (HD.out.trans hd4)
      have HNF := Lib.hid (show NF (fun g => g < w0.heap.size ∨ u5.ownBlock = some g) K4 ys.length from hr4.2.mono fun g hg => by
        rcases hg with hg | hg
        · omega
        · exact (HN.out.own.lt g hg).2)
      have HR4 := Lib.hid hr4.1; have HQ4 := Lib.hid hq4
      have HKS4 := Lib.hid (show ∀ x ∈ kss ++ [ys], isKey m x = true from fun x hx => by
        rcases List.mem_append.1 hx with h | h
        · exact HKS.out x h
        · rw [List.mem_singleton] at h; rw [h]; exact hk4)
      have hs4 := HD4.out.size
      clear hq4 hk4 hr4 hd4
      go_wp2_with (at_builtin; refine wpList_app1 _ rfl _ _ _ rfl w0.heap.size 33 _ 24 Tryz.underlying26 info_sl rfl (by omega) _ us rfl (HN4.out.own.alloc _) _ _ rfl (one_cell _ _ _) rfl (by omega) (by simp; omega) ?_; intro v' w5 ho5 hg5 hn5 hat5)
      have HN5 := Lib.hid (HN4.out.push HQ4.out HR4.out HNF.out ho5 hg5 hat5)
      have HD5 := Lib.hid (HD4.out.app HN4.out.own (Nat.le_refl _) hg5)
      clear ho5 hg5 hn5 hat5
      go_roundw
      case rel => exact ⟨k - 1, _, kss ++ [ys], by go_num, by omega, by simp; omega, HKS4.out, HN5.out, HD5.out⟩
      case measure => simp [intOf]; omega
    · have hz : k = 0 := by omega
      subst hz
      obtain ⟨K, q, rfl, hq, hr⟩ := HN.out.riib
      have hmb := HMB.out
      obtain ⟨l, hl⟩ : ∃ l, l = hullF m.c.toNat m.d.toNat kss := ⟨_, rfl⟩
      have HLL := Lib.hid (show (l.length : Int) = m.c by rw [hl, hullF_length]; omega)
      have HH := Lib.hid (show Calls Tryz.prog 49 _ wr (ResL wr l) by rw [hl]; exact l04Hull_any m K q kss wr hr.rii HM.out (keys_cuts HKS.out) (by omega))
      have HBW := Lib.hid ((HD.out.keep.block (w.heap.size + 1) (by omega) (by omega)).trans HBK.out)
      clear hq hr hmb hl hlt
      go_wp2_with fail
      clear x0 x1 x2 x3 x4
      refine HH.out.mono ?_
      rintro e w6 ⟨D, q6, rfl, hq6, hr6, ho6, hb6⟩
      have HD6 := Lib.hid (HD0.out.trans (HD.out.below hb6))
      have HO6 := Lib.hid ho6
      have hs6 := hb6.size
      have lb := (hb6.block (w.heap.size + 1) (by omega)).trans HBW.out
      have l0 := boxC_of_heap lb 0 _ rfl
      have l1 := frozen_of_heap lb 0
      have HLB := Lib.hid lb
      clear lb hr6 ho6 hb6
      go_wp2_with fail
      have lb := HLB.out
      refine bodyPost_ret (results_cell_row rfl _ _ (w.heap.size + 1) 28 #[.slice D l.length q6] (0, 0) _ (by rfl) (by simp [World.setCell, Array.getElem?_modify, lb]) Tryz.underlying28 rfl (by kernel_rfl)) rfl ?_
      exact ⟨D, q6, l, rfl, hq6, HLL.out, (HO6.out.setLow (p := ⟨w.heap.size + 1, 0, none⟩) (u := .slice D l.length q6) (by simp only; omega)).wide (by omega) (by simp), HD6.out.set ⟨w.heap.size + 1, 0, none⟩ (by simp only; omega) _⟩
/-- a drawn maker and lock -/
def ResML (S : Nat) (A : Option Addr) (c : Nat) (bs : List Int) (w : World) (e : Ending) (w' : World) : Prop :=
  ∃ (m : Mk) (D : Option Addr) (q : Nat) (l : List (List Int)), e = .returned (.tuple #[.agg #[.int .i64 m.c, .int .i64 m.d, .int .i64 m.s, .int .i64 m.a, .int .i64 m.l], .agg #[.slice D l.length q]]) ∧ MkD m ∧ l.length ≤ q ∧ l.length ≤ 7 ∧ RIIb w.heap.size w' D l ∧ Dr S A c bs w w'
theorem keep_six (w : World) (g : Nat) (a b c d e f : Value) : KeepF (fun x => x = g ∨ x = g + 1) w ((((((w.setCell ⟨g, 0, none⟩ a).setCell ⟨g, 1, none⟩ b).setCell ⟨g, 2, none⟩ c).setCell ⟨g, 3, none⟩ d).setCell ⟨g, 4, none⟩ e).setCell ⟨g + 1, 0, none⟩ f) :=
  ((keep_five w g a b c d e).mono fun x hx => .inl hx).setCell (p := ⟨g + 1, 0, none⟩) (.inl (.inr rfl)) f
/-- where the switch of l04Draw ends -/
def L04R (S : Nat) (A : Option Addr) (c : Nat) (bs : List Int) (w0 : World) (M L : Nat) (m : Mk) (wx : World) : Prop :=
  ∃ (D : Option Addr) (q : Nat) (l : List (List Int)), l.length ≤ q ∧ l.length ≤ 7 ∧ BoxC wx M 0 (mkCells m) ∧ BoxC wx L 0 [.slice D l.length q] ∧ RIIb w0.heap.size wx D l ∧ Dr S A c bs w0 wx
set_option maxRecDepth 100000 in
set_option maxHeartbeats 8000000 in
theorem l04Draw_any (S : Nat) (A : Option Addr) (c : Nat) (bs : List Int) (w : World) (h : Src S A c bs w) :
    Calls Tryz.prog 94 #[.pointer (some ⟨S, 0, none⟩)] w (ResML S A c bs w) := by
  obtain ⟨w0, hw0⟩ : ∃ w0, w0 = (w.alloc (.cells #[.int .i64 0, .int .i64 0, .int .i64 0, .int .i64 0, .int .i64 0] 25)).alloc (.cells #[.slice none 0 0] 28) := ⟨_, rfl⟩
  have HD0 := Lib.hid (show Dr S A c bs w w0 by rw [hw0]; exact ((Dr.refl h).alloc _).alloc _)
  have hz0 : w0.heap.size = w.heap.size + 2 := by rw [hw0]; simp
  have HBK0 := Lib.hid (show w0.heap[w.heap.size]? = some (.cells #[.int .i64 0, .int .i64 0, .int .i64 0, .int .i64 0, .int .i64 0] 25 (0, 0)) by
    have h1 := heap_alloc_new w (.cells #[.int .i64 0, .int .i64 0, .int .i64 0, .int .i64 0, .int .i64 0] 25)
    have h2 := ((Below.refl (w.heap.size + 1) (w.alloc (.cells #[.int .i64 0, .int .i64 0, .int .i64 0, .int .i64 0, .int .i64 0] 25))).alloc (by simp) (.cells #[.slice none 0 0] 28)).block w.heap.size (by omega)
    rw [hw0]; exact h2.trans h1)
  have HBK1 := Lib.hid (show w0.heap[w.heap.size + 1]? = some (.cells #[.slice none 0 0] 28 (0, 0)) by
    have := heap_alloc_new (w.alloc (.cells #[.int .i64 0, .int .i64 0, .int .i64 0, .int .i64 0, .int .i64 0] 25)) (.cells #[.slice none 0 0] 28)
    rw [hw0]; simpa using this)
  have hSl : S < w.heap.size := h.xl
  have HN0 := Lib.hid (l02Draw_any S A c bs w0 HD0.out.src)
  clear h
  go_enter Tryz.func94, Tryz.ntmps94
  go_wp2_with fail
  rw [← hw0]
  clear hw0
  refine HN0.out.mono ?_
  rintro e w1 ⟨m, rfl, hm, hS1, hK1⟩
  have HMD := Lib.hid hm
  obtain ⟨w2, hw2⟩ : ∃ w2, w2 = w1.alloc (.cells #[.int .i64 m.c, .int .i64 m.d, .int .i64 m.s, .int .i64 m.a, .int .i64 m.l] 25) := ⟨_, rfl⟩
  have HD2 := Lib.hid (show Dr S A c bs w0 w2 by rw [hw2]; exact ((Dr.refl HD0.out.src).next hS1 hK1).alloc _)
  have hs1 : w0.heap.size ≤ w1.heap.size := hK1.size
  have hz2 : w2.heap.size = w1.heap.size + 1 := by rw [hw2]; simp
  have HBX := Lib.hid (show BoxC w2 w1.heap.size 0 (mkCells m) by rw [hw2]; exact BoxC.new (mkCells m) rfl)
  have HI := Lib.hid (specIsMaker_any m w2)
  obtain ⟨x0, x1, x2, x3, x4, _⟩ := HBX.out
  simp only [Nat.zero_add] at x1 x2 x3 x4
  clear hm hS1 hK1
  go_wp2_with fail
  rw [← hw2]
  clear hw2 x0 x1 x2 x3 x4
  refine HI.out.mono ?_
  rintro e w3 ⟨rfl, hb3⟩
  have HD3 := Lib.hid (HD2.out.below hb3)
  have HB3 := Lib.hid (HBX.out.below hb3)
  have hs3 := hb3.size
  obtain ⟨x0, x1, x2, x3, x4, _⟩ := HB3.out
  simp only [Nat.zero_add] at x1 x2 x3 x4
  clear hb3
  cases hmk : isMaker m with
  | false =>
    have hk0 := HD3.out.keep.block w.heap.size (by omega) (by omega)
    have hk0x := HD3.out.keep.block (w.heap.size + 1) (by omega) (by omega)
    have lb0 := hk0.trans HBK0.out
    have lb1 := hk0x.trans HBK1.out
    have n0 := boxC_of_heap lb0 0 _ rfl
    have n1 := boxC_of_heap lb0 1 _ rfl
    have n2 := boxC_of_heap lb0 2 _ rfl
    have n3 := boxC_of_heap lb0 3 _ rfl
    have n4 := boxC_of_heap lb0 4 _ rfl
    have n5 := boxC_of_heap lb1 0 _ rfl
    have m0 := frozen_of_heap lb0
    have l0 := m0 0; have l1 := m0 1; have l2 := m0 2; have l3 := m0 3; have l4 := m0 4
    have l5 := frozen_of_heap lb1 0
    have HL0 := Lib.hid lb0; have HL1 := Lib.hid lb1
    clear lb0 lb1 m0 hk0 hk0x
    have hwl : w.heap.size + 1 < w3.heap.size := by omega
    have hwl1 : w.heap.size + 1 < w3.heap.size + 1 := by omega
    have hwl2 : w.heap.size + 1 < w3.heap.size + 1 + 1 := by omega
    have hwk : w.heap.size < w3.heap.size := by omega
    have hwk1 : w.heap.size < w3.heap.size + 1 := by omega
    have hwk2 : w.heap.size < w3.heap.size + 1 + 1 := by omega
    go_wp2_with fail
    have lb0 := HL0.out; have lb1 := HL1.out
    obtain ⟨ws, hws⟩ : ∃ ws, ws = (((((w3.setCell ⟨w.heap.size, 0, none⟩ (.int .i64 m.c)).setCell ⟨w.heap.size, 1, none⟩ (.int .i64 m.d)).setCell ⟨w.heap.size, 2, none⟩ (.int .i64 m.s)).setCell ⟨w.heap.size, 3, none⟩ (.int .i64 m.a)).setCell ⟨w.heap.size, 4, none⟩ (.int .i64 m.l)).setCell ⟨w.heap.size + 1, 0, none⟩ (.slice (some ⟨w3.heap.size + 1 + 1, 0, none⟩) 2 2) := ⟨_, rfl⟩
    rw [← hws]
    have hzs : ws.heap.size = w3.heap.size := by rw [hws]; simp
    have kf : KeepF (fun x => x = w.heap.size ∨ x = w.heap.size + 1) w3 ws := by rw [hws]; exact keep_six w3 w.heap.size _ _ _ _ _ _
    have e0 : ws.heap[w.heap.size]? = some (.cells #[.int .i64 m.c, .int .i64 m.d, .int .i64 m.s, .int .i64 m.a, .int .i64 m.l] 25 (0, 0)) := by rw [hws]; simp [World.setCell, Array.getElem?_modify, lb0]
    have e1 : ws.heap[w.heap.size + 1]? = some (.cells #[.slice (some ⟨w3.heap.size + 1 + 1, 0, none⟩) 2 2] 28 (0, 0)) := by rw [hws]; simp [World.setCell, Array.getElem?_modify, lb1]
    obtain ⟨w5, hw5⟩ : ∃ w5, w5 = ((ws.alloc (.cells #[.int .i64 0] 2)).alloc (.cells #[.int .i64 0] 2)).alloc (.cells #[.slice (some ⟨w3.heap.size, 0, none⟩) 1 1, .slice (some ⟨w3.heap.size + 1, 0, none⟩) 1 1] 33) := ⟨_, rfl⟩
    rw [← hw5]
    have hb5 : Below ws.heap.size ws w5 := by rw [hw5]; exact (((Below.refl _ _).alloc (Nat.le_refl _) _).alloc (by simp only [World.size_alloc]; omega) _).alloc (by simp only [World.size_alloc]; omega) _
    have HR5 : RIIb w0.heap.size w5 (some ⟨w3.heap.size + 2, 0, none⟩) [[0], [0]] := by
      have := two_ones w0.heap.size ws 0 0 (by omega)
      rw [hzs] at this
      rw [hw5]; exact this
    (try simp only [Exit.inBlock, Exit.then])
    refine bodyPost_ret (results_two rfl _ _ w.heap.size 25 #[.int .i64 m.c, .int .i64 m.d, .int .i64 m.s, .int .i64 m.a, .int .i64 m.l] (0, 0) _ (by rfl) ((hb5.block w.heap.size (by omega)).trans e0) Tryz.underlying25 rfl (by kernel_rfl) (w.heap.size + 1) 28 #[.slice (some ⟨w3.heap.size + 1 + 1, 0, none⟩) 2 2] (0, 0) _ (by rfl) ((hb5.block (w.heap.size + 1) (by omega)).trans e1) Tryz.underlying28 rfl (by kernel_rfl)) rfl ?_
    exact ⟨m, some ⟨w3.heap.size + 2, 0, none⟩, 2, [[0], [0]], rfl, HMD.out, by simp, by simp, HR5.mono (fun g e => by omega), ((HD0.out.trans HD3.out).keepF kf (fun g e => by omega)).below hb5⟩
  | true =>
    have HV := Lib.hid (l04Valid_any S A c bs m w3 HD3.out.src hmk)
    have hmb := mk_bounds hmk
    have hmc := hmb.1; have hmc6 := hmb.2.1
    have HMB := Lib.hid hmb
    clear hmb
    go_wp2_with fail
    clear x0 x1 x2 x3 x4
    refine HV.out.mono ?_
    rintro e w4 ⟨D, q, l, rfl, hq, hlm, ho, hd4⟩
    obtain ⟨us, hN⟩ := ho.nest
    have hl2 : 2 ≤ l.length := by omega
    have hl6 : l.length ≤ 6 := by omega
    obtain ⟨g, q', hv, hq', hg1, hg2, _, _⟩ := hN.open_ (by omega)
    injection hv with e1 e2 e3
    subst e1 e3
    obtain ⟨w5, hw5⟩ : ∃ w5, w5 = w4.alloc (.cells #[.slice (some ⟨g, 0, none⟩) l.length q] 28) := ⟨_, rfl⟩
    have hb5 : Below w4.heap.size w4 w5 := by rw [hw5]; exact (Below.refl _ _).alloc (Nat.le_refl _) _
    have hs4 := hd4.size
    have HL5 := Lib.hid (show BoxC w5 w4.heap.size 0 [.slice (some ⟨g, 0, none⟩) l.length q] by rw [hw5]; exact BoxC.new [.slice (some ⟨g, 0, none⟩) l.length q] rfl)
    have HD5 := Lib.hid ((HD3.out.trans hd4).below hb5)
    have HN5 := Lib.hid (hN.below hb5)
    have HB5 := Lib.hid ((HB3.out.dr (by omega) (by omega) hd4).below hb5)
    have hz5 : w5.heap.size = w4.heap.size + 1 := by rw [hw5]; simp
    have HX := Lib.hid (l01Next_dr HD5.out.src 24)
    clear hN hd4 ho hb5 e2 hq'
    go_wp2_with fail
    rw [← hw5]
    clear hw5
    refine HX.out.mono ?_
    rintro e w6 ⟨r, rfl, r0, r1, hd6, hz6⟩
    have HD6 := Lib.hid (HD5.out.trans hd6)
    have HN6 := Lib.hid (HN5.out.dr (show S < w3.heap.size by omega) hd6)
    have HB6 := Lib.hid (HB5.out.dr (show w1.heap.size < w5.heap.size by omega) (by omega) hd6)
    have HL6 := Lib.hid (HL5.out.dr (show w4.heap.size < w5.heap.size by omega) (by omega) hd6)
    have hg6 : g < w6.heap.size := by omega
    have hs45 : w4.heap.size < w5.heap.size := by omega
    have hs56 : w5.heap.size ≤ w6.heap.size := by omega
    clear hd6 r1 hz5 hz6
    by_cases q3 : r = 3
    · subst q3
      obtain ⟨K, qk, eK, hqk, hRR⟩ := HN6.out.riib
      injection eK with eK1 _ eK3
      subst eK1 eK3
      have HR6 := Lib.hid (hRR.rest)
      have hld : (l.drop 1).length = l.length - 1 := by simp
      obtain ⟨lr, hlr⟩ : ∃ lr, lr = l.drop 1 := ⟨_, rfl⟩
      rw [← hlr] at HR6 hld
      obtain ⟨x0, x1, x2, x3, x4, _⟩ := HB6.out
      obtain ⟨y0, _⟩ := HL6.out
      simp only [Nat.zero_add] at x1 x2 x3 x4
      clear hRR hlr
      have i1 : (1 : Int) ≤ (l.length : Int) := by omega
      have i2 : (1 : Int) ≤ m.c := by omega
      have i3 : (q = 1) = False := by simp; omega
      have hk0 := HD6.out.keep.block w.heap.size (by omega) (by omega)
      have hk0x := HD6.out.keep.block (w.heap.size + 1) (by omega) (by omega)
      have lb0 := hk0.trans HBK0.out
      have lb1 := hk0x.trans HBK1.out
      have n0 := boxC_of_heap lb0 0 _ rfl
      have n1 := boxC_of_heap lb0 1 _ rfl
      have n2 := boxC_of_heap lb0 2 _ rfl
      have n3 := boxC_of_heap lb0 3 _ rfl
      have n4 := boxC_of_heap lb0 4 _ rfl
      have n5 := boxC_of_heap lb1 0 _ rfl
      have m0 := frozen_of_heap lb0
      have l0 := m0 0; have l1 := m0 1; have l2 := m0 2; have l3 := m0 3; have l4 := m0 4
      have l5 := frozen_of_heap lb1 0
      have HL0 := Lib.hid lb0; have HL1 := Lib.hid lb1
      clear lb0 lb1 m0 hk0 hk0x
      have KS := Lib.hid (show ∀ w' : World, KeepF (fun x => x = w.heap.size ∨ x = w.heap.size + 1) w6 w' → (w'.cell? ⟨w1.heap.size, 0, none⟩ = some (.int .i64 m.c) ∧ w'.cell? ⟨w1.heap.size, 1, none⟩ = some (.int .i64 m.d) ∧ w'.cell? ⟨w1.heap.size, 2, none⟩ = some (.int .i64 m.s) ∧ w'.cell? ⟨w1.heap.size, 3, none⟩ = some (.int .i64 m.a) ∧ w'.cell? ⟨w1.heap.size, 4, none⟩ = some (.int .i64 m.l) ∧ w'.cell? ⟨w4.heap.size, 0, none⟩ = some (.slice (some ⟨g, 0, none⟩) l.length q)) from fun w' hw => ⟨(hw.cell (p := ⟨w1.heap.size, 0, none⟩) (by simp only; omega) (by simp only; omega)).trans x0, (hw.cell (p := ⟨w1.heap.size, 1, none⟩) (by simp only; omega) (by simp only; omega)).trans x1, (hw.cell (p := ⟨w1.heap.size, 2, none⟩) (by simp only; omega) (by simp only; omega)).trans x2, (hw.cell (p := ⟨w1.heap.size, 3, none⟩) (by simp only; omega) (by simp only; omega)).trans x3, (hw.cell (p := ⟨w1.heap.size, 4, none⟩) (by simp only; omega) (by simp only; omega)).trans x4, (hw.cell (p := ⟨w4.heap.size, 0, none⟩) (by simp only; omega) (by simp only; omega)).trans y0⟩)
      clear x0 x1 x2 x3 x4 y0
      go_wp2_with fail
      refine wp_region_held_drew (S := (fun w' => w'.cell? ⟨w1.heap.size, 0, none⟩ = some (.int .i64 m.c) ∧ w'.cell? ⟨w1.heap.size, 1, none⟩ = some (.int .i64 m.d) ∧ w'.cell? ⟨w1.heap.size, 2, none⟩ = some (.int .i64 m.s) ∧ w'.cell? ⟨w1.heap.size, 3, none⟩ = some (.int .i64 m.a) ∧ w'.cell? ⟨w1.heap.size, 4, none⟩ = some (.int .i64 m.l) ∧ w'.cell? ⟨w4.heap.size, 0, none⟩ = some (.slice (some ⟨g, 0, none⟩) l.length q))) (by kernel_rfl) (KS.out _ (KeepF.ofBelow (belowDrew0 _))) (fun hHeld => ?_)
      refine takeD (i := 0) (some 45) (.agg #[.int .i64 m.c, .int .i64 m.d, .int .i64 m.s, .int .i64 m.a, .int .i64 m.l]) rfl (by kernel_rfl) (by kernel_rfl) (by kernel_rfl) (by kernel_rfl) (fun _ _ _ h => h) (by assumption) (Or.inl ⟨by rfl, fun w hSw => by (try dsimp only at hSw); go_simp⟩) ?_
      simp only [Act.put, List.setIfInBounds_toArray, List.set_cons_zero, List.set_cons_succ]
      refine takeD (i := 1) (some 46) (.pointer (some ⟨w4.heap.size, 0, none⟩)) rfl (by kernel_rfl) (by kernel_rfl) (by kernel_rfl) (by kernel_rfl) (fun _ _ _ h => h) (by assumption) (Or.inl ⟨by rfl, fun w hSw => by (try dsimp only at hSw); go_simp⟩) ?_
      simp only [Act.put, List.setIfInBounds_toArray, List.set_cons_zero, List.set_cons_succ]
      refine takeD (i := 2) (some 47) (.slice (some ⟨g, 0, none⟩) l.length q) rfl (by kernel_rfl) (by kernel_rfl) (by kernel_rfl) (by kernel_rfl) (fun _ _ _ h => h) (by assumption) (Or.inl ⟨by rfl, fun w hSw => by (try dsimp only at hSw); go_simp⟩) ?_
      simp only [Act.put, List.setIfInBounds_toArray, List.set_cons_zero, List.set_cons_succ]
      refine takeD (i := 3) (some 48) (.slice (some ⟨g, 1, none⟩) lr.length (q - 1)) rfl (by kernel_rfl) (by kernel_rfl) (by kernel_rfl) (by kernel_rfl) (fun _ _ _ h => h) (by assumption) (Or.inl ⟨by rfl, fun w hSw => by (try dsimp only at hSw); go_simp⟩) ?_
      simp only [Act.put, List.setIfInBounds_toArray, List.set_cons_zero, List.set_cons_succ]
      refine takeD (i := 4) (some 49) (.agg #[.slice (some ⟨g, 1, none⟩) lr.length (q - 1)]) rfl (by kernel_rfl) (by kernel_rfl) (by kernel_rfl) (by kernel_rfl) (fun _ _ _ h => h) (by assumption) (Or.inl ⟨by rfl, fun w hSw => by (try dsimp only at hSw); go_simp⟩) ?_
      simp only [Act.put, List.setIfInBounds_toArray, List.set_cons_zero, List.set_cons_succ]
      refine wpAnyH_ready (rs := [5]) (by kernel_rfl) (by simp) (AllReadyH.cons rfl (fun K hK => ?_) AllReadyH.nil)
      go_simp
      have HHeld := KS.out _ (((keep_five w6 w.heap.size (.int .i64 m.c) (.int .i64 m.d) (.int .i64 m.s) (.int .i64 m.a) (.int .i64 m.l)).mono (fun x hx => .inl hx)).trans (KeepF.ofBelow (belowDrew0 _)) (fun _ _ e => e))
      refine hK.out _ _ HHeld (fun _ => ?_)
      clear hK K
      try simp only [Act.put, List.setIfInBounds_toArray, List.set_cons_zero, List.set_cons_succ]
      refine wpAnyH_ready (rs := [6]) (by kernel_rfl) (by simp) (AllReadyH.cons rfl (fun K hK => ?_) AllReadyH.nil)
      go_simp
      have HHeld := KS.out _ ((keep_six w6 w.heap.size (.int .i64 m.c) (.int .i64 m.d) (.int .i64 m.s) (.int .i64 m.a) (.int .i64 m.l) (.slice (some ⟨g, 1, none⟩) (l.length - 1) (q - 1))).trans (KeepF.ofBelow (belowDrew0 _)) (fun _ _ e => e))
      refine hK.out _ _ HHeld (fun _ => ?_)
      clear hK K
      try simp only [Act.put, List.setIfInBounds_toArray, List.set_cons_zero, List.set_cons_succ]
      refine wpAnyH_done (by kernel_rfl) ?_ _
      clear KS
      (try have hld' := hld); (try clear hld)
      go_wp2_with fail
      have lb0 := HL0.out; have lb1 := HL1.out
      obtain ⟨wz, hwz⟩ : ∃ wz, wz = ((((((w6.setCell ⟨w.heap.size, 0, none⟩ (.int .i64 m.c)).setCell ⟨w.heap.size, 1, none⟩ (.int .i64 m.d)).setCell ⟨w.heap.size, 2, none⟩ (.int .i64 m.s)).setCell ⟨w.heap.size, 3, none⟩ (.int .i64 m.a)).setCell ⟨w.heap.size, 4, none⟩ (.int .i64 m.l)).setCell ⟨w.heap.size + 1, 0, none⟩ (.slice (some ⟨g, 1, none⟩) (l.length - 1) (q - 1))).drew := ⟨_, rfl⟩
      rw [← hwz]
      have kz : KeepF (fun x => x = w.heap.size ∨ x = w.heap.size + 1) w6 wz := by rw [hwz]; exact (keep_six w6 w.heap.size _ _ _ _ _ _).trans (KeepF.ofBelow (belowDrew0 _)) (fun _ _ e => e)
      have e0 : wz.heap[w.heap.size]? = some (.cells #[.int .i64 m.c, .int .i64 m.d, .int .i64 m.s, .int .i64 m.a, .int .i64 m.l] 25 (0, 0)) := by rw [hwz]; simp [World.setCell, World.drew, Array.getElem?_modify, lb0]
      have e1 : wz.heap[w.heap.size + 1]? = some (.cells #[.slice (some ⟨g, 1, none⟩) (l.length - 1) (q - 1)] 28 (0, 0)) := by rw [hwz]; simp [World.setCell, World.drew, Array.getElem?_modify, lb1]
      (try simp only [Exit.inBlock, Exit.then])
      refine bodyPost_ret (results_two rfl _ _ w.heap.size 25 #[.int .i64 m.c, .int .i64 m.d, .int .i64 m.s, .int .i64 m.a, .int .i64 m.l] (0, 0) _ (by rfl) e0 Tryz.underlying25 rfl (by kernel_rfl) (w.heap.size + 1) 28 #[.slice (some ⟨g, 1, none⟩) (l.length - 1) (q - 1)] (0, 0) _ (by rfl) e1 Tryz.underlying28 rfl (by kernel_rfl)) rfl ?_
      exact ⟨m, some ⟨g, 1, none⟩, q - 1, lr, by rw [hld'], HMD.out, by omega, by omega, (HR6.out.keepB kz (fun x e => by omega)).mono (fun x e => by omega), (HD0.out.trans HD6.out).keepF kz (fun x e => by omega)⟩
    · have p3 : (r == 3) = false := by simpa using q3
      obtain ⟨g2, c2, ev, _, _, _, hcl, hfr⟩ := HN6.out.open_ (by omega)
      injection ev with ev1 _ ev3
      injection ev1 with ev1
      injection ev1 with ev1 _ _
      subst ev1 ev3
      obtain ⟨A0, c0, _, hrow0, _⟩ := hcl 0 (by omega)
      obtain ⟨A1, c1, _, hrow1, _⟩ := hcl 1 (by omega)
      have f0 := hfr 0
      have f1 := hfr 1
      obtain ⟨n0, hn0⟩ : ∃ n, n = l[0].length := ⟨_, rfl⟩
      obtain ⟨n1, hn1⟩ : ∃ n, n = l[1].length := ⟨_, rfl⟩
      rw [← hn0] at hrow0
      rw [← hn1] at hrow1
      clear hcl hfr hn0 hn1
      have STO := Lib.hid (show ∀ (W : World) (k : Nat) (K : Option Addr) (qk : Nat) (ys : List Int), Dr S A c bs w6 W → k < l.length → ys.length ≤ qk → RI W K ys → NF (fun x => x < w6.heap.size) K ys.length → L04R S A c bs w0 w1.heap.size w4.heap.size m (W.setCell ⟨g, k, none⟩ (.slice K ys.length qk)) from by
        intro W k K qk ys hd hk hqk hr hnf
        have kf : KeepF (fun x => x = g) W (W.setCell ⟨g, k, none⟩ (.slice K ys.length qk)) := (KeepF.refl (fun x => x = g) W).setCell (p := ⟨g, k, none⟩) (.inl rfl) _
        have hsW := hd.size
        have hp := (HN6.out.dr (by omega) hd).put rfl hk hqk hr (hnf.mono fun x hx => by omega)
        obtain ⟨e1, e2, e3⟩ := hp.riib'
        refine ⟨some ⟨g, 0, none⟩, q, l.set k ys, e2, by rw [List.length_set]; omega, (HB6.out.dr (by omega) (by omega) hd).keepF kf (by omega) (by omega), ?_, e3.mono (fun x e => by omega), (HD6.out.trans hd).keepF kf (fun x e => by omega)⟩
        rw [List.length_set]
        exact (HL6.out.dr (by omega) (by omega) hd).keepF kf (by omega) (by omega))
      have RST := Lib.hid (show L04R S A c bs w0 w1.heap.size w4.heap.size m w6 from by
        obtain ⟨e1, e2, e3⟩ := HN6.out.riib'
        exact ⟨some ⟨g, 0, none⟩, q, l, e2, by omega, HB6.out, HL6.out, e3.mono (fun x e => by omega), HD6.out⟩)
      have ilen : (1 : Int) < (l.length : Int) := by omega
      have ilen0 : (0 : Int) < (l.length : Int) := by omega
      have hS6 : S < w6.heap.size := HD6.out.src.xl
      go_upto_block 0 with fail
      go_cut [21] from 22 to 44 (fun _ wx => L04R S A c bs w0 w1.heap.size w4.heap.size m wx)
      case first =>
        obtain ⟨y0, _⟩ := HL6.out
        obtain ⟨_, x1, _⟩ := HB6.out
        simp only [Nat.zero_add] at x1
        by_cases r0 : r = 0
        · subst r0
          have KS := Lib.hid (show ∀ w' : World, KeepF (fun x => x = S ∨ x = g) w6 w' → (w'.cell? ⟨w4.heap.size, 0, none⟩ = some (.slice (some ⟨g, 0, none⟩) l.length q) ∧ w'.cell? ⟨w1.heap.size, 1, none⟩ = some (.int .i64 m.d)) from fun w' hw => ⟨(hw.cell (p := ⟨w4.heap.size, 0, none⟩) (by simp only; omega) (by simp only; omega)).trans y0, (hw.cell (p := ⟨w1.heap.size, 1, none⟩) (by simp only; omega) (by simp only; omega)).trans x1⟩)
          have KC := Lib.hid (And.intro hrow0 f0)
          have im0 : (0 : Int) < m.c := by omega
          clear y0 x1 hrow0 hrow1 f0 f1
          go_wp2_with fail
          refine wp_region_held_drew (S := (fun w' => w'.cell? ⟨w4.heap.size, 0, none⟩ = some (.slice (some ⟨g, 0, none⟩) l.length q) ∧ w'.cell? ⟨w1.heap.size, 1, none⟩ = some (.int .i64 m.d))) (by kernel_rfl) (KS.out _ (KeepF.ofBelow (belowDrew0 _))) (fun hHeld => ?_)
          refine takeD (i := 0) (some 23) (.pointer (some ⟨w4.heap.size, 0, none⟩)) rfl (by kernel_rfl) (by kernel_rfl) (by kernel_rfl) (by kernel_rfl) (fun _ _ _ h => h) (by assumption) (Or.inl ⟨by rfl, fun w hSw => by (try dsimp only at hSw); go_simp⟩) ?_
          simp only [Act.put, List.setIfInBounds_toArray, List.set_cons_zero, List.set_cons_succ]
          refine takeD (i := 1) (some 24) (.slice (some ⟨g, 0, none⟩) l.length q) rfl (by kernel_rfl) (by kernel_rfl) (by kernel_rfl) (by kernel_rfl) (fun _ _ _ h => h) (by assumption) (Or.inl ⟨by rfl, fun w hSw => by (try dsimp only at hSw); go_simp⟩) ?_
          simp only [Act.put, List.setIfInBounds_toArray, List.set_cons_zero, List.set_cons_succ]
          refine takeD (i := 2) (some 25) (.pointer (some ⟨S, 0, none⟩)) rfl (by kernel_rfl) (by kernel_rfl) (by kernel_rfl) (by kernel_rfl) (fun _ _ _ h => h) (by assumption) (Or.inl ⟨by rfl, fun w hSw => by (try dsimp only at hSw); go_simp⟩) ?_
          simp only [Act.put, List.setIfInBounds_toArray, List.set_cons_zero, List.set_cons_succ]
          refine takeD (i := 3) (some 26) (.pointer (some ⟨w1.heap.size, 1, none⟩)) rfl (by kernel_rfl) (by kernel_rfl) (by kernel_rfl) (by kernel_rfl) (fun _ _ _ h => h) (by assumption) (Or.inl ⟨by rfl, fun w hSw => by (try dsimp only at hSw); go_simp⟩) ?_
          simp only [Act.put, List.setIfInBounds_toArray, List.set_cons_zero, List.set_cons_succ]
          refine takeD (i := 4) (some 27) (.int .i64 m.d) rfl (by kernel_rfl) (by kernel_rfl) (by kernel_rfl) (by kernel_rfl) (fun _ _ _ h => h) (by assumption) (Or.inl ⟨by rfl, fun w hSw => by (try dsimp only at hSw); go_simp⟩) ?_
          simp only [Act.put, List.setIfInBounds_toArray, List.set_cons_zero, List.set_cons_succ]
          refine wpAnyH_ready (rs := [5]) (by kernel_rfl) (by simp) (AllReadyH.cons rfl (fun K hK => ?_) AllReadyH.nil)
          go_simp
          have hb7 : Below w6.heap.size w6 (w6.drew.alloc (.cells #[.int .i64 0, .int .i64 (-1), .int .i64 m.d] 2)) := (belowDrew0 w6).alloc (Nat.le_refl _) _
          have HHeld := KS.out _ (KeepF.ofBelow hb7)
          refine hK.out _ _ HHeld (fun _ => ?_)
          clear hK K
          try simp only [Act.put, List.setIfInBounds_toArray, List.set_cons_zero, List.set_cons_succ]
          refine wpAnyH_ready (rs := [6]) (by kernel_rfl) (by simp) (AllReadyH.cons rfl (fun K hK => ?_) AllReadyH.nil)
          go_simp
          refine (show Calls Tryz.prog 77 #[.pointer (some ⟨S, 0, none⟩), .slice (some ⟨w6.drew.heap.size, 0, none⟩) 3 3] (w6.drew.alloc (.cells #[.int .i64 0, .int .i64 (-1), .int .i64 m.d] 2)) _ from l01Pick_new (HD6.out.drew).src [0, -1, m.d] (by simp) (by simp)).mono ?_
          rintro e w7 ⟨x, rfl, hx, hd7, -⟩
          have HD67 := Lib.hid ((Dr.refl HD6.out.src).drew.trans hd7)
          have HHeld := KS.out _ (HD67.out.keep.mono (fun x e => .inl e))
          refine hK.out _ _ HHeld (fun _ => ?_)
          clear hK K
          try simp only [Act.put, List.setIfInBounds_toArray, List.set_cons_zero, List.set_cons_succ]
          refine wpAnyH_ready (rs := [7]) (by kernel_rfl) (by simp) (AllReadyH.cons rfl (fun K hK => ?_) AllReadyH.nil)
          go_simp
          have hb8 : Below w7.heap.size w7 (w7.alloc (.cells #[.int .i64 x] 2)) := (Below.refl _ _).alloc (Nat.le_refl _) _
          have HD68 := Lib.hid (HD67.out.below hb8)
          have HHeld := KS.out _ (HD68.out.keep.mono (fun x e => .inl e))
          refine hK.out _ _ HHeld (fun _ => ?_)
          clear hK K
          try simp only [Act.put, List.setIfInBounds_toArray, List.set_cons_zero, List.set_cons_succ]
          refine takeD (i := 8) (some 31) (.pointer (some ⟨g, 0, none⟩)) rfl (by kernel_rfl) (by kernel_rfl) (by kernel_rfl) (by kernel_rfl) (fun _ _ _ h => h) (by assumption) (Or.inl ⟨by rfl, fun w hSw => by (try dsimp only at hSw); go_simp⟩) ?_
          simp only [Act.put, List.setIfInBounds_toArray, List.set_cons_zero, List.set_cons_succ]
          have g0 := (HD68.out.keep.cell (p := ⟨g, 0, none⟩) hg6 (by simp only; omega)).trans KC.out.1
          have g1 := (HD68.out.keep.frozen (p := ⟨g, 0, none⟩) hg6 (by simp only; omega)).trans KC.out.2
          have hg7 : g < w7.heap.size := by have := HD67.out.size; omega
          have HST := Lib.hid (STO.out _ 0 (some ⟨w7.heap.size, 0, none⟩) 1 [x] HD68.out (by omega) (by simp) (RIn.ofOI (B := w7.heap.size) (xs := [x]) (OV.new (w := w7) (e := 2) #[.int .i64 x] (Nat.le_refl _) (by simp [maxLen]))).1 (fun _ b o e e' => by injection e with e; injection e with e1 _ _; have := HD67.out.size; omega))
          refine wpAnyH_ready (rs := [9]) (by kernel_rfl) (by simp) (AllReadyH.cons rfl (fun K hK => ?_) AllReadyH.nil)
          go_simp
          rw [← World.setCell_alloc_past _ _ _ _ hg7]
          have HHeld := KS.out _ ((HD68.out.keep.mono (fun x e => .inl e)).setCell (p := ⟨g, 0, none⟩) (.inl (.inr rfl)) (.slice (some ⟨w7.heap.size, 0, none⟩) 1 1))
          refine hK.out _ _ HHeld (fun _ => ?_)
          clear hK K
          try simp only [Act.put, List.setIfInBounds_toArray, List.set_cons_zero, List.set_cons_succ]
          refine wpAnyH_done (by kernel_rfl) ?_ _
          go_wp2_with fail
          go_meet
          exact HST.out
        by_cases r1 : r = 1
        · subst r1
          clear hrow1 f1 x1
          go_wp2_with fail
          go_meet
          rw [← World.setCell_alloc_past _ _ _ _ hg6]
          have hb8 : Below w6.heap.size w6 (w6.alloc (.cells #[.int .i64 1, .int .i64 0] 2)) := (Below.refl _ _).alloc (Nat.le_refl _) _
          exact STO.out _ 0 (some ⟨w6.heap.size, 0, none⟩) 2 [1, 0] ((Dr.refl HD6.out.src).below hb8) (by omega) (by simp) (RIn.ofOI (B := w6.heap.size) (xs := [1, 0]) (OV.new (w := w6) (e := 2) #[.int .i64 1, .int .i64 0] (Nat.le_refl _) (by simp [maxLen]))).1 (fun _ b o e e' => by injection e with e; injection e with e1 _ _; omega)
        by_cases r2 : r = 2
        · subst r2
          clear hrow0 f0 x1
          go_wp2_with fail
          go_meet
          exact STO.out w6 1 none 0 [] (Dr.refl HD6.out.src) (by omega) (by simp) RI.nil (fun h => by simp at h)
        · have p0 : (r == 0) = false := by simpa using r0
          have p1 : (r == 1) = false := by simpa using r1
          have p2 : (r == 2) = false := by simpa using r2
          clear hrow0 f0 hrow1 f1 x1 y0
          go_wp2_with fail
          go_meet
          exact RST.out
      case rest =>
        obtain ⟨D9, q9, l9, hq9, hl9, hb9, hbl9, hr9, hd9⟩ := hcut
        have HD9 := Lib.hid hd9; have HR9 := Lib.hid hr9
        have hs9 := hd9.size
        have hM9 : w1.heap.size < wc.heap.size := World.block_lt_of_cell? wc _ hb9.1
        have hL9 : w4.heap.size < wc.heap.size := World.block_lt_of_cell? wc _ hbl9.1
        obtain ⟨x0, x1, x2, x3, x4, _⟩ := hb9
        obtain ⟨y0, _⟩ := hbl9
        simp only [Nat.zero_add] at x1 x2 x3 x4
        clear hr9 hd9
        have hk0 := HD9.out.keep.block w.heap.size (by omega) (by omega)
        have hk0x := HD9.out.keep.block (w.heap.size + 1) (by omega) (by omega)
        have lb0 := hk0.trans HBK0.out
        have lb1 := hk0x.trans HBK1.out
        have n0 := boxC_of_heap lb0 0 _ rfl
        have n1 := boxC_of_heap lb0 1 _ rfl
        have n2 := boxC_of_heap lb0 2 _ rfl
        have n3 := boxC_of_heap lb0 3 _ rfl
        have n4 := boxC_of_heap lb0 4 _ rfl
        have n5 := boxC_of_heap lb1 0 _ rfl
        have m0 := frozen_of_heap lb0
        have l0 := m0 0; have l1 := m0 1; have l2 := m0 2; have l3 := m0 3; have l4 := m0 4
        have l5 := frozen_of_heap lb1 0
        have HL0 := Lib.hid lb0; have HL1 := Lib.hid lb1
        clear lb0 lb1 m0 hk0 hk0x
        have KS := Lib.hid (show ∀ w' : World, KeepF (fun x => x = w.heap.size ∨ x = w.heap.size + 1) wc w' → (w'.cell? ⟨w1.heap.size, 0, none⟩ = some (.int .i64 m.c) ∧ w'.cell? ⟨w1.heap.size, 1, none⟩ = some (.int .i64 m.d) ∧ w'.cell? ⟨w1.heap.size, 2, none⟩ = some (.int .i64 m.s) ∧ w'.cell? ⟨w1.heap.size, 3, none⟩ = some (.int .i64 m.a) ∧ w'.cell? ⟨w1.heap.size, 4, none⟩ = some (.int .i64 m.l) ∧ w'.cell? ⟨w4.heap.size, 0, none⟩ = some (.slice D9 l9.length q9)) from fun w' hw => ⟨(hw.cell (p := ⟨w1.heap.size, 0, none⟩) (by simp only; omega) (by simp only; omega)).trans x0, (hw.cell (p := ⟨w1.heap.size, 1, none⟩) (by simp only; omega) (by simp only; omega)).trans x1, (hw.cell (p := ⟨w1.heap.size, 2, none⟩) (by simp only; omega) (by simp only; omega)).trans x2, (hw.cell (p := ⟨w1.heap.size, 3, none⟩) (by simp only; omega) (by simp only; omega)).trans x3, (hw.cell (p := ⟨w1.heap.size, 4, none⟩) (by simp only; omega) (by simp only; omega)).trans x4, (hw.cell (p := ⟨w4.heap.size, 0, none⟩) (by simp only; omega) (by simp only; omega)).trans y0⟩)
        clear x0 x1 x2 x3 x4 y0
        go_wp2_with fail
        refine wp_region_held_drew (S := (fun w' => w'.cell? ⟨w1.heap.size, 0, none⟩ = some (.int .i64 m.c) ∧ w'.cell? ⟨w1.heap.size, 1, none⟩ = some (.int .i64 m.d) ∧ w'.cell? ⟨w1.heap.size, 2, none⟩ = some (.int .i64 m.s) ∧ w'.cell? ⟨w1.heap.size, 3, none⟩ = some (.int .i64 m.a) ∧ w'.cell? ⟨w1.heap.size, 4, none⟩ = some (.int .i64 m.l) ∧ w'.cell? ⟨w4.heap.size, 0, none⟩ = some (.slice D9 l9.length q9))) (by kernel_rfl) (KS.out _ (KeepF.ofBelow (belowDrew0 _))) (fun hHeld => ?_)
        refine takeD (i := 0) (some 50) (.agg #[.int .i64 m.c, .int .i64 m.d, .int .i64 m.s, .int .i64 m.a, .int .i64 m.l]) rfl (by kernel_rfl) (by kernel_rfl) (by kernel_rfl) (by kernel_rfl) (fun _ _ _ h => h) (by assumption) (Or.inl ⟨by rfl, fun w hSw => by (try dsimp only at hSw); go_simp⟩) ?_
        simp only [Act.put, List.setIfInBounds_toArray, List.set_cons_zero, List.set_cons_succ]
        refine takeD (i := 1) (some 51) (.agg #[.slice D9 l9.length q9]) rfl (by kernel_rfl) (by kernel_rfl) (by kernel_rfl) (by kernel_rfl) (fun _ _ _ h => h) (by assumption) (Or.inl ⟨by rfl, fun w hSw => by (try dsimp only at hSw); go_simp⟩) ?_
        simp only [Act.put, List.setIfInBounds_toArray, List.set_cons_zero, List.set_cons_succ]
        refine wpAnyH_ready (rs := [2]) (by kernel_rfl) (by simp) (AllReadyH.cons rfl (fun K hK => ?_) AllReadyH.nil)
        go_simp
        have HHeld := KS.out _ (((keep_five wc w.heap.size (.int .i64 m.c) (.int .i64 m.d) (.int .i64 m.s) (.int .i64 m.a) (.int .i64 m.l)).mono (fun x hx => .inl hx)).trans (KeepF.ofBelow (belowDrew0 _)) (fun _ _ e => e))
        refine hK.out _ _ HHeld (fun _ => ?_)
        clear hK K
        try simp only [Act.put, List.setIfInBounds_toArray, List.set_cons_zero, List.set_cons_succ]
        refine wpAnyH_ready (rs := [3]) (by kernel_rfl) (by simp) (AllReadyH.cons rfl (fun K hK => ?_) AllReadyH.nil)
        go_simp
        have HHeld := KS.out _ ((keep_six wc w.heap.size (.int .i64 m.c) (.int .i64 m.d) (.int .i64 m.s) (.int .i64 m.a) (.int .i64 m.l) (.slice D9 l9.length q9)).trans (KeepF.ofBelow (belowDrew0 _)) (fun _ _ e => e))
        refine hK.out _ _ HHeld (fun _ => ?_)
        clear hK K
        try simp only [Act.put, List.setIfInBounds_toArray, List.set_cons_zero, List.set_cons_succ]
        refine wpAnyH_done (by kernel_rfl) ?_ _
        clear KS
        (try have hld' := hld); (try clear hld)
        go_wp2_with fail
        have lb0 := HL0.out; have lb1 := HL1.out
        obtain ⟨wz, hwz⟩ : ∃ wz, wz = ((((((wc.setCell ⟨w.heap.size, 0, none⟩ (.int .i64 m.c)).setCell ⟨w.heap.size, 1, none⟩ (.int .i64 m.d)).setCell ⟨w.heap.size, 2, none⟩ (.int .i64 m.s)).setCell ⟨w.heap.size, 3, none⟩ (.int .i64 m.a)).setCell ⟨w.heap.size, 4, none⟩ (.int .i64 m.l)).setCell ⟨w.heap.size + 1, 0, none⟩ (.slice D9 l9.length q9)).drew := ⟨_, rfl⟩
        rw [← hwz]
        have kz : KeepF (fun x => x = w.heap.size ∨ x = w.heap.size + 1) wc wz := by rw [hwz]; exact (keep_six wc w.heap.size _ _ _ _ _ _).trans (KeepF.ofBelow (belowDrew0 _)) (fun _ _ e => e)
        have e0 : wz.heap[w.heap.size]? = some (.cells #[.int .i64 m.c, .int .i64 m.d, .int .i64 m.s, .int .i64 m.a, .int .i64 m.l] 25 (0, 0)) := by rw [hwz]; simp [World.setCell, World.drew, Array.getElem?_modify, lb0]
        have e1 : wz.heap[w.heap.size + 1]? = some (.cells #[.slice D9 l9.length q9] 28 (0, 0)) := by rw [hwz]; simp [World.setCell, World.drew, Array.getElem?_modify, lb1]
        (try simp only [Exit.inBlock, Exit.then])
        refine bodyPost_ret (results_two rfl _ _ w.heap.size 25 #[.int .i64 m.c, .int .i64 m.d, .int .i64 m.s, .int .i64 m.a, .int .i64 m.l] (0, 0) _ (by rfl) e0 Tryz.underlying25 rfl (by kernel_rfl) (w.heap.size + 1) 28 #[.slice D9 l9.length q9] (0, 0) _ (by rfl) e1 Tryz.underlying28 rfl (by kernel_rfl)) rfl ?_
        exact ⟨m, D9, q9, l9, rfl, HMD.out, hq9, hl9, (HR9.out.keepB kz (fun x e => by omega)).mono (fun x e => by omega), (HD0.out.trans HD9.out).keepF kz (fun x e => by omega)⟩
end Go.Proofs.YtdedajohkdbdkaaGreat
