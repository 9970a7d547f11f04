/- Contract of l12Draw: a maker and three lists. -/
import Derived.Test.YtdkkkkfcpgkcnaaDrTab
import Derived.Deep.CutBlock
import Derived.Deep.CutRange
import Derived.Test.YtdkkkkfcpgkcnaaFTable
import Derived.Test.YtdkkkkfcpgkcnaaFLevels
namespace Go.Proofs.Ytdkkkkfcpgkcnaa
set_option linter.unusedVariables false
open Go.RowKit
theorem MkS.toD {m : Mk} (h : MkS m) : MkD m := by simp only [MkS, MkD] at *; omega
/-- while things are drawn: the source, the box M of the maker; all but the source's block as in w0 -/
structure DS (S : Nat) (A : Option Addr) (c : Nat) (bs : List Int) (w0 : World) (M : Nat) (m : Mk) (w : World) : Prop where
  src : Src S A c bs w
  keep : KeepF (fun g => g = S) w0 w
  box : BoxC w M 0 (mkCells m)
  fr : ∀ i, w.frozen? ⟨M, i, none⟩ = false
section
variable {S : Nat} {A : Option Addr} {c : Nat} {bs : List Int} {w0 : World} {M : Nat} {m : Mk} {w w' : World}
theorem DS.low (h : DS S A c bs w0 M m w) : M < w.heap.size := World.block_lt_of_cell? w _ h.box.1
theorem DS.draw (h : DS S A c bs w0 M m w) (hSM : S ≠ M) (hs : Src S A c bs w') (k : KeepF (fun g => g = S) w w') : DS S A c bs w0 M m w' :=
  ⟨hs, h.keep.trans k (fun _ _ e => e), h.box.keep fun i v hv => (k.cell (p := ⟨M, i, none⟩) h.low (Ne.symm hSM)).trans hv, fun i => (k.frozen (p := ⟨M, i, none⟩) h.low (Ne.symm hSM)).trans (h.fr i)⟩
theorem DS.below (h : DS S A c bs w0 M m w) (hb : Below w.heap.size w w') : DS S A c bs w0 M m w' :=
  ⟨h.src.below hb, h.keep.trans (KeepF.ofBelow (F := fun g => g = S) hb) (fun _ _ e => e), h.box.below hb, fun i => (hb.frozen (p := ⟨M, i, none⟩) h.low).trans (h.fr i)⟩
/-- an append to a list of the call's own -/
theorem DS.grow {row : Option Nat} (h : DS S A c bs w0 M m w) (hS : S < w0.heap.size) (hM : w0.heap.size ≤ M) (hg : w.grownBy w' row) (hr : ∀ g, row = some g → M < g) (hf : ∀ g, row = some g → NF (fun x => x = g) A bs.length) : DS S A c bs w0 M m w' := by
  have k : KeepF (fun g => row = some g) w w' := (KeepF.refl _ w).grown hg (fun g e => .inl e)
  refine ⟨h.src.keep k (fun e => by have := hr S e; omega) ?_, h.keep.grown hg (fun g e => .inr (by have := hr g e; omega)), h.box.keep fun i v hv => (k.cell (p := ⟨M, i, none⟩) h.low (fun e => by have := hr M e; omega)).trans hv, fun i => (k.frozen (p := ⟨M, i, none⟩) h.low (fun e => by have := hr M e; omega)).trans (h.fr i)⟩
  intro h0 b o e e'
  exact hf b e' h0 b o e rfl
end
theorem DS.store {S : Nat} {A : Option Addr} {c : Nat} {bs : List Int} {w0 : World} {M : Nat} {m : Mk} {w : World} (h : DS S A c bs w0 M m w) (hSM : S ≠ M) (hM : w0.heap.size ≤ M) (hf : NF (fun x => x = M) A bs.length) (n : Mk) :
    DS S A c bs w0 M n (((((w.setCell ⟨M, 0, none⟩ (.int .i64 n.c)).setCell ⟨M, 1, none⟩ (.int .i64 n.d)).setCell ⟨M, 2, none⟩ (.int .i64 n.s)).setCell ⟨M, 3, none⟩ (.int .i64 n.a)).setCell ⟨M, 4, none⟩ (.int .i64 n.l)) := by
  have b := boxC_set2 (x := .int .i64 n.l) (k := 4) (boxC_set2 (x := .int .i64 n.a) (k := 3) (boxC_set2 (x := .int .i64 n.s) (k := 2) (boxC_set2 (x := .int .i64 n.d) (k := 1) (boxC_set2 (x := .int .i64 n.c) (k := 0) h.box (by simp [mkCells])) (by simp [mkCells])) (by simp [mkCells])) (by simp [mkCells])) (by simp [mkCells])
  refine ⟨h.src.keep (keep_five w M _ _ _ _ _) hSM hf, h.keep.trans (keep_five w M _ _ _ _ _) (fun g hg e => by omega), ?_, fun i => by simp only [World.frozen?_setCell]; exact h.fr i⟩
  simpa [mkCells] using b
theorem OI.draw {w w' : World} {B C S : Nat} {v : Value} {xs : List Int} (h : OI w B C v xs) (hC : C ≤ w.heap.size) (hS : S < B) (k : KeepF (fun g => g = S) w w') : OI w' B C v xs :=
  h.keep fun g h1 h2 => k.block g (by omega) (by omega)
theorem OI.grow {w w' : World} {B C : Nat} {v : Value} {xs : List Int} {row : Option Nat} (h : OI w B C v xs) (hC : C ≤ w.heap.size) (hg : w.grownBy w' row) (hr : ∀ g, row = some g → C ≤ g) : OI w' B C v xs :=
  h.keep fun g h1 h2 => ((KeepF.refl (fun x => row = some x) w).grown hg (fun g e => .inl e)).block g (by omega) (fun e => by have := hr g e; omega)
theorem OI.grow2 {w w' : World} {B C : Nat} {v : Value} {xs : List Int} {row : Option Nat} (h : OI w B C v xs) (hC : C ≤ w.heap.size) (hg : w.grownBy w' row) (hr : ∀ g, row = some g → g < B ∨ C ≤ g) : OI w' B C v xs :=
  h.keep fun g h1 h2 => ((KeepF.refl (fun x => row = some x) w).grown hg (fun g e => .inl e)).block g (by omega) (fun e => by have := hr g e; omega)
theorem results_cell_tmp3 {fn : Func} {p u v x : Tmp} {ty : TypeId} (h : fn.results = #[.cell p ty, .tmp u, .tmp v, .tmp x]) (tmps : Array Value) (P : Program) (w : World) :
    (results fn tmps).run P w =
      ((asAddr (tmps.getD p undef)).run P w).andThen fun a w₁ => ((loadVar ty a).run P w₁).andThen fun y w₂ => .ok (.tuple #[y, tmps.getD u undef, tmps.getD v undef, tmps.getD x undef]) w₂ := by
  simp only [results, h]
  simp [Sem.run_bind, Result.andThen]
theorem results_cell_row_tmp3 {P : Program} {fn : Func} {p u v x : Tmp} {ty : TypeId} (h : fn.results = #[.cell p ty, .tmp u, .tmp v, .tmp x]) (tmps : Array Value) (w : World) (g : Nat) (t : TypeId) (cs : Array Value) (fr : Nat × Nat) (d : TypeDesc)
    (hp : tmps.getD p undef = .pointer (some ⟨g, 0, none⟩)) (hg : w.heap[g]? = some (.cells cs t fr))
    (hu : P.underlying ty = some d) (hd : (match d with | .struct _ | .array _ _ => true | _ => false) = true) (hi : (P.info? ty).map (·.size) = some cs.size) :
    (results fn tmps).run P w = .ok (.tuple #[.agg cs, tmps.getD u undef, tmps.getD v undef, tmps.getD x undef]) w := by
  rw [results_cell_tmp3 h, hp]
  simp [asAddr, Result.andThen, run_loadVar_row w g t ty cs fr d hg hu hd hi]
/-- drawn: a maker and three lists in new memory -/
def Res12 (S : Nat) (A : Option Addr) (c : Nat) (bs : List Int) (w : World) (e : Ending) (w' : World) : Prop :=
  ∃ (m : Mk) (A1 : Option Addr) (c1 : Nat) (xs : List Int) (A2 : Option Addr) (c2 : Nat) (ls : List Int) (A3 : Option Addr) (c3 : Nat) (ps : List Int), e = .returned (.tuple #[.agg #[.int .i64 m.c, .int .i64 m.d, .int .i64 m.s, .int .i64 m.a, .int .i64 m.l], .slice A1 xs.length c1, .slice A2 ls.length c2, .slice A3 ps.length c3]) ∧ MkD m ∧
    (xs.length ≤ c1 ∧ ls.length ≤ c2 ∧ ps.length ≤ c3 ∧ xs.length ≤ 16 ∧ ls.length ≤ 16 ∧ ps.length ≤ 16) ∧ RIn w.heap.size w' A1 xs ∧ RIn w.heap.size w' A2 ls ∧ RIn w.heap.size w' A3 ps ∧ Dr S A c bs w w'
/-- where the switch of l12Draw ends -/
def L12R (S : Nat) (A : Option Addr) (c : Nat) (bs : List Int) (w0 : World) (M : Nat) (m : Mk) (B : Nat) (u v x : Value) (wx : World) : Prop :=
  ∃ (xs ls ps : List Int), xs.length ≤ 16 ∧ ls.length ≤ 16 ∧ ps.length ≤ 16 ∧ OV wx B 2 u (ints xs) ∧ OV wx B 2 v (ints ls) ∧ OV wx B 2 x (ints ps) ∧ DS S A c bs w0 M m wx
theorem OV.draw {w w' : World} {B S e : Nat} {v : Value} {us : List Value} (h : OV w B e v us) (hS : S < B) (k : KeepF (fun g => g = S) w w') : OV w' B e v us :=
  h.keepF k (fun g hg e => by have := (h.lt g hg).1; omega)
set_option maxRecDepth 100000 in
set_option maxHeartbeats 8000000 in
theorem l12Draw_any (S : Nat) (A : Option Addr) (c : Nat) (bs : List Int) (w : World) (h : Src S A c bs w) :
    Calls Try.prog 108 #[.pointer (some ⟨S, 0, none⟩)] w (Res12 S A c bs w) := by
  obtain ⟨w0, hw0⟩ : ∃ w0, w0 = w.alloc (.cells #[.int .i64 0, .int .i64 0, .int .i64 0, .int .i64 0, .int .i64 0] 45) := ⟨_, rfl⟩
  have B0 : Below w.heap.size w w0 := by rw [hw0]; exact (Below.refl w.heap.size w).alloc (Nat.le_refl _) _
  have hz0 : w0.heap.size = w.heap.size + 1 := by rw [hw0]; simp
  have hbk : w0.heap[w.heap.size]? = some (.cells #[.int .i64 0, .int .i64 0, .int .i64 0, .int .i64 0, .int .i64 0] 45 (0, 0)) := by
    have := heap_alloc_new w (.cells #[.int .i64 0, .int .i64 0, .int .i64 0, .int .i64 0, .int .i64 0] 45)
    rw [hw0]; simpa using this
  have hS0 := h.below B0
  have hSl : S < w.heap.size := h.xl
  have hS0l : S < w0.heap.size := by omega
  have HBK := Lib.hid hbk; have HB0 := Lib.hid B0; have HZ0 := Lib.hid hz0
  have HF := Lib.hid (show ∀ g, w.heap.size ≤ g → NF (fun x => x = g) A bs.length from fun g hg => h.far hg)
  have HN0 := Lib.hid (l02Valid_any S A c bs w0 hS0)
  have HSRC0 := Lib.hid h
  clear h hbk B0 hz0 hS0
  go_enter Try.func108, Try.ntmps108
  go_wp2_with fail
  rw [← hw0]
  clear hw0
  refine HN0.out.mono ?_
  rintro e w1 ⟨m, rfl, hm, hS1, hK1⟩
  have HW1 := Lib.hid (show w0.heap.size ≤ w1.heap.size from hK1.size)
  have hSM : S ≠ w1.heap.size := by have := HW1.out; omega
  obtain ⟨w2, hw2⟩ : ∃ w2, w2 = w1.alloc (.cells #[.int .i64 m.c, .int .i64 m.d, .int .i64 m.s, .int .i64 m.a, .int .i64 m.l] 45) := ⟨_, rfl⟩
  have HB2 := Lib.hid (show Below w1.heap.size w1 w2 by rw [hw2]; exact (Below.refl _ _).alloc (Nat.le_refl _) _)
  have hD2 : DS S A c bs w0 w1.heap.size m w2 := ⟨hS1.below HB2.out, hK1.trans (KeepF.ofBelow (F := fun g => g = S) HB2.out) (fun _ _ e => e), by rw [hw2]; exact BoxC.new (mkCells m) rfl, fun i => by rw [hw2]; exact World.frozen?_alloc_at _ _ _ _ rfl⟩
  have HD2 := Lib.hid hD2
  have HN2 := Lib.hid (l01Next_any S A c bs 24 w2 hD2.src)
  have HM := Lib.hid hm
  clear hS1 hK1 hD2 hm
  go_wp2_with fail
  rw [← hw2]
  clear hw2 HN0
  refine HN2.out.mono ?_
  rintro e w3 ⟨r, rfl, hr0, hr1, hS3, hK3, hz3⟩
  have HD3 := Lib.hid (HD2.out.draw hSM hS3 hK3)
  have HSS := Lib.hid (And.intro hS3 (And.intro hK3 hz3))
  clear hS3 hK3 hz3
  go_upto_if 18 with fail
  go_cut [20] from 19 (fun _ wx => ∃ m', MkD m' ∧ DS S A c bs w0 w1.heap.size m' wx)
  case first =>
    by_cases q0 : r = 0
    · subst q0
      have HDR := Lib.hid (l02Draw_any S A c bs w3 HSS.out.1)
      go_wp2_with fail
      refine HDR.out.mono ?_
      rintro e w4 ⟨n, rfl, hn, hS4, hK4⟩
      have hD4 := HD3.out.draw hSM hS4 hK4
      have HD5 := Lib.hid (hD4.store hSM HW1.out (HF.out _ (by have := HW1.out; have := HZ0.out; omega)) n)
      have HNN := Lib.hid hn
      have f := hD4.fr
      have f0 := f 0; have f1 := f 1; have f2 := f 2; have f3 := f 3; have f4 := f 4
      obtain ⟨x0, x1, x2, x3, x4, _⟩ := hD4.box
      simp only [Nat.zero_add] at x1 x2 x3 x4
      clear hn hS4 hK4 hD4 f
      go_wp2_with fail
      go_meet
      exact ⟨n, HNN.out, HD5.out⟩
    · have p0 : (r == 0) = false := by simpa using q0
      go_wp2_with fail
      go_meet
      exact ⟨m, HM.out.toD, HD3.out⟩
  case rest =>
    obtain ⟨n, hn, hD⟩ := hcut
    obtain ⟨wm, rfl⟩ : ∃ wm : World, wm = wc := ⟨_, rfl⟩
    have HNN := Lib.hid hn
    have HDC := Lib.hid hD
    have HML := Lib.hid hD.low
    clear hn hD HN2 HD2 HSS HD3 hr0 hr1
    go_wp2_with fail
    go_loopw [7, 8] (fun v i wr => ∃ (k : Nat) (xs : List Int), (k : Int) ≤ min 8 n.c ∧ xs.length = k ∧ i = .int .i64 k ∧ OV wr wm.heap.size 2 v (ints xs) ∧ DS S A c bs w0 w1.heap.size n wr ∧ wm.heap.size ≤ wr.heap.size) (fun _ i _ => (min 8 n.c - intOf i).toNat)
    case atStart =>
      refine ⟨0, [], by have := HNN.out.1; simp; omega, rfl, rfl, OV.new0 (w := wm) (Nat.le_refl _), HDC.out.below ((Below.refl _ _).alloc (Nat.le_refl _) _), by simp⟩
    case round =>
      obtain ⟨k, xs, hk, hxl, rfl, ho, hD, hsz⟩ := hrel
      have hc7 := HNN.out
      simp only [MkD] at hc7
      have HC7 := Lib.hid hc7
      obtain ⟨x0, x1, x2, x3, x4, _⟩ := hD.box
      simp only [Nat.zero_add] at x1 x2 x3 x4
      have HD := Lib.hid hD; have HO := Lib.hid ho; have HX := Lib.hid hxl
      by_cases hlt : (k : Int) < min 8 n.c
      · have HN := Lib.hid (l01Next_any S A c bs n.d wr hD.src)
        clear hD ho hxl hc7
        go_wp2_with fail
        refine HN.out.mono ?_
        rintro e w3 ⟨r, rfl, h0, h1, hS3, hK3, hz3⟩
        have hml := HML.out
        have hw1 := HW1.out
        have ho3 := HO.out.draw (show S < wm.heap.size by omega) hK3
        have hD3 := HD.out.draw hSM hS3 hK3
        have hxl := HX.out
        have hsz3 : wm.heap.size ≤ w3.heap.size := by omega
        clear hz3
        go_wp2_with (at_builtin; refine wpList_app1 _ rfl _ _ _ rfl wm.heap.size 2 _ 8 Try.underlying30 info_int rfl (by omega) _ _ rfl (ho3.alloc _) _ _ rfl (one_cell _ _ _) rfl (by rw [ints_length]; omega) (by simp; omega) ?_; intro v' w4 ho4 hg4 hn4 hat4)
        go_roundw
        case rel => exact ⟨k + 1, xs ++ [r], by omega, by simp; omega, by go_num, by rw [ints_append]; exact ho4, (hD3.below ((Below.refl _ _).alloc (Nat.le_refl _) _)).grow hS0l HW1.out hg4 (fun g hg => by have := (ho3.lt g hg).1; omega) (fun g hg => HF.out g (by have := (ho3.lt g hg).1; have := HZ0.out; omega)), by have := ((KeepF.refl (fun g => u7.ownBlock = some g) _).grown hg4 (fun g e => .inl e)).size; simp at this; omega⟩
        case measure => simp [intOf]; omega
      · have hlt' : decide ((k : Int) < min 8 n.c) = false := decide_eq_false hlt
        have HOI := Lib.hid (show OI wr wm.heap.size wr.heap.size u7 xs from ho.toOR)
        have HXL := Lib.hid (show xs.length ≤ 8 by omega)
        obtain ⟨wo, rfl⟩ : ∃ wo : World, wo = wr := ⟨_, rfl⟩
        obtain ⟨v1, hv1⟩ : ∃ v1 : Value, v1 = u7 := ⟨_, rfl⟩
        subst hv1
        have HDA := Lib.hid (hD.below ((Below.refl wo.heap.size wo).alloc (Nat.le_refl _) (.cells #[] 2)))
        have HOA := Lib.hid (HOI.out.below ((Below.refl wo.heap.size wo).alloc (Nat.le_refl _) (.cells #[] 2)))
        obtain ⟨z0, _⟩ := HDA.out.box
        have hc1 := hc7.1
        have hc7' := hc7.2.1
        have hszo := hsz
        clear hD ho hxl hc7 x1 x2 x3 x4
        go_wp2_with fail
        clear x0 z0 hlt hlt' hk
        go_loopw [9, 10, 11] (fun v l _ wr => ∃ (ls : List Int) (left : Int), l = .int .i64 left ∧ 0 ≤ left ∧ ls.length + left ≤ n.c ∧ (∀ x ∈ ls, 0 ≤ x ∧ x ≤ 9) ∧ OV wr wo.heap.size 2 v (ints ls) ∧ OI wr wm.heap.size wo.heap.size v1 xs ∧ DS S A c bs w0 w1.heap.size n wr ∧ wo.heap.size ≤ wr.heap.size) (fun _ l _ _ => (intOf l).toNat)
        case atStart => exact ⟨[], n.c, rfl, by omega, by simp, by simp, OV.new0 (w := wo) (Nat.le_refl _), HOA.out, HDA.out, by simp⟩
        case round =>
          obtain ⟨ls, left, rfl, hl0, hll, hls, ho, hoi, hD, hszr⟩ := hrel
          obtain ⟨A2, c2, rfl, _, _⟩ := ho.reads
          rw [ints_length] at ho ⊢
          have HLS := Lib.hid hls
          have HD := Lib.hid hD; have HO := Lib.hid ho; have HOI2 := Lib.hid hoi
          have hmlB := HML.out
          have hw1B := HW1.out
          have hSB : S < wm.heap.size := by omega
          have hSB2 : S < wo.heap.size := by omega
          by_cases hlt : left > 0
          · have HN := Lib.hid (l01Next_any S A c bs left wr hD.src)
            have hlt1 : 0 < left := hlt
            have hle7 : left ≤ 7 := by omega
            clear hls hD ho hoi
            go_wp2_with fail
            refine HN.out.mono ?_
            rintro e w3 ⟨r, rfl, h0, h1, hS3, hK3, hz3⟩
            have HO3 := Lib.hid (HO.out.draw hSB2 hK3)
            have HOI3 := Lib.hid (OI.draw HOI2.out hszr hSB hK3)
            have HD3 := Lib.hid (HD.out.draw hSM hS3 hK3)
            have hsz3 : wo.heap.size ≤ w3.heap.size := by omega
            have HN3 := Lib.hid (l01Next_any S A c bs 8 w3 hS3)
            have hr1 : r < left := by omega
            clear hS3 hK3 hz3 h1
            by_cases q3 : ls.length = 3
            · have q3' : ((ls.length : Int) == 3) = true := by simp [q3]
              have Q3 := Lib.hid q3
              clear q3
              go_wp2_with fail
              refine HN3.out.mono ?_
              rintro e w4 ⟨r8, rfl, k0, k1, hS4, hK4, hz4⟩
              have HO4 := Lib.hid (HO3.out.draw hSB2 hK4)
              have HOI4 := Lib.hid (OI.draw HOI3.out hsz3 hSB hK4)
              have HD4 := Lib.hid (HD3.out.draw hSM hS4 hK4)
              have hsz4 : wo.heap.size ≤ w4.heap.size := by omega
              clear hS4 hK4 hz4 k1
              by_cases q8 : r8 > 0
              · have q8' : 0 < r8 := q8
                have hoA := HO4.out
                have hlA := HLS.out
                have hszA := hsz4
                go_wp2_with (at_builtin; refine wpList_app1 _ rfl _ _ _ rfl wo.heap.size 2 _ 8 Try.underlying30 info_int rfl (by omega) _ _ rfl (hoA.alloc _) _ _ rfl (one_cell _ _ _) rfl (by rw [ints_length]; omega) (by simp; omega) ?_; intro v' w5 ho5 hg5 hn5 hat5)
                go_roundw
                case rel => exact ⟨ls ++ [left], left - left, by go_num, by omega, by simp; omega, fun x hx => by rcases List.mem_append.1 hx with h | h; exact hlA x h; simp at h; omega, by rw [ints_append]; exact ho5, OI.grow (OR.below HOI4.out ((Below.refl _ _).alloc (by omega) _)) (by simp; omega) hg5 (fun g hg => (hoA.lt g hg).1), (HD4.out.below ((Below.refl _ _).alloc (Nat.le_refl _) _)).grow hS0l HW1.out hg5 (fun g hg => by have := (hoA.lt g hg).1; omega) (fun g hg => HF.out g (by have := (hoA.lt g hg).1; have := HZ0.out; omega)), by have := ((KeepF.refl (fun g => (Value.slice A2 ls.length c2).ownBlock = some g) _).grown hg5 (fun g e => .inl e)).size; simp at this; omega⟩
                case measure => simp [intOf]; omega
              · have q8' : decide (r8 > 0) = false := decide_eq_false q8
                have hoA := HO4.out
                have hlA := HLS.out
                have hszA := hsz4
                go_wp2_with (at_builtin; refine wpList_app1 _ rfl _ _ _ rfl wo.heap.size 2 _ 8 Try.underlying30 info_int rfl (by omega) _ _ rfl (hoA.alloc _) _ _ rfl (one_cell _ _ _) rfl (by rw [ints_length]; omega) (by simp; omega) ?_; intro v' w5 ho5 hg5 hn5 hat5)
                go_roundw
                case rel => exact ⟨ls ++ [(1 + r)], left - (1 + r), by go_num, by omega, by simp; omega, fun x hx => by rcases List.mem_append.1 hx with h | h; exact hlA x h; simp at h; omega, by rw [ints_append]; exact ho5, OI.grow (OR.below HOI4.out ((Below.refl _ _).alloc (by omega) _)) (by simp; omega) hg5 (fun g hg => (hoA.lt g hg).1), (HD4.out.below ((Below.refl _ _).alloc (Nat.le_refl _) _)).grow hS0l HW1.out hg5 (fun g hg => by have := (hoA.lt g hg).1; omega) (fun g hg => HF.out g (by have := (hoA.lt g hg).1; have := HZ0.out; omega)), by have := ((KeepF.refl (fun g => (Value.slice A2 ls.length c2).ownBlock = some g) _).grown hg5 (fun g e => .inl e)).size; simp at this; omega⟩
                case measure => simp [intOf]; omega
            · have q3' : ((ls.length : Int) == 3) = false := by simp; omega
              have hoA := HO3.out
              have hlA := HLS.out
              have hszA := hsz3
              go_wp2_with (at_builtin; refine wpList_app1 _ rfl _ _ _ rfl wo.heap.size 2 _ 8 Try.underlying30 info_int rfl (by omega) _ _ rfl (hoA.alloc _) _ _ rfl (one_cell _ _ _) rfl (by rw [ints_length]; omega) (by simp; omega) ?_; intro v' w5 ho5 hg5 hn5 hat5)
              go_roundw
              case rel => exact ⟨ls ++ [(1 + r)], left - (1 + r), by go_num, by omega, by simp; omega, fun x hx => by rcases List.mem_append.1 hx with h | h; exact hlA x h; simp at h; omega, by rw [ints_append]; exact ho5, OI.grow (OR.below HOI3.out ((Below.refl _ _).alloc (by omega) _)) (by simp; omega) hg5 (fun g hg => (hoA.lt g hg).1), (HD3.out.below ((Below.refl _ _).alloc (Nat.le_refl _) _)).grow hS0l HW1.out hg5 (fun g hg => by have := (hoA.lt g hg).1; omega) (fun g hg => HF.out g (by have := (hoA.lt g hg).1; have := HZ0.out; omega)), by have := ((KeepF.refl (fun g => (Value.slice A2 ls.length c2).ownBlock = some g) _).grown hg5 (fun g e => .inl e)).size; simp at this; omega⟩
              case measure => simp [intOf]; omega
          · have hlt' : decide (left > 0) = false := decide_eq_false hlt
            obtain ⟨wp, rfl⟩ : ∃ wp : World, wp = wr := ⟨_, rfl⟩
            have HBP := Lib.hid (show Below wp.heap.size wp (wp.alloc (.cells #[] 2)) from (Below.refl _ _).alloc (Nat.le_refl _) _)
            have HN := Lib.hid (l01Next_any S A c bs ((ls.length : Int) + 1) _ (hD.below HBP.out).src)
            have HDB := Lib.hid (hD.below HBP.out)
            have HO2B := Lib.hid (show OI (wp.alloc (.cells #[] 2)) wo.heap.size wp.heap.size (.slice A2 ls.length c2) ls from OR.below ho.toOR HBP.out)
            have HO1B := Lib.hid (OR.below hoi (HBP.out.mono hszr))
            have hszP := hszr
            have hl7 : ls.length ≤ 7 := by omega
            have HLL := Lib.hid (show (ls.length : Int) ≤ 7 by omega)
            clear hls hD ho hoi
            go_wp2_with fail
            refine HN.out.mono ?_
            rintro e w3 ⟨q0, rfl, h0, h1, hS3, hK3, hz3⟩
            have hq1 : q0 ≤ ls.length := by omega
            have hSP : S < wp.heap.size := by omega
            have HOP := Lib.hid ((OV.new0 (w := wp) (B := wp.heap.size) (e := 2) (Nat.le_refl _)).draw hSP hK3)
            have HO2 := Lib.hid (OI.draw HO2B.out (by simp) hSB2 hK3)
            have HO1 := Lib.hid (OI.draw HO1B.out (by simp; omega) hSB hK3)
            have HD3 := Lib.hid (HDB.out.draw hSM hS3 hK3)
            have hsz3 : wp.heap.size ≤ w3.heap.size := by rw [hz3]; simp
            clear hS3 hK3 hz3 h1
            go_upto_block 4 with fail
            go_cut [12, 13] from 67 (fun v _ wx => ∃ ps : List Int, ps.length ≤ ls.length ∧ OV wx wp.heap.size 2 v (ints ps) ∧ OI wx wo.heap.size wp.heap.size (.slice A2 ls.length c2) ls ∧ OI wx wm.heap.size wo.heap.size v1 xs ∧ DS S A c bs w0 w1.heap.size n wx ∧ wp.heap.size ≤ wx.heap.size)
            case first =>
              go_wp2_with fail
              go_loopw [12, 13] (fun v p wr => ∃ (ps : List Int) (q : Int), p = .int .i64 q ∧ 0 ≤ q ∧ ps.length + q ≤ ls.length ∧ OV wr wp.heap.size 2 v (ints ps) ∧ OI wr wo.heap.size wp.heap.size (.slice A2 ls.length c2) ls ∧ OI wr wm.heap.size wo.heap.size v1 xs ∧ DS S A c bs w0 w1.heap.size n wr ∧ wp.heap.size ≤ wr.heap.size) (fun _ p _ => (intOf p).toNat)
              case atStart => exact ⟨[], q0, rfl, h0, by simp; omega, HOP.out, HO2.out, HO1.out, HD3.out, hsz3⟩
              case round =>
                obtain ⟨ps, q, rfl, hq0, hpq, ho, ho2, ho1, hD, hszr⟩ := hrel
                obtain ⟨A3, c3, rfl, _, _⟩ := ho.reads
                rw [ints_length] at ho ⊢
                have HD := Lib.hid hD; have HO := Lib.hid ho; have HO2 := Lib.hid ho2; have HO1 := Lib.hid ho1
                by_cases hlt3 : q > 0
                · have hlt1 : 0 < q := hlt3
                  obtain ⟨x0, x1, x2, x3, x4, _⟩ := hD.box
                  simp only [Nat.zero_add] at x1 x2 x3 x4
                  have HMK := Lib.hid (specIsMaker_any n wr)
                  clear ho ho2 ho1 hD
                  cases hmk : isMaker n with
                  | false =>
                    go_wp2_with fail
                    refine HMK.out.mono ?_
                    rw [hmk]
                    rintro e w4 ⟨rfl, hb4⟩
                    clear x0 x1 x2 x3 x4
                    go_wp2_with fail
                    go_meet
                    exact ⟨ps, by omega, HO.out.below' hb4, OR.below HO2.out (hb4.mono hszr), OR.below HO1.out (hb4.mono (by omega)), HD.out.below hb4, by have := hb4.size; omega⟩
                  | true =>
                    go_wp2_with fail
                    refine HMK.out.mono ?_
                    rw [hmk]
                    rintro e w4 ⟨rfl, hb4⟩
                    clear x0 x1 x2 x3 x4
                    have HO4 := Lib.hid (HO.out.below' hb4)
                    have HO24 := Lib.hid (OR.below HO2.out (hb4.mono hszr))
                    have HO14 := Lib.hid (OR.below HO1.out (hb4.mono (show wo.heap.size ≤ wr.heap.size by omega)))
                    have hD4 := HD.out.below hb4
                    have HD4 := Lib.hid hD4
                    have hsz4 : wp.heap.size ≤ w4.heap.size := by have := hb4.size; omega
                    have hkl : ps.length < ls.length := by omega
                    obtain ⟨gL, cL, eL, hgL, hgL2, hcL, hL, hfL⟩ := HO24.out.1.open1 (by omega)
                    have hgL3 : gL < wp.heap.size := HO24.out.2 gL (by rw [eL]; rfl)
                    have hLk := hL ps.length hkl
                    injection eL with eA eB eC
                    clear eB eC
                    subst eA
                    have hxb := HLS.out ls[ps.length] (List.getElem_mem hkl)
                    generalize ls[ps.length] = y at *
                    have hx1 := hD4.box.2.1
                    have hlm4 : w1.heap.size < w4.heap.size := hD4.low
                    have hgw : gL < w4.heap.size := by omega
                    have hgS : gL ≠ S := by omega
                    have hgM : w1.heap.size < wp.heap.size := by omega
                    have KS := Lib.hid (show ∀ w' : World, KeepF (fun g => g = S ∨ wp.heap.size ≤ g) w4 w' → (w'.cell? ⟨w1.heap.size, 1, none⟩ = some (.int .i64 n.d) ∧ w'.cell? ⟨gL, ps.length, none⟩ = some (.int .i64 y)) from fun w' hw => ⟨(hw.cell (p := ⟨w1.heap.size, 1, none⟩) hlm4 (by simp only; omega)).trans hx1, (hw.cell (p := ⟨gL, ps.length, none⟩) hgw (by simp only; omega)).trans hLk⟩)
                    have i0 : (0 : Int) ≤ (ps.length : Int) := by omega
                    have i1 : (ps.length : Int) < (ls.length : Int) := by omega
                    clear hD4 hb4 hL hfL hx1 hLk
                    have hnd0 : 1 ≤ n.d := HC7.out.2.2.1
                    have hnd1 : n.d ≤ 9 := HC7.out.2.2.2.1
                    go_wp2_with fail
                    refine wp_region_held_drew (S := (fun w' => w'.cell? ⟨w1.heap.size, 1, none⟩ = some (.int .i64 n.d) ∧ w'.cell? ⟨gL, ps.length, none⟩ = some (.int .i64 y))) (by kernel_rfl) (KS.out _ (KeepF.ofBelow (belowDrew0 _))) (fun hHeld => ?_)
                    refine takeD (i := 0) (some 75) (.slice A3 ps.length c3) rfl (by kernel_rfl) (by kernel_rfl) (by kernel_rfl) (by kernel_rfl) (fun _ _ _ h => h) (by assumption) (Or.inl ⟨by rfl, fun w hSw => by (try dsimp only at hSw); go_simp⟩) ?_
                    simp only [Act.put, List.setIfInBounds_toArray, List.set_cons_zero, List.set_cons_succ]
                    refine takeD (i := 1) (some 76) (.pointer (some ⟨S, 0, none⟩)) rfl (by kernel_rfl) (by kernel_rfl) (by kernel_rfl) (by kernel_rfl) (fun _ _ _ h => h) (by assumption) (Or.inl ⟨by rfl, fun w hSw => by (try dsimp only at hSw); go_simp⟩) ?_
                    simp only [Act.put, List.setIfInBounds_toArray, List.set_cons_zero, List.set_cons_succ]
                    refine takeD (i := 2) (some 77) (.pointer (some ⟨w1.heap.size, 1, none⟩)) rfl (by kernel_rfl) (by kernel_rfl) (by kernel_rfl) (by kernel_rfl) (fun _ _ _ h => h) (by assumption) (Or.inl ⟨by rfl, fun w hSw => by (try dsimp only at hSw); go_simp⟩) ?_
                    simp only [Act.put, List.setIfInBounds_toArray, List.set_cons_zero, List.set_cons_succ]
                    refine takeD (i := 3) (some 78) (.int .i64 n.d) rfl (by kernel_rfl) (by kernel_rfl) (by kernel_rfl) (by kernel_rfl) (fun _ _ _ h => h) (by assumption) (Or.inl ⟨by rfl, fun w hSw => by (try dsimp only at hSw); go_simp⟩) ?_
                    simp only [Act.put, List.setIfInBounds_toArray, List.set_cons_zero, List.set_cons_succ]
                    refine takeD (i := 4) (some 79) (.int .i64 (n.d - 1)) rfl (by kernel_rfl) (by kernel_rfl) (by kernel_rfl) (by kernel_rfl) (fun _ _ _ h => h) (by assumption) (Or.inl ⟨by rfl, fun w hSw => by (try dsimp only at hSw); go_simp; (rw [IntKind.wrap_i64]; omega)⟩) ?_
                    simp only [Act.put, List.setIfInBounds_toArray, List.set_cons_zero, List.set_cons_succ]
                    refine takeD (i := 5) (some 80) (.slice (some ⟨gL, 0, none⟩) ls.length c2) rfl (by kernel_rfl) (by kernel_rfl) (by kernel_rfl) (by kernel_rfl) (fun _ _ _ h => h) (by assumption) (Or.inl ⟨by rfl, fun w hSw => by (try dsimp only at hSw); go_simp⟩) ?_
                    simp only [Act.put, List.setIfInBounds_toArray, List.set_cons_zero, List.set_cons_succ]
                    refine takeD (i := 6) (some 81) (.slice A3 ps.length c3) rfl (by kernel_rfl) (by kernel_rfl) (by kernel_rfl) (by kernel_rfl) (fun _ _ _ h => h) (by assumption) (Or.inl ⟨by rfl, fun w hSw => by (try dsimp only at hSw); go_simp⟩) ?_
                    simp only [Act.put, List.setIfInBounds_toArray, List.set_cons_zero, List.set_cons_succ]
                    refine takeD (i := 7) (some 82) (.int .i64 (ps.length : Int)) rfl (by kernel_rfl) (by kernel_rfl) (by kernel_rfl) (by kernel_rfl) (fun _ _ _ h => h) (by assumption) (Or.inl ⟨by rfl, fun w hSw => by (try dsimp only at hSw); go_simp⟩) ?_
                    simp only [Act.put, List.setIfInBounds_toArray, List.set_cons_zero, List.set_cons_succ]
                    refine takeD (i := 8) (some 83) (.pointer (some ⟨gL, ps.length, none⟩)) rfl (by kernel_rfl) (by kernel_rfl) (by kernel_rfl) (by kernel_rfl) (fun _ _ _ h => h) (by assumption) (Or.inl ⟨by rfl, fun w hSw => by (try dsimp only at hSw); go_simp⟩) ?_
                    simp only [Act.put, List.setIfInBounds_toArray, List.set_cons_zero, List.set_cons_succ]
                    refine takeD (i := 9) (some 84) (.int .i64 y) rfl (by kernel_rfl) (by kernel_rfl) (by kernel_rfl) (by kernel_rfl) (fun _ _ _ h => h) (by assumption) (Or.inl ⟨by rfl, fun w hSw => by (try dsimp only at hSw); go_simp⟩) ?_
                    simp only [Act.put, List.setIfInBounds_toArray, List.set_cons_zero, List.set_cons_succ]
                    have HD5 := Lib.hid (HD4.out.below (belowDrew0 w4))
                    have HB5 := Lib.hid (belowDrew0 w4)
                    have HO5 := Lib.hid (HO4.out.drew)
                    refine wpAnyH_ready (rs := [10]) (by kernel_rfl) (by simp) (AllReadyH.cons rfl (fun K hK => ?_) AllReadyH.nil)
                    go_simp
                    refine (l07Power_any (n.d - 1) y _ (by omega)).mono ?_
                    rintro e w5 ⟨rfl, rfl⟩
                    have HHeld := KS.out _ (KeepF.ofBelow (belowDrew0 _))
                    refine hK.out _ _ HHeld (fun _ => ?_)
                    clear hK K
                    try simp only [Act.put, List.setIfInBounds_toArray, List.set_cons_zero, List.set_cons_succ]
                    refine wpAnyH_ready (rs := [11]) (by kernel_rfl) (by simp) (AllReadyH.cons rfl (fun K hK => ?_) AllReadyH.nil)
                    go_simp
                    refine (l01Next_any S A c bs _ _ HD5.out.src).mono ?_
                    rintro e w6 ⟨x, rfl, hx0, hx1, hS6, hK6, hz6⟩
                    have hsz6 : wp.heap.size ≤ w6.heap.size := by rw [hz6]; exact hsz4
                    have HD6 := Lib.hid (HD5.out.draw hSM hS6 hK6)
                    have HO6 := Lib.hid (HO5.out.draw hSP hK6)
                    have HO26 := Lib.hid (OI.draw (OR.below HO24.out (HB5.out.mono hsz4)) hsz4 hSB2 hK6)
                    have HO16 := Lib.hid (OI.draw (OR.below HO14.out (HB5.out.mono (by omega))) (show wo.heap.size ≤ w4.drew.heap.size by show wo.heap.size ≤ w4.heap.size; omega) hSB hK6)
                    have HK6 := Lib.hid (show KeepF (fun g => g = S ∨ wp.heap.size ≤ g) w4 w6 from (KeepF.ofBelow (F := fun g => g = S ∨ wp.heap.size ≤ g) HB5.out).trans hK6 (fun g _ e => .inl e))
                    clear hS6 hK6 hz6 hx1 hx0
                    have HHeld := KS.out _ HK6.out
                    refine hK.out _ _ HHeld (fun _ => ?_)
                    clear hK K
                    try simp only [Act.put, List.setIfInBounds_toArray, List.set_cons_zero, List.set_cons_succ]
                    refine wpAnyH_ready (rs := [12]) (by kernel_rfl) (by simp) (AllReadyH.cons rfl (fun K hK => ?_) AllReadyH.nil)
                    go_simp
                    have HHeld := KS.out _ (HK6.out.alloc (.cells #[.int .i64 x] 2))
                    refine hK.out _ _ HHeld (fun _ => ?_)
                    clear hK K
                    try simp only [Act.put, List.setIfInBounds_toArray, List.set_cons_zero, List.set_cons_succ]
                    refine wpAnyH_ready (rs := [13]) (by kernel_rfl) (by simp) (AllReadyH.cons rfl (fun K hK => ?_) AllReadyH.nil)
                    refine step_app1 _ (by rfl) _ _ _ (by rfl) wp.heap.size 2 _ 8 Try.underlying30 info_int rfl (by omega) _ _ (by rfl) (HO6.out.alloc _) _ _ (by rfl) (one_cell _ _ _) rfl (by rw [ints_length]; omega) (by simp; omega) ?_
                    intro v7 w7 ho7 hg7 hn7 hat7
                    have hlt7 := HO6.out.lt
                    have HK7 := Lib.hid ((HK6.out.alloc (.cells #[.int .i64 x] 2)).grown hg7 (fun g e => .inl (.inr (hlt7 g e).1)))
                    have HHeld := KS.out _ HK7.out
                    refine hK.out _ _ HHeld (fun _ => ?_)
                    clear hK K
                    (try simp only [Act.put]); (try simp only [List.setIfInBounds_toArray]); (try simp only [List.set_cons_zero, List.set_cons_succ])
                    refine takeD (i := 14) (some 12) (v7) rfl (by kernel_rfl) (by kernel_rfl) (by kernel_rfl) (by kernel_rfl) (fun _ _ _ h => h) (by assumption) (Or.inl ⟨by rfl, fun w hSw => by (try dsimp only at hSw); go_simp⟩) ?_
                    (try simp only [Act.put]); (try simp only [List.setIfInBounds_toArray]); (try simp only [List.set_cons_zero, List.set_cons_succ])
                    refine wpAnyH_done (by kernel_rfl) ?_ _
                    go_wp2_with fail
                    go_roundw
                    case rel => exact ⟨ps ++ [x], q - 1, by go_num, by omega, by simp; omega, by rw [ints_append]; exact ho7, OI.grow (OR.below HO26.out ((Below.refl _ _).alloc (by omega) _)) (by simp; omega) hg7 (fun g hg => (hlt7 g hg).1), OI.grow (OR.below HO16.out ((Below.refl _ _).alloc (by omega) _)) (by simp; omega) hg7 (fun g hg => by have := (hlt7 g hg).1; omega), (HD6.out.below ((Below.refl _ _).alloc (Nat.le_refl _) _)).grow hS0l HW1.out hg7 (fun g hg => by have := (hlt7 g hg).1; omega) (fun g hg => HF.out g (by have := (hlt7 g hg).1; have := HZ0.out; omega)), by have := HK7.out.size; omega⟩
                    case measure => simp [intOf]; omega
                · have hlt3' : decide (q > 0) = false := decide_eq_false hlt3
                  go_wp2_with fail
                  go_meet
                  exact ⟨ps, by omega, HO.out, HO2.out, HO1.out, HD.out, hszr⟩
            case rest =>
              obtain ⟨ps, hpl, ho, ho2, ho1, hD, hszr⟩ := hcut
              have HD := Lib.hid hD; have HO := Lib.hid ho; have HO2 := Lib.hid ho2; have HO1 := Lib.hid ho1
              have HN := Lib.hid (l01Next_any S A c bs 30 wc hD.src)
              have hgM : w1.heap.size < wp.heap.size := by omega
              clear ho ho2 ho1 hD
              have HXS := HXL.out
              have hpl7 : ps.length ≤ 7 := by omega
              have hBo : wm.heap.size ≤ wo.heap.size := hszo
              have hwp : wo.heap.size ≤ wp.heap.size := hszP
              have hmlS := HML.out
              have hS1M := HW1.out
              go_upto_block 6 with fail
              refine HN.out.mono ?_
              rintro e w4 ⟨r30, rfl, k0, k1, hS4, hK4, hz4⟩
              have hsz4 : wp.heap.size ≤ w4.heap.size := by omega
              have HD4 := Lib.hid (HD.out.draw hSM hS4 hK4)
              have HO34 := Lib.hid (HO.out.draw hSP hK4)
              have HO24 := Lib.hid (OI.draw HO2.out hszr hSB2 hK4)
              have HO14 := Lib.hid (OI.draw HO1.out (show wo.heap.size ≤ wc.heap.size by omega) hSB hK4)
              have HS4 := Lib.hid hS4
              clear hS4 hK4 hz4 k1
              go_upto_block 6 with fail
              go_cut [7, 9, 12] from 91 to 111 (fun u v x wx => L12R S A c bs w0 w1.heap.size n wm.heap.size u v x wx)
              case first =>
                by_cases p0 : r30 = 0
                · subst p0
                  have ho4 := HO14.out.1
                  go_wp2_with (at_builtin; refine wpList_app1 _ rfl _ _ _ rfl wm.heap.size 2 _ 8 Try.underlying30 info_int rfl (by omega) _ _ rfl (ho4.alloc _) _ _ rfl (one_cell _ _ _) rfl (by rw [ints_length]; omega) (by simp; omega) ?_; intro v5 w5 ho5 hg5 hn5 hat5)
                  go_meet
                  have hlt4 := HO14.out.2
                  exact ⟨xs ++ [0], ls, ps, by simp; omega, by omega, by omega, by rw [ints_append]; exact ho5, (HO24.out.1.other (fun g h1 h2 => by have := hlt4 g h1; have := (HO24.out.1.lt g h2).1; omega) hg5).mono (by omega), (HO34.out.other (fun g h1 h2 => by have := hlt4 g h1; have := (HO34.out.lt g h2).1; omega) hg5).mono (by omega), (HD4.out.below ((Below.refl _ _).alloc (Nat.le_refl _) _)).grow hS0l HW1.out hg5 (fun g hg => by have := (ho4.lt g hg).1; omega) (fun g hg => HF.out g (by have := (ho4.lt g hg).1; have := HZ0.out; omega))⟩
                by_cases p1 : r30 = 1
                · subst p1
                  have HP := Lib.hid (show Calls Try.prog 118 #[.pointer (some ⟨S, 0, none⟩), .slice (some ⟨w4.heap.size, 0, none⟩) 2 2] (w4.alloc (.cells #[.int .i64 0, .int .i64 1] 2)) _ from l01Pick_new HS4.out [0, 1] (by simp) (by simp))
                  go_wp2_with fail
                  refine HP.out.mono ?_
                  rintro e w5 ⟨y, rfl, hy, hd5, hz5⟩
                  have hs5 := hd5.size
                  have HD5 := Lib.hid (HD4.out.draw hSM hd5.src hd5.keep)
                  have HO35 := Lib.hid (HO34.out.draw hSP hd5.keep)
                  have HO25 := Lib.hid (OI.draw HO24.out (show wp.heap.size ≤ w4.heap.size by omega) hSB2 hd5.keep)
                  have HO15 := Lib.hid (OI.draw HO14.out (show wo.heap.size ≤ w4.heap.size by omega) hSB hd5.keep)
                  have ho5 := HO25.out.1.mono hBo
                  clear hy hd5 hz5
                  go_wp2_with (at_builtin; refine wpList_app1 _ rfl _ _ _ rfl wm.heap.size 2 _ 8 Try.underlying30 info_int rfl (by omega) _ _ rfl (ho5.alloc _) _ _ rfl (one_cell _ _ _) rfl (by rw [ints_length]; omega) (by simp; omega) ?_; intro v6 w6 ho6 hg6 hn6 hat6)
                  go_meet
                  have hlt4 := HO15.out.2
                  have hlt5 := HO25.out.2
                  exact ⟨xs, ls ++ [y], ps, by omega, by simp; omega, by omega, HO15.out.1.other (fun g h1 h2 => by have := hlt4 g h2; have := (HO25.out.1.lt g h1).1; omega) hg6, by rw [ints_append]; exact ho6, (HO35.out.other (fun g h1 h2 => by have := hlt5 g h1; have := (HO35.out.lt g h2).1; omega) hg6).mono (by omega), (HD5.out.below ((Below.refl _ _).alloc (Nat.le_refl _) _)).grow hS0l HW1.out hg6 (fun g hg => by have := (ho5.lt g hg).1; omega) (fun g hg => HF.out g (by have := (ho5.lt g hg).1; have := HZ0.out; omega))⟩
                by_cases p2 : r30 = 2
                · subst p2
                  have HP := Lib.hid (show Calls Try.prog 118 #[.pointer (some ⟨S, 0, none⟩), .slice (some ⟨w4.heap.size, 0, none⟩) 3 3] (w4.alloc (.cells #[.int .i64 (-1), .int .i64 0, .int .i64 500000] 2)) _ from l01Pick_new HS4.out [-1, 0, 500000] (by simp) (by simp))
                  go_wp2_with fail
                  refine HP.out.mono ?_
                  rintro e w5 ⟨y, rfl, hy, hd5, hz5⟩
                  have hs5 := hd5.size
                  have HD5 := Lib.hid (HD4.out.draw hSM hd5.src hd5.keep)
                  have HO35 := Lib.hid (HO34.out.draw hSP hd5.keep)
                  have HO25 := Lib.hid (OI.draw HO24.out (show wp.heap.size ≤ w4.heap.size by omega) hSB2 hd5.keep)
                  have HO15 := Lib.hid (OI.draw HO14.out (show wo.heap.size ≤ w4.heap.size by omega) hSB hd5.keep)
                  have ho5 := HO35.out.mono (show wm.heap.size ≤ wp.heap.size by omega)
                  clear hy hd5 hz5
                  go_wp2_with (at_builtin; refine wpList_app1 _ rfl _ _ _ rfl wm.heap.size 2 _ 8 Try.underlying30 info_int rfl (by omega) _ _ rfl (ho5.alloc _) _ _ rfl (one_cell _ _ _) rfl (by rw [ints_length]; omega) (by simp; omega) ?_; intro v6 w6 ho6 hg6 hn6 hat6)
                  go_meet
                  have hlt4 := HO15.out.2
                  have hlt5 := HO25.out.2
                  exact ⟨xs, ls, ps ++ [y], by omega, by omega, by simp; omega, HO15.out.1.other (fun g h1 h2 => by have := hlt4 g h2; have := (HO35.out.lt g h1).1; omega) hg6, (HO25.out.1.other (fun g h1 h2 => by have := hlt5 g h2; have := (HO35.out.lt g h1).1; omega) hg6).mono (by omega), by rw [ints_append]; exact ho6, (HD5.out.below ((Below.refl _ _).alloc (Nat.le_refl _) _)).grow hS0l HW1.out hg6 (fun g hg => by have := (ho5.lt g hg).1; omega) (fun g hg => HF.out g (by have := (ho5.lt g hg).1; have := HZ0.out; omega))⟩
                · have q0 : (r30 == 0) = false := by simpa using p0
                  have q1 : (r30 == 1) = false := by simpa using p1
                  have q2 : (r30 == 2) = false := by simpa using p2
                  go_wp2_with fail
                  go_meet
                  exact ⟨xs, ls, ps, by omega, by omega, by omega, HO14.out.1, HO24.out.1.mono (by omega), HO34.out.mono (by omega), HD4.out⟩
              case rest =>
                obtain ⟨xs, ls, ps, hxs, hls, hps, o1, o2, o3, hDF⟩ := hcut
                obtain ⟨A1, c1, rfl, k1, _⟩ := o1.reads
                obtain ⟨A2, c2, rfl, k2, _⟩ := o2.reads
                obtain ⟨A3, c3, rfl, k3, _⟩ := o3.reads
                rw [ints_length] at o1 o2 o3 k1 k2 k3 ⊢
                rw [ints_length, ints_length]
                have lb := (hDF.keep.block w.heap.size (by have := HZ0.out; omega) (fun e => by omega)).trans HBK.out
                obtain ⟨z0, z1, z2, z3, z4, _⟩ := hDF.box
                simp only [Nat.zero_add] at z1 z2 z3 z4
                have n0 := boxC_of_heap lb 0 _ rfl
                have n1 := boxC_of_heap lb 1 _ rfl
                have n2 := boxC_of_heap lb 2 _ rfl
                have n3 := boxC_of_heap lb 3 _ rfl
                have n4 := boxC_of_heap lb 4 _ rfl
                have m0 := frozen_of_heap lb
                have l0 := m0 0; have l1 := m0 1; have l2 := m0 2; have l3 := m0 3; have l4 := m0 4
                have HLB := Lib.hid lb
                have HDF := Lib.hid hDF
                have HOF := Lib.hid (And.intro o1 (And.intro o2 o3))
                have HKK := Lib.hid (And.intro k1 (And.intro k2 (And.intro k3 (And.intro hxs (And.intro hls hps)))))
                clear lb m0 hDF o1 o2 o3 k1 k2 k3 hxs hls hps
                go_wp2_with fail
                have lb := HLB.out
                refine bodyPost_ret (results_cell_row_tmp3 rfl _ _ w.heap.size 45 #[.int .i64 n.c, .int .i64 n.d, .int .i64 n.s, .int .i64 n.a, .int .i64 n.l] (0, 0) _ (by rfl) (by simp [World.setCell, Array.getElem?_modify, lb]) Try.underlying45 rfl (by kernel_rfl)) rfl ?_
                have hz0' := HZ0.out
                have hw1' := HW1.out
                have hml' := HML.out
                have kf := keep_five wc w.heap.size (.int .i64 n.c) (.int .i64 n.d) (.int .i64 n.s) (.int .i64 n.a) (.int .i64 n.l)
                have f1 := (RIn.ofOI HOF.out.1).keepF kf (fun g e => by omega)
                have f2 := (RIn.ofOI HOF.out.2.1).keepF kf (fun g e => by omega)
                have f3 := (RIn.ofOI HOF.out.2.2).keepF kf (fun g e => by omega)
                have hdr : Dr S A c bs w wc := ⟨HSRC0.out, HDF.out.src, (KeepF.ofBelow (F := fun g => g = S) HB0.out).trans HDF.out.keep (fun _ _ e => e)⟩
                exact ⟨n, A1, c1, xs, A2, c2, ls, A3, c3, ps, rfl, HNN.out, HKK.out, f1.mono (by omega), f2.mono (by omega), f3.mono (by omega), hdr.keepF kf (fun g e => by omega)⟩
end Go.Proofs.Ytdkkkkfcpgkcnaa
