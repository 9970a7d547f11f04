/- Draws of systems that the statements call, on l15Draw. -/
import Derived.Test.YtdedajohkdbdkaaGreatDoorDrSys3
import Derived.Laws.BitsLemmas
namespace Go.Proofs.YtdedajohkdbdkaaGreatDoor
set_option linter.unusedVariables false
open Go.RowKit
/-- a drawn system with cuts; with numbers; with a list -/
def DrSC (w : World) (e : Ending) (w' : World) : Prop :=
  ∃ (m : Mk) (T : Option Addr) (t : List (List Int)) (cT : Nat) (K : Option Addr) (q : Nat) (cs : List (List Int)), e = .returned (.tuple #[.agg #[.int .i64 m.c, .int .i64 m.d, .int .i64 m.s, .int .i64 m.a, .int .i64 m.l, .slice T t.length cT], .slice K cs.length q]) ∧ t.length ≤ 20 ∧ cs.length ≤ q ∧ cs.length ≤ 20 ∧ RII w' T t ∧ RII w' K cs ∧ Below w.heap.size w w'
def DrSCn (w : World) (e : Ending) (w' : World) : Prop :=
  ∃ (m : Mk) (T : Option Addr) (t : List (List Int)) (cT : Nat) (K : Option Addr) (q : Nat) (cs : List (List Int)) (n : Int), e = .returned (.tuple #[.agg #[.int .i64 m.c, .int .i64 m.d, .int .i64 m.s, .int .i64 m.a, .int .i64 m.l, .slice T t.length cT], .slice K cs.length q, .int .i64 n]) ∧ t.length ≤ 20 ∧ cs.length ≤ q ∧ cs.length ≤ 20 ∧ RII w' T t ∧ RII w' K cs ∧ (-1 ≤ n ∧ n ≤ 1001) ∧ Below w.heap.size w w'
def DrSCnn (w : World) (e : Ending) (w' : World) : Prop :=
  ∃ (m : Mk) (T : Option Addr) (t : List (List Int)) (cT : Nat) (K : Option Addr) (q : Nat) (cs : List (List Int)) (n k : Int), e = .returned (.tuple #[.agg #[.int .i64 m.c, .int .i64 m.d, .int .i64 m.s, .int .i64 m.a, .int .i64 m.l, .slice T t.length cT], .slice K cs.length q, .int .i64 n, .int .i64 k]) ∧ t.length ≤ 20 ∧ cs.length ≤ q ∧ cs.length ≤ 20 ∧ RII w' T t ∧ RII w' K cs ∧ (-1 ≤ n ∧ n ≤ 1001) ∧ (-1 ≤ k ∧ k ≤ 1001) ∧ Below w.heap.size w w'
def DrSCk (w : World) (e : Ending) (w' : World) : Prop :=
  ∃ (m : Mk) (T : Option Addr) (t : List (List Int)) (cT : Nat) (K : Option Addr) (q : Nat) (cs : List (List Int)) (Y : Option Addr) (qy : Nat) (ys : List Int), e = .returned (.tuple #[.agg #[.int .i64 m.c, .int .i64 m.d, .int .i64 m.s, .int .i64 m.a, .int .i64 m.l, .slice T t.length cT], .slice K cs.length q, .slice Y ys.length qy]) ∧ t.length ≤ 20 ∧ cs.length ≤ q ∧ cs.length ≤ 20 ∧ RII w' T t ∧ RII w' K cs ∧ RI w' Y ys ∧ ys.length ≤ qy ∧ Below w.heap.size w w'
theorem wrap_sm {x : Int} (h0 : -1000000 ≤ x) (h1 : x ≤ 1000000) : IntKind.i64.wrap x = x := by rw [IntKind.wrap_i64]; omega
theorem quo19 {x : Int} (h0 : 0 ≤ x) (h1 : x < 20 ∨ x = 0) : 0 ≤ x.tdiv 19 ∧ x.tdiv 19 ≤ 1 := by
  rw [Int.tdiv_eq_ediv_of_nonneg h0]; omega



set_option maxRecDepth 100000 in
set_option maxHeartbeats 8000000 in
theorem drawLocksOf_any (A : Option Addr) (c : Nat) (bs : List Int) (w : World) (h : RCode w A bs) : Calls Tryz.prog 5 #[.slice A bs.length c] w (DrSC w) := by
  obtain ⟨w0, hw0⟩ : ∃ w0, w0 = w.alloc (.cells #[.int .i64 0, .int .i64 0, .int .i64 0, .int .i64 0, .int .i64 0, .slice none 0 0] 28) := ⟨_, rfl⟩
  have hz0 : w0.heap.size = w.heap.size + 1 := by rw [hw0]; simp
  have B0 : Below w.heap.size w w0 := by rw [hw0]; exact (Below.refl _ _).alloc (Nat.le_refl _) _
  have HR0 := Lib.hid (show w0.heap[w.heap.size]? = some (.cells #[.int .i64 0, .int .i64 0, .int .i64 0, .int .i64 0, .int .i64 0, .slice none 0 0] 28 (0, 0)) by
    have h1 := heap_alloc_new w (.cells #[.int .i64 0, .int .i64 0, .int .i64 0, .int .i64 0, .int .i64 0, .slice none 0 0] 28)
    rw [hw0]; simpa using h1)
  have hw00 := hz0
  have HF := Lib.hid (l01From_any A c bs w0 (RV.below h.1 B0) h.2)
  have HB0 := Lib.hid B0
  clear h B0
  go_enter Tryz.func5, Tryz.ntmps5
  go_wp2_with fail
  rw [← hw0]
  clear hw0
  refine HF.out.mono ?_
  rintro e w1 ⟨rfl, hS, hb1, hz1⟩
  obtain ⟨S, hSe⟩ : ∃ S, S = w0.heap.size := ⟨_, rfl⟩
  rw [← hSe] at hS hz1 ⊢
  have hSw : w.heap.size + 1 = S := by omega
  have hs1 : S < w1.heap.size := by omega
  have HB1 := Lib.hid (HB0.out.trans (hb1.mono (by omega)))
  have HK1 := Lib.hid (KeepF.ofBelow (F := fun x => x = S) hb1)
  have HDR := Lib.hid (l15Draw_any S A c bs w1 hS)
  clear hS hb1 hSe hz1 hw00 HF
  go_wp2_with fail
  refine HDR.out.mono ?_
  rintro e w2 ⟨m, T, t, cT, K, q, cs, rfl, hm, ht, hq, hc, hT, hK, hd2⟩
  have hs2 := hd2.size
  have HMD := Lib.hid hm; have HQ := Lib.hid hq; have HC := Lib.hid hc; have HTL := Lib.hid ht
  have HLT := Lib.hid hT; have HLK := Lib.hid hK; have HD2 := Lib.hid hd2
  have hk2 := HK1.out.trans hd2.keep (fun _ _ e => e)
  have lb0 := (hk2.block (w.heap.size) (by omega) (by omega)).trans HR0.out
  have n0_0 := boxC_of_heap lb0 0 _ rfl
  have n0_1 := boxC_of_heap lb0 1 _ rfl
  have n0_2 := boxC_of_heap lb0 2 _ rfl
  have n0_3 := boxC_of_heap lb0 3 _ rfl
  have n0_4 := boxC_of_heap lb0 4 _ rfl
  have n0_5 := boxC_of_heap lb0 5 _ rfl
  have fr0 := frozen_of_heap lb0
  have f0_0 := fr0 0
  have f0_1 := fr0 1
  have f0_2 := fr0 2
  have f0_3 := fr0 3
  have f0_4 := fr0 4
  have f0_5 := fr0 5
  have HLB0 := Lib.hid lb0
  clear lb0 fr0 hk2 hq hc ht hT hK hd2 hm HDR
  go_wp2_with fail
  have lb0 := HLB0.out
  obtain ⟨wz, hwz⟩ : ∃ wz, wz = (((((w2.setCell ⟨w.heap.size, 0, none⟩ (.int .i64 m.c)).setCell ⟨w.heap.size, 1, none⟩ (.int .i64 m.d)).setCell ⟨w.heap.size, 2, none⟩ (.int .i64 m.s)).setCell ⟨w.heap.size, 3, none⟩ (.int .i64 m.a)).setCell ⟨w.heap.size, 4, none⟩ (.int .i64 m.l)).setCell ⟨w.heap.size, 5, none⟩ (.slice T t.length cT) := ⟨_, rfl⟩
  rw [← hwz]
  have kz : KeepF (fun x => w.heap.size ≤ x ∧ x < w.heap.size + 1) w2 wz := by rw [hwz]; exact ((((((KeepF.refl (fun x => w.heap.size ≤ x ∧ x < w.heap.size + 1) w2).setCell (p := ⟨w.heap.size, 0, none⟩) (.inl ⟨by simp only; omega, by simp only; omega⟩) _).setCell (p := ⟨w.heap.size, 1, none⟩) (.inl ⟨by simp only; omega, by simp only; omega⟩) _).setCell (p := ⟨w.heap.size, 2, none⟩) (.inl ⟨by simp only; omega, by simp only; omega⟩) _).setCell (p := ⟨w.heap.size, 3, none⟩) (.inl ⟨by simp only; omega, by simp only; omega⟩) _).setCell (p := ⟨w.heap.size, 4, none⟩) (.inl ⟨by simp only; omega, by simp only; omega⟩) _).setCell (p := ⟨w.heap.size, 5, none⟩) (.inl ⟨by simp only; omega, by simp only; omega⟩) _
  have e0 : wz.heap[w.heap.size]? = some (.cells #[.int .i64 m.c, .int .i64 m.d, .int .i64 m.s, .int .i64 m.a, .int .i64 m.l, .slice T t.length cT] 28 (0, 0)) := by rw [hwz]; simp [World.setCell, Array.getElem?_modify, lb0]
  refine bodyPost_ret (results_one1 rfl _ _ (w.heap.size) 28 #[.int .i64 m.c, .int .i64 m.d, .int .i64 m.s, .int .i64 m.a, .int .i64 m.l, .slice T t.length cT] (0, 0) _ (by rfl) e0 Tryz.underlying28 rfl (by kernel_rfl)) rfl ?_
  have hdz := HD2.out
  have kt : KeepF (fun x => w.heap.size ≤ x) w wz := ((KeepF.ofBelow (F := fun x => w.heap.size ≤ x) (HB1.out.mono (Nat.le_refl _))).trans (hdz.keep.mono fun x e => by omega) (fun _ _ e => e)).trans (kz.mono fun x e => e.1) (fun _ _ e => e)
  exact ⟨m, T, t, cT, K, q, cs, rfl, HTL.out, HQ.out, by have := HC.out; omega, (HLT.out.keepB kz (fun x e => by omega)).rii, (HLK.out.keepB kz (fun x e => by omega)).rii, kt.toBelow (Nat.le_refl _) (fun x hx e => by omega)⟩



end Go.Proofs.YtdedajohkdbdkaaGreatDoor
