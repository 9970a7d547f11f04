/- The draw of a system alone. -/
import Derived.Test.YtdedajohkdbdkaaGreatDoorDrSys4
import Derived.Laws.BitsLemmas
import Derived.Deep.CutRange
namespace Go.Proofs.YtdedajohkdbdkaaGreatDoor
set_option linter.unusedVariables false
open Go.RowKit
/-- a drawn system -/
def DrS (w : World) (e : Ending) (w' : World) : Prop :=
  ∃ (m : Mk) (T : Option Addr) (t : List (List Int)) (cT : Nat), e = .returned (.agg #[.int .i64 m.c, .int .i64 m.d, .int .i64 m.s, .int .i64 m.a, .int .i64 m.l, .slice T t.length cT]) ∧ RII w' T t ∧ Below w.heap.size w w'

set_option maxRecDepth 100000 in
set_option maxHeartbeats 8000000 in
theorem drawSystem_any (A : Option Addr) (c : Nat) (bs : List Int) (w : World) (h : RCode w A bs) : Calls Tryz.prog 11 #[.slice A bs.length c] w (DrS w) := by
  obtain ⟨w0, hw0⟩ : ∃ w0, w0 = w.alloc (.cells #[.int .i64 0, .int .i64 0, .int .i64 0, .int .i64 0, .int .i64 0, .slice none 0 0] 28) := ⟨_, rfl⟩
  have hz0 : w0.heap.size = w.heap.size + 1 := by rw [hw0]; simp
  have B0 : Below w.heap.size w w0 := by rw [hw0]; exact (Below.refl _ _).alloc (Nat.le_refl _) _
  have HR0 := Lib.hid (show w0.heap[w.heap.size]? = some (.cells #[.int .i64 0, .int .i64 0, .int .i64 0, .int .i64 0, .int .i64 0, .slice none 0 0] 28 (0, 0)) by
    have h1 := heap_alloc_new w (.cells #[.int .i64 0, .int .i64 0, .int .i64 0, .int .i64 0, .int .i64 0, .slice none 0 0] 28)
    rw [hw0]; simpa using h1)
  have hw00 := hz0
  have HF := Lib.hid (l01From_any A c bs w0 (RV.below h.1 B0) h.2)
  have HB0 := Lib.hid B0
  clear h B0
  go_enter Tryz.func11, Tryz.ntmps11
  go_wp2_with fail
  rw [← hw0]
  clear hw0
  refine HF.out.mono ?_
  rintro e w1 ⟨rfl, hS, hb1, hz1⟩
  obtain ⟨S, hSe⟩ : ∃ S, S = w0.heap.size := ⟨_, rfl⟩
  rw [← hSe] at hS hz1 ⊢
  have hSw : w.heap.size + 1 = S := by omega
  have hs1 : S < w1.heap.size := by omega
  have HB1 := Lib.hid (HB0.out.trans (hb1.mono (by omega)))
  have HK1 := Lib.hid (KeepF.ofBelow (F := fun x => x = S) hb1)
  have HDR := Lib.hid (l15Draw_any S A c bs w1 hS)
  clear hS hb1 hSe hz1 hw00 HF
  go_wp2_with fail
  refine HDR.out.mono ?_
  rintro e w2 ⟨m, T, t, cT, K, q, cs, rfl, hm, ht, hq, hc, hT, hK, hd2⟩
  have hs2 := hd2.size
  have HMD := Lib.hid hm; have HQ := Lib.hid hq; have HC := Lib.hid hc; have HTL := Lib.hid ht
  obtain ⟨w3, hwb⟩ : ∃ wb, wb = w2.alloc (.cells #[.int .i64 m.c, .int .i64 m.d, .int .i64 m.s, .int .i64 m.a, .int .i64 m.l, .slice T t.length cT] 28) := ⟨_, rfl⟩
  have hbb : Below w2.heap.size w2 w3 := by rw [hwb]; exact (Below.refl _ _).alloc (Nat.le_refl _) _
  have hs3 : w2.heap.size < w3.heap.size := by rw [hwb]; simp
  have HBX := Lib.hid (show BoxC w3 w2.heap.size 0 [.int .i64 m.c, .int .i64 m.d, .int .i64 m.s, .int .i64 m.a, .int .i64 m.l, .slice T t.length cT] by rw [hwb]; exact BoxC.new [.int .i64 m.c, .int .i64 m.d, .int .i64 m.s, .int .i64 m.a, .int .i64 m.l, .slice T t.length cT] rfl)
  have HLT := Lib.hid (hT.below hbb); have HLK := Lib.hid (hK.below hbb)
  have HD3 := Lib.hid (hd2.below hbb)
  clear hm hq hc ht hT hK hd2 hbb HDR
  have HHB := Lib.hid hwb
  clear hwb
  go_upto_region 2 with fail
  rw [← HHB.out]
  clear HHB
  have hk2 := HK1.out.trans HD3.out.keep (fun _ _ e => e)
  have lb0 := (hk2.block (w.heap.size) (by omega) (by omega)).trans HR0.out
  have n0_0 := boxC_of_heap lb0 0 _ rfl
  have n0_1 := boxC_of_heap lb0 1 _ rfl
  have n0_2 := boxC_of_heap lb0 2 _ rfl
  have n0_3 := boxC_of_heap lb0 3 _ rfl
  have n0_4 := boxC_of_heap lb0 4 _ rfl
  have n0_5 := boxC_of_heap lb0 5 _ rfl
  have fr0 := frozen_of_heap lb0
  have f0_0 := fr0 0
  have f0_1 := fr0 1
  have f0_2 := fr0 2
  have f0_3 := fr0 3
  have f0_4 := fr0 4
  have f0_5 := fr0 5
  have HLB0 := Lib.hid lb0
  obtain ⟨x0, x1, x2, x3, x4, x5, _⟩ := HBX.out
  simp only [Nat.zero_add] at x1 x2 x3 x4 x5
  clear lb0 fr0 hk2
  go_wp2_with fail
  have lb0 := HLB0.out
  obtain ⟨wz, hwz⟩ : ∃ wz, wz = (((((w3.setCell ⟨w.heap.size, 0, none⟩ (.int .i64 m.c)).setCell ⟨w.heap.size, 1, none⟩ (.int .i64 m.d)).setCell ⟨w.heap.size, 2, none⟩ (.int .i64 m.s)).setCell ⟨w.heap.size, 3, none⟩ (.int .i64 m.a)).setCell ⟨w.heap.size, 4, none⟩ (.int .i64 m.l)).setCell ⟨w.heap.size, 5, none⟩ (.slice T t.length cT) := ⟨_, rfl⟩
  rw [← hwz]
  have kz : KeepF (fun x => w.heap.size ≤ x ∧ x < w.heap.size + 1) w3 wz := by rw [hwz]; exact ((((((KeepF.refl (fun x => w.heap.size ≤ x ∧ x < w.heap.size + 1) w3).setCell (p := ⟨w.heap.size, 0, none⟩) (.inl ⟨by simp only; omega, by simp only; omega⟩) _).setCell (p := ⟨w.heap.size, 1, none⟩) (.inl ⟨by simp only; omega, by simp only; omega⟩) _).setCell (p := ⟨w.heap.size, 2, none⟩) (.inl ⟨by simp only; omega, by simp only; omega⟩) _).setCell (p := ⟨w.heap.size, 3, none⟩) (.inl ⟨by simp only; omega, by simp only; omega⟩) _).setCell (p := ⟨w.heap.size, 4, none⟩) (.inl ⟨by simp only; omega, by simp only; omega⟩) _).setCell (p := ⟨w.heap.size, 5, none⟩) (.inl ⟨by simp only; omega, by simp only; omega⟩) _
  have e0 : wz.heap[w.heap.size]? = some (.cells #[.int .i64 m.c, .int .i64 m.d, .int .i64 m.s, .int .i64 m.a, .int .i64 m.l, .slice T t.length cT] 28 (0, 0)) := by rw [hwz]; simp [World.setCell, Array.getElem?_modify, lb0]
  refine bodyPost_ret (results_cell_row rfl _ _ (w.heap.size) 28 #[.int .i64 m.c, .int .i64 m.d, .int .i64 m.s, .int .i64 m.a, .int .i64 m.l, .slice T t.length cT] (0, 0) _ (by rfl) e0 Tryz.underlying28 rfl (by kernel_rfl)) rfl ?_
  have hdz := HD3.out
  have kt : KeepF (fun x => w.heap.size ≤ x) w wz := ((KeepF.ofBelow (F := fun x => w.heap.size ≤ x) (HB1.out.mono (Nat.le_refl _))).trans (hdz.keep.mono fun x e => by omega) (fun _ _ e => e)).trans (kz.mono fun x e => e.1) (fun _ _ e => e)
  exact ⟨m, T, t, cT, rfl, (HLT.out.keepB kz (fun x e => by omega)).rii, kt.toBelow (Nat.le_refl _) (fun x hx e => by omega)⟩

end Go.Proofs.YtdedajohkdbdkaaGreatDoor
