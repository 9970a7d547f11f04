/- Draws of systems that the statements call, on l15Draw. -/
import Derived.Test.YtdedajohkdbdkaaGreatDrSys3
import Derived.Laws.BitsLemmas
namespace Go.Proofs.YtdedajohkdbdkaaGreat
set_option linter.unusedVariables false
open Go.RowKit
/-- a drawn system with cuts; with numbers; with a list -/
def DrSC (w : World) (e : Ending) (w' : World) : Prop :=
  ∃ (m : Mk) (T : Option Addr) (t : List (List Int)) (cT : Nat) (K : Option Addr) (q : Nat) (cs : List (List Int)), e = .returned (.tuple #[.agg #[.int .i64 m.c, .int .i64 m.d, .int .i64 m.s, .int .i64 m.a, .int .i64 m.l, .slice T t.length cT], .slice K cs.length q]) ∧ t.length ≤ 20 ∧ cs.length ≤ q ∧ cs.length ≤ 20 ∧ RII w' T t ∧ RII w' K cs ∧ Below w.heap.size w w'
def DrSCn (w : World) (e : Ending) (w' : World) : Prop :=
  ∃ (m : Mk) (T : Option Addr) (t : List (List Int)) (cT : Nat) (K : Option Addr) (q : Nat) (cs : List (List Int)) (n : Int), e = .returned (.tuple #[.agg #[.int .i64 m.c, .int .i64 m.d, .int .i64 m.s, .int .i64 m.a, .int .i64 m.l, .slice T t.length cT], .slice K cs.length q, .int .i64 n]) ∧ t.length ≤ 20 ∧ cs.length ≤ q ∧ cs.length ≤ 20 ∧ RII w' T t ∧ RII w' K cs ∧ (-1 ≤ n ∧ n ≤ 1001) ∧ Below w.heap.size w w'
def DrSCnn (w : World) (e : Ending) (w' : World) : Prop :=
  ∃ (m : Mk) (T : Option Addr) (t : List (List Int)) (cT : Nat) (K : Option Addr) (q : Nat) (cs : List (List Int)) (n k : Int), e = .returned (.tuple #[.agg #[.int .i64 m.c, .int .i64 m.d, .int .i64 m.s, .int .i64 m.a, .int .i64 m.l, .slice T t.length cT], .slice K cs.length q, .int .i64 n, .int .i64 k]) ∧ t.length ≤ 20 ∧ cs.length ≤ q ∧ cs.length ≤ 20 ∧ RII w' T t ∧ RII w' K cs ∧ (-1 ≤ n ∧ n ≤ 1001) ∧ (-1 ≤ k ∧ k ≤ 1001) ∧ Below w.heap.size w w'
def DrSCk (w : World) (e : Ending) (w' : World) : Prop :=
  ∃ (m : Mk) (T : Option Addr) (t : List (List Int)) (cT : Nat) (K : Option Addr) (q : Nat) (cs : List (List Int)) (Y : Option Addr) (qy : Nat) (ys : List Int), e = .returned (.tuple #[.agg #[.int .i64 m.c, .int .i64 m.d, .int .i64 m.s, .int .i64 m.a, .int .i64 m.l, .slice T t.length cT], .slice K cs.length q, .slice Y ys.length qy]) ∧ t.length ≤ 20 ∧ cs.length ≤ q ∧ cs.length ≤ 20 ∧ RII w' T t ∧ RII w' K cs ∧ RI w' Y ys ∧ ys.length ≤ qy ∧ Below w.heap.size w w'
theorem wrap_sm {x : Int} (h0 : -1000000 ≤ x) (h1 : x ≤ 1000000) : IntKind.i64.wrap x = x := by rw [IntKind.wrap_i64]; omega
theorem quo19 {x : Int} (h0 : 0 ≤ x) (h1 : x < 20 ∨ x = 0) : 0 ≤ x.tdiv 19 ∧ x.tdiv 19 ≤ 1 := by
  rw [Int.tdiv_eq_ediv_of_nonneg h0]; omega


set_option maxRecDepth 100000 in
set_option maxHeartbeats 8000000 in
theorem drawMirror_any (A : Option Addr) (c : Nat) (bs : List Int) (w : World) (h : RCode w A bs) : Calls Tryz.prog 17 #[.slice A bs.length c] w (DrSC w) := by
  obtain ⟨w0, hw0⟩ : ∃ w0, w0 = w.alloc (.cells #[.int .i64 0, .int .i64 0, .int .i64 0, .int .i64 0, .int .i64 0, .slice none 0 0] 45) := ⟨_, rfl⟩
  have hz0 : w0.heap.size = w.heap.size + 1 := by rw [hw0]; simp
  have B0 : Below w.heap.size w w0 := by rw [hw0]; exact (Below.refl _ _).alloc (Nat.le_refl _) _
  have HR0 := Lib.hid (show w0.heap[w.heap.size]? = some (.cells #[.int .i64 0, .int .i64 0, .int .i64 0, .int .i64 0, .int .i64 0, .slice none 0 0] 45 (0, 0)) by
    have h1 := heap_alloc_new w (.cells #[.int .i64 0, .int .i64 0, .int .i64 0, .int .i64 0, .int .i64 0, .slice none 0 0] 45)
    rw [hw0]; simpa using h1)
  have hw00 := hz0
  have HF := Lib.hid (l01From_any A c bs w0 (RV.below h.1 B0) h.2)
  have HB0 := Lib.hid B0
  clear h B0
  go_enter Tryz.func17, Tryz.ntmps17
  go_wp2_with fail
  rw [← hw0]
  clear hw0
  refine HF.out.mono ?_
  rintro e w1 ⟨rfl, hS, hb1, hz1⟩
  obtain ⟨S, hSe⟩ : ∃ S, S = w0.heap.size := ⟨_, rfl⟩
  rw [← hSe] at hS hz1 ⊢
  have hSw : w.heap.size + 1 = S := by omega
  have hs1 : S < w1.heap.size := by omega
  have HB1 := Lib.hid (HB0.out.trans (hb1.mono (by omega)))
  have HK1 := Lib.hid (KeepF.ofBelow (F := fun x => x = S) hb1)
  have HDR := Lib.hid (l15Draw_any S A c bs w1 hS)
  clear hS hb1 hSe hz1 hw00 HF
  go_wp2_with fail
  refine HDR.out.mono ?_
  rintro e w2 ⟨m, T, t, cT, K, q, cs, rfl, hm, ht, hq, hc, hT, hK, hd2⟩
  have hs2 := hd2.size
  have HMD := Lib.hid hm; have HQ := Lib.hid hq; have HC := Lib.hid hc; have HTL := Lib.hid ht
  have HLT := Lib.hid hT; have HLK := Lib.hid hK; have HD2 := Lib.hid hd2
  have hk2 := HK1.out.trans hd2.keep (fun _ _ e => e)
  have lb0 := (hk2.block (w.heap.size) (by omega) (by omega)).trans HR0.out
  have n0_0 := boxC_of_heap lb0 0 _ rfl
  have n0_1 := boxC_of_heap lb0 1 _ rfl
  have n0_2 := boxC_of_heap lb0 2 _ rfl
  have n0_3 := boxC_of_heap lb0 3 _ rfl
  have n0_4 := boxC_of_heap lb0 4 _ rfl
  have n0_5 := boxC_of_heap lb0 5 _ rfl
  have fr0 := frozen_of_heap lb0
  have f0_0 := fr0 0
  have f0_1 := fr0 1
  have f0_2 := fr0 2
  have f0_3 := fr0 3
  have f0_4 := fr0 4
  have f0_5 := fr0 5
  have HLB0 := Lib.hid lb0
  clear lb0 fr0 hk2 hq hc ht hT hK hd2 hm HDR
  go_wp2_with fail
  have lb0 := HLB0.out
  obtain ⟨wz, hwz⟩ : ∃ wz, wz = (((((w2.setCell ⟨w.heap.size, 0, none⟩ (.int .i64 m.c)).setCell ⟨w.heap.size, 1, none⟩ (.int .i64 m.d)).setCell ⟨w.heap.size, 2, none⟩ (.int .i64 m.s)).setCell ⟨w.heap.size, 3, none⟩ (.int .i64 m.a)).setCell ⟨w.heap.size, 4, none⟩ (.int .i64 m.l)).setCell ⟨w.heap.size, 5, none⟩ (.slice T t.length cT) := ⟨_, rfl⟩
  rw [← hwz]
  have kz : KeepF (fun x => w.heap.size ≤ x ∧ x < w.heap.size + 1) w2 wz := by rw [hwz]; exact ((((((KeepF.refl (fun x => w.heap.size ≤ x ∧ x < w.heap.size + 1) w2).setCell (p := ⟨w.heap.size, 0, none⟩) (.inl ⟨by simp only; omega, by simp only; omega⟩) _).setCell (p := ⟨w.heap.size, 1, none⟩) (.inl ⟨by simp only; omega, by simp only; omega⟩) _).setCell (p := ⟨w.heap.size, 2, none⟩) (.inl ⟨by simp only; omega, by simp only; omega⟩) _).setCell (p := ⟨w.heap.size, 3, none⟩) (.inl ⟨by simp only; omega, by simp only; omega⟩) _).setCell (p := ⟨w.heap.size, 4, none⟩) (.inl ⟨by simp only; omega, by simp only; omega⟩) _).setCell (p := ⟨w.heap.size, 5, none⟩) (.inl ⟨by simp only; omega, by simp only; omega⟩) _
  have e0 : wz.heap[w.heap.size]? = some (.cells #[.int .i64 m.c, .int .i64 m.d, .int .i64 m.s, .int .i64 m.a, .int .i64 m.l, .slice T t.length cT] 45 (0, 0)) := by rw [hwz]; simp [World.setCell, Array.getElem?_modify, lb0]
  refine bodyPost_ret (results_one1 rfl _ _ (w.heap.size) 45 #[.int .i64 m.c, .int .i64 m.d, .int .i64 m.s, .int .i64 m.a, .int .i64 m.l, .slice T t.length cT] (0, 0) _ (by rfl) e0 Tryz.underlying45 rfl (by kernel_rfl)) rfl ?_
  have hdz := HD2.out
  have kt : KeepF (fun x => w.heap.size ≤ x) w wz := ((KeepF.ofBelow (F := fun x => w.heap.size ≤ x) (HB1.out.mono (Nat.le_refl _))).trans (hdz.keep.mono fun x e => by omega) (fun _ _ e => e)).trans (kz.mono fun x e => e.1) (fun _ _ e => e)
  exact ⟨m, T, t, cT, K, q, cs, rfl, HTL.out, HQ.out, by have := HC.out; omega, (HLT.out.keepB kz (fun x e => by omega)).rii, (HLK.out.keepB kz (fun x e => by omega)).rii, kt.toBelow (Nat.le_refl _) (fun x hx e => by omega)⟩



set_option maxRecDepth 100000 in
set_option maxHeartbeats 8000000 in
theorem drawSwap_any (A : Option Addr) (c : Nat) (bs : List Int) (w : World) (h : RCode w A bs) : Calls Tryz.prog 20 #[.slice A bs.length c] w (DrSCnn w) := by
  obtain ⟨w0, hw0⟩ : ∃ w0, w0 = w.alloc (.cells #[.int .i64 0, .int .i64 0, .int .i64 0, .int .i64 0, .int .i64 0, .slice none 0 0] 45) := ⟨_, rfl⟩
  have hz0 : w0.heap.size = w.heap.size + 1 := by rw [hw0]; simp
  have B0 : Below w.heap.size w w0 := by rw [hw0]; exact (Below.refl _ _).alloc (Nat.le_refl _) _
  have HR0 := Lib.hid (show w0.heap[w.heap.size]? = some (.cells #[.int .i64 0, .int .i64 0, .int .i64 0, .int .i64 0, .int .i64 0, .slice none 0 0] 45 (0, 0)) by
    have h1 := heap_alloc_new w (.cells #[.int .i64 0, .int .i64 0, .int .i64 0, .int .i64 0, .int .i64 0, .slice none 0 0] 45)
    rw [hw0]; simpa using h1)
  have hw00 := hz0
  have HF := Lib.hid (l01From_any A c bs w0 (RV.below h.1 B0) h.2)
  have HB0 := Lib.hid B0
  clear h B0
  go_enter Tryz.func20, Tryz.ntmps20
  go_wp2_with fail
  rw [← hw0]
  clear hw0
  refine HF.out.mono ?_
  rintro e w1 ⟨rfl, hS, hb1, hz1⟩
  obtain ⟨S, hSe⟩ : ∃ S, S = w0.heap.size := ⟨_, rfl⟩
  rw [← hSe] at hS hz1 ⊢
  have hSw : w.heap.size + 1 = S := by omega
  have hs1 : S < w1.heap.size := by omega
  have HB1 := Lib.hid (HB0.out.trans (hb1.mono (by omega)))
  have HK1 := Lib.hid (KeepF.ofBelow (F := fun x => x = S) hb1)
  have HDR := Lib.hid (l15Draw_any S A c bs w1 hS)
  clear hS hb1 hSe hz1 hw00 HF
  go_wp2_with fail
  refine HDR.out.mono ?_
  rintro e w2 ⟨m, T, t, cT, K, q, cs, rfl, hm, ht, hq, hc, hT, hK, hd2⟩
  have hs2 := hd2.size
  have HMD := Lib.hid hm; have HQ := Lib.hid hq; have HC := Lib.hid hc; have HTL := Lib.hid ht
  obtain ⟨w3, hwb⟩ : ∃ wb, wb = w2.alloc (.cells #[.int .i64 m.c, .int .i64 m.d, .int .i64 m.s, .int .i64 m.a, .int .i64 m.l, .slice T t.length cT] 45) := ⟨_, rfl⟩
  have hbb : Below w2.heap.size w2 w3 := by rw [hwb]; exact (Below.refl _ _).alloc (Nat.le_refl _) _
  have hs3 : w2.heap.size < w3.heap.size := by rw [hwb]; simp
  have HBX := Lib.hid (show BoxC w3 w2.heap.size 0 [.int .i64 m.c, .int .i64 m.d, .int .i64 m.s, .int .i64 m.a, .int .i64 m.l, .slice T t.length cT] by rw [hwb]; exact BoxC.new [.int .i64 m.c, .int .i64 m.d, .int .i64 m.s, .int .i64 m.a, .int .i64 m.l, .slice T t.length cT] rfl)
  have HLT := Lib.hid (hT.below hbb); have HLK := Lib.hid (hK.below hbb)
  have HD3 := Lib.hid (hd2.below hbb)
  clear hm hq hc ht hT hK hd2 hbb HDR
  have HKY := Lib.hid (l11DrawKey_any S A c bs T cT t.length w3 HD3.out.src (by have := HTL.out; omega))
  go_wp2_with fail
  rw [← hwb]
  clear hwb
  refine HKY.out.mono ?_
  rintro e w4 ⟨n, rfl, hn, hd4⟩
  have HN := Lib.hid hn
  have HD4 := Lib.hid (HD3.out.trans hd4)
  have HD34 := Lib.hid hd4
  have hs4 := hd4.size
  clear hn hd4 HKY
  have KS := Lib.hid (show ∀ w' : World, KeepF (fun x => x = S ∨ (w.heap.size ≤ x ∧ x < w.heap.size + 1)) w4 w' → (w'.cell? ⟨w2.heap.size, 0, none⟩ = some (.int .i64 m.c) ∧ w'.cell? ⟨w2.heap.size, 1, none⟩ = some (.int .i64 m.d) ∧ w'.cell? ⟨w2.heap.size, 2, none⟩ = some (.int .i64 m.s) ∧ w'.cell? ⟨w2.heap.size, 3, none⟩ = some (.int .i64 m.a) ∧ w'.cell? ⟨w2.heap.size, 4, none⟩ = some (.int .i64 m.l) ∧ w'.cell? ⟨w2.heap.size, 5, none⟩ = some (.slice T t.length cT)) from fun w' hw => by
    have hb0 := HBX.out.dr (by omega) (by omega) HD34.out
    obtain ⟨z0_0, z0_1, z0_2, z0_3, z0_4, z0_5, _⟩ := hb0.keepF hw (World.block_lt_of_cell? _ _ hb0.1) (by omega)
    exact ⟨z0_0, z0_1, z0_2, z0_3, z0_4, z0_5⟩)
  go_wp2_with fail
  refine wp_region_held_drew (S := (fun w' => w'.cell? ⟨w2.heap.size, 0, none⟩ = some (.int .i64 m.c) ∧ w'.cell? ⟨w2.heap.size, 1, none⟩ = some (.int .i64 m.d) ∧ w'.cell? ⟨w2.heap.size, 2, none⟩ = some (.int .i64 m.s) ∧ w'.cell? ⟨w2.heap.size, 3, none⟩ = some (.int .i64 m.a) ∧ w'.cell? ⟨w2.heap.size, 4, none⟩ = some (.int .i64 m.l) ∧ w'.cell? ⟨w2.heap.size, 5, none⟩ = some (.slice T t.length cT))) (by kernel_rfl) (KS.out _ (KeepF.ofBelow (belowDrew0 _))) (fun hHeld => ?_)
  refine takeD (i := 0) (some 21) (.agg #[.int .i64 m.c, .int .i64 m.d, .int .i64 m.s, .int .i64 m.a, .int .i64 m.l, .slice T t.length cT]) rfl (by kernel_rfl) (by kernel_rfl) (by kernel_rfl) (by kernel_rfl) (fun _ _ _ h => h) (by assumption) (Or.inl ⟨by rfl, fun w hSw => by (try dsimp only at hSw); go_simp⟩) ?_
  simp only [Act.put, List.setIfInBounds_toArray, List.set_cons_zero, List.set_cons_succ]
  refine takeD (i := 1) (some 22) (.slice K cs.length q) rfl (by kernel_rfl) (by kernel_rfl) (by kernel_rfl) (by kernel_rfl) (fun _ _ _ h => h) (by assumption) (Or.inl ⟨by rfl, fun w hSw => by (try dsimp only at hSw); go_simp⟩) ?_
  simp only [Act.put, List.setIfInBounds_toArray, List.set_cons_zero, List.set_cons_succ]
  refine takeD (i := 2) (some 23) (.int .i64 n) rfl (by kernel_rfl) (by kernel_rfl) (by kernel_rfl) (by kernel_rfl) (fun _ _ _ h => h) (by assumption) (Or.inl ⟨by rfl, fun w hSw => by (try dsimp only at hSw); go_simp⟩) ?_
  simp only [Act.put, List.setIfInBounds_toArray, List.set_cons_zero, List.set_cons_succ]
  refine takeD (i := 3) (some 24) (.pointer (some ⟨S, 0, none⟩)) rfl (by kernel_rfl) (by kernel_rfl) (by kernel_rfl) (by kernel_rfl) (fun _ _ _ h => h) (by assumption) (Or.inl ⟨by rfl, fun w hSw => by (try dsimp only at hSw); go_simp⟩) ?_
  simp only [Act.put, List.setIfInBounds_toArray, List.set_cons_zero, List.set_cons_succ]
  refine takeD (i := 4) (some 25) (.pointer (some ⟨w2.heap.size, 5, none⟩)) rfl (by kernel_rfl) (by kernel_rfl) (by kernel_rfl) (by kernel_rfl) (fun _ _ _ h => h) (by assumption) (Or.inl ⟨by rfl, fun w hSw => by (try dsimp only at hSw); go_simp⟩) ?_
  simp only [Act.put, List.setIfInBounds_toArray, List.set_cons_zero, List.set_cons_succ]
  refine takeD (i := 5) (some 26) (.slice T t.length cT) rfl (by kernel_rfl) (by kernel_rfl) (by kernel_rfl) (by kernel_rfl) (fun _ _ _ h => h) (by assumption) (Or.inl ⟨by rfl, fun w hSw => by (try dsimp only at hSw); go_simp⟩) ?_
  simp only [Act.put, List.setIfInBounds_toArray, List.set_cons_zero, List.set_cons_succ]
  refine wpAnyH_ready (rs := [6]) (by kernel_rfl) (by simp) (AllReadyH.cons rfl (fun K hK => ?_) AllReadyH.nil)
  go_simp
  refine (l11DrawKey_any S A c bs T cT t.length w4.drew (HD4.out.drew).src (by have := HTL.out; omega)).mono ?_
  rintro e w5 ⟨k, rfl, hk, hd5⟩
  have HNK := Lib.hid hk
  have E5 := Lib.hid ((Dr.refl HD4.out.src).drew.trans hd5)
  have HKE5 := Lib.hid ((E5.out.keep.mono (fun y (e : y = S) => Or.inl e)) : KeepF (fun x => x = S ∨ (w.heap.size ≤ x ∧ x < w.heap.size + 1)) w4 w5)
  have hs5 := E5.out.size
  clear hk hd5
  have HHeld := KS.out _ (HKE5.out)
  refine hK.out _ _ HHeld (fun _ => ?_)
  clear hK K
  try simp only [Act.put, List.setIfInBounds_toArray, List.set_cons_zero, List.set_cons_succ]
  have lb0 := (((HK1.out.trans HD4.out.keep (fun _ _ e => e)).trans (E5.out.keep) (fun _ _ e => e)).block (w.heap.size) (by omega) (by omega)).trans HR0.out
  have n0_0 := boxC_of_heap lb0 0 _ rfl
  have n0_1 := boxC_of_heap lb0 1 _ rfl
  have n0_2 := boxC_of_heap lb0 2 _ rfl
  have n0_3 := boxC_of_heap lb0 3 _ rfl
  have n0_4 := boxC_of_heap lb0 4 _ rfl
  have n0_5 := boxC_of_heap lb0 5 _ rfl
  have fr0 := frozen_of_heap lb0
  have f0_0 := fr0 0
  have f0_1 := fr0 1
  have f0_2 := fr0 2
  have f0_3 := fr0 3
  have f0_4 := fr0 4
  have f0_5 := fr0 5
  have HLB0 := Lib.hid lb0
  clear lb0 fr0
  refine wpAnyH_ready (rs := [7]) (by kernel_rfl) (by simp) (AllReadyH.cons rfl (fun K hK => ?_) AllReadyH.nil)
  go_simp
  have HHeld := KS.out _ (((E5.out.keep).mono (fun x e => .inl e)).trans (((((((KeepF.refl (fun x => x = S ∨ (w.heap.size ≤ x ∧ x < w.heap.size + 1)) w5).setCell (p := ⟨w.heap.size, 0, none⟩) (.inl (.inr ⟨by simp only; omega, by simp only; omega⟩)) (.int .i64 m.c)).setCell (p := ⟨w.heap.size, 1, none⟩) (.inl (.inr ⟨by simp only; omega, by simp only; omega⟩)) (.int .i64 m.d)).setCell (p := ⟨w.heap.size, 2, none⟩) (.inl (.inr ⟨by simp only; omega, by simp only; omega⟩)) (.int .i64 m.s)).setCell (p := ⟨w.heap.size, 3, none⟩) (.inl (.inr ⟨by simp only; omega, by simp only; omega⟩)) (.int .i64 m.a)).setCell (p := ⟨w.heap.size, 4, none⟩) (.inl (.inr ⟨by simp only; omega, by simp only; omega⟩)) (.int .i64 m.l)).setCell (p := ⟨w.heap.size, 5, none⟩) (.inl (.inr ⟨by simp only; omega, by simp only; omega⟩)) (.slice T t.length cT)) (fun _ _ e => e))
  refine hK.out _ _ HHeld (fun _ => ?_)
  clear hK K
  try simp only [Act.put, List.setIfInBounds_toArray, List.set_cons_zero, List.set_cons_succ]
  refine takeD (i := 8) (some 3) (.slice K cs.length q) rfl (by kernel_rfl) (by kernel_rfl) (by kernel_rfl) (by kernel_rfl) (fun _ _ _ h => h) (by assumption) (Or.inl ⟨by rfl, fun w hSw => by (try dsimp only at hSw); go_simp⟩) ?_
  simp only [Act.put, List.setIfInBounds_toArray, List.set_cons_zero, List.set_cons_succ]
  refine takeD (i := 9) (some 4) (.int .i64 n) rfl (by kernel_rfl) (by kernel_rfl) (by kernel_rfl) (by kernel_rfl) (fun _ _ _ h => h) (by assumption) (Or.inl ⟨by rfl, fun w hSw => by (try dsimp only at hSw); go_simp⟩) ?_
  simp only [Act.put, List.setIfInBounds_toArray, List.set_cons_zero, List.set_cons_succ]
  refine takeD (i := 10) (some 5) (.int .i64 k) rfl (by kernel_rfl) (by kernel_rfl) (by kernel_rfl) (by kernel_rfl) (fun _ _ _ h => h) (by assumption) (Or.inl ⟨by rfl, fun w hSw => by (try dsimp only at hSw); go_simp⟩) ?_
  simp only [Act.put, List.setIfInBounds_toArray, List.set_cons_zero, List.set_cons_succ]
  refine wpAnyH_done (by kernel_rfl) ?_ _
  clear KS
  go_wp2_with fail
  have lb0 := HLB0.out
  obtain ⟨wz, hwz⟩ : ∃ wz, wz = (((((w5.setCell ⟨w.heap.size, 0, none⟩ (.int .i64 m.c)).setCell ⟨w.heap.size, 1, none⟩ (.int .i64 m.d)).setCell ⟨w.heap.size, 2, none⟩ (.int .i64 m.s)).setCell ⟨w.heap.size, 3, none⟩ (.int .i64 m.a)).setCell ⟨w.heap.size, 4, none⟩ (.int .i64 m.l)).setCell ⟨w.heap.size, 5, none⟩ (.slice T t.length cT) := ⟨_, rfl⟩
  rw [← hwz]
  have kz : KeepF (fun x => w.heap.size ≤ x ∧ x < w.heap.size + 1) w5 wz := by rw [hwz]; exact ((((((KeepF.refl (fun x => w.heap.size ≤ x ∧ x < w.heap.size + 1) w5).setCell (p := ⟨w.heap.size, 0, none⟩) (.inl ⟨by simp only; omega, by simp only; omega⟩) _).setCell (p := ⟨w.heap.size, 1, none⟩) (.inl ⟨by simp only; omega, by simp only; omega⟩) _).setCell (p := ⟨w.heap.size, 2, none⟩) (.inl ⟨by simp only; omega, by simp only; omega⟩) _).setCell (p := ⟨w.heap.size, 3, none⟩) (.inl ⟨by simp only; omega, by simp only; omega⟩) _).setCell (p := ⟨w.heap.size, 4, none⟩) (.inl ⟨by simp only; omega, by simp only; omega⟩) _).setCell (p := ⟨w.heap.size, 5, none⟩) (.inl ⟨by simp only; omega, by simp only; omega⟩) _
  have e0 : wz.heap[w.heap.size]? = some (.cells #[.int .i64 m.c, .int .i64 m.d, .int .i64 m.s, .int .i64 m.a, .int .i64 m.l, .slice T t.length cT] 45 (0, 0)) := by rw [hwz]; simp [World.setCell, Array.getElem?_modify, lb0]
  (try simp only [Exit.inBlock, Exit.then])
  refine bodyPost_ret (results_one3 rfl _ _ (w.heap.size) 45 #[.int .i64 m.c, .int .i64 m.d, .int .i64 m.s, .int .i64 m.a, .int .i64 m.l, .slice T t.length cT] (0, 0) _ (by rfl) e0 Tryz.underlying45 rfl (by kernel_rfl)) rfl ?_
  have hdz := HD4.out.trans E5.out
  have kt : KeepF (fun x => w.heap.size ≤ x) w wz := ((KeepF.ofBelow (F := fun x => w.heap.size ≤ x) (HB1.out.mono (Nat.le_refl _))).trans (hdz.keep.mono fun x e => by omega) (fun _ _ e => e)).trans (kz.mono fun x e => e.1) (fun _ _ e => e)
  exact ⟨m, T, t, cT, K, q, cs, n, k, rfl, HTL.out, HQ.out, by have := HC.out; omega, ((HLT.out.dr (by omega) (HD34.out.trans E5.out)).keepB kz (fun x e => by omega)).rii, ((HLK.out.dr (by omega) (HD34.out.trans E5.out)).keepB kz (fun x e => by omega)).rii, HN.out, HNK.out, kt.toBelow (Nat.le_refl _) (fun x hx e => by omega)⟩

end Go.Proofs.YtdedajohkdbdkaaGreat
