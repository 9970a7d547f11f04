/- Contracts of the draws of locks and allowed keys: l14Draw, DrawGhostsOf, DrawHarmlessDepths, DrawTrimLock, DrawIsGhost, DrawNearestGhost. -/
import Derived.Test.YtdedajohkdbdkaaGreatDrLock
import Derived.Test.YtdedajohkdbdkaaGreatFOpeners
import Derived.Test.YtdedajohkdbdkaaGreatPGhost
namespace Go.Proofs.YtdedajohkdbdkaaGreat
set_option linter.unusedVariables false
open Go.RowKit
/-- a list beside a nest in growth -/
theorem RIIn.push {B : Nat} {w w' : World} {v v' : Value} {K : Option Addr} {xss : List (List Int)} {o : Obj} (h : RIIn (fun g => g < B ∨ v.ownBlock = some g) w K xss)
    (hg : (w.alloc o).grownBy w' v.ownBlock) (hat : v'.ownBlock = v.ownBlock ∨ v'.ownBlock = some (w.alloc o).heap.size) : RIIn (fun g => g < B ∨ v'.ownBlock = some g) w' K xss := by
  have k : KeepF (fun g => v.ownBlock = some g) w w' := ((KeepF.refl (fun g => v.ownBlock = some g) w).alloc o).grown hg (fun g e => .inl e)
  have nf : ∀ (Z : Option Addr) (n : Nat), (∀ b o, 0 < n → Z = some ⟨b, o, none⟩ → b < w.heap.size) → NF (fun g => g < B ∨ v.ownBlock = some g) Z n → NF (fun g => g < B ∨ v'.ownBlock = some g) Z n := by
    intro Z n hb hn h0 b o e hf
    rcases hf with hf | hf
    · exact hn h0 b o e (.inl hf)
    · rcases hat with hat | hat
      · exact hn h0 b o e (.inr (hat ▸ hf))
      · rw [hat] at hf; injection hf with hf
        have := hb b o h0 e
        simp at hf; omega
  obtain ⟨us, h1, h2, h3, h4⟩ := h
  refine ⟨us, h1, h2.keepN k (by rw [h1]; exact h3.mono fun g e => .inr e), nf _ _ (fun b o h0 e => rv_block h2 (by omega) e) h3, fun j hj => ?_⟩
  obtain ⟨A', c, a, b, d, e⟩ := h4 j hj
  exact ⟨A', c, a, b, d.keepN k (e.mono fun g e => .inr e), nf _ _ (fun b o h0 e => ri_new d h0 e) e⟩
/-- a row of a list that reads -/
theorem RIIn.at_ {F : Nat → Prop} {w : World} {A : Option Addr} {xss : List (List Int)} (h : RIIn F w A xss) {j : Nat} (hj : j < xss.length) :
    ∃ b o A' c', A = some ⟨b, o, none⟩ ∧ w.cell? ⟨b, o + j, none⟩ = some (.slice A' xss[j].length c') ∧ xss[j].length ≤ c' ∧ RI w A' xss[j] ∧ NF F A' xss[j].length := by
  obtain ⟨us, h1, h2, h3, h4⟩ := h
  obtain ⟨A', c', a, b, d, e⟩ := h4 j hj
  obtain ⟨b', o', e', hc⟩ := h2.at_ (k := j) (by omega)
  refine ⟨b', o', A', c', e', ?_, b, d, e⟩
  rw [hc]
  rw [List.getElem?_eq_getElem (by omega)] at a
  injection a with a; rw [a]
theorem RIIn.hdrs {F : Nat → Prop} {w : World} {A : Option Addr} {xss : List (List Int)} (h : RIIn F w A xss) (h0 : 0 < xss.length) :
    ∃ b o, A = some ⟨b, o, none⟩ ∧ ¬ F b ∧ ∃ f : Nat → Value, (∀ j, j < xss.length → w.cell? ⟨b, o + j, none⟩ = some (f j)) ∧ ∀ j (hj : j < xss.length), ∃ A' c', f j = .slice A' xss[j].length c' ∧ xss[j].length ≤ c' ∧ RI w A' xss[j] ∧ NF F A' xss[j].length := by
  obtain ⟨us, h1, h2, h3, h4⟩ := h
  obtain ⟨b, o, e, hc⟩ := h2.at_ (k := 0) (by omega)
  refine ⟨b, o, e, h3 h0 b o e, fun j => us.getD j .nilFunc, fun j hj => ?_, fun j hj => ?_⟩
  · obtain ⟨b', o', e', hc'⟩ := h2.at_ (k := j) (by omega)
    rw [e] at e'; injection e' with e'; injection e' with e1 e2 _
    subst e1 e2
    rw [hc']; simp [List.getD, List.getElem?_eq_getElem (show j < us.length by omega)]
  · obtain ⟨A', c', a, b', d, e'⟩ := h4 j hj
    exact ⟨A', c', by simp [List.getD, a], b', d, e'⟩
theorem RowsK.mono' {w : World} {K K' : Nat → Prop} {us : List Value} {xss : List (List Int)} (h : RowsK w K us xss) (hK : ∀ b, K b → K' b) : RowsK w K' us xss := ⟨h.1, fun j hj => by
  obtain ⟨A, c, h1, h2, h3, h4⟩ := h.2 j hj
  exact ⟨A, c, h1, h2, h3, fun b o e => ⟨hK b (h4 b o e).1, (h4 b o e).2⟩⟩⟩
/-- a drawn maker, lock and allowed keys -/
def Res14 (S : Nat) (A : Option Addr) (c : Nat) (bs : List Int) (w : World) (e : Ending) (w' : World) : Prop :=
  ∃ (m : Mk) (D : Option Addr) (q : Nat) (l : List (List Int)) (K : Option Addr) (qk : Nat) (al : List (List Int)), e = .returned (.tuple #[.agg #[.int .i64 m.c, .int .i64 m.d, .int .i64 m.s, .int .i64 m.a, .int .i64 m.l], .agg #[.slice D l.length q], .slice K al.length qk]) ∧ MkD m ∧ l.length ≤ q ∧ al.length ≤ qk ∧ RIIb w.heap.size w' D l ∧ RIIb w.heap.size w' K al ∧ Dr S A c bs w w'
/-- the loops of l14Draw: the allowed keys in growth beside the openers -/
structure G14 (S : Nat) (A : Option Addr) (c : Nat) (bs : List Int) (ws : World) (AL : Option Addr) (ls : List (List Int)) (v : Value) (us : List Value) (al : List (List Int)) (wr : World) : Prop where
  nest : NEST ws.heap.size wr v us al
  lst : RIIn (fun g => g < ws.heap.size ∨ v.ownBlock = some g) wr AL ls
  dr : Dr S A c bs ws wr
section
variable {S : Nat} {A : Option Addr} {c : Nat} {bs : List Int} {ws wr w' : World} {AL : Option Addr} {ls : List (List Int)} {v v' : Value} {us : List Value} {al : List (List Int)}
theorem G14.draw (h : G14 S A c bs ws AL ls v us al wr) (d : Dr S A c bs wr w') : G14 S A c bs ws AL ls v us al w' :=
  ⟨h.nest.dr h.dr.xl d, h.lst.keepF (d.keep.mono fun g e => .inl (by have := h.dr.xl; omega)), h.dr.trans d⟩
theorem G14.below (h : G14 S A c bs ws AL ls v us al wr) (hb : Below wr.heap.size wr w') : G14 S A c bs ws AL ls v us al w' := h.draw ((Dr.refl h.dr.src).below hb)
theorem G14.push (h : G14 S A c bs ws AL ls v us al wr) {K : Option Addr} {q : Nat} {ys : List Int} {o : Obj} (hq : ys.length ≤ q) (hr : RI wr K ys) (hn : NF (fun g => g < ws.heap.size ∨ v.ownBlock = some g) K ys.length)
    (ho : OV w' ws.heap.size 33 v' (us ++ [.slice K ys.length q])) (hg : (wr.alloc o).grownBy w' v.ownBlock) (hat : v'.ownBlock = v.ownBlock ∨ v'.ownBlock = some (wr.alloc o).heap.size) :
    G14 S A c bs ws AL ls v' (us ++ [.slice K ys.length q]) (al ++ [ys]) w' :=
  ⟨h.nest.push hq hr hn ho hg hat, h.lst.push hg hat, h.dr.app h.nest.own (Nat.le_refl _) hg⟩
theorem G14.new (h : G14 S A c bs ws AL ls v us al wr) {K : Option Addr} {n : Nat} (hk : NF (fun g => g < wr.heap.size) K n) : NF (fun g => g < ws.heap.size ∨ v.ownBlock = some g) K n :=
  hk.mono fun g e => by
    rcases e with e | e
    · have := h.dr.size; omega
    · exact (h.nest.own.lt g e).2
theorem G14.len (h : G14 S A c bs ws AL ls v us al wr) : us.length = al.length := h.nest.len
end
set_option maxRecDepth 100000 in
set_option maxHeartbeats 16000000 in
theorem l14Draw_any (S : Nat) (A : Option Addr) (c : Nat) (bs : List Int) (w : World) (h : Src S A c bs w) :
    Calls Tryz.prog 42 #[.pointer (some ⟨S, 0, none⟩)] w (Res14 S A c bs w) := by
  obtain ⟨w0, hw0⟩ : ∃ w0, w0 = (w.alloc (.cells #[.int .i64 0, .int .i64 0, .int .i64 0, .int .i64 0, .int .i64 0] 25)).alloc (.cells #[.slice none 0 0] 28) := ⟨_, rfl⟩
  have hz0 : w0.heap.size = w.heap.size + 2 := by rw [hw0]; simp
  have HBK0 := Lib.hid (show w0.heap[w.heap.size]? = some (.cells #[.int .i64 0, .int .i64 0, .int .i64 0, .int .i64 0, .int .i64 0] 25 (0, 0)) by
    have h1 := heap_alloc_new w (.cells #[.int .i64 0, .int .i64 0, .int .i64 0, .int .i64 0, .int .i64 0] 25)
    have h2 := ((Below.refl (w.heap.size + 1) (w.alloc (.cells #[.int .i64 0, .int .i64 0, .int .i64 0, .int .i64 0, .int .i64 0] 25))).alloc (by simp) (.cells #[.slice none 0 0] 28)).block w.heap.size (by omega)
    rw [hw0]; exact h2.trans h1)
  have HBK1 := Lib.hid (show w0.heap[w.heap.size + 1]? = some (.cells #[.slice none 0 0] 28 (0, 0)) by
    have := heap_alloc_new (w.alloc (.cells #[.int .i64 0, .int .i64 0, .int .i64 0, .int .i64 0, .int .i64 0] 25)) (.cells #[.slice none 0 0] 28)
    rw [hw0]; simpa using this)
  have HD0 := Lib.hid (show Dr S A c bs w w0 by rw [hw0]; exact ((Dr.refl h).alloc _).alloc _)
  have hSl : S < w.heap.size := h.xl
  have HN0 := Lib.hid (l04Draw_any S A c bs w0 HD0.out.src)
  clear h
  go_enter Tryz.func42, Tryz.ntmps42
  go_wp2_with fail
  rw [← hw0]
  clear hw0
  refine HN0.out.mono ?_
  rintro e w1 ⟨m, D, q, l, rfl, hm, hq, hl7, hr1, hd1⟩
  obtain ⟨w2, hwb⟩ : ∃ wb, wb = (w1.alloc (.cells #[.int .i64 m.c, .int .i64 m.d, .int .i64 m.s, .int .i64 m.a, .int .i64 m.l] 25)).alloc (.cells #[.slice D l.length q] 28) := ⟨_, rfl⟩
  have hbb : Below w1.heap.size w1 w2 := by rw [hwb]; exact ((Below.refl _ _).alloc (Nat.le_refl _) _).alloc (by simp only [World.size_alloc]; omega) _
  have hzb : w2.heap.size = w1.heap.size + 2 := by rw [hwb]; simp
  have HBX := Lib.hid (show BoxC w2 w1.heap.size 0 (mkCells m) by rw [hwb]; exact (BoxC.new (mkCells m) rfl).below ((Below.refl _ _).alloc (Nat.le_refl _) _))
  have HLX := Lib.hid (show BoxC w2 (w1.heap.size + 1) 0 [.slice D l.length q] by rw [hwb]; exact BoxC.new (w := w1.alloc (.cells #[.int .i64 m.c, .int .i64 m.d, .int .i64 m.s, .int .i64 m.a, .int .i64 m.l] 25)) [.slice D l.length q] (by simp))
  have hs1 := hd1.size
  have HMD := Lib.hid hm; have HQL := Lib.hid hq
  have HR2 := Lib.hid (hr1.below hbb)
  have HD2 := Lib.hid (hd1.below hbb)
  have HI := Lib.hid (specIsLock_any m D q l (w2.alloc (.cells #[] 33)) (hr1.below hbb |>.below ((Below.refl _ _).alloc (Nat.le_refl _) _)).rii)
  clear hm hq hr1 hd1 hbb HN0
  have hlw : w1.heap.size < w1.heap.size + 1 + 1 := by omega
  go_wp2_with fail
  rw [← hwb]
  clear hwb hlw
  have hzc : w2.heap.size = w1.heap.size + 1 + 1 := hzb
  refine HI.out.mono ?_
  rintro e w3 ⟨rfl, hb3⟩
  have HD3 := Lib.hid (((Dr.refl HD2.out.src).alloc (.cells #[] 33)).below hb3)
  have hs3 := hb3.size
  simp only [World.size_alloc] at hs3
  have HN3 := Lib.hid (show NEST w2.heap.size w3 (.slice (some ⟨w1.heap.size + 1 + 1, 0, none⟩) 0 0) [] [] by rw [← hzc]; exact (NEST.new0 (w := w2) (B := w2.heap.size) (Nat.le_refl _)).below hb3)
  clear hb3
  cases hlk : isLockF m l with
  | false =>
    have HG := Lib.hid (show G14 S A c bs w2 none [] (.slice (some ⟨w1.heap.size + 1 + 1, 0, none⟩) 0 0) [] [] w3 from ⟨HN3.out, ⟨[], rfl, ⟨by simp, fun h => absurd rfl h⟩, fun h0 => by simp at h0, fun j hj => by simp at hj⟩, HD3.out⟩)
    have hr9 := HG.out.nest.riib'.2.2
    have HR9 := Lib.hid hr9
    have HKK := Lib.hid (show KeepF (fun x => x = S) w0 w3 from HD2.out.keep.trans HD3.out.keep (fun _ _ e => e))
    have HXW := Lib.hid (HBX.out.dr (by omega) (by omega) HD3.out)
    have HLW := Lib.hid (HLX.out.dr (by omega) (by omega) HD3.out)
    have HLR := Lib.hid (HR2.out.dr (show S < w0.heap.size by omega) HD3.out)
    clear hr9
    have hk0 := HKK.out.block w.heap.size (by omega) (by omega)
    have hk0x := HKK.out.block (w.heap.size + 1) (by omega) (by omega)
    have lb0 := hk0.trans HBK0.out
    have lb1 := hk0x.trans HBK1.out
    have n0 := boxC_of_heap lb0 0 _ rfl
    have n1 := boxC_of_heap lb0 1 _ rfl
    have n2 := boxC_of_heap lb0 2 _ rfl
    have n3 := boxC_of_heap lb0 3 _ rfl
    have n4 := boxC_of_heap lb0 4 _ rfl
    have n5 := boxC_of_heap lb1 0 _ rfl
    have m0 := frozen_of_heap lb0
    have l0 := m0 0; have l1 := m0 1; have l2 := m0 2; have l3 := m0 3; have l4 := m0 4
    have l5 := frozen_of_heap lb1 0
    have HL0 := Lib.hid lb0; have HL1 := Lib.hid lb1
    clear lb0 lb1 m0 hk0 hk0x
    have KS := Lib.hid (show ∀ w' : World, KeepF (fun x => x = w.heap.size ∨ x = w.heap.size + 1) w3 w' → (w'.cell? ⟨w1.heap.size, 0, none⟩ = some (.int .i64 m.c) ∧ w'.cell? ⟨w1.heap.size, 1, none⟩ = some (.int .i64 m.d) ∧ w'.cell? ⟨w1.heap.size, 2, none⟩ = some (.int .i64 m.s) ∧ w'.cell? ⟨w1.heap.size, 3, none⟩ = some (.int .i64 m.a) ∧ w'.cell? ⟨w1.heap.size, 4, none⟩ = some (.int .i64 m.l) ∧ w'.cell? ⟨w1.heap.size + 1, 0, none⟩ = some (.slice D l.length q)) from fun w' hw => by
      obtain ⟨x0, x1, x2, x3, x4, _⟩ := HXW.out.keepF hw (World.block_lt_of_cell? _ _ HXW.out.1) (by omega)
      exact ⟨x0, x1, x2, x3, x4, (HLW.out.keepF hw (World.block_lt_of_cell? _ _ HLW.out.1) (by omega)).1⟩)
    go_wp2_with fail
    refine wp_region_held_drew (S := (fun w' => w'.cell? ⟨w1.heap.size, 0, none⟩ = some (.int .i64 m.c) ∧ w'.cell? ⟨w1.heap.size, 1, none⟩ = some (.int .i64 m.d) ∧ w'.cell? ⟨w1.heap.size, 2, none⟩ = some (.int .i64 m.s) ∧ w'.cell? ⟨w1.heap.size, 3, none⟩ = some (.int .i64 m.a) ∧ w'.cell? ⟨w1.heap.size, 4, none⟩ = some (.int .i64 m.l) ∧ w'.cell? ⟨w1.heap.size + 1, 0, none⟩ = some (.slice D l.length q))) (by kernel_rfl) (KS.out _ (KeepF.ofBelow (belowDrew0 _))) (fun hHeld => ?_)
    refine takeD (i := 0) (some 20) (.agg #[.int .i64 m.c, .int .i64 m.d, .int .i64 m.s, .int .i64 m.a, .int .i64 m.l]) rfl (by kernel_rfl) (by kernel_rfl) (by kernel_rfl) (by kernel_rfl) (fun _ _ _ h => h) (by assumption) (Or.inl ⟨by rfl, fun w hSw => by (try dsimp only at hSw); go_simp⟩) ?_
    simp only [Act.put, List.setIfInBounds_toArray, List.set_cons_zero, List.set_cons_succ]
    refine takeD (i := 1) (some 21) (.agg #[.slice D l.length q]) rfl (by kernel_rfl) (by kernel_rfl) (by kernel_rfl) (by kernel_rfl) (fun _ _ _ h => h) (by assumption) (Or.inl ⟨by rfl, fun w hSw => by (try dsimp only at hSw); go_simp⟩) ?_
    simp only [Act.put, List.setIfInBounds_toArray, List.set_cons_zero, List.set_cons_succ]
    refine takeD (i := 2) (some 22) (.slice (some ⟨w1.heap.size + 1 + 1, 0, none⟩) 0 0) rfl (by kernel_rfl) (by kernel_rfl) (by kernel_rfl) (by kernel_rfl) (fun _ _ _ h => h) (by assumption) (Or.inl ⟨by rfl, fun w hSw => by (try dsimp only at hSw); go_simp⟩) ?_
    simp only [Act.put, List.setIfInBounds_toArray, List.set_cons_zero, List.set_cons_succ]
    refine wpAnyH_ready (rs := [3]) (by kernel_rfl) (by simp) (AllReadyH.cons rfl (fun K hK => ?_) AllReadyH.nil)
    go_simp
    have HHeld := KS.out _ (((keep_five w3 w.heap.size (.int .i64 m.c) (.int .i64 m.d) (.int .i64 m.s) (.int .i64 m.a) (.int .i64 m.l)).mono (fun x hx => .inl hx)).trans (KeepF.ofBelow (belowDrew0 _)) (fun _ _ e => e))
    refine hK.out _ _ HHeld (fun _ => ?_)
    clear hK K
    try simp only [Act.put, List.setIfInBounds_toArray, List.set_cons_zero, List.set_cons_succ]
    refine wpAnyH_ready (rs := [4]) (by kernel_rfl) (by simp) (AllReadyH.cons rfl (fun K hK => ?_) AllReadyH.nil)
    go_simp
    have HHeld := KS.out _ ((keep_six w3 w.heap.size (.int .i64 m.c) (.int .i64 m.d) (.int .i64 m.s) (.int .i64 m.a) (.int .i64 m.l) (.slice D l.length q)).trans (KeepF.ofBelow (belowDrew0 _)) (fun _ _ e => e))
    refine hK.out _ _ HHeld (fun _ => ?_)
    clear hK K
    try simp only [Act.put, List.setIfInBounds_toArray, List.set_cons_zero, List.set_cons_succ]
    refine takeD (i := 5) (some 4) (.slice (some ⟨w1.heap.size + 1 + 1, 0, none⟩) 0 0) rfl (by kernel_rfl) (by kernel_rfl) (by kernel_rfl) (by kernel_rfl) (fun _ _ _ h => h) (by assumption) (Or.inl ⟨by rfl, fun w hSw => by (try dsimp only at hSw); go_simp⟩) ?_
    simp only [Act.put, List.setIfInBounds_toArray, List.set_cons_zero, List.set_cons_succ]
    refine wpAnyH_done (by kernel_rfl) ?_ _
    clear KS
    go_wp2_with fail
    have lb0 := HL0.out; have lb1 := HL1.out
    obtain ⟨wz, hwz⟩ : ∃ wz, wz = ((((((w3.setCell ⟨w.heap.size, 0, none⟩ (.int .i64 m.c)).setCell ⟨w.heap.size, 1, none⟩ (.int .i64 m.d)).setCell ⟨w.heap.size, 2, none⟩ (.int .i64 m.s)).setCell ⟨w.heap.size, 3, none⟩ (.int .i64 m.a)).setCell ⟨w.heap.size, 4, none⟩ (.int .i64 m.l)).setCell ⟨w.heap.size + 1, 0, none⟩ (.slice D l.length q)).drew := ⟨_, rfl⟩
    rw [← hwz]
    have kz : KeepF (fun x => x = w.heap.size ∨ x = w.heap.size + 1) w3 wz := by rw [hwz]; exact (keep_six w3 w.heap.size _ _ _ _ _ _).trans (KeepF.ofBelow (belowDrew0 _)) (fun _ _ e => e)
    have e0 : wz.heap[w.heap.size]? = some (.cells #[.int .i64 m.c, .int .i64 m.d, .int .i64 m.s, .int .i64 m.a, .int .i64 m.l] 25 (0, 0)) := by rw [hwz]; simp [World.setCell, World.drew, Array.getElem?_modify, lb0]
    have e1 : wz.heap[w.heap.size + 1]? = some (.cells #[.slice D l.length q] 28 (0, 0)) := by rw [hwz]; simp [World.setCell, World.drew, Array.getElem?_modify, lb1]
    (try simp only [Exit.inBlock, Exit.then])
    refine bodyPost_ret (results_two1 rfl _ _ w.heap.size 25 #[.int .i64 m.c, .int .i64 m.d, .int .i64 m.s, .int .i64 m.a, .int .i64 m.l] (0, 0) _ (by rfl) e0 Tryz.underlying25 rfl (by kernel_rfl) (w.heap.size + 1) 28 #[.slice D l.length q] (0, 0) _ (by rfl) e1 Tryz.underlying28 rfl (by kernel_rfl)) rfl ?_
    exact ⟨m, D, q, l, some ⟨w1.heap.size + 1 + 1, 0, none⟩, 0, [], rfl, HMD.out, HQL.out, Nat.le_refl _, (HLR.out.keepB kz (fun x e => by omega)).mono (fun x e => by omega), (HR9.out.keepB kz (fun x e => by omega)).mono (fun x e => by omega), ((HD0.out.trans HD2.out).trans HD3.out).keepF kz (fun x e => by omega)⟩
  | true =>
    have hmk := isLock_mk hlk
    have hmb := mk_bounds hmk
    have hln := isLock_len hlk
    obtain ⟨ls, hls⟩ : ∃ ls, ls = openF m l m.c.toNat [] 30 := ⟨_, rfl⟩
    have hll : ls.length ≤ 30 := by have := openF_len m l (lock_inc hlk) m.c.toNat [] 30; rw [hls]; exact this
    have HO := Lib.hid (show Calls Tryz.prog 96 _ w3 (ResK w3 _ ls) by rw [hls]; exact l04Openers_go m hmk l hln (lock_inc hlk) m.c.toNat [] 30 D q none 0 w3 (HR2.out.dr (show S < w0.heap.size by omega) HD3.out).rii RI.nil (Nat.le_refl _) (by simp; omega) rfl (by omega) (by omega))
    have HMK := Lib.hid hmk
    obtain ⟨x0, x1, x2, x3, x4, _⟩ := HBX.out.dr (by omega) (by omega) HD3.out
    obtain ⟨y0, _⟩ := HLX.out.dr (by omega) (by omega) HD3.out
    simp only [Nat.zero_add] at x1 x2 x3 x4
    clear hmk hmb hln hls
    go_wp2_with fail
    clear x0 x1 x2 x3 x4 y0
    refine HO.out.mono ?_
    rintro e w4 ⟨AL, qL, us4, rfl, hqL, hr4, hk4, hb4, na4⟩
    have hs4 := hb4.size
    have HLS := Lib.hid (show RIIn (fun g => g < w2.heap.size ∨ (Value.slice (some ⟨w1.heap.size + 1 + 1, 0, none⟩) 0 0).ownBlock = some g) w4 AL ls from
      (RowsK.riib hr4 (hk4.mono' fun b hb => by rcases hb with hb | ⟨o, e⟩; exact hb; cases e) na4).mono fun g e => by
        rcases e with e | e
        · omega
        · have e2 : some (w1.heap.size + 1 + 1) = some g := e
          injection e2 with e2; omega)
    have HG4 := Lib.hid (show G14 S A c bs w2 AL ls (.slice (some ⟨w1.heap.size + 1 + 1, 0, none⟩) 0 0) [] [] w4 from ⟨HN3.out.below hb4, HLS.out, HD3.out.below hb4⟩)
    have HX := Lib.hid (l01Next_dr HG4.out.dr.src 4)
    clear hr4 hk4 hb4 na4 HLS
    go_wp2_with fail
    refine HX.out.mono ?_
    rintro e w5 ⟨k0, rfl, k00, k01, hd5, -⟩
    have HG5 := Lib.hid (HG4.out.draw hd5)
    have kb : k0 < 4 := by omega
    clear hd5 k01
    go_wp2_with fail
    go_loopw [7, 9] (fun v n wr => ∃ (k : Int) (us : List Value) (al : List (List Int)), n = .int .i64 k ∧ 0 ≤ k ∧ k + al.length ≤ 3 ∧ G14 S A c bs w2 AL ls v us al wr) (fun _ n _ => (intOf n).toNat)
    case atStart => exact ⟨k0, [], [], rfl, k00, by simp; omega, HG5.out⟩
    case round =>
      obtain ⟨k, us, al, rfl, hk0, hk3, hG⟩ := hrel
      have HG := Lib.hid hG
      have HXW := Lib.hid (HBX.out.dr (by omega) (by omega) hG.dr)
      clear hG
      by_cases hlt : k > 0
      · have hlt' : 0 < k := hlt
        by_cases h0 : 0 < ls.length
        · have h0' : (0 : Int) < (ls.length : Int) := by omega
          have hne : ls ≠ [] := by rintro rfl; simp at h0
          have HN := Lib.hid (l01Next_dr HG.out.dr.src 4)
          go_wp2_with fail
          refine HN.out.mono ?_
          rintro e w6 ⟨r, rfl, r0, r1, hd6, -⟩
          have HG6 := Lib.hid (HG.out.draw hd6)
          have HXW6 := Lib.hid (HBX.out.dr (by omega) (by omega) HG6.out.dr)
          clear hd6 r1
          by_cases hr : r > 0
          · have hr' : 0 < r := hr
            have HN2 := Lib.hid (l01Next_dr HG6.out.dr.src (ls.length : Int))
            go_wp2_with fail
            refine HN2.out.mono ?_
            rintro e w7 ⟨x, rfl, x0, x1, hd7, -⟩
            have HG7 := Lib.hid (HG6.out.draw hd7)
            obtain ⟨j, rfl⟩ : ∃ j : Nat, x = j := ⟨x.toNat, by omega⟩
            have hj : j < ls.length := by omega
            obtain ⟨b, o, A', c', rfl, hcell, hcc, hrow, hnf⟩ := HG7.out.lst.at_ hj
            obtain ⟨ys, hys⟩ : ∃ ys, ys = ls[j] := ⟨_, rfl⟩
            rw [← hys] at hcell hcc hrow hnf
            have HRO := Lib.hid (And.intro hcc (And.intro hrow hnf))
            have i0 : (0 : Int) ≤ (j : Int) := by omega
            have i1 : (j : Int) < (ls.length : Int) := by omega
            clear hd7 x1 hys hcc hrow hnf
            have hG4 := HG7.out
            have hul := hG4.len
            have hul3 : us.length ≤ 301 := by omega
            have hsz4 := hG4.dr.size
            have HG4 := Lib.hid hG4
            have ho4 := hG4.nest.own
            clear hul hG4
            go_wp2_with (at_builtin; refine wpList_app1 _ rfl _ _ _ rfl w2.heap.size 33 _ 24 Tryz.underlying26 info_sl rfl (by omega) _ us rfl (ho4.alloc _) _ _ rfl (one_cell _ _ _) rfl (by omega) (by simp; omega) ?_; intro v' w5 ho5 hg5 hn5 hat5)
            have HP := Lib.hid (HG4.out.push HRO.out.1 HRO.out.2.1 HRO.out.2.2 ho5 hg5 hat5)
            clear ho5 hg5 hn5 hat5
            go_roundw
            case rel => exact ⟨k - 1, _, al ++ [ys], by go_num, by omega, by simp; omega, HP.out⟩
            case measure => simp [intOf]; omega
          · have hr0 : r = 0 := by omega
            subst hr0
            have HE := Lib.hid (l02DrawKey_any S A c bs m w6 HG6.out.dr.src HMD.out)
            obtain ⟨x0, x1, x2, x3, x4, _⟩ := HXW6.out
            simp only [Nat.zero_add] at x1 x2 x3 x4
            go_wp2_with fail
            clear x0 x1 x2 x3 x4
            refine HE.out.mono ?_
            rintro e w8 ⟨K8, q8, ys, rfl, hq8, hx8, hr8, hd8⟩
            have HNF := Lib.hid (HG6.out.new hr8.2)
            have HR8 := Lib.hid hr8.1; have HQ8 := Lib.hid hq8
            have HG8 := Lib.hid (HG6.out.draw hd8)
            clear hq8 hx8 hr8 hd8
            have hG4 := HG8.out
            have hul := hG4.len
            have hul3 : us.length ≤ 301 := by omega
            have hsz4 := hG4.dr.size
            have HG4 := Lib.hid hG4
            have ho4 := hG4.nest.own
            clear hul hG4
            go_wp2_with (at_builtin; refine wpList_app1 _ rfl _ _ _ rfl w2.heap.size 33 _ 24 Tryz.underlying26 info_sl rfl (by omega) _ us rfl (ho4.alloc _) _ _ rfl (one_cell _ _ _) rfl (by omega) (by simp; omega) ?_; intro v' w5 ho5 hg5 hn5 hat5)
            have HP := Lib.hid (HG4.out.push HQ8.out HR8.out HNF.out ho5 hg5 hat5)
            clear ho5 hg5 hn5 hat5
            go_roundw
            case rel => exact ⟨k - 1, _, al ++ [ys], by go_num, by omega, by simp; omega, HP.out⟩
            case measure => simp [intOf]; omega
        · have hd1 : decide (0 < ls.length) = false := decide_eq_false h0
          have hd2 : decide ((0 : Int) < (ls.length : Int)) = false := decide_eq_false (by omega)
          clear h0
          have HE := Lib.hid (l02DrawKey_any S A c bs m wr HG.out.dr.src HMD.out)
          obtain ⟨x0, x1, x2, x3, x4, _⟩ := HXW.out
          simp only [Nat.zero_add] at x1 x2 x3 x4
          go_wp2_with fail
          clear x0 x1 x2 x3 x4
          refine HE.out.mono ?_
          rintro e w8 ⟨K8, q8, ys, rfl, hq8, hx8, hr8, hd8⟩
          have HNF := Lib.hid (HG.out.new hr8.2)
          have HR8 := Lib.hid hr8.1; have HQ8 := Lib.hid hq8
          have HG8 := Lib.hid (HG.out.draw hd8)
          clear hq8 hx8 hr8 hd8
          have hG4 := HG8.out
          have hul := hG4.len
          have hul3 : us.length ≤ 301 := by omega
          have hsz4 := hG4.dr.size
          have HG4 := Lib.hid hG4
          have ho4 := hG4.nest.own
          clear hul hG4
          go_wp2_with (at_builtin; refine wpList_app1 _ rfl _ _ _ rfl w2.heap.size 33 _ 24 Tryz.underlying26 info_sl rfl (by omega) _ us rfl (ho4.alloc _) _ _ rfl (one_cell _ _ _) rfl (by omega) (by simp; omega) ?_; intro v' w5 ho5 hg5 hn5 hat5)
          have HP := Lib.hid (HG4.out.push HQ8.out HR8.out HNF.out ho5 hg5 hat5)
          clear ho5 hg5 hn5 hat5
          go_roundw
          case rel => exact ⟨k - 1, _, al ++ [ys], by go_num, by omega, by simp; omega, HP.out⟩
          case measure => simp [intOf]; omega
      · have hz : k = 0 := by omega
        subst hz
        have HN := Lib.hid (l01Next_dr HG.out.dr.src 60)
        go_wp2_with fail
        refine HN.out.mono ?_
        rintro e w6 ⟨z, rfl, z0, z1, hd6, -⟩
        have HG6 := Lib.hid (HG.out.draw hd6)
        clear hd6 z1
        by_cases hzz : z = 0
        · subst hzz
          go_wp2_with fail
          go_loopw [7] (fun v wr => ∃ (us : List Value) (al : List (List Int)), al.length ≤ 301 ∧ G14 S A c bs w2 AL ls v us al wr) (fun v _ => 302 - sliceLen v)
          case atStart => exact ⟨us, al, by omega, HG6.out⟩
          case round =>
            obtain ⟨us, al, hal, hG⟩ := hrel
            have HG := Lib.hid hG
            obtain ⟨Kv, qv, rfl, hqv, _⟩ := hG.nest.riib
            have HN2 := Lib.hid (l01Next_dr hG.dr.src 2)
            clear hG
            go_wp2_with fail
            refine HN2.out.mono ?_
            rintro e w7 ⟨x, rfl, x0, x1, hd7, -⟩
            have HG7 := Lib.hid (HG.out.draw hd7)
            have xb : x < 2 := by omega
            clear hd7 x1
            by_cases hla : (al.length : Int) < 300 + x
            · have HE := Lib.hid (l02Some_any S A c bs m w7 HG7.out.dr.src HMK.out)
              obtain ⟨x0', x1, x2, x3, x4, _⟩ := HBX.out.dr (by omega) (by omega) HG7.out.dr
              simp only [Nat.zero_add] at x1 x2 x3 x4
              go_wp2_with fail
              clear x0' x1 x2 x3 x4
              refine HE.out.mono ?_
              rintro e w8 ⟨K8, q8, ys, rfl, hq8, hk8, hr8, hd8⟩
              have HNF := Lib.hid (HG7.out.new hr8.2)
              have HR8 := Lib.hid hr8.1; have HQ8 := Lib.hid hq8
              have HG8 := Lib.hid (HG7.out.draw hd8)
              have hal1 : al.length ≤ 300 := by omega
              clear hq8 hk8 hr8 hd8
              have hG4 := HG8.out
              have hul := hG4.len
              have hul3 : us.length ≤ 301 := by omega
              have hsz4 := hG4.dr.size
              have HG4 := Lib.hid hG4
              have ho4 := hG4.nest.own
              clear hul hG4
              go_wp2_with (at_builtin; refine wpList_app1 _ rfl _ _ _ rfl w2.heap.size 33 _ 24 Tryz.underlying26 info_sl rfl (by omega) _ us rfl (ho4.alloc _) _ _ rfl (one_cell _ _ _) rfl (by omega) (by simp; omega) ?_; intro v' w5 ho5 hg5 hn5 hat5)
              have HP := Lib.hid (HG4.out.push HQ8.out HR8.out HNF.out ho5 hg5 hat5)
              have hl5 : sliceLen v' = us.length + 1 := by
                obtain ⟨A6, c6, rfl, _, _⟩ := ho5.reads
                simp [sliceLen]
              have HL5 := Lib.hid hl5
              clear ho5 hg5 hn5 hat5 hl5
              go_roundw
              case rel => exact ⟨_, al ++ [ys], by simp; omega, HP.out⟩
              case measure =>
                have e5 : sliceLen v' = al.length + 1 := by rw [HL5.out, HG8.out.len]
                simp [e5]; (try simp [sliceLen]); omega
            · have hla' : decide ((al.length : Int) < 300 + x) = false := decide_eq_false hla
              have HGW := Lib.hid (HG7.out)
              obtain ⟨_, hq9, hr9⟩ := (show al.length ≤ qv ∧ RIIb w2.heap.size w7 Kv al from by
                obtain ⟨K9, q9, e9, k1, k2⟩ := HGW.out.nest.riib
                injection e9 with e91 _ e93
                subst e91 e93
                exact ⟨k1, k2⟩) |> fun h => And.intro trivial h
              have HR9 := Lib.hid hr9
              have HDW := Lib.hid HGW.out.dr
              have hsW := HDW.out.size
              have hkk : KeepF (fun x => x = S) w0 w7 := HD2.out.keep.trans HDW.out.keep (fun _ _ e => e)
              have HKK := Lib.hid hkk
              have HXW := Lib.hid (HBX.out.dr (by omega) (by omega) HDW.out)
              have HLW := Lib.hid (HLX.out.dr (by omega) (by omega) HDW.out)
              have HLR := Lib.hid (HR2.out.dr (by omega) HDW.out)
              clear hr9 hkk
              have hk0 := HKK.out.block w.heap.size (by omega) (by omega)
              have hk0x := HKK.out.block (w.heap.size + 1) (by omega) (by omega)
              have lb0 := hk0.trans HBK0.out
              have lb1 := hk0x.trans HBK1.out
              have n0 := boxC_of_heap lb0 0 _ rfl
              have n1 := boxC_of_heap lb0 1 _ rfl
              have n2 := boxC_of_heap lb0 2 _ rfl
              have n3 := boxC_of_heap lb0 3 _ rfl
              have n4 := boxC_of_heap lb0 4 _ rfl
              have n5 := boxC_of_heap lb1 0 _ rfl
              have m0 := frozen_of_heap lb0
              have l0 := m0 0; have l1 := m0 1; have l2 := m0 2; have l3 := m0 3; have l4 := m0 4
              have l5 := frozen_of_heap lb1 0
              have HL0 := Lib.hid lb0; have HL1 := Lib.hid lb1
              clear lb0 lb1 m0 hk0 hk0x
              have KS := Lib.hid (show ∀ w' : World, KeepF (fun x => x = w.heap.size ∨ x = w.heap.size + 1) w7 w' → (w'.cell? ⟨w1.heap.size, 0, none⟩ = some (.int .i64 m.c) ∧ w'.cell? ⟨w1.heap.size, 1, none⟩ = some (.int .i64 m.d) ∧ w'.cell? ⟨w1.heap.size, 2, none⟩ = some (.int .i64 m.s) ∧ w'.cell? ⟨w1.heap.size, 3, none⟩ = some (.int .i64 m.a) ∧ w'.cell? ⟨w1.heap.size, 4, none⟩ = some (.int .i64 m.l) ∧ w'.cell? ⟨w1.heap.size + 1, 0, none⟩ = some (.slice D l.length q)) from fun w' hw => by
                obtain ⟨x0, x1, x2, x3, x4, _⟩ := HXW.out.keepF hw (World.block_lt_of_cell? _ _ HXW.out.1) (by omega)
                exact ⟨x0, x1, x2, x3, x4, (HLW.out.keepF hw (World.block_lt_of_cell? _ _ HLW.out.1) (by omega)).1⟩)
              go_wp2_with fail
              refine wp_region_held_drew (S := (fun w' => w'.cell? ⟨w1.heap.size, 0, none⟩ = some (.int .i64 m.c) ∧ w'.cell? ⟨w1.heap.size, 1, none⟩ = some (.int .i64 m.d) ∧ w'.cell? ⟨w1.heap.size, 2, none⟩ = some (.int .i64 m.s) ∧ w'.cell? ⟨w1.heap.size, 3, none⟩ = some (.int .i64 m.a) ∧ w'.cell? ⟨w1.heap.size, 4, none⟩ = some (.int .i64 m.l) ∧ w'.cell? ⟨w1.heap.size + 1, 0, none⟩ = some (.slice D l.length q))) (by kernel_rfl) (KS.out _ (KeepF.ofBelow (belowDrew0 _))) (fun hHeld => ?_)
              refine takeD (i := 0) (some 71) (.agg #[.int .i64 m.c, .int .i64 m.d, .int .i64 m.s, .int .i64 m.a, .int .i64 m.l]) rfl (by kernel_rfl) (by kernel_rfl) (by kernel_rfl) (by kernel_rfl) (fun _ _ _ h => h) (by assumption) (Or.inl ⟨by rfl, fun w hSw => by (try dsimp only at hSw); go_simp⟩) ?_
              simp only [Act.put, List.setIfInBounds_toArray, List.set_cons_zero, List.set_cons_succ]
              refine takeD (i := 1) (some 72) (.agg #[.slice D l.length q]) rfl (by kernel_rfl) (by kernel_rfl) (by kernel_rfl) (by kernel_rfl) (fun _ _ _ h => h) (by assumption) (Or.inl ⟨by rfl, fun w hSw => by (try dsimp only at hSw); go_simp⟩) ?_
              simp only [Act.put, List.setIfInBounds_toArray, List.set_cons_zero, List.set_cons_succ]
              refine takeD (i := 2) (some 73) (.slice Kv al.length qv) rfl (by kernel_rfl) (by kernel_rfl) (by kernel_rfl) (by kernel_rfl) (fun _ _ _ h => h) (by assumption) (Or.inl ⟨by rfl, fun w hSw => by (try dsimp only at hSw); go_simp⟩) ?_
              simp only [Act.put, List.setIfInBounds_toArray, List.set_cons_zero, List.set_cons_succ]
              refine wpAnyH_ready (rs := [3]) (by kernel_rfl) (by simp) (AllReadyH.cons rfl (fun K hK => ?_) AllReadyH.nil)
              go_simp
              have HHeld := KS.out _ (((keep_five w7 w.heap.size (.int .i64 m.c) (.int .i64 m.d) (.int .i64 m.s) (.int .i64 m.a) (.int .i64 m.l)).mono (fun x hx => .inl hx)).trans (KeepF.ofBelow (belowDrew0 _)) (fun _ _ e => e))
              refine hK.out _ _ HHeld (fun _ => ?_)
              clear hK K
              try simp only [Act.put, List.setIfInBounds_toArray, List.set_cons_zero, List.set_cons_succ]
              refine wpAnyH_ready (rs := [4]) (by kernel_rfl) (by simp) (AllReadyH.cons rfl (fun K hK => ?_) AllReadyH.nil)
              go_simp
              have HHeld := KS.out _ ((keep_six w7 w.heap.size (.int .i64 m.c) (.int .i64 m.d) (.int .i64 m.s) (.int .i64 m.a) (.int .i64 m.l) (.slice D l.length q)).trans (KeepF.ofBelow (belowDrew0 _)) (fun _ _ e => e))
              refine hK.out _ _ HHeld (fun _ => ?_)
              clear hK K
              try simp only [Act.put, List.setIfInBounds_toArray, List.set_cons_zero, List.set_cons_succ]
              refine takeD (i := 5) (some 4) (.slice Kv al.length qv) rfl (by kernel_rfl) (by kernel_rfl) (by kernel_rfl) (by kernel_rfl) (fun _ _ _ h => h) (by assumption) (Or.inl ⟨by rfl, fun w hSw => by (try dsimp only at hSw); go_simp⟩) ?_
              simp only [Act.put, List.setIfInBounds_toArray, List.set_cons_zero, List.set_cons_succ]
              refine wpAnyH_done (by kernel_rfl) ?_ _
              clear KS
              go_wp2_with fail
              have lb0 := HL0.out; have lb1 := HL1.out
              obtain ⟨wz, hwz⟩ : ∃ wz, wz = ((((((w7.setCell ⟨w.heap.size, 0, none⟩ (.int .i64 m.c)).setCell ⟨w.heap.size, 1, none⟩ (.int .i64 m.d)).setCell ⟨w.heap.size, 2, none⟩ (.int .i64 m.s)).setCell ⟨w.heap.size, 3, none⟩ (.int .i64 m.a)).setCell ⟨w.heap.size, 4, none⟩ (.int .i64 m.l)).setCell ⟨w.heap.size + 1, 0, none⟩ (.slice D l.length q)).drew := ⟨_, rfl⟩
              rw [← hwz]
              have kz : KeepF (fun x => x = w.heap.size ∨ x = w.heap.size + 1) w7 wz := by rw [hwz]; exact (keep_six w7 w.heap.size _ _ _ _ _ _).trans (KeepF.ofBelow (belowDrew0 _)) (fun _ _ e => e)
              have e0 : wz.heap[w.heap.size]? = some (.cells #[.int .i64 m.c, .int .i64 m.d, .int .i64 m.s, .int .i64 m.a, .int .i64 m.l] 25 (0, 0)) := by rw [hwz]; simp [World.setCell, World.drew, Array.getElem?_modify, lb0]
              have e1 : wz.heap[w.heap.size + 1]? = some (.cells #[.slice D l.length q] 28 (0, 0)) := by rw [hwz]; simp [World.setCell, World.drew, Array.getElem?_modify, lb1]
              (try simp only [Exit.inBlock, Exit.then])
              refine bodyPost_ret (results_two1 rfl _ _ w.heap.size 25 #[.int .i64 m.c, .int .i64 m.d, .int .i64 m.s, .int .i64 m.a, .int .i64 m.l] (0, 0) _ (by rfl) e0 Tryz.underlying25 rfl (by kernel_rfl) (w.heap.size + 1) 28 #[.slice D l.length q] (0, 0) _ (by rfl) e1 Tryz.underlying28 rfl (by kernel_rfl)) rfl ?_
              exact ⟨m, D, q, l, Kv, qv, al, rfl, HMD.out, HQL.out, hq9, (HLR.out.keepB kz (fun x e => by omega)).mono (fun x e => by omega), (HR9.out.keepB kz (fun x e => by omega)).mono (fun x e => by omega), ((HD0.out.trans HD2.out).trans HDW.out).keepF kz (fun x e => by omega)⟩
        · have hz' : (z == 0) = false := by simpa using hzz
          have HGW := Lib.hid (HG6.out)
          obtain ⟨K9, q9, rfl, hq9, hr9⟩ := HGW.out.nest.riib
          have HR9 := Lib.hid hr9
          have HDW := Lib.hid HGW.out.dr
          have hsW := HDW.out.size
          have hkk : KeepF (fun x => x = S) w0 w6 := HD2.out.keep.trans HDW.out.keep (fun _ _ e => e)
          have HKK := Lib.hid hkk
          have HXW := Lib.hid (HBX.out.dr (by omega) (by omega) HDW.out)
          have HLW := Lib.hid (HLX.out.dr (by omega) (by omega) HDW.out)
          have HLR := Lib.hid (HR2.out.dr (by omega) HDW.out)
          clear hr9 hkk
          have hk0 := HKK.out.block w.heap.size (by omega) (by omega)
          have hk0x := HKK.out.block (w.heap.size + 1) (by omega) (by omega)
          have lb0 := hk0.trans HBK0.out
          have lb1 := hk0x.trans HBK1.out
          have n0 := boxC_of_heap lb0 0 _ rfl
          have n1 := boxC_of_heap lb0 1 _ rfl
          have n2 := boxC_of_heap lb0 2 _ rfl
          have n3 := boxC_of_heap lb0 3 _ rfl
          have n4 := boxC_of_heap lb0 4 _ rfl
          have n5 := boxC_of_heap lb1 0 _ rfl
          have m0 := frozen_of_heap lb0
          have l0 := m0 0; have l1 := m0 1; have l2 := m0 2; have l3 := m0 3; have l4 := m0 4
          have l5 := frozen_of_heap lb1 0
          have HL0 := Lib.hid lb0; have HL1 := Lib.hid lb1
          clear lb0 lb1 m0 hk0 hk0x
          have KS := Lib.hid (show ∀ w' : World, KeepF (fun x => x = w.heap.size ∨ x = w.heap.size + 1) w6 w' → (w'.cell? ⟨w1.heap.size, 0, none⟩ = some (.int .i64 m.c) ∧ w'.cell? ⟨w1.heap.size, 1, none⟩ = some (.int .i64 m.d) ∧ w'.cell? ⟨w1.heap.size, 2, none⟩ = some (.int .i64 m.s) ∧ w'.cell? ⟨w1.heap.size, 3, none⟩ = some (.int .i64 m.a) ∧ w'.cell? ⟨w1.heap.size, 4, none⟩ = some (.int .i64 m.l) ∧ w'.cell? ⟨w1.heap.size + 1, 0, none⟩ = some (.slice D l.length q)) from fun w' hw => by
            obtain ⟨x0, x1, x2, x3, x4, _⟩ := HXW.out.keepF hw (World.block_lt_of_cell? _ _ HXW.out.1) (by omega)
            exact ⟨x0, x1, x2, x3, x4, (HLW.out.keepF hw (World.block_lt_of_cell? _ _ HLW.out.1) (by omega)).1⟩)
          go_wp2_with fail
          refine wp_region_held_drew (S := (fun w' => w'.cell? ⟨w1.heap.size, 0, none⟩ = some (.int .i64 m.c) ∧ w'.cell? ⟨w1.heap.size, 1, none⟩ = some (.int .i64 m.d) ∧ w'.cell? ⟨w1.heap.size, 2, none⟩ = some (.int .i64 m.s) ∧ w'.cell? ⟨w1.heap.size, 3, none⟩ = some (.int .i64 m.a) ∧ w'.cell? ⟨w1.heap.size, 4, none⟩ = some (.int .i64 m.l) ∧ w'.cell? ⟨w1.heap.size + 1, 0, none⟩ = some (.slice D l.length q))) (by kernel_rfl) (KS.out _ (KeepF.ofBelow (belowDrew0 _))) (fun hHeld => ?_)
          refine takeD (i := 0) (some 71) (.agg #[.int .i64 m.c, .int .i64 m.d, .int .i64 m.s, .int .i64 m.a, .int .i64 m.l]) rfl (by kernel_rfl) (by kernel_rfl) (by kernel_rfl) (by kernel_rfl) (fun _ _ _ h => h) (by assumption) (Or.inl ⟨by rfl, fun w hSw => by (try dsimp only at hSw); go_simp⟩) ?_
          simp only [Act.put, List.setIfInBounds_toArray, List.set_cons_zero, List.set_cons_succ]
          refine takeD (i := 1) (some 72) (.agg #[.slice D l.length q]) rfl (by kernel_rfl) (by kernel_rfl) (by kernel_rfl) (by kernel_rfl) (fun _ _ _ h => h) (by assumption) (Or.inl ⟨by rfl, fun w hSw => by (try dsimp only at hSw); go_simp⟩) ?_
          simp only [Act.put, List.setIfInBounds_toArray, List.set_cons_zero, List.set_cons_succ]
          refine takeD (i := 2) (some 73) (.slice K9 al.length q9) rfl (by kernel_rfl) (by kernel_rfl) (by kernel_rfl) (by kernel_rfl) (fun _ _ _ h => h) (by assumption) (Or.inl ⟨by rfl, fun w hSw => by (try dsimp only at hSw); go_simp⟩) ?_
          simp only [Act.put, List.setIfInBounds_toArray, List.set_cons_zero, List.set_cons_succ]
          refine wpAnyH_ready (rs := [3]) (by kernel_rfl) (by simp) (AllReadyH.cons rfl (fun K hK => ?_) AllReadyH.nil)
          go_simp
          have HHeld := KS.out _ (((keep_five w6 w.heap.size (.int .i64 m.c) (.int .i64 m.d) (.int .i64 m.s) (.int .i64 m.a) (.int .i64 m.l)).mono (fun x hx => .inl hx)).trans (KeepF.ofBelow (belowDrew0 _)) (fun _ _ e => e))
          refine hK.out _ _ HHeld (fun _ => ?_)
          clear hK K
          try simp only [Act.put, List.setIfInBounds_toArray, List.set_cons_zero, List.set_cons_succ]
          refine wpAnyH_ready (rs := [4]) (by kernel_rfl) (by simp) (AllReadyH.cons rfl (fun K hK => ?_) AllReadyH.nil)
          go_simp
          have HHeld := KS.out _ ((keep_six w6 w.heap.size (.int .i64 m.c) (.int .i64 m.d) (.int .i64 m.s) (.int .i64 m.a) (.int .i64 m.l) (.slice D l.length q)).trans (KeepF.ofBelow (belowDrew0 _)) (fun _ _ e => e))
          refine hK.out _ _ HHeld (fun _ => ?_)
          clear hK K
          try simp only [Act.put, List.setIfInBounds_toArray, List.set_cons_zero, List.set_cons_succ]
          refine takeD (i := 5) (some 4) (.slice K9 al.length q9) rfl (by kernel_rfl) (by kernel_rfl) (by kernel_rfl) (by kernel_rfl) (fun _ _ _ h => h) (by assumption) (Or.inl ⟨by rfl, fun w hSw => by (try dsimp only at hSw); go_simp⟩) ?_
          simp only [Act.put, List.setIfInBounds_toArray, List.set_cons_zero, List.set_cons_succ]
          refine wpAnyH_done (by kernel_rfl) ?_ _
          clear KS
          go_wp2_with fail
          have lb0 := HL0.out; have lb1 := HL1.out
          obtain ⟨wz, hwz⟩ : ∃ wz, wz = ((((((w6.setCell ⟨w.heap.size, 0, none⟩ (.int .i64 m.c)).setCell ⟨w.heap.size, 1, none⟩ (.int .i64 m.d)).setCell ⟨w.heap.size, 2, none⟩ (.int .i64 m.s)).setCell ⟨w.heap.size, 3, none⟩ (.int .i64 m.a)).setCell ⟨w.heap.size, 4, none⟩ (.int .i64 m.l)).setCell ⟨w.heap.size + 1, 0, none⟩ (.slice D l.length q)).drew := ⟨_, rfl⟩
          rw [← hwz]
          have kz : KeepF (fun x => x = w.heap.size ∨ x = w.heap.size + 1) w6 wz := by rw [hwz]; exact (keep_six w6 w.heap.size _ _ _ _ _ _).trans (KeepF.ofBelow (belowDrew0 _)) (fun _ _ e => e)
          have e0 : wz.heap[w.heap.size]? = some (.cells #[.int .i64 m.c, .int .i64 m.d, .int .i64 m.s, .int .i64 m.a, .int .i64 m.l] 25 (0, 0)) := by rw [hwz]; simp [World.setCell, World.drew, Array.getElem?_modify, lb0]
          have e1 : wz.heap[w.heap.size + 1]? = some (.cells #[.slice D l.length q] 28 (0, 0)) := by rw [hwz]; simp [World.setCell, World.drew, Array.getElem?_modify, lb1]
          (try simp only [Exit.inBlock, Exit.then])
          refine bodyPost_ret (results_two1 rfl _ _ w.heap.size 25 #[.int .i64 m.c, .int .i64 m.d, .int .i64 m.s, .int .i64 m.a, .int .i64 m.l] (0, 0) _ (by rfl) e0 Tryz.underlying25 rfl (by kernel_rfl) (w.heap.size + 1) 28 #[.slice D l.length q] (0, 0) _ (by rfl) e1 Tryz.underlying28 rfl (by kernel_rfl)) rfl ?_
          exact ⟨m, D, q, l, K9, q9, al, rfl, HMD.out, HQL.out, hq9, (HLR.out.keepB kz (fun x e => by omega)).mono (fun x e => by omega), (HR9.out.keepB kz (fun x e => by omega)).mono (fun x e => by omega), ((HD0.out.trans HD2.out).trans HDW.out).keepF kz (fun x e => by omega)⟩
end Go.Proofs.YtdedajohkdbdkaaGreat
