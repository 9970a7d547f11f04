/- Contract of firstKeys. -/
import Derived.Test.YtdedajohkdbdkaaGreatFCount
import Derived.Test.YtdedajohkdbdkaaGreatFOpeners
namespace Go.Proofs.YtdedajohkdbdkaaGreat
set_option linter.unusedVariables false
open Go.RowKit
/-- the keys collected so far: their lists lie in blocks of F, from B on, in the variable at g -/
structure RCollV (g B : Nat) (ls : List (List Int)) (w : World) (F : Nat → Prop) (v : Value) (us : List Value) : Prop where
  len : us.length = ls.length
  vv : OV w B 33 v us
  rows : ∀ j (hj : j < ls.length), ∃ u, us[j]? = some u ∧ OV w B 2 u (ints ls[j])
  dis : ∀ (i j : Nat) (u u' : Value), i ≠ j → us[i]? = some u → us[j]? = some u' → ∀ x, u.ownBlock = some x → u'.ownBlock ≠ some x
  fv : ∀ x, v.ownBlock = some x → F x ∧ x ≠ g
  fu : ∀ (j : Nat) (u : Value) (x : Nat), us[j]? = some u → u.ownBlock = some x → F x ∧ x ≠ g
  cell : w.cell? ⟨g, 0, none⟩ = some v
  fz : w.frozen? ⟨g, 0, none⟩ = false
  fg : F g
  fl : ∀ x, F x → x < w.heap.size
  fb : ∀ x, F x → B ≤ x
def RColl (g B : Nat) (ls : List (List Int)) (w : World) (F : Nat → Prop) : Prop := ∃ v us, RCollV g B ls w F v us
theorem RColl.lt (g B : Nat) (s : List (List Int)) (w : World) (F : Nat → Prop) (h : RColl g B s w F) : ∀ x, F x → x < w.heap.size := by
  obtain ⟨v, us, h⟩ := h; exact h.fl
theorem RColl.fr (g B : Nat) (s : List (List Int)) (w w' : World) (F : Nat → Prop) (h : RColl g B s w F) (k : KeepF (fun x => ¬ F x) w w') : RColl g B s w' F := by
  obtain ⟨v, us, h⟩ := h
  have hg := World.block_lt_of_cell? w _ h.cell
  have hn : ∀ x, F x → ¬ ¬ F x := fun x hx e => e hx
  refine ⟨v, us, h.len, h.vv.keepF k (fun x e => hn x (h.fv x e).1), fun j hj => ?_, h.dis, h.fv, h.fu, (k.cell (p := ⟨g, 0, none⟩) hg (hn g h.fg)).trans h.cell, (k.frozen (p := ⟨g, 0, none⟩) hg (hn g h.fg)).trans h.fz, h.fg, fun x hx => by have := h.fl x hx; have := k.size; omega, h.fb⟩
  obtain ⟨u, h1, h2⟩ := h.rows j hj
  exact ⟨u, h1, h2.keepF k (fun x e => hn x (h.fu j u x h1 e).1)⟩
theorem RCollV.oii {g B : Nat} {ls : List (List Int)} {w : World} {F : Nat → Prop} {v : Value} {us : List Value} (h : RCollV g B ls w F v us) : OII w B w.heap.size v ls :=
  ⟨us, h.len, ⟨h.vv, fun x e => (h.vv.lt x e).2⟩, fun j hj => by obtain ⟨u, h1, h2⟩ := h.rows j hj; exact ⟨u, h1, h2, fun x e => (h2.lt x e).2⟩, h.dis⟩
/-- One more: the key's copy u lies in new memory; it has been appended to the row, and the row stored. -/
theorem RCollV.next {g B : Nat} {ls : List (List Int)} {w w4 w5 : World} {F : Nat → Prop} {v v' u : Value} {us : List Value} {key : List Int} {o : Obj} (h : RCollV g B ls w F v us)
    (b4 : Below w.heap.size w w4) (hu : OV w4 w.heap.size 2 u (ints key)) (ho : OV w5 B 33 v' (us ++ [u])) (hg : (w4.alloc o).grownBy w5 v.ownBlock) (hat : v'.ownBlock = v.ownBlock ∨ v'.ownBlock = some (w4.alloc o).heap.size) :
    RColl g B (ls ++ [key]) (w5.setCell ⟨g, 0, none⟩ v') (fun x => F x ∨ (w.heap.size ≤ x ∧ x < (w5.setCell ⟨g, 0, none⟩ v').heap.size)) ∧ KeepF F w (w5.setCell ⟨g, 0, none⟩ v') := by
  have hB : B ≤ w.heap.size := by have := h.fb g h.fg; have := h.fl g h.fg; omega
  have hglt := h.fl g h.fg
  have k45 : KeepF (fun x => v.ownBlock = some x) w4 w5 := ((KeepF.refl _ _).alloc o).grown hg (fun x e => .inl e)
  have kw5 : KeepF (fun x => v.ownBlock = some x) w w5 := (KeepF.ofBelow b4).trans k45 (fun x _ e => e)
  have k6 : KeepF (fun x => x = g) w5 (w5.setCell ⟨g, 0, none⟩ v') := (KeepF.refl (fun x => x = g) w5).setCell (p := ⟨g, 0, none⟩) (.inl rfl) _
  have kw6 : KeepF (fun x => v.ownBlock = some x ∨ x = g) w (w5.setCell ⟨g, 0, none⟩ v') := (kw5.mono (fun x e => .inl e)).trans k6 (fun x _ e => .inr e)
  have hs6 : (w5.setCell ⟨g, 0, none⟩ v').heap.size = w5.heap.size := by simp [World.setCell]
  have hs5 : w.heap.size < w5.heap.size := by have h1 := b4.size; have h2 := hg.size; simp at h2; omega
  have hvu : ∀ (j : Nat) (hj : j < ls.length) (u1 : Value) (x : Nat), us[j]? = some u1 → u1.ownBlock = some x → v.ownBlock ≠ some x := fun j hj u1 x h1 e1 e2 => by
    obtain ⟨u2, h2, h3⟩ := h.rows j hj
    rw [h1] at h2; injection h2 with h2; subst h2
    obtain ⟨cs, f1, t1, _⟩ := h3.block_ty e1
    obtain ⟨cs2, f2, t2, _⟩ := h.vv.block_ty e2
    rw [t1] at t2; injection t2 with t2; injection t2 with _ t2
    exact absurd t2 (by decide)
  have hun : ∀ x, u.ownBlock = some x → w.heap.size ≤ x ∧ x < w4.heap.size := fun x e => hu.lt x e
  have hv' : ∀ x, v'.ownBlock = some x → (F x ∨ (w.heap.size ≤ x ∧ x < w5.heap.size)) ∧ x ≠ g := fun x e => by
    rcases hat with e1 | e1
    · have := h.fv x (e1.symm.trans e); exact ⟨.inl this.1, this.2⟩
    · have e2 := e1.symm.trans e; injection e2 with e2; simp at e2
      have h1 := b4.size; have h2 := (ho.lt x e).2
      exact ⟨.inr ⟨by omega, h2⟩, by omega⟩
  have hlow : ∀ (j : Nat) (u1 : Value) (x : Nat), us[j]? = some u1 → u1.ownBlock = some x → x < w.heap.size := fun j u1 x h1 e => h.fl x (h.fu j u1 x h1 e).1
  have cases' : ∀ (j : Nat) (u1 : Value), (us ++ [u])[j]? = some u1 → (j < us.length ∧ us[j]? = some u1) ∨ (j = us.length ∧ u1 = u) := fun j u1 hj => by
    by_cases hk : j < us.length
    · rw [List.getElem?_append_left hk] at hj; exact .inl ⟨hk, hj⟩
    · rw [List.getElem?_append_right (by omega)] at hj
      by_cases hk0 : j - us.length = 0
      · rw [hk0] at hj; simp at hj; exact .inr ⟨by omega, hj.symm⟩
      · rw [List.getElem?_eq_none (by simp; omega)] at hj; cases hj
  refine ⟨⟨v', us ++ [u], by simp [h.len], ho.keepF k6 (fun x e => (hv' x e).2), fun j hj => ?_, fun i j a b hij ha hb x ea eb => ?_, fun x e => ?_, fun j u1 x h1 e => ?_, World.cell?_setCell_same _ _ _ ((kw5.cell (p := ⟨g, 0, none⟩) hglt (fun e => (h.fv g e).2 rfl)).trans h.cell), ?_, .inl h.fg, fun x hx => ?_, fun x hx => ?_⟩, kw6.mono (fun x e => ?_)⟩
  · by_cases hjl : j < ls.length
    · obtain ⟨u1, h1, h2⟩ := h.rows j hjl
      refine ⟨u1, by rw [List.getElem?_append_left (by have := h.len; omega)]; exact h1, ?_⟩
      rw [List.getElem_append_left hjl]
      exact h2.keepF kw6 (fun x e => fun e' => by
        rcases e' with e' | e'
        · exact hvu j hjl u1 x h1 e e'
        · exact (h.fu j u1 x h1 e).2 e')
    · have hje : j = ls.length := by simp at hj; omega
      subst hje
      refine ⟨u, by rw [List.getElem?_append_right (by have := h.len; omega)]; simp [h.len], ?_⟩
      rw [List.getElem_append_right (by omega)]
      simp only [Nat.sub_self, List.getElem_cons_zero]
      have k46 : KeepF (fun x => v.ownBlock = some x ∨ x = g) w4 (w5.setCell ⟨g, 0, none⟩ v') := (k45.mono (fun x e => .inl e)).trans k6 (fun x _ e => .inr e)
      exact (hu.keepF k46 (fun x e => fun e' => by
        have := hun x e
        rcases e' with e' | e'
        · have := (h.vv.lt x e').2; omega
        · omega)).mono hB
  · rcases cases' i a ha with ⟨hi, ha'⟩ | ⟨hi, rfl⟩
    · rcases cases' j b hb with ⟨hj, hb'⟩ | ⟨hj, rfl⟩
      · exact h.dis i j a b hij ha' hb' x ea eb
      · have := hlow i a x ha' ea; have := hun x eb; omega
    · rcases cases' j b hb with ⟨hj, hb'⟩ | ⟨hj, rfl⟩
      · have := hlow j b x hb' eb; have := hun x ea; omega
      · omega
  · rw [hs6]; exact hv' x e
  · rw [hs6]
    rcases cases' j u1 h1 with ⟨hj, h1'⟩ | ⟨hj, rfl⟩
    · have := h.fu j u1 x h1' e; exact ⟨.inl this.1, this.2⟩
    · have := hun x e; have := k45.size
      exact ⟨.inr ⟨by omega, by omega⟩, by omega⟩
  · have := (kw5.frozen (p := ⟨g, 0, none⟩) hglt (fun e => (h.fv g e).2 rfl)).trans h.fz
    simpa using this
  · rcases hx with hx | hx
    · have := h.fl x hx; omega
    · omega
  · rcases hx with hx | hx
    · exact h.fb x hx
    · omega
  · rcases e with e | e
    · exact (h.fv x e).1
    · subst e; exact h.fg
set_option maxRecDepth 100000 in
set_option maxHeartbeats 4000000 in
theorem firstClo_any (g g2 B most : Nat) (ls : List (List Int)) (A : Option Addr) (c : Nat) (key : List Int) (w : World) (F : Nat → Prop) (h : RColl g B ls w F) (hm : w.cell? ⟨g2, 0, none⟩ = some (.int .i64 (most : Int))) (hg2 : ¬ F g2)
    (hr : RI w A key) (hkl : key.length ≤ 1000) (hl : ls.length < most) (hmost : most ≤ 300) :
    Calls Tryz.prog 138 #[.slice A key.length c, .pointer (some ⟨g, 0, none⟩), .pointer (some ⟨g2, 0, none⟩)] w (VisPost (visColl most) (RColl g B) ls key w F) := by
  obtain ⟨v, us, hV⟩ := h
  obtain ⟨Av, cv, rfl, hcv, _⟩ := hV.vv.reads
  rw [hV.len] at *
  have HV := Lib.hid hV
  have pd := hV.cell
  have hgl := hV.fl g hV.fg
  have hg2l := World.block_lt_of_cell? w _ hm
  simp only at hg2l
  have hBl : B ≤ w.heap.size := by have := hV.fb g hV.fg; omega
  have HG2 := Lib.hid hg2
  have KS := Lib.hid (show ∀ w' : World, Below w.heap.size w w' → (w'.cell? ⟨g2, 0, none⟩ = some (.int .i64 (most : Int)) ∧ True) from fun w' hw => ⟨cell_in hw (by simp only; omega) hm, trivial⟩)
  have HCL := Lib.hid (sClone_any A c key w.drew hr (by omega))
  clear hV hg2 hm
  go_enter Tryz.func138, Tryz.ntmps138
  go_wp2_with fail
  refine wp_region_held_drew (S := (fun w' => w'.cell? ⟨g2, 0, none⟩ = some (.int .i64 (most : Int)) ∧ True)) (by kernel_rfl) (KS.out _ (belowDrew0 _)) (fun hHeld => ?_)
  refine takeD (i := 1) (some 6) (.slice A key.length c) rfl (by kernel_rfl) (by kernel_rfl) (by kernel_rfl) (by kernel_rfl) (fun _ _ _ h => h) (by assumption) (Or.inl ⟨by rfl, fun w hSw => by (try dsimp only at hSw); go_simp⟩) ?_
  simp only [Act.put, List.setIfInBounds_toArray, List.set_cons_zero, List.set_cons_succ]
  refine wpAnyH_ready (rs := [0, 2]) (by kernel_rfl) (by simp) (AllReadyH.cons rfl (fun K hK => ?_) (AllReadyH.cons rfl (fun K hK => ?_) AllReadyH.nil))
  · go_simp
    have HHeld := KS.out _ (belowDrew0 _)
    refine hK.out _ _ HHeld (fun _ => ?_)
    clear hK K
    try simp only [Act.put, List.setIfInBounds_toArray, List.set_cons_zero, List.set_cons_succ]
    refine wpAnyH_ready (rs := [2]) (by kernel_rfl) (by simp) (AllReadyH.cons rfl (fun K hK => ?_) AllReadyH.nil)
    go_simp
    refine HCL.out.mono ?_
    rintro e w4 ⟨A4, c4, rfl, hc4, hr4, ho4, b4⟩
    have Hb4 := Lib.hid (belowDrew b4)
    have HHeld := KS.out _ Hb4.out
    refine hK.out _ _ HHeld (fun _ => ?_)
    clear hK K
    try simp only [Act.put, List.setIfInBounds_toArray, List.set_cons_zero, List.set_cons_succ]
    refine wpAnyH_ready (rs := [3]) (by kernel_rfl) (by simp) (AllReadyH.cons rfl (fun K hK => ?_) AllReadyH.nil)
    go_simp
    have HHeld := KS.out _ (Hb4.out.alloc Hb4.out.size (.cells #[.slice A4 key.length c4] 33))
    refine hK.out _ _ HHeld (fun _ => ?_)
    clear hK K
    try simp only [Act.put, List.setIfInBounds_toArray, List.set_cons_zero, List.set_cons_succ]
    refine wpAnyH_ready (rs := [4]) (by kernel_rfl) (by simp) (AllReadyH.cons rfl (fun K hK => ?_) AllReadyH.nil)
    refine step_app1 _ (by rfl) _ _ _ (by rfl) B 33 _ 24 Tryz.underlying26 info_sl rfl (by omega) _ _ (by rfl) ((HV.out.vv.below' Hb4.out).alloc _) _ _ (by rfl) (one_cell _ _ _) rfl (by have := HV.out.len; omega) (by have := Hb4.out.size; simp; omega) ?_
    intro v' w5 ho5 hg5 hn5 hat5
    have hnx := HV.out.next (u := .slice A4 key.length c4) (key := key) (o := .cells #[.slice A4 key.length c4] 33) Hb4.out ho4.1 ho5 hg5 hat5
    have HNX := Lib.hid hnx
    obtain ⟨Av2, cv2, hv2, _, _⟩ := ho5.reads
    rw [show (us ++ [Value.slice A4 key.length c4]).length = ls.length + 1 by simp [HV.out.len]] at hv2
    subst hv2
    have k45 : KeepF (fun x => (Value.slice Av ls.length cv).ownBlock = some x) w4 w5 := ((KeepF.refl _ _).alloc _).grown hg5 (fun x e => .inl e)
    have hgn : ¬ ((Value.slice Av ls.length cv).ownBlock = some g) := fun e => (HV.out.fv g e).2 rfl
    have hg4 : g < w4.heap.size := by have := Hb4.out.size; omega
    have p5 := (k45.cell (p := ⟨g, 0, none⟩) hg4 hgn).trans (cell_in Hb4.out (by simp only; omega) pd)
    have f5 := (k45.frozen (p := ⟨g, 0, none⟩) hg4 hgn).trans ((Hb4.out.frozen (p := ⟨g, 0, none⟩) (by simp only; omega)).trans HV.out.fz)
    have hks : w5.cell? ⟨g2, 0, none⟩ = some (.int .i64 (most : Int)) := (k45.cell (p := ⟨g2, 0, none⟩) (by have := Hb4.out.size; simp only; omega) (fun e => HG2.out (HV.out.fv g2 e).1)).trans ((KS.out _ Hb4.out).1)
    have hne : g ≠ g2 := fun e => HG2.out (by rw [← e]; exact HV.out.fg)
    clear ho5 hg5 hn5 hat5 hnx k45 hgn
    have HHeld := And.intro hks trivial
    refine hK.out _ _ HHeld (fun _ => ?_)
    clear hK K
    (try simp only [Act.put]); (try simp only [List.setIfInBounds_toArray]); (try simp only [List.set_cons_zero, List.set_cons_succ])
    refine wpAnyH_ready (rs := [5]) (by kernel_rfl) (by simp) (AllReadyH.cons rfl (fun K hK => ?_) AllReadyH.nil)
    go_simp
    have p7 : (w5.setCell ⟨g, 0, none⟩ (.slice Av2 (ls.length + 1) cv2)).cell? ⟨g2, 0, none⟩ = some (.int .i64 (most : Int)) := by rw [World.cell?_setCell_far _ _ _ _ (by simp only; omega)]; exact hks
    have HHeld := And.intro p7 trivial
    refine hK.out _ _ HHeld (fun _ => ?_)
    clear hK K
    (try simp only [Act.put]); (try simp only [List.setIfInBounds_toArray]); (try simp only [List.set_cons_zero, List.set_cons_succ])
    refine wpAnyH_done (by kernel_rfl) ?_ _
    have p6 : (w5.setCell ⟨g, 0, none⟩ (.slice Av2 (ls.length + 1) cv2)).cell? ⟨g, 0, none⟩ = some (.slice Av2 (ls.length + 1) cv2) := World.cell?_setCell_same _ _ _ p5
    generalize hw6 : w5.setCell ⟨g, 0, none⟩ (.slice Av2 (ls.length + 1) cv2) = w6 at *
    clear p5 f5 hks hw6
    go_wp2_with fail
    go_ret
    exact ⟨retB (by show _ = decide (ls.length + 1 < most); rw [decide_eq_decide]; omega), _, HNX.out.1, HNX.out.2, fun x hx => by rcases hx with h | h; exact .inl h; exact .inr h.1⟩
  · go_simp
    refine HCL.out.mono ?_
    rintro e w4 ⟨A4, c4, rfl, hc4, hr4, ho4, b4⟩
    have Hb4 := Lib.hid (belowDrew b4)
    have HHeld := KS.out _ Hb4.out
    refine hK.out _ _ HHeld (fun _ => ?_)
    clear hK K
    try simp only [Act.put, List.setIfInBounds_toArray, List.set_cons_zero, List.set_cons_succ]
    have pd4 := cell_in Hb4.out (by simp only; omega) pd
    have hgl4 : g < w4.heap.size := by have := Hb4.out.size; omega
    refine wpAnyH_ready (rs := [0, 3]) (by kernel_rfl) (by simp) (AllReadyH.cons rfl (fun K hK => ?_) (AllReadyH.cons rfl (fun K hK => ?_) AllReadyH.nil))
    · go_simp
      have HHeld := KS.out _ Hb4.out
      refine hK.out _ _ HHeld (fun _ => ?_)
      clear hK K
      try simp only [Act.put, List.setIfInBounds_toArray, List.set_cons_zero, List.set_cons_succ]
      refine wpAnyH_ready (rs := [3]) (by kernel_rfl) (by simp) (AllReadyH.cons rfl (fun K hK => ?_) AllReadyH.nil)
      go_simp
      have HHeld := KS.out _ (Hb4.out.alloc Hb4.out.size (.cells #[.slice A4 key.length c4] 33))
      refine hK.out _ _ HHeld (fun _ => ?_)
      clear hK K
      try simp only [Act.put, List.setIfInBounds_toArray, List.set_cons_zero, List.set_cons_succ]
      refine wpAnyH_ready (rs := [4]) (by kernel_rfl) (by simp) (AllReadyH.cons rfl (fun K hK => ?_) AllReadyH.nil)
      refine step_app1 _ (by rfl) _ _ _ (by rfl) B 33 _ 24 Tryz.underlying26 info_sl rfl (by omega) _ _ (by rfl) ((HV.out.vv.below' Hb4.out).alloc _) _ _ (by rfl) (one_cell _ _ _) rfl (by have := HV.out.len; omega) (by have := Hb4.out.size; simp; omega) ?_
      intro v' w5 ho5 hg5 hn5 hat5
      have hnx := HV.out.next (u := .slice A4 key.length c4) (key := key) (o := .cells #[.slice A4 key.length c4] 33) Hb4.out ho4.1 ho5 hg5 hat5
      have HNX := Lib.hid hnx
      obtain ⟨Av2, cv2, hv2, _, _⟩ := ho5.reads
      rw [show (us ++ [Value.slice A4 key.length c4]).length = ls.length + 1 by simp [HV.out.len]] at hv2
      subst hv2
      have k45 : KeepF (fun x => (Value.slice Av ls.length cv).ownBlock = some x) w4 w5 := ((KeepF.refl _ _).alloc _).grown hg5 (fun x e => .inl e)
      have hgn : ¬ ((Value.slice Av ls.length cv).ownBlock = some g) := fun e => (HV.out.fv g e).2 rfl
      have hg4 : g < w4.heap.size := by have := Hb4.out.size; omega
      have p5 := (k45.cell (p := ⟨g, 0, none⟩) hg4 hgn).trans (cell_in Hb4.out (by simp only; omega) pd)
      have f5 := (k45.frozen (p := ⟨g, 0, none⟩) hg4 hgn).trans ((Hb4.out.frozen (p := ⟨g, 0, none⟩) (by simp only; omega)).trans HV.out.fz)
      have hks : w5.cell? ⟨g2, 0, none⟩ = some (.int .i64 (most : Int)) := (k45.cell (p := ⟨g2, 0, none⟩) (by have := Hb4.out.size; simp only; omega) (fun e => HG2.out (HV.out.fv g2 e).1)).trans ((KS.out _ Hb4.out).1)
      have hne : g ≠ g2 := fun e => HG2.out (by rw [← e]; exact HV.out.fg)
      clear ho5 hg5 hn5 hat5 hnx k45 hgn
      have HHeld := And.intro hks trivial
      refine hK.out _ _ HHeld (fun _ => ?_)
      clear hK K
      (try simp only [Act.put]); (try simp only [List.setIfInBounds_toArray]); (try simp only [List.set_cons_zero, List.set_cons_succ])
      refine wpAnyH_ready (rs := [5]) (by kernel_rfl) (by simp) (AllReadyH.cons rfl (fun K hK => ?_) AllReadyH.nil)
      go_simp
      have p7 : (w5.setCell ⟨g, 0, none⟩ (.slice Av2 (ls.length + 1) cv2)).cell? ⟨g2, 0, none⟩ = some (.int .i64 (most : Int)) := by rw [World.cell?_setCell_far _ _ _ _ (by simp only; omega)]; exact hks
      have HHeld := And.intro p7 trivial
      refine hK.out _ _ HHeld (fun _ => ?_)
      clear hK K
      (try simp only [Act.put]); (try simp only [List.setIfInBounds_toArray]); (try simp only [List.set_cons_zero, List.set_cons_succ])
      refine wpAnyH_done (by kernel_rfl) ?_ _
      have p6 : (w5.setCell ⟨g, 0, none⟩ (.slice Av2 (ls.length + 1) cv2)).cell? ⟨g, 0, none⟩ = some (.slice Av2 (ls.length + 1) cv2) := World.cell?_setCell_same _ _ _ p5
      generalize hw6 : w5.setCell ⟨g, 0, none⟩ (.slice Av2 (ls.length + 1) cv2) = w6 at *
      clear p5 f5 hks hw6
      go_wp2_with fail
      go_ret
      exact ⟨retB (by show _ = decide (ls.length + 1 < most); rw [decide_eq_decide]; omega), _, HNX.out.1, HNX.out.2, fun x hx => by rcases hx with h | h; exact .inl h; exact .inr h.1⟩
    · go_simp
      have HHeld := KS.out _ (Hb4.out.alloc Hb4.out.size (.cells #[.slice A4 key.length c4] 33))
      refine hK.out _ _ HHeld (fun _ => ?_)
      clear hK K
      try simp only [Act.put, List.setIfInBounds_toArray, List.set_cons_zero, List.set_cons_succ]
      refine wpAnyH_ready (rs := [0]) (by kernel_rfl) (by simp) (AllReadyH.cons rfl (fun K hK => ?_) AllReadyH.nil)
      go_simp
      have HHeld := KS.out _ (Hb4.out.alloc Hb4.out.size (.cells #[.slice A4 key.length c4] 33))
      refine hK.out _ _ HHeld (fun _ => ?_)
      clear hK K
      try simp only [Act.put, List.setIfInBounds_toArray, List.set_cons_zero, List.set_cons_succ]
      refine wpAnyH_ready (rs := [4]) (by kernel_rfl) (by simp) (AllReadyH.cons rfl (fun K hK => ?_) AllReadyH.nil)
      refine step_app1 _ (by rfl) _ _ _ (by rfl) B 33 _ 24 Tryz.underlying26 info_sl rfl (by omega) _ _ (by rfl) ((HV.out.vv.below' Hb4.out).alloc _) _ _ (by rfl) (one_cell _ _ _) rfl (by have := HV.out.len; omega) (by have := Hb4.out.size; simp; omega) ?_
      intro v' w5 ho5 hg5 hn5 hat5
      have hnx := HV.out.next (u := .slice A4 key.length c4) (key := key) (o := .cells #[.slice A4 key.length c4] 33) Hb4.out ho4.1 ho5 hg5 hat5
      have HNX := Lib.hid hnx
      obtain ⟨Av2, cv2, hv2, _, _⟩ := ho5.reads
      rw [show (us ++ [Value.slice A4 key.length c4]).length = ls.length + 1 by simp [HV.out.len]] at hv2
      subst hv2
      have k45 : KeepF (fun x => (Value.slice Av ls.length cv).ownBlock = some x) w4 w5 := ((KeepF.refl _ _).alloc _).grown hg5 (fun x e => .inl e)
      have hgn : ¬ ((Value.slice Av ls.length cv).ownBlock = some g) := fun e => (HV.out.fv g e).2 rfl
      have hg4 : g < w4.heap.size := by have := Hb4.out.size; omega
      have p5 := (k45.cell (p := ⟨g, 0, none⟩) hg4 hgn).trans (cell_in Hb4.out (by simp only; omega) pd)
      have f5 := (k45.frozen (p := ⟨g, 0, none⟩) hg4 hgn).trans ((Hb4.out.frozen (p := ⟨g, 0, none⟩) (by simp only; omega)).trans HV.out.fz)
      have hks : w5.cell? ⟨g2, 0, none⟩ = some (.int .i64 (most : Int)) := (k45.cell (p := ⟨g2, 0, none⟩) (by have := Hb4.out.size; simp only; omega) (fun e => HG2.out (HV.out.fv g2 e).1)).trans ((KS.out _ Hb4.out).1)
      have hne : g ≠ g2 := fun e => HG2.out (by rw [← e]; exact HV.out.fg)
      clear ho5 hg5 hn5 hat5 hnx k45 hgn
      have HHeld := And.intro hks trivial
      refine hK.out _ _ HHeld (fun _ => ?_)
      clear hK K
      (try simp only [Act.put]); (try simp only [List.setIfInBounds_toArray]); (try simp only [List.set_cons_zero, List.set_cons_succ])
      refine wpAnyH_ready (rs := [5]) (by kernel_rfl) (by simp) (AllReadyH.cons rfl (fun K hK => ?_) AllReadyH.nil)
      go_simp
      have p7 : (w5.setCell ⟨g, 0, none⟩ (.slice Av2 (ls.length + 1) cv2)).cell? ⟨g2, 0, none⟩ = some (.int .i64 (most : Int)) := by rw [World.cell?_setCell_far _ _ _ _ (by simp only; omega)]; exact hks
      have HHeld := And.intro p7 trivial
      refine hK.out _ _ HHeld (fun _ => ?_)
      clear hK K
      (try simp only [Act.put]); (try simp only [List.setIfInBounds_toArray]); (try simp only [List.set_cons_zero, List.set_cons_succ])
      refine wpAnyH_done (by kernel_rfl) ?_ _
      have p6 : (w5.setCell ⟨g, 0, none⟩ (.slice Av2 (ls.length + 1) cv2)).cell? ⟨g, 0, none⟩ = some (.slice Av2 (ls.length + 1) cv2) := World.cell?_setCell_same _ _ _ p5
      generalize hw6 : w5.setCell ⟨g, 0, none⟩ (.slice Av2 (ls.length + 1) cv2) = w6 at *
      clear p5 f5 hks hw6
      go_wp2_with fail
      go_ret
      exact ⟨retB (by show _ = decide (ls.length + 1 < most); rw [decide_eq_decide]; omega), _, HNX.out.1, HNX.out.2, fun x hx => by rcases hx with h | h; exact .inl h; exact .inr h.1⟩
end Go.Proofs.YtdedajohkdbdkaaGreat
