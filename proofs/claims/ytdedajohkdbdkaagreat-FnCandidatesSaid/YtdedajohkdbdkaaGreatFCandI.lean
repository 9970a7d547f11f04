/- Contract of candidates (of the program). -/
import Derived.Test.YtdedajohkdbdkaaGreatFFirst
import Derived.Test.YtdedajohkdbdkaaGreatFEachN
import Derived.Test.YtdedajohkdbdkaaGreatFStaysI
import Derived.Test.YtdedajohkdbdkaaGreatDr
namespace Go.Proofs.YtdedajohkdbdkaaGreat
set_option linter.unusedVariables false
open Go.RowKit
/-- the visitor: keys found, how many -/
def visC (p : List Int → Bool) (most : Int) (s : List (List Int) × Int) (k : List Int) : Bool × (List (List Int) × Int) :=
  if p k = true then (decide (wrap64 (s.2 + 1) ≠ most), (if 0 < most then s.1 ++ [k] else s.1, wrap64 (s.2 + 1))) else (true, s)
theorem visC_no {p : List Int → Bool} {most : Int} {s : List (List Int) × Int} {k : List Int} (h : p k = false) : visC p most s k = (true, s) := by unfold visC; rw [if_neg (by rw [h]; simp)]
theorem visC_add {p : List Int → Bool} {most : Int} {s : List (List Int) × Int} {k : List Int} (h : p k = true) (hm : 0 < most) : visC p most s k = (decide (wrap64 (s.2 + 1) ≠ most), (s.1 ++ [k], wrap64 (s.2 + 1))) := by unfold visC; rw [if_pos h, if_pos hm]
theorem visC_cnt {p : List Int → Bool} {most : Int} {s : List (List Int) × Int} {k : List Int} (h : p k = true) (hm : ¬ 0 < most) : visC p most s k = (decide (wrap64 (s.2 + 1) ≠ most), (s.1, wrap64 (s.2 + 1))) := by unfold visC; rw [if_pos h, if_neg hm]
theorem wrap_succ {n : Nat} (h : n ≤ 1000000000) : wrap64 ((n : Int) + 1) = ((n + 1 : Nat) : Int) := by unfold wrap64; omega
theorem runVisC_all (p : List Int → Bool) {most : Int} (h : most < 0) (l : List (List Int)) : ∀ (ks : List (List Int)) (n : Nat), n + ks.length ≤ 1000000000 → (runVis (visC p most) (l, (n : Int)) ks).2 = (l, ((n + (ks.filter p).length : Nat) : Int))
  | [], n, _ => by simp [runVis]
  | k :: ks, n, hn => by
    rw [List.length_cons] at hn
    rw [runVis]
    cases hk : p k with
    | true =>
      rw [visC_cnt hk (by omega)]
      simp only [wrap_succ (show n ≤ 1000000000 by omega)]
      rw [if_pos (by rw [decide_eq_true_eq]; omega), runVisC_all p h l ks (n + 1) (by omega), List.filter_cons, if_pos hk, List.length_cons]
      congr 2; omega
    | false =>
      rw [visC_no hk, if_pos rfl, runVisC_all p h l ks n (by omega), List.filter_cons, if_neg (by rw [hk]; simp)]
theorem runVisC_most (p : List Int → Bool) {most : Nat} (h : most ≤ 1000) : ∀ (ks s : List (List Int)), s.length < most → (runVis (visC p most) (s, (s.length : Int)) ks).2.1 = (s ++ ks.filter p).take most
  | [], s, h2 => by rw [runVis, List.filter_nil, List.append_nil, List.take_of_length_le (by omega)]
  | k :: ks, s, h2 => by
    rw [runVis]
    cases hk : p k with
    | true =>
      rw [visC_add hk (by omega)]
      simp only [wrap_succ (show s.length ≤ 1000000000 by omega)]
      by_cases hm : s.length + 1 = most
      · rw [if_neg (by rw [decide_eq_true_eq]; omega), List.filter_cons, if_pos hk, show s ++ k :: ks.filter p = (s ++ [k]) ++ ks.filter p by simp, List.take_append_of_le_length (by simp; omega), List.take_of_length_le (by simp; omega)]
      · rw [if_pos (by rw [decide_eq_true_eq]; omega)]
        have := runVisC_most p h ks (s ++ [k]) (by simp; omega)
        rw [List.length_append, List.length_cons, List.length_nil, Nat.zero_add] at this
        rw [this, List.filter_cons, if_pos hk]
        simp
    | false =>
      rw [visC_no hk, if_pos rfl, runVisC_most p h ks s h2, List.filter_cons, if_neg (by rw [hk]; simp)]
/-- the keys found lie in blocks of G, how many there are in block gm -/
def RCand (g gm B : Nat) (s : List (List Int) × Int) (w : World) (F : Nat → Prop) : Prop :=
  ∃ G, RColl g B s.1 w G ∧ ¬ G gm ∧ B ≤ gm ∧ gm < w.heap.size ∧ w.cell? ⟨gm, 0, none⟩ = some (.int .i64 s.2) ∧ w.frozen? ⟨gm, 0, none⟩ = false ∧ ∀ x, F x ↔ (G x ∨ x = gm)
theorem RCand.lt (g gm B : Nat) (s : List (List Int) × Int) (w : World) (F : Nat → Prop) (h : RCand g gm B s w F) : ∀ x, F x → x < w.heap.size := by
  obtain ⟨G, h1, _, _, h4, _, _, h7⟩ := h
  intro x hx
  rcases (h7 x).1 hx with e | e
  · exact RColl.lt g B s.1 w G h1 x e
  · omega
theorem RCand.fr (g gm B : Nat) (s : List (List Int) × Int) (w w' : World) (F : Nat → Prop) (h : RCand g gm B s w F) (k : KeepF (fun x => ¬ F x) w w') : RCand g gm B s w' F := by
  obtain ⟨G, h1, h2, h3, h4, h5, h6, h7⟩ := h
  have hn : ¬ ¬ F gm := fun e => e ((h7 gm).2 (.inr rfl))
  exact ⟨G, RColl.fr g B s.1 w w' G h1 (k.mono fun x hx hg => hx ((h7 x).2 (.inl hg))), h2, h3, by have := k.size; omega, (k.cell (p := ⟨gm, 0, none⟩) h4 hn).trans h5, (k.frozen (p := ⟨gm, 0, none⟩) h4 hn).trans h6, h7⟩
set_option maxRecDepth 100000 in
set_option maxHeartbeats 8000000 in
theorem candClo_any (g gm g2 gs B : Nat) (most : Int) (p : List Int → Bool) (kc : FuncId) (cap : Array Value) (ls : List (List Int)) (n : Int) (A : Option Addr) (c : Nat) (key : List Int) (w : World) (F : Nat → Prop) (h : RCand g gm B (ls, n) w F)
    (hm : w.cell? ⟨g2, 0, none⟩ = some (.int .i64 most)) (hg2 : ¬ F g2) (hs : w.cell? ⟨gs, 0, none⟩ = some (.func (.func kc) #[] cap)) (hgs : ¬ F gs) (hent : Enters Tryz.prog kc)
    (hcall : Calls Tryz.prog kc (#[.slice A key.length c] ++ cap) w fun e w'' => e = .returned (.bool (p key)) ∧ Below w.heap.size w w'')
    (hr : RI w A key) (hkF : ∀ b o, A = some ⟨b, o, none⟩ → ¬ F b) (hkl : key.length ≤ 1000) (hl : 0 < most → n = (ls.length : Int) ∧ (ls.length : Int) < most) (hmost : most ≤ 300) :
    Calls Tryz.prog 127 #[.slice A key.length c, .pointer (some ⟨gs, 0, none⟩), .pointer (some ⟨gm, 0, none⟩), .pointer (some ⟨g2, 0, none⟩), .pointer (some ⟨g, 0, none⟩)] w (VisPost (visC p most) (RCand g gm B) (ls, n) key w F) := by
  have HR0 := Lib.hid h
  obtain ⟨G, hC, hGm, hBm, hml, hmc, hmf, hF⟩ := h
  have hg2l := World.block_lt_of_cell? w _ hm
  simp only at hg2l
  have HFF := Lib.hid hF
  have HM0 := Lib.hid hm
  have HNG := Lib.hid (show ¬ G g2 ∧ ¬ G gm ∧ g2 ≠ gm from ⟨fun e => hg2 ((hF g2).2 (.inl e)), hGm, fun e => hg2 ((hF g2).2 (.inr e))⟩)
  have HC := Lib.hid hC
  have HMC := Lib.hid hmc; have HMF := Lib.hid hmf
  have HRI := Lib.hid hr
  have HKL := Lib.hid hkl
  have hent' := hent
  unfold Enters at hent'
  cases hp : p key with
  | false =>
    rw [hp] at hcall
    have HCC := Lib.hid hcall
    have HVV := Lib.hid (visC_no (most := most) (s := (ls, n)) hp)
    clear hC hGm hmc hmf hF hr hcall hm hg2 hp
    go_enter Tryz.func127, Tryz.ntmps127
    go_wp2_with fail
    refine HCC.out.mono ?_
    rintro e w1 ⟨rfl, b1⟩
    go_wp2_with fail
    go_ret
    unfold VisPost
    rw [HVV.out]
    exact ⟨rfl, F, RCand.fr g gm B _ _ _ F HR0.out (KeepF.ofBelow b1), KeepF.ofBelow b1, fun x hx => .inl hx⟩
  | true =>
    rw [hp] at hcall
    have HCC := Lib.hid hcall
    have HP := Lib.hid hp
    obtain ⟨n2, hn2⟩ : ∃ n2, n2 = wrap64 (n + 1) := ⟨_, rfl⟩
    have HN2 := Lib.hid hn2
    have hwr : wrap64 (n + 1) = n2 := hn2.symm
    clear hn2
    by_cases hpos : 0 < most
    · obtain ⟨hl1, hl2⟩ := hl hpos
      have HVV := Lib.hid (visC_add (s := (ls, n)) hp hpos)
      have HL1 := Lib.hid hl1
      clear hC hGm hmc hmf hF hr hcall hm hg2 hp hl hl1 hkl
      go_enter Tryz.func127, Tryz.ntmps127
      go_wp2_with fail
      refine HCC.out.mono ?_
      rintro e w1 ⟨rfl, b1⟩
      have hs1 := b1.size
      have qm := cell_in b1 (by simp only; omega) HMC.out
      have qf := (b1.frozen (p := ⟨gm, 0, none⟩) hml).trans HMF.out
      have q2 := cell_in b1 (by simp only; omega) HM0.out
      have r22 : (w1.setCell ⟨gm, 0, none⟩ (.int .i64 n2)).cell? ⟨g2, 0, none⟩ = some (.int .i64 most) := (World.cell?_setCell_far _ _ _ _ (Ne.symm HNG.out.2.2)).trans q2
      have r2m : (w1.setCell ⟨gm, 0, none⟩ (.int .i64 n2)).cell? ⟨gm, 0, none⟩ = some (.int .i64 n2) := World.cell?_setCell_same _ _ _ qm
      obtain ⟨w2, hw2⟩ : ∃ w2, w2 = w1.setCell ⟨gm, 0, none⟩ (.int .i64 n2) := ⟨_, rfl⟩
      have HS2 := Lib.hid (show w2.heap.size = w1.heap.size by rw [hw2]; simp)
      have c2m : w2.cell? ⟨gm, 0, none⟩ = some (.int .i64 n2) := by rw [hw2]; exact World.cell?_setCell_same _ _ _ qm
      have c22 : w2.cell? ⟨g2, 0, none⟩ = some (.int .i64 most) := by rw [hw2]; exact (World.cell?_setCell_far _ _ _ _ (Ne.symm HNG.out.2.2)).trans q2
      have f2m : w2.frozen? ⟨gm, 0, none⟩ = false := by rw [hw2]; exact (World.frozen?_setCell _ _ _ _).trans qf
      have kk2 : KeepF (fun x => x = gm) w w2 := by rw [hw2]; exact (KeepF.ofBelow (F := fun x => x = gm) b1).setCell (p := ⟨gm, 0, none⟩) (.inl rfl) _
      have HK2 := Lib.hid kk2
      have hC2 := RColl.fr g B ls w w2 G HC.out (kk2.mono fun x hx hg => HNG.out.2.1 (by subst hx; exact hg))
      have hr2 : RI w2 A key := by
        rw [hw2]
        exact RV.keepF (HRI.out.below b1) ((KeepF.refl (fun x => x = gm) w1).setCell (p := ⟨gm, 0, none⟩) (.inl rfl) _) (fun b o e hb => hkF b o e (by subst hb; exact (HFF.out _).2 (.inr rfl)))
      have HFIN := Lib.hid (show ∀ (w6 : World) (b : Bool), (n2 != most) = b → ∀ G' : Nat → Prop, RColl g B (ls ++ [key]) w6 G' → KeepF G w2 w6 → (∀ x, G' x → G x ∨ w2.heap.size ≤ x) → VisPost (visC p most) (RCand g gm B) (ls, n) key w F (.returned (.bool b)) w6 from fun w6 b hb G' hr6 k6 hG' => by
        have hgm2 : gm < w2.heap.size := by rw [HS2.out]; omega
        unfold VisPost
        rw [HVV.out]
        refine ⟨retB (by show b = decide (wrap64 (n + 1) ≠ most); rw [← HN2.out, ← hb, Bool.eq_iff_iff]; simp), fun x => G' x ∨ x = gm, ⟨G', hr6, fun e => ?_, hBm, by have := k6.size; omega, ?_, ?_, fun x => Iff.rfl⟩, ?_, fun x hx => ?_⟩
        · rcases hG' gm e with h | h
          · exact HNG.out.2.1 h
          · omega
        · rw [← HN2.out]; exact (k6.cell (p := ⟨gm, 0, none⟩) hgm2 HNG.out.2.1).trans c2m
        · exact (k6.frozen (p := ⟨gm, 0, none⟩) hgm2 HNG.out.2.1).trans f2m
        · exact (HK2.out.mono (fun x hx => (HFF.out x).2 (.inr hx))).trans k6 (fun x _ hx => (HFF.out x).2 (.inl hx))
        · rcases hx with hx | hx
          · rcases hG' x hx with h | h
            · exact .inl ((HFF.out x).2 (.inl h))
            · right; have := HS2.out; omega
          · exact .inl ((HFF.out x).2 (.inr hx)))
      obtain ⟨v, us, hV⟩ := hC2
      obtain ⟨Av, cv, rfl, hcv, _⟩ := hV.vv.reads
      rw [hV.len] at *
      have HV := Lib.hid hV
      have pd := hV.cell
      have hgl := hV.fl g hV.fg
      have hBl : B ≤ w2.heap.size := by have := hV.fb g hV.fg; omega
      have HG2 := Lib.hid (And.intro HNG.out.1 HNG.out.2.1)
      have hg22 : g2 < w2.heap.size := by rw [HS2.out]; omega
      have hgm22 : gm < w2.heap.size := by rw [HS2.out]; omega
      have KS := Lib.hid (show ∀ w' : World, Below w2.heap.size w2 w' → (w'.cell? ⟨g2, 0, none⟩ = some (.int .i64 most) ∧ w'.cell? ⟨gm, 0, none⟩ = some (.int .i64 n2) ∧ True) from fun w' hw => ⟨cell_in hw (by simp only; omega) c22, cell_in hw (by simp only; omega) c2m, trivial⟩)
      have HCL := Lib.hid (sClone_any A c key w2.drew hr2 (by have := HKL.out; omega))
      have HW2 := Lib.hid hw2
      clear hV f2m
      go_wp2_with fail
      rw [← hw2]
      clear hw2 qm q2 qf r22 r2m
      refine wp_region_held_drew (S := (fun w' => w'.cell? ⟨g2, 0, none⟩ = some (.int .i64 most) ∧ w'.cell? ⟨gm, 0, none⟩ = some (.int .i64 n2) ∧ True)) (by kernel_rfl) (KS.out _ (belowDrew0 _)) (fun hHeld => ?_)
      refine takeD (i := 1) (some 16) (.slice A key.length c) rfl (by kernel_rfl) (by kernel_rfl) (by kernel_rfl) (by kernel_rfl) (fun _ _ _ h => h) (by assumption) (Or.inl ⟨by rfl, fun w hSw => by (try dsimp only at hSw); go_simp⟩) ?_
      simp only [Act.put, List.setIfInBounds_toArray, List.set_cons_zero, List.set_cons_succ]
      refine wpAnyH_ready (rs := [0, 2]) (by kernel_rfl) (by simp) (AllReadyH.cons rfl (fun K hK => ?_) (AllReadyH.cons rfl (fun K hK => ?_) AllReadyH.nil))
      · go_simp
        have HHeld := KS.out _ (belowDrew0 _)
        refine hK.out _ _ HHeld (fun _ => ?_)
        clear hK K
        try simp only [Act.put, List.setIfInBounds_toArray, List.set_cons_zero, List.set_cons_succ]
        refine wpAnyH_ready (rs := [2]) (by kernel_rfl) (by simp) (AllReadyH.cons rfl (fun K hK => ?_) AllReadyH.nil)
        go_simp
        refine HCL.out.mono ?_
        rintro e w4 ⟨A4, c4, rfl, hc4, hr4, ho4, b4⟩
        have Hb4 := Lib.hid (belowDrew b4)
        have HHeld := KS.out _ Hb4.out
        refine hK.out _ _ HHeld (fun _ => ?_)
        clear hK K
        try simp only [Act.put, List.setIfInBounds_toArray, List.set_cons_zero, List.set_cons_succ]
        refine wpAnyH_ready (rs := [3]) (by kernel_rfl) (by simp) (AllReadyH.cons rfl (fun K hK => ?_) AllReadyH.nil)
        go_simp
        have HHeld := KS.out _ (Hb4.out.alloc Hb4.out.size (.cells #[.slice A4 key.length c4] 33))
        refine hK.out _ _ HHeld (fun _ => ?_)
        clear hK K
        try simp only [Act.put, List.setIfInBounds_toArray, List.set_cons_zero, List.set_cons_succ]
        refine wpAnyH_ready (rs := [4]) (by kernel_rfl) (by simp) (AllReadyH.cons rfl (fun K hK => ?_) AllReadyH.nil)
        refine step_app1 _ (by rfl) _ _ _ (by rfl) B 33 _ 24 Tryz.underlying26 info_sl rfl (by omega) _ _ (by rfl) ((HV.out.vv.below' Hb4.out).alloc _) _ _ (by rfl) (one_cell _ _ _) rfl (by have := HV.out.len; omega) (by have := Hb4.out.size; simp; omega) ?_
        intro v' w5 ho5 hg5 hn5 hat5
        have hnx := HV.out.next (u := .slice A4 key.length c4) (key := key) (o := .cells #[.slice A4 key.length c4] 33) Hb4.out ho4.1 ho5 hg5 hat5
        have HNX := Lib.hid hnx
        obtain ⟨Av2, cv2, hv2, _, _⟩ := ho5.reads
        rw [show (us ++ [Value.slice A4 key.length c4]).length = ls.length + 1 by simp [HV.out.len]] at hv2
        subst hv2
        have k45 : KeepF (fun x => (Value.slice Av ls.length cv).ownBlock = some x) w4 w5 := ((KeepF.refl _ _).alloc _).grown hg5 (fun x e => .inl e)
        have hgn : ¬ ((Value.slice Av ls.length cv).ownBlock = some g) := fun e => (HV.out.fv g e).2 rfl
        have hg4 : g < w4.heap.size := by have := Hb4.out.size; omega
        have p5 := (k45.cell (p := ⟨g, 0, none⟩) hg4 hgn).trans (cell_in Hb4.out (by simp only; omega) pd)
        have f5 := (k45.frozen (p := ⟨g, 0, none⟩) hg4 hgn).trans ((Hb4.out.frozen (p := ⟨g, 0, none⟩) (by simp only; omega)).trans HV.out.fz)
        have hks : w5.cell? ⟨g2, 0, none⟩ = some (.int .i64 most) := (k45.cell (p := ⟨g2, 0, none⟩) (by have := Hb4.out.size; simp only; omega) (fun e => HG2.out.1 (HV.out.fv g2 e).1)).trans ((KS.out _ Hb4.out).1)
        have hkm : w5.cell? ⟨gm, 0, none⟩ = some (.int .i64 n2) := (k45.cell (p := ⟨gm, 0, none⟩) (by have := Hb4.out.size; simp only; omega) (fun e => HG2.out.2 (HV.out.fv gm e).1)).trans ((KS.out _ Hb4.out).2.1)
        have hne : g ≠ g2 := fun e => HG2.out.1 (by rw [← e]; exact HV.out.fg)
        have hnm : g ≠ gm := fun e => HG2.out.2 (by rw [← e]; exact HV.out.fg)
        clear ho5 hg5 hn5 hat5 hnx k45 hgn
        have HHeld := And.intro hks (And.intro hkm trivial)
        refine hK.out _ _ HHeld (fun _ => ?_)
        clear hK K
        (try simp only [Act.put]); (try simp only [List.setIfInBounds_toArray]); (try simp only [List.set_cons_zero, List.set_cons_succ])
        refine wpAnyH_ready (rs := [5]) (by kernel_rfl) (by simp) (AllReadyH.cons rfl (fun K hK => ?_) AllReadyH.nil)
        go_simp
        have p7 : (w5.setCell ⟨g, 0, none⟩ (.slice Av2 (ls.length + 1) cv2)).cell? ⟨g2, 0, none⟩ = some (.int .i64 most) := by rw [World.cell?_setCell_far _ _ _ _ (by simp only; omega)]; exact hks
        have p8 : (w5.setCell ⟨g, 0, none⟩ (.slice Av2 (ls.length + 1) cv2)).cell? ⟨gm, 0, none⟩ = some (.int .i64 n2) := by rw [World.cell?_setCell_far _ _ _ _ (by simp only; omega)]; exact hkm
        have HHeld := And.intro p7 (And.intro p8 trivial)
        refine hK.out _ _ HHeld (fun _ => ?_)
        clear hK K
        (try simp only [Act.put]); (try simp only [List.setIfInBounds_toArray]); (try simp only [List.set_cons_zero, List.set_cons_succ])
        refine wpAnyH_done (by kernel_rfl) ?_ _
        generalize hw6 : w5.setCell ⟨g, 0, none⟩ (.slice Av2 (ls.length + 1) cv2) = w6 at *
        clear p5 f5 hks hkm hw6
        cases hdn : (n2 != most) with
        | true =>
          have HFX := Lib.hid (HFIN.out w6 true hdn _ HNX.out.1 HNX.out.2 (fun x hx => by rcases hx with h | h; exact .inl h; exact .inr h.1))
          go_wp2_with fail
          go_ret
          exact HFX.out
        | false =>
          have HFX := Lib.hid (HFIN.out w6 false hdn _ HNX.out.1 HNX.out.2 (fun x hx => by rcases hx with h | h; exact .inl h; exact .inr h.1))
          go_wp2_with fail
          go_ret
          exact HFX.out
      · go_simp
        refine HCL.out.mono ?_
        rintro e w4 ⟨A4, c4, rfl, hc4, hr4, ho4, b4⟩
        have Hb4 := Lib.hid (belowDrew b4)
        have HHeld := KS.out _ Hb4.out
        refine hK.out _ _ HHeld (fun _ => ?_)
        clear hK K
        try simp only [Act.put, List.setIfInBounds_toArray, List.set_cons_zero, List.set_cons_succ]
        have pd4 := cell_in Hb4.out (by simp only; omega) pd
        have hgl4 : g < w4.heap.size := by have := Hb4.out.size; omega
        refine wpAnyH_ready (rs := [0, 3]) (by kernel_rfl) (by simp) (AllReadyH.cons rfl (fun K hK => ?_) (AllReadyH.cons rfl (fun K hK => ?_) AllReadyH.nil))
        · go_simp
          have HHeld := KS.out _ Hb4.out
          refine hK.out _ _ HHeld (fun _ => ?_)
          clear hK K
          try simp only [Act.put, List.setIfInBounds_toArray, List.set_cons_zero, List.set_cons_succ]
          refine wpAnyH_ready (rs := [3]) (by kernel_rfl) (by simp) (AllReadyH.cons rfl (fun K hK => ?_) AllReadyH.nil)
          go_simp
          have HHeld := KS.out _ (Hb4.out.alloc Hb4.out.size (.cells #[.slice A4 key.length c4] 33))
          refine hK.out _ _ HHeld (fun _ => ?_)
          clear hK K
          try simp only [Act.put, List.setIfInBounds_toArray, List.set_cons_zero, List.set_cons_succ]
          refine wpAnyH_ready (rs := [4]) (by kernel_rfl) (by simp) (AllReadyH.cons rfl (fun K hK => ?_) AllReadyH.nil)
          refine step_app1 _ (by rfl) _ _ _ (by rfl) B 33 _ 24 Tryz.underlying26 info_sl rfl (by omega) _ _ (by rfl) ((HV.out.vv.below' Hb4.out).alloc _) _ _ (by rfl) (one_cell _ _ _) rfl (by have := HV.out.len; omega) (by have := Hb4.out.size; simp; omega) ?_
          intro v' w5 ho5 hg5 hn5 hat5
          have hnx := HV.out.next (u := .slice A4 key.length c4) (key := key) (o := .cells #[.slice A4 key.length c4] 33) Hb4.out ho4.1 ho5 hg5 hat5
          have HNX := Lib.hid hnx
          obtain ⟨Av2, cv2, hv2, _, _⟩ := ho5.reads
          rw [show (us ++ [Value.slice A4 key.length c4]).length = ls.length + 1 by simp [HV.out.len]] at hv2
          subst hv2
          have k45 : KeepF (fun x => (Value.slice Av ls.length cv).ownBlock = some x) w4 w5 := ((KeepF.refl _ _).alloc _).grown hg5 (fun x e => .inl e)
          have hgn : ¬ ((Value.slice Av ls.length cv).ownBlock = some g) := fun e => (HV.out.fv g e).2 rfl
          have hg4 : g < w4.heap.size := by have := Hb4.out.size; omega
          have p5 := (k45.cell (p := ⟨g, 0, none⟩) hg4 hgn).trans (cell_in Hb4.out (by simp only; omega) pd)
          have f5 := (k45.frozen (p := ⟨g, 0, none⟩) hg4 hgn).trans ((Hb4.out.frozen (p := ⟨g, 0, none⟩) (by simp only; omega)).trans HV.out.fz)
          have hks : w5.cell? ⟨g2, 0, none⟩ = some (.int .i64 most) := (k45.cell (p := ⟨g2, 0, none⟩) (by have := Hb4.out.size; simp only; omega) (fun e => HG2.out.1 (HV.out.fv g2 e).1)).trans ((KS.out _ Hb4.out).1)
          have hkm : w5.cell? ⟨gm, 0, none⟩ = some (.int .i64 n2) := (k45.cell (p := ⟨gm, 0, none⟩) (by have := Hb4.out.size; simp only; omega) (fun e => HG2.out.2 (HV.out.fv gm e).1)).trans ((KS.out _ Hb4.out).2.1)
          have hne : g ≠ g2 := fun e => HG2.out.1 (by rw [← e]; exact HV.out.fg)
          have hnm : g ≠ gm := fun e => HG2.out.2 (by rw [← e]; exact HV.out.fg)
          clear ho5 hg5 hn5 hat5 hnx k45 hgn
          have HHeld := And.intro hks (And.intro hkm trivial)
          refine hK.out _ _ HHeld (fun _ => ?_)
          clear hK K
          (try simp only [Act.put]); (try simp only [List.setIfInBounds_toArray]); (try simp only [List.set_cons_zero, List.set_cons_succ])
          refine wpAnyH_ready (rs := [5]) (by kernel_rfl) (by simp) (AllReadyH.cons rfl (fun K hK => ?_) AllReadyH.nil)
          go_simp
          have p7 : (w5.setCell ⟨g, 0, none⟩ (.slice Av2 (ls.length + 1) cv2)).cell? ⟨g2, 0, none⟩ = some (.int .i64 most) := by rw [World.cell?_setCell_far _ _ _ _ (by simp only; omega)]; exact hks
          have p8 : (w5.setCell ⟨g, 0, none⟩ (.slice Av2 (ls.length + 1) cv2)).cell? ⟨gm, 0, none⟩ = some (.int .i64 n2) := by rw [World.cell?_setCell_far _ _ _ _ (by simp only; omega)]; exact hkm
          have HHeld := And.intro p7 (And.intro p8 trivial)
          refine hK.out _ _ HHeld (fun _ => ?_)
          clear hK K
          (try simp only [Act.put]); (try simp only [List.setIfInBounds_toArray]); (try simp only [List.set_cons_zero, List.set_cons_succ])
          refine wpAnyH_done (by kernel_rfl) ?_ _
          generalize hw6 : w5.setCell ⟨g, 0, none⟩ (.slice Av2 (ls.length + 1) cv2) = w6 at *
          clear p5 f5 hks hkm hw6
          cases hdn : (n2 != most) with
          | true =>
            have HFX := Lib.hid (HFIN.out w6 true hdn _ HNX.out.1 HNX.out.2 (fun x hx => by rcases hx with h | h; exact .inl h; exact .inr h.1))
            go_wp2_with fail
            go_ret
            exact HFX.out
          | false =>
            have HFX := Lib.hid (HFIN.out w6 false hdn _ HNX.out.1 HNX.out.2 (fun x hx => by rcases hx with h | h; exact .inl h; exact .inr h.1))
            go_wp2_with fail
            go_ret
            exact HFX.out
        · go_simp
          have HHeld := KS.out _ (Hb4.out.alloc Hb4.out.size (.cells #[.slice A4 key.length c4] 33))
          refine hK.out _ _ HHeld (fun _ => ?_)
          clear hK K
          try simp only [Act.put, List.setIfInBounds_toArray, List.set_cons_zero, List.set_cons_succ]
          refine wpAnyH_ready (rs := [0]) (by kernel_rfl) (by simp) (AllReadyH.cons rfl (fun K hK => ?_) AllReadyH.nil)
          go_simp
          have HHeld := KS.out _ (Hb4.out.alloc Hb4.out.size (.cells #[.slice A4 key.length c4] 33))
          refine hK.out _ _ HHeld (fun _ => ?_)
          clear hK K
          try simp only [Act.put, List.setIfInBounds_toArray, List.set_cons_zero, List.set_cons_succ]
          refine wpAnyH_ready (rs := [4]) (by kernel_rfl) (by simp) (AllReadyH.cons rfl (fun K hK => ?_) AllReadyH.nil)
          refine step_app1 _ (by rfl) _ _ _ (by rfl) B 33 _ 24 Tryz.underlying26 info_sl rfl (by omega) _ _ (by rfl) ((HV.out.vv.below' Hb4.out).alloc _) _ _ (by rfl) (one_cell _ _ _) rfl (by have := HV.out.len; omega) (by have := Hb4.out.size; simp; omega) ?_
          intro v' w5 ho5 hg5 hn5 hat5
          have hnx := HV.out.next (u := .slice A4 key.length c4) (key := key) (o := .cells #[.slice A4 key.length c4] 33) Hb4.out ho4.1 ho5 hg5 hat5
          have HNX := Lib.hid hnx
          obtain ⟨Av2, cv2, hv2, _, _⟩ := ho5.reads
          rw [show (us ++ [Value.slice A4 key.length c4]).length = ls.length + 1 by simp [HV.out.len]] at hv2
          subst hv2
          have k45 : KeepF (fun x => (Value.slice Av ls.length cv).ownBlock = some x) w4 w5 := ((KeepF.refl _ _).alloc _).grown hg5 (fun x e => .inl e)
          have hgn : ¬ ((Value.slice Av ls.length cv).ownBlock = some g) := fun e => (HV.out.fv g e).2 rfl
          have hg4 : g < w4.heap.size := by have := Hb4.out.size; omega
          have p5 := (k45.cell (p := ⟨g, 0, none⟩) hg4 hgn).trans (cell_in Hb4.out (by simp only; omega) pd)
          have f5 := (k45.frozen (p := ⟨g, 0, none⟩) hg4 hgn).trans ((Hb4.out.frozen (p := ⟨g, 0, none⟩) (by simp only; omega)).trans HV.out.fz)
          have hks : w5.cell? ⟨g2, 0, none⟩ = some (.int .i64 most) := (k45.cell (p := ⟨g2, 0, none⟩) (by have := Hb4.out.size; simp only; omega) (fun e => HG2.out.1 (HV.out.fv g2 e).1)).trans ((KS.out _ Hb4.out).1)
          have hkm : w5.cell? ⟨gm, 0, none⟩ = some (.int .i64 n2) := (k45.cell (p := ⟨gm, 0, none⟩) (by have := Hb4.out.size; simp only; omega) (fun e => HG2.out.2 (HV.out.fv gm e).1)).trans ((KS.out _ Hb4.out).2.1)
          have hne : g ≠ g2 := fun e => HG2.out.1 (by rw [← e]; exact HV.out.fg)
          have hnm : g ≠ gm := fun e => HG2.out.2 (by rw [← e]; exact HV.out.fg)
          clear ho5 hg5 hn5 hat5 hnx k45 hgn
          have HHeld := And.intro hks (And.intro hkm trivial)
          refine hK.out _ _ HHeld (fun _ => ?_)
          clear hK K
          (try simp only [Act.put]); (try simp only [List.setIfInBounds_toArray]); (try simp only [List.set_cons_zero, List.set_cons_succ])
          refine wpAnyH_ready (rs := [5]) (by kernel_rfl) (by simp) (AllReadyH.cons rfl (fun K hK => ?_) AllReadyH.nil)
          go_simp
          have p7 : (w5.setCell ⟨g, 0, none⟩ (.slice Av2 (ls.length + 1) cv2)).cell? ⟨g2, 0, none⟩ = some (.int .i64 most) := by rw [World.cell?_setCell_far _ _ _ _ (by simp only; omega)]; exact hks
          have p8 : (w5.setCell ⟨g, 0, none⟩ (.slice Av2 (ls.length + 1) cv2)).cell? ⟨gm, 0, none⟩ = some (.int .i64 n2) := by rw [World.cell?_setCell_far _ _ _ _ (by simp only; omega)]; exact hkm
          have HHeld := And.intro p7 (And.intro p8 trivial)
          refine hK.out _ _ HHeld (fun _ => ?_)
          clear hK K
          (try simp only [Act.put]); (try simp only [List.setIfInBounds_toArray]); (try simp only [List.set_cons_zero, List.set_cons_succ])
          refine wpAnyH_done (by kernel_rfl) ?_ _
          generalize hw6 : w5.setCell ⟨g, 0, none⟩ (.slice Av2 (ls.length + 1) cv2) = w6 at *
          clear p5 f5 hks hkm hw6
          cases hdn : (n2 != most) with
          | true =>
            have HFX := Lib.hid (HFIN.out w6 true hdn _ HNX.out.1 HNX.out.2 (fun x hx => by rcases hx with h | h; exact .inl h; exact .inr h.1))
            go_wp2_with fail
            go_ret
            exact HFX.out
          | false =>
            have HFX := Lib.hid (HFIN.out w6 false hdn _ HNX.out.1 HNX.out.2 (fun x hx => by rcases hx with h | h; exact .inl h; exact .inr h.1))
            go_wp2_with fail
            go_ret
            exact HFX.out
    · have HVV := Lib.hid (visC_cnt (s := (ls, n)) hp hpos)
      have hpos' : decide (0 < most) = false := decide_eq_false hpos
      clear hC hGm hmc hmf hF hr hcall hm hg2 hp hl hkl
      go_enter Tryz.func127, Tryz.ntmps127
      go_wp2_with fail
      refine HCC.out.mono ?_
      rintro e w1 ⟨rfl, b1⟩
      have hs1 := b1.size
      have qm := cell_in b1 (by simp only; omega) HMC.out
      have qf := (b1.frozen (p := ⟨gm, 0, none⟩) hml).trans HMF.out
      have q2 := cell_in b1 (by simp only; omega) HM0.out
      have r22 : (w1.setCell ⟨gm, 0, none⟩ (.int .i64 n2)).cell? ⟨g2, 0, none⟩ = some (.int .i64 most) := (World.cell?_setCell_far _ _ _ _ (Ne.symm HNG.out.2.2)).trans q2
      have r2m : (w1.setCell ⟨gm, 0, none⟩ (.int .i64 n2)).cell? ⟨gm, 0, none⟩ = some (.int .i64 n2) := World.cell?_setCell_same _ _ _ qm
      obtain ⟨w2, hw2⟩ : ∃ w2, w2 = w1.setCell ⟨gm, 0, none⟩ (.int .i64 n2) := ⟨_, rfl⟩
      have HS2 := Lib.hid (show w2.heap.size = w1.heap.size by rw [hw2]; simp)
      have c2m : w2.cell? ⟨gm, 0, none⟩ = some (.int .i64 n2) := by rw [hw2]; exact World.cell?_setCell_same _ _ _ qm
      have c22 : w2.cell? ⟨g2, 0, none⟩ = some (.int .i64 most) := by rw [hw2]; exact (World.cell?_setCell_far _ _ _ _ (Ne.symm HNG.out.2.2)).trans q2
      have f2m := Lib.hid (show w2.frozen? ⟨gm, 0, none⟩ = false by rw [hw2]; exact (World.frozen?_setCell _ _ _ _).trans qf)
      have kk2 : KeepF (fun x => x = gm) w w2 := by rw [hw2]; exact (KeepF.ofBelow (F := fun x => x = gm) b1).setCell (p := ⟨gm, 0, none⟩) (.inl rfl) _
      have HK2 := Lib.hid kk2
      have hC2 := Lib.hid (RColl.fr g B ls w w2 G HC.out (kk2.mono fun x hx hg => HNG.out.2.1 (by subst hx; exact hg)))
      have HMM := Lib.hid c2m
      have HFIN := Lib.hid (show ∀ (b : Bool), (n2 != most) = b → VisPost (visC p most) (RCand g gm B) (ls, n) key w F (.returned (.bool b)) w2 from fun b hb => by
        unfold VisPost
        rw [HVV.out]
        refine ⟨retB (by show b = decide (wrap64 (n + 1) ≠ most); rw [← HN2.out, ← hb, Bool.eq_iff_iff]; simp), F, ⟨G, hC2.out, HNG.out.2.1, hBm, by rw [HS2.out]; omega, by rw [← HN2.out]; exact HMM.out, f2m.out, HFF.out⟩, HK2.out.mono (fun x hx => (HFF.out x).2 (.inr hx)), fun x hx => .inl hx⟩)
      have hg22 : g2 < w2.heap.size := by rw [HS2.out]; omega
      have hgm22 : gm < w2.heap.size := by rw [HS2.out]; omega
      clear kk2
      have HW2 := Lib.hid hw2
      clear c2m c22 hw2
      cases hdn : (n2 != most) with
      | true =>
        have HFX := Lib.hid (HFIN.out true hdn)
        go_wp2_with fail
        go_ret
        rw [← HW2.out]
        exact HFX.out
      | false =>
        have HFX := Lib.hid (HFIN.out false hdn)
        go_wp2_with fail
        go_ret
        rw [← HW2.out]
        exact HFX.out
/-- keys with which partial cuts stay open, at most so many, and, if most is negative, how many there are -/
def ResCand (m : Mk) (t cuts : List (List Int)) (most : Int) (w : World) (e : Ending) (w' : World) : Prop :=
  ∃ A c ks n, e = .returned (.tuple #[.slice A ks.length c, .int .i64 n]) ∧ ks.length ≤ c ∧ OII w' w.heap.size w'.heap.size (.slice A ks.length c) ks ∧ (0 ≤ most → ks = (candsF m t cuts).take most.toNat) ∧ (most < 0 → n = ((candsF m t cuts).length : Int)) ∧ Below w.heap.size w w'
theorem candVis (m : Mk) (hm : isMaker m = true) (t cuts : List (List Int)) (g gm g2 gs B : Nat) (most : Int) (hmost : most ≤ 300) (kc : FuncId) (cap : Array Value) (w : World) (F : Nat → Prop) (hmc : w.cell? ⟨g2, 0, none⟩ = some (.int .i64 most)) (hg2 : ¬ F g2)
    (hs : w.cell? ⟨gs, 0, none⟩ = some (.func (.func kc) #[] cap)) (hgs : ¬ F gs) (hent : Enters Tryz.prog kc) (hst : StaysFn F m t cuts kc cap w) :
    VisOK 127 #[.pointer (some ⟨gs, 0, none⟩), .pointer (some ⟨gm, 0, none⟩), .pointer (some ⟨g2, 0, none⟩), .pointer (some ⟨g, 0, none⟩)] (visC (staysF m t cuts) most) (RCand g gm B) (fun s => 0 < most → s.2 = (s.1.length : Int) ∧ (s.1.length : Int) < most) (fun k => k ∈ keysG m allA [] m.c.toNat [] false) w F :=
  ⟨enters Tryz.func127 (by kernel_rfl) rfl, fun s key hl _ h h0 => by
    obtain ⟨h1, h2⟩ := hl h0
    cases hp : staysF m t cuts key with
    | false => rw [visC_no hp]; exact ⟨h1, h2⟩
    | true =>
      rw [visC_add hp h0] at h ⊢
      simp only [decide_eq_true_eq] at h
      have e : wrap64 (s.2 + 1) = ((s.1.length + 1 : Nat) : Int) := by rw [h1]; exact wrap_succ (by omega)
      rw [e] at h
      refine ⟨by rw [e]; simp, by simp; omega⟩, RCand.lt g gm B, RCand.fr g gm B, fun s w' G A c key hl hk hR hG hp hc hr hGA => by
    have hlt := World.block_lt_of_cell? w _ hmc
    have hlt2 := World.block_lt_of_cell? w _ hs
    simp only at hlt hlt2
    have hx := key_parts ((allK_is hm).1 hp)
    have hc6 := (mk_bounds hm).2.1
    exact candClo_any g gm g2 gs B most (staysF m t cuts) kc cap s.1 s.2 A c key w' G hR ((hk.cell (p := ⟨g2, 0, none⟩) hlt hg2).trans hmc) (fun e => by rcases hG g2 e with h | h; exact hg2 h; omega)
      ((hk.cell (p := ⟨gs, 0, none⟩) hlt2 hgs).trans hs) (fun e => by rcases hG gs e with h | h; exact hgs h; omega) hent (hst w' hk A c key hr hc hx.1) hr hGA (by omega) hl hmost⟩
set_option maxRecDepth 100000 in
set_option maxHeartbeats 8000000 in
theorem candidates_any (m : Mk) (A : Option Addr) (c : Nat) (t : List (List Int)) (B : Option Addr) (d : Nat) (cuts : List (List Int)) (most : Int) (w : World) (h : RII w A t) (g : RII w B cuts) (hp : PartOK m t cuts) (hlt : cuts.length < t.length) (hmost : most ≤ 300) :
    Calls Tryz.prog 79 #[.agg #[.int .i64 m.c, .int .i64 m.d, .int .i64 m.s, .int .i64 m.a, .int .i64 m.l, .slice A t.length c], .slice B cuts.length d, .int .i64 most] w (ResCand m t cuts most w) := by
  obtain ⟨w1, hw1⟩ : ∃ w1, w1 = ((((w.alloc (.cells #[.int .i64 m.c, .int .i64 m.d, .int .i64 m.s, .int .i64 m.a, .int .i64 m.l, .slice A t.length c] 45)).alloc (.cells #[.int .i64 most] 2)).alloc (.cells #[] 33)).alloc (.cells #[.slice (some ⟨w.heap.size + 1 + 1, 0, none⟩) 0 0] 26)).alloc (.cells #[.int .i64 0] 2) := ⟨_, rfl⟩
  have B0 : Below w.heap.size w w1 := by
    rw [hw1]; exact (((((Below.refl w.heap.size w).alloc (Nat.le_refl _) _).alloc (by simp only [World.size_alloc]; omega) _).alloc (by simp only [World.size_alloc]; omega) _).alloc (by simp only [World.size_alloc]; omega) _).alloc (by simp only [World.size_alloc]; omega) _
  have hz1 : w1.heap.size = w.heap.size + 5 := by rw [hw1]; simp
  have c1 : w1.cell? ⟨w.heap.size + 1, 0, none⟩ = some (.int .i64 most) := by
    rw [hw1]
    iterate 3 rw [World.cell?_alloc_lt _ _ _ (by simp only [World.size_alloc]; omega)]
    rw [World.cell?_alloc_at (hn := by simp)]; rfl
  have c3 : w1.cell? ⟨w.heap.size + 1 + 1 + 1, 0, none⟩ = some (.slice (some ⟨w.heap.size + 1 + 1, 0, none⟩) 0 0) := by
    rw [hw1]
    iterate 1 rw [World.cell?_alloc_lt _ _ _ (by simp only [World.size_alloc]; omega)]
    rw [World.cell?_alloc_at (hn := by simp)]; rfl
  have f3 : w1.frozen? ⟨w.heap.size + 1 + 1 + 1, 0, none⟩ = false := by
    rw [hw1, World.frozen?_alloc_past _ _ _ (by simp only [World.size_alloc]; omega), World.frozen?_alloc_at (hn := by simp)]
  have c4 : w1.cell? ⟨w.heap.size + 1 + 1 + 1 + 1, 0, none⟩ = some (.int .i64 0) := by
    rw [hw1, World.cell?_alloc_at (hn := by simp)]; rfl
  have f4 : w1.frozen? ⟨w.heap.size + 1 + 1 + 1 + 1, 0, none⟩ = false := by rw [hw1, World.frozen?_alloc_at (hn := by simp)]
  have ho : OV w1 (w.heap.size + 2) 33 (.slice (some ⟨w.heap.size + 1 + 1, 0, none⟩) 0 0) [] := by
    have := ((OV.new0 (w := (w.alloc (.cells #[.int .i64 m.c, .int .i64 m.d, .int .i64 m.s, .int .i64 m.a, .int .i64 m.l, .slice A t.length c] 45)).alloc (.cells #[.int .i64 most] 2)) (B := w.heap.size + 2) (e := 33) (by simp)).alloc (.cells #[.slice (some ⟨w.heap.size + 1 + 1, 0, none⟩) 0 0] 26)).alloc (.cells #[.int .i64 0] 2)
    rw [hw1]; simpa using this
  have bS : BoxC w1 w.heap.size 0 [.int .i64 m.c, .int .i64 m.d, .int .i64 m.s, .int .i64 m.a, .int .i64 m.l, .slice A t.length c] := by
    have : BoxC (w.alloc (.cells #[.int .i64 m.c, .int .i64 m.d, .int .i64 m.s, .int .i64 m.a, .int .i64 m.l, .slice A t.length c] 45)) w.heap.size 0 [.int .i64 m.c, .int .i64 m.d, .int .i64 m.s, .int .i64 m.a, .int .i64 m.l, .slice A t.length c] := by simp [BoxC, Go.World.cell?_alloc_at]
    rw [hw1]
    exact (((this.below ((Below.refl _ _).alloc (Nat.le_refl _) _)).below ((Below.refl _ _).alloc (Nat.le_refl _) _)).below ((Below.refl _ _).alloc (Nat.le_refl _) _)).below ((Below.refl _ _).alloc (Nat.le_refl _) _)
  have hC : RColl (w.heap.size + 1 + 1 + 1) (w.heap.size + 2) [] w1 (fun x => x = w.heap.size + 2 ∨ x = w.heap.size + 3) :=
    ⟨_, [], rfl, ho, fun j hj => by simp at hj, fun i j u u' _ hi => by simp at hi, fun x e => by simp [Value.ownBlock] at e; omega, fun j u x hj => by simp at hj, c3, f3, .inr rfl, fun x hx => by omega, fun x hx => by omega⟩
  have HR := Lib.hid (show RCand (w.heap.size + 1 + 1 + 1) (w.heap.size + 1 + 1 + 1 + 1) (w.heap.size + 2) ([], 0) w1 (fun x => (x = w.heap.size + 2 ∨ x = w.heap.size + 3) ∨ x = w.heap.size + 4) from
    ⟨_, hC, fun e => by omega, by omega, by omega, c4, f4, fun x => Iff.rfl⟩)
  have HOV := Lib.hid (show ∀ W, Below w1.heap.size w1 W → OII W w.heap.size W.heap.size (.slice (some ⟨w.heap.size + 1 + 1, 0, none⟩) 0 0) [] from fun W hW => by
    obtain ⟨v1, us1, hV1⟩ := hC
    have hv : v1 = .slice (some ⟨w.heap.size + 1 + 1, 0, none⟩) 0 0 := by have := hV1.cell.symm.trans c3; injection this
    subst hv
    exact (hV1.oii.below hW).wide (by omega) hW.size)
  have HBS := Lib.hid bS
  have HP := Lib.hid hp; have HLT := Lib.hid hlt
  have HOP := Lib.hid (fun W (hW : Below w.heap.size w W) => isOpenPart_any m A c t B d cuts W (h.below hW) (g.below hW) hp)
  have HNF := Lib.hid (show RIIn (fun x => w.heap.size ≤ x) w A t ∧ RIIn (fun x => w.heap.size ≤ x) w B cuts from ⟨h.nF fun _ h => h, g.nF fun _ h => h⟩)
  have HF0 := Lib.hid (show ∀ x, ((x = w.heap.size + 2 ∨ x = w.heap.size + 3) ∨ x = w.heap.size + 4) → w.heap.size + 2 ≤ x ∧ x < w.heap.size + 5 from fun x hx => by omega)
  have C1 := Lib.hid c1
  have hnof := fun e : Prop => e
  have l1 : w.heap.size + 1 < w1.heap.size := by omega
  have l3 : w.heap.size + 1 + 1 + 1 < w1.heap.size := by omega
  have l4 : w.heap.size + 1 + 1 + 1 + 1 < w1.heap.size := by omega
  have HZ1 := Lib.hid hz1
  clear h g hp hlt ho hC bS f3 f4 hnof hz1
  by_cases h0 : most = 0
  · subst h0
    go_enter Tryz.func79, Tryz.ntmps79
    go_wp2_with fail
    rw [← hw1]
    clear hw1
    go_quiet (fail)
    go_wp2_with fail
    go_ret2
    exact ⟨_, 0, [], 0, rfl, Nat.le_refl _, HOV.out _ (belowD (Below.refl _ _) _), fun _ => by simp, fun h => by omega, belowD B0 _⟩
  have hne : (most == 0) = false := by simpa using h0
  cases hop : openPart m t cuts with
  | false =>
    rw [hop] at HOP
    have HOPP := HOP; clear HOP
    have HNO := Lib.hid (candsF_closed hop)
    have HH := Lib.hid hop; clear hop h0
    go_enter Tryz.func79, Tryz.ntmps79
    go_wp2_with fail
    rw [← hw1]
    refine (HOPP.out _ B0).mono ?_
    rintro e w2 ⟨rfl, b2⟩
    clear hw1
    have d3 := cell_in b2 (by simp only; omega) c3
    have d4 := cell_in b2 (by simp only; omega) c4
    have hs2 := b2.size
    have B2 := B0.trans (b2.mono B0.size)
    have HB2 := Lib.hid b2
    go_wp2_with fail
    go_quiet (fail)
    go_wp2_with fail
    go_ret2
    exact ⟨_, 0, [], 0, rfl, Nat.le_refl _, HOV.out _ (belowD HB2.out _), fun _ => by rw [HNO.out]; simp, fun _ => by rw [HNO.out]; rfl, belowD B2 _⟩
  | true =>
    rw [hop] at HOP
    have HOPP := HOP; clear HOP
    have HCS := Lib.hid (candsF_stays HP.out hop)
    have HH := Lib.hid (And.intro hop h0); clear hop h0
    go_enter Tryz.func79, Tryz.ntmps79
    go_wp2_with fail
    rw [← hw1]
    refine (HOPP.out _ B0).mono ?_
    rintro e w2 ⟨rfl, b2⟩
    clear hw1
    have hs2 := b2.size
    have B2 := B0.trans (b2.mono B0.size)
    have HB2 := Lib.hid b2
    have hws : w.heap.size < w2.heap.size := by omega
    obtain ⟨q0, q1, q2, q3, q4, q5, _⟩ := HBS.out.keep fun i v hv => cell_in b2 (by simp only; omega) hv
    clear c1 c3 c4
    go_wp2_with fail
    refine (staysOpen_any (fun x => (x = w.heap.size + 2 ∨ x = w.heap.size + 3) ∨ x = w.heap.size + 4) m A c t B d cuts w2 ((HNF.out.1.keepF (KeepF.ofBelow B2)).mono (fun x hx => by have := HF0.out x hx; omega)) ((HNF.out.2.keepF (KeepF.ofBelow B2)).mono (fun x hx => by have := HF0.out x hx; omega)) (fun x hx => by have := HF0.out x hx; have := HZ1.out; omega) HP.out HLT.out).mono ?_
    rintro e w3 ⟨cap, rfl, hst, b3⟩
    have HST := Lib.hid hst
    obtain ⟨w4, hw4⟩ : ∃ w4, w4 = w3.alloc (.cells #[.func (.func 157) #[] cap] 81) := ⟨_, rfl⟩
    have HB4 := Lib.hid (show Below w1.heap.size w1 w4 by rw [hw4]; exact (HB2.out.trans (b3.mono HB2.out.size)).alloc (by have := HB2.out.size; have := b3.size; omega) _)
    have cs4 : w4.cell? ⟨w3.heap.size, 0, none⟩ = some (.func (.func 157) #[] cap) := by rw [hw4]; simp
    have K34 := Lib.hid (show KeepF (fun x => (x = w.heap.size + 2 ∨ x = w.heap.size + 3) ∨ x = w.heap.size + 4) w3 w4 by rw [hw4]; exact (KeepF.refl _ _).alloc _)
    have hs3 := b3.size
    have hws3 : w.heap.size < w3.heap.size := by omega
    obtain ⟨p0, p1, p2, p3, p4, p5, _⟩ := HBS.out.keep fun i v hv => cell_in ((HB2.out.trans (b3.mono HB2.out.size))) (by simp only; omega) hv
    have HV := Lib.hid (candVis m HP.out.mak t cuts (w.heap.size + 1 + 1 + 1) (w.heap.size + 1 + 1 + 1 + 1) (w.heap.size + 1) w3.heap.size (w.heap.size + 2) most hmost 157 cap w4 _ (cell_in HB4.out (by simp only; omega) C1.out) (fun e => by have := HF0.out _ e; omega) cs4 (fun e => by have := HF0.out _ e; have := HZ1.out; omega)
      (enters Tryz.func157 (by kernel_rfl) rfl) (fun w' k => HST.out w' (K34.out.trans k (fun _ _ e => e))))
    have HR4 := Lib.hid (RCand.fr _ _ _ _ w1 w4 _ HR.out (KeepF.ofBelow HB4.out))
    have HEK := Lib.hid (eachKey_n m HP.out.mak _ _ _ _ _ w4 _ ([], 0) HV.out HR4.out (fun hpos => ⟨rfl, by simpa using hpos⟩))
    clear hst q0 q1 q2 q3 q4 q5 cs4 b2 b3
    go_wp2_with fail
    rw [← hw4]
    refine HEK.out.mono ?_
    rintro e w5 ⟨rfl, G, hR5, hk5, hG5⟩
    obtain ⟨ks, n, hkn⟩ : ∃ ks n, (runVis (visC (staysF m t cuts) most) ([], 0) (keysG m allA [] m.c.toNat [] false)).2 = (ks, n) := ⟨_, _, rfl⟩
    rw [hkn] at hR5
    have HKN := Lib.hid hkn
    obtain ⟨G', ⟨v5, us5, hV5⟩, hGm, _, _, hc5, _, _⟩ := hR5
    have hv5 := hV5.cell
    have ho5 := hV5.oii
    have HO5 := Lib.hid ho5
    have HB5 := Lib.hid ((B0.trans (HB4.out.mono B0.size)).trans ((hk5.toBelow (B := w.heap.size) (by have := HB4.out.size; omega) (fun x hx e => by have := HF0.out x e; omega))))
    simp only at hv5 hc5
    obtain ⟨A5, c5, e5, hcc5, _⟩ := ho5.reads
    subst e5
    clear hw4 hk5 hG5 hkn hV5 ho5 p0 p1 p2 p3 p4 p5
    go_wp2_with fail
    go_quiet (fail)
    go_wp2_with fail
    go_ret2
    refine ⟨A5, c5, ks, n, rfl, hcc5, HO5.out.wide (by omega) (Nat.le_refl _), fun hge => ?_, fun hneg => ?_, belowD HB5.out _⟩
    · obtain ⟨k, rfl⟩ : ∃ k : Nat, most = (k : Int) := ⟨most.toNat, by omega⟩
      have := runVisC_most (staysF m t cuts) (most := k) (by omega) (allK m) [] (by have := HH.out.2; simp; omega)
      rw [show (([] : List (List Int)).length : Int) = 0 from rfl, List.nil_append] at this
      rw [HCS.out, Int.toNat_natCast, ← this]
      have e := HKN.out
      rw [show keysG m allA [] m.c.toNat [] false = allK m from rfl] at e
      rw [e]
    · have := runVisC_all (staysF m t cuts) hneg [] (allK m) 0 (by have := allK_len HP.out.mak; omega)
      have e := HKN.out
      rw [show keysG m allA [] m.c.toNat [] false = allK m from rfl] at e
      rw [show ((0 : Nat) : Int) = 0 from rfl, e] at this
      injection this with _ h2
      rw [h2, HCS.out, Nat.zero_add]
end Go.Proofs.YtdedajohkdbdkaaGreat
