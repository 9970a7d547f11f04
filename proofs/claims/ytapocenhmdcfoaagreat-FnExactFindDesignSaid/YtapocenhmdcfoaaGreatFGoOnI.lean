/- Contract of goOn (of the program). Printed by wip/gen_goon.py. -/
import Derived.Test.YtapocenhmdcfoaaGreatFGoOn
import Derived.Deep.DeepCutAuto
import Derived.Deep.Cut
import Derived.Deep.CutRange
namespace Go.Proofs.YtapocenhmdcfoaaGreat
set_option linter.unusedVariables false
open Go.RowKit
set_option maxRecDepth 100000 in
set_option maxHeartbeats 16000000 in
theorem goOn_any {τ : Type} (RD : τ → World → (Nat → Prop) → Prop) (LD : τ → Prop) (X : Nat) (m : Mk) (A : Option Addr) (c : Nat) (t : List (List Int)) (lim : Nat) (hlim : lim ≤ 4000) (kd : FuncId) (capD : Array Value) (visD : τ → List (List Int) → Bool × τ) (w0 : World) (F0 : Nat → Prop)
    (hD : DesOK kd capD visD RD LD m t w0 F0) (hT : RIIn (fun g => F0 g ∨ w0.heap.size ≤ g) w0 A t) : ∀ (r : Nat), GoIH RD LD X m A c t lim kd capD visD w0 F0 44 r := by
  have hentD := hD.ent
  unfold Enters at hentD
  intro r
  induction r with
  | zero =>
    intro cuts st w' F' B d hp hlt ho hcd htr hLD hK hsub hRS hB
    obtain ⟨w1, hw1⟩ : ∃ w1, w1 = ((w'.alloc (.cells #[.pointer (some ⟨X, 0, none⟩)] 58)).alloc (.cells #[.slice B cuts.length d] 24)).alloc (.cells #[.slice none 0 0] 47) := ⟨_, rfl⟩
    have B1 : Below w'.heap.size w' w1 := by rw [hw1]; exact (((Below.refl w'.heap.size w').alloc (Nat.le_refl _) _).alloc (by simp only [World.size_alloc]; omega) _).alloc (by simp only [World.size_alloc]; omega) _
    have hz1 : w1.heap.size = w'.heap.size + 3 := by rw [hw1]; simp
    have cX : w1.cell? ⟨w'.heap.size, 0, none⟩ = some (.pointer (some ⟨X, 0, none⟩)) := by
      rw [hw1]
      iterate 2 rw [World.cell?_alloc_lt _ _ _ (by simp only [World.size_alloc]; omega)]
      rw [World.cell?_alloc_at (hn := by simp)]; rfl
    have cC : w1.cell? ⟨w'.heap.size + 1, 0, none⟩ = some (.slice B cuts.length d) := by
      rw [hw1]
      iterate 1 rw [World.cell?_alloc_lt _ _ _ (by simp only [World.size_alloc]; omega)]
      rw [World.cell?_alloc_at (hn := by simp)]; rfl
    have cF : w1.cell? ⟨w'.heap.size + 1 + 1, 0, none⟩ = some (.slice none 0 0) := by
      rw [hw1, World.cell?_alloc_at (hn := by simp)]; rfl
    have HRS1 := Lib.hid (RS.fr hD.fr st w' w1 F' hRS (KeepF.ofBelow B1))
    obtain ⟨G0, hG0, nGX, hXl, bX, f7, f8, hFx⟩ := HRS1.out
    have HBX := Lib.hid bX
    obtain ⟨x0, x1, x2, x3, x4, x5, x6, x7, x8, x9, _⟩ := bX
    simp only [Nat.zero_add] at x1 x2 x3 x4 x5 x6 x7 x8 x9
    have HG0 := Lib.hid hG0
    have HFX := Lib.hid hFx
    have htl := hT.rii.le
    have hcl := hB.rii.le
    have lz : w'.heap.size < w1.heap.size := by omega
    have lz1 : w'.heap.size + 1 < w1.heap.size := by omega
    have lz2 : w'.heap.size + 1 + 1 < w1.heap.size := by omega
    have t1 : ((cuts.length : Int) == (t.length : Int)) = true := by simp; omega
    have HDC := Lib.hid (fun (W : World) (hW : Below w'.heap.size w' W) (hR : RD st.vis W G0) => hD.call st.vis W G0 B d cuts hLD (hK.trans (KeepF.ofBelow (F := F0) hW) (fun _ _ e => e)) hR (fun g hg => hsub g ((hFx g).2 (.inl hg))) ((hB.mono (fun g hg => (hFx g).2 (.inl hg))).keepF (KeepF.ofBelow hW)) hp)
    obtain ⟨b9, s9, hv9⟩ : ∃ b9 s9, visD st.vis cuts = (b9, s9) := ⟨_, _, rfl⟩
    rw [hv9] at HDC
    have HGF := Lib.hid (show goF m t lim visD 0 cuts st = (b9, ⟨st.tries, st.over, s9⟩) by unfold goF; rw [hv9])
    have HDD := Lib.hid hD
    have HNX := Lib.hid nGX
    have HX := Lib.hid hXl
    have HF := Lib.hid (And.intro f7 f8)
    have HK := Lib.hid (And.intro hsub hK)
    have HH := Lib.hid (And.intro hp hlt); have HB := Lib.hid hB
    have HLB := Lib.hid B1
    have HLF := Lib.hid (show ∀ g, F' g → g < w'.heap.size from fun g hg => RS.lt hD.lt st w' F' hRS g hg)
    clear hG0 hFx hD hv9 hT hK hsub hp hlt hB hRS HRS1
    unfold GoPost
    rw [HGF.out]
    go_enter Tryz.func44, Tryz.ntmps44
    go_wp2_with fail
    rw [← hw1]
    clear hw1
    go_quiet (fail)
    generalize hwq : w1.drewN _ = wq
    have KQ := Lib.hid (show Below w1.heap.size w1 wq by rw [← hwq]; exact belowD (Below.refl _ _) _)
    have RQ := Lib.hid (show RD st.vis wq G0 from HDD.out.fr _ _ _ _ HG0.out (KeepF.ofBelow KQ.out))
    have BQ := Lib.hid (HLB.out.trans (KQ.out.mono HLB.out.size))
    have KS := Lib.hid (show ∀ W : World, Below w1.heap.size w1 W → (W.cell? ⟨w'.heap.size, 0, none⟩ = some (.pointer (some ⟨X, 0, none⟩)) ∧ W.cell? ⟨w'.heap.size + 1, 0, none⟩ = some (.slice B cuts.length d) ∧ W.cell? ⟨X, 9, none⟩ = some (.func (.func kd) #[] capD)) from fun W hW => ⟨cell_in hW lz cX, cell_in hW lz1 cC, cell_in hW hXl x9⟩)
    have KD := Lib.hid (show Below w1.heap.size w1 wq.drew from KQ.out.trans ((belowDrew0 wq).mono KQ.out.size))
    clear hwq
    go_wp2_with fail
    refine wp_region_held_drew (S := (fun W => W.cell? ⟨w'.heap.size, 0, none⟩ = some (.pointer (some ⟨X, 0, none⟩)) ∧ W.cell? ⟨w'.heap.size + 1, 0, none⟩ = some (.slice B cuts.length d) ∧ W.cell? ⟨X, 9, none⟩ = some (.func (.func kd) #[] capD))) (by kernel_rfl) (KS.out _ KD.out) (fun hHeld => ?_)
    refine takeD (i := 0) (some 18) (.pointer (some ⟨X, 0, none⟩)) rfl (by kernel_rfl) (by kernel_rfl) (by kernel_rfl) (by kernel_rfl) (fun _ _ _ h => h) (by assumption) (Or.inl ⟨by rfl, fun w hSw => by (try dsimp only at hSw); go_simp⟩) ?_
    simp only [Act.put, List.setIfInBounds_toArray, List.set_cons_zero, List.set_cons_succ]
    refine takeD (i := 1) (some 19) (.pointer (some ⟨X, 0, none⟩)) rfl (by kernel_rfl) (by kernel_rfl) (by kernel_rfl) (by kernel_rfl) (fun _ _ _ h => h) (by assumption) (Or.inl ⟨by rfl, fun w hSw => by (try dsimp only at hSw); go_simp⟩) ?_
    simp only [Act.put, List.setIfInBounds_toArray, List.set_cons_zero, List.set_cons_succ]
    refine takeD (i := 2) (some 20) (.pointer (some ⟨X, 9, none⟩)) rfl (by kernel_rfl) (by kernel_rfl) (by kernel_rfl) (by kernel_rfl) (fun _ _ _ h => h) (by assumption) (Or.inl ⟨by rfl, fun w hSw => by (try dsimp only at hSw); go_simp⟩) ?_
    simp only [Act.put, List.setIfInBounds_toArray, List.set_cons_zero, List.set_cons_succ]
    refine takeD (i := 3) (some 21) (.func (.func kd) #[] capD) rfl (by kernel_rfl) (by kernel_rfl) (by kernel_rfl) (by kernel_rfl) (fun _ _ _ h => h) (by assumption) (Or.inl ⟨by rfl, fun w hSw => by (try dsimp only at hSw); go_simp⟩) ?_
    simp only [Act.put, List.setIfInBounds_toArray, List.set_cons_zero, List.set_cons_succ]
    refine takeD (i := 4) (some 22) (.slice B cuts.length d) rfl (by kernel_rfl) (by kernel_rfl) (by kernel_rfl) (by kernel_rfl) (fun _ _ _ h => h) (by assumption) (Or.inl ⟨by rfl, fun w hSw => by (try dsimp only at hSw); go_simp⟩) ?_
    simp only [Act.put, List.setIfInBounds_toArray, List.set_cons_zero, List.set_cons_succ]
    refine wpAnyH_ready (rs := [5]) (by kernel_rfl) (by simp) (AllReadyH.cons rfl (fun K hK => ?_) AllReadyH.nil)
    go_simp
    refine (HDC.out wq.drew (HLB.out.trans (KD.out.mono HLB.out.size)) (HDD.out.fr _ _ _ _ RQ.out (KeepF.ofBelow (belowDrew0 wq)))).mono ?_
    rintro e w5 ⟨rfl, G5, hR5, k5, s5⟩
    have K5 := Lib.hid (show KeepF F' w' w5 from (KeepF.ofBelow (F := F') (HLB.out.trans (KD.out.mono HLB.out.size))).trans k5 (fun g _ hg => (HFX.out g).2 (.inl hg)))
    have nG : ∀ g, w'.heap.size ≤ g → ¬ G0 g := fun g hg e => by have := HLF.out g ((HFX.out g).2 (.inl e)); omega
    have HS5 := Lib.hid (show (w5.cell? ⟨w'.heap.size, 0, none⟩ = some (.pointer (some ⟨X, 0, none⟩)) ∧ w5.cell? ⟨w'.heap.size + 1, 0, none⟩ = some (.slice B cuts.length d) ∧ w5.cell? ⟨X, 9, none⟩ = some (.func (.func kd) #[] capD)) from by
      obtain ⟨a, b, c'⟩ := KS.out _ KD.out
      have hz := KD.out.size
      exact ⟨(k5.cell (p := ⟨w'.heap.size, 0, none⟩) (by simp only; omega) (nG _ (Nat.le_refl _))).trans a, (k5.cell (p := ⟨w'.heap.size + 1, 0, none⟩) (by simp only; omega) (nG _ (by simp only; omega))).trans b, (k5.cell (p := ⟨X, 9, none⟩) (by simp only; omega) HNX.out).trans c'⟩)
    have HR5 := Lib.hid (And.intro hR5 (And.intro k5 s5))
    clear hR5 k5 s5 nG
    have HHeld := HS5.out
    refine hK.out _ _ HHeld (fun _ => ?_)
    clear hK K
    try simp only [Act.put, List.setIfInBounds_toArray, List.set_cons_zero, List.set_cons_succ]
    refine takeD (i := 6) (some 6) (.bool b9) rfl (by kernel_rfl) (by kernel_rfl) (by kernel_rfl) (by kernel_rfl) (fun _ _ _ h => h) (by assumption) (Or.inl ⟨by rfl, fun w hSw => by (try dsimp only at hSw); go_simp⟩) ?_
    simp only [Act.put, List.setIfInBounds_toArray, List.set_cons_zero, List.set_cons_succ]
    refine wpAnyH_done (by kernel_rfl) ?_ _
    go_wp2_with fail
    go_ret
    obtain ⟨hR5, k5, s5⟩ := HR5.out
    have hz := KD.out.size
    have hzz := HLB.out.size
    refine ⟨rfl, fun g => G5 g ∨ g = X, ⟨G5, hR5, fun e => ?_, by have := k5.size; omega, (HBX.out.below KD.out).keepF' k5 (by omega) HNX.out, ?_, ?_, fun g => Iff.rfl⟩, K5.out, fun g hg => ?_⟩
    · rcases s5 X e with h | h
      · exact HNX.out h
      · omega
    · exact (k5.frozen (p := ⟨X, 7, none⟩) (by simp only; omega) HNX.out).trans ((KD.out.frozen (p := ⟨X, 7, none⟩) hXl).trans HF.out.1)
    · exact (k5.frozen (p := ⟨X, 8, none⟩) (by simp only; omega) HNX.out).trans ((KD.out.frozen (p := ⟨X, 8, none⟩) hXl).trans HF.out.2)
    · rcases hg with hg | hg
      · rcases s5 g hg with h | h
        · exact .inl ((HFX.out g).2 (.inl h))
        · right; omega
      · subst hg; exact .inl ((HFX.out _).2 (.inr rfl))
  | succ r ih =>
    intro cuts st w' F' B d hp hlt ho hcd htr hLD hK hsub hRS hB
    obtain ⟨w1, hw1⟩ : ∃ w1, w1 = ((w'.alloc (.cells #[.pointer (some ⟨X, 0, none⟩)] 58)).alloc (.cells #[.slice B cuts.length d] 24)).alloc (.cells #[.slice none 0 0] 47) := ⟨_, rfl⟩
    have B1 : Below w'.heap.size w' w1 := by rw [hw1]; exact (((Below.refl w'.heap.size w').alloc (Nat.le_refl _) _).alloc (by simp only [World.size_alloc]; omega) _).alloc (by simp only [World.size_alloc]; omega) _
    have hz1 : w1.heap.size = w'.heap.size + 3 := by rw [hw1]; simp
    have cX : w1.cell? ⟨w'.heap.size, 0, none⟩ = some (.pointer (some ⟨X, 0, none⟩)) := by
      rw [hw1]
      iterate 2 rw [World.cell?_alloc_lt _ _ _ (by simp only [World.size_alloc]; omega)]
      rw [World.cell?_alloc_at (hn := by simp)]; rfl
    have cC : w1.cell? ⟨w'.heap.size + 1, 0, none⟩ = some (.slice B cuts.length d) := by
      rw [hw1]
      iterate 1 rw [World.cell?_alloc_lt _ _ _ (by simp only [World.size_alloc]; omega)]
      rw [World.cell?_alloc_at (hn := by simp)]; rfl
    have cF : w1.cell? ⟨w'.heap.size + 1 + 1, 0, none⟩ = some (.slice none 0 0) := by
      rw [hw1, World.cell?_alloc_at (hn := by simp)]; rfl
    have HRS1 := Lib.hid (RS.fr hD.fr st w' w1 F' hRS (KeepF.ofBelow B1))
    obtain ⟨G0, hG0, nGX, hXl, bX, f7, f8, hFx⟩ := HRS1.out
    have HBX := Lib.hid bX
    obtain ⟨x0, x1, x2, x3, x4, x5, x6, x7, x8, x9, _⟩ := bX
    simp only [Nat.zero_add] at x1 x2 x3 x4 x5 x6 x7 x8 x9
    have HG0 := Lib.hid hG0
    have HFX := Lib.hid hFx
    have htl := hT.rii.le
    have hcl := hB.rii.le
    have lz : w'.heap.size < w1.heap.size := by omega
    have lz1 : w'.heap.size + 1 < w1.heap.size := by omega
    have lz2 : w'.heap.size + 1 + 1 < w1.heap.size := by omega
    have t1 : ((cuts.length : Int) == (t.length : Int)) = false := by simp; omega
    have hltt : cuts.length < t.length := by omega
    have hTw : RIIn (fun g => F0 g ∨ w0.heap.size ≤ g) w' A t := hT.keepF (hK.mono fun g hg => .inl hg)
    have HTW := Lib.hid (show RIIn F' w' A t from hTw.mono hsub)
    obtain ⟨Fx, hFxe⟩ : ∃ Fx : Nat → Prop, Fx = F' := ⟨_, rfl⟩
    have HLF := Lib.hid (show ∀ g, F' g → g < w'.heap.size from fun g hg => RS.lt hD.lt st w' F' hRS g hg)
    have HP := Lib.hid hp
    have HB := Lib.hid hB
    have HDD := Lib.hid hD
    have HX := Lib.hid hXl
    have HK := Lib.hid (And.intro hsub hK)
    have HLT := Lib.hid hlt; have HO := Lib.hid ho; have HTR := Lib.hid htr
    have IH := Lib.hid ih
    have HLB := Lib.hid B1
    have HZ1 := Lib.hid hz1
    have HPL := Lib.hid (show ∀ W, Below w1.heap.size w1 W → Calls Tryz.prog 53 #[.agg #[.int .i64 m.c, .int .i64 m.d, .int .i64 m.s, .int .i64 m.a, .int .i64 m.l, .slice A t.length c], .slice B cuts.length d] W fun e w9 => ∃ cap, e = .returned (.func (.func 70) #[] cap) ∧ StaysFn (fun x => F' x ∨ (w1.heap.size ≤ x ∧ x < W.heap.size)) m t cuts 70 cap w9 ∧ Below W.heap.size W w9 from fun W hW => by
      have hWW := B1.trans (hW.mono B1.size)
      have hm : ∀ g, (F' g ∨ (w1.heap.size ≤ g ∧ g < W.heap.size)) → F' g ∨ w'.heap.size ≤ g := fun g hg => by
        rcases hg with h | h
        · exact .inl h
        · right; omega
      exact staysOpen_any _ m A c t B d cuts W (((HTW.out.up).mono hm).keepF (KeepF.ofBelow hWW)) (((hB.up).mono hm).keepF (KeepF.ofBelow hWW)) (fun x hx => by
        rcases hx with h | h
        · have := HLF.out x h; have := hWW.size; omega
        · exact h.2) hp hltt)
    have KS0 := Lib.hid (show ∀ W : World, Below w1.heap.size w1 W → (W.cell? ⟨w'.heap.size, 0, none⟩ = some (.pointer (some ⟨X, 0, none⟩)) ∧ W.cell? ⟨w'.heap.size + 1, 0, none⟩ = some (.slice B cuts.length d) ∧ W.cell? ⟨w'.heap.size + 1 + 1, 0, none⟩ = some (.slice none 0 0) ∧
        (W.cell? ⟨X, 0, none⟩ = some (.int .i64 m.c) ∧ W.cell? ⟨X, 1, none⟩ = some (.int .i64 m.d) ∧ W.cell? ⟨X, 2, none⟩ = some (.int .i64 m.s) ∧ W.cell? ⟨X, 3, none⟩ = some (.int .i64 m.a) ∧ W.cell? ⟨X, 4, none⟩ = some (.int .i64 m.l) ∧ W.cell? ⟨X, 5, none⟩ = some (.slice A t.length c) ∧ True)) from fun W hW =>
      ⟨cell_in hW lz cX, cell_in hW lz1 cC, cell_in hW lz2 cF, cell_in hW hXl x0, cell_in hW hXl x1, cell_in hW hXl x2, cell_in hW hXl x3, cell_in hW hXl x4, cell_in hW hXl x5, trivial⟩)
    obtain ⟨bg, stg, hbg⟩ : ∃ bg stg, goF m t lim visD (r + 1) cuts st = (bg, stg) := ⟨_, _, rfl⟩
    have HBG := Lib.hid hbg
    have HFE := Lib.hid hFxe
    clear hG0 hFx hD hT hTw hK hsub hp hlt hB hRS ho htr nGX f7 f8 ih hltt hz1 hbg B1 hFxe
    unfold GoPost
    rw [HBG.out]
    go_enter Tryz.func44, Tryz.ntmps44
    go_wp2_with fail
    rw [← hw1]
    clear hw1
    go_quiet (fail)
    generalize hwq : w1.drewN _ = wq
    have KQ := Lib.hid (show Below w1.heap.size w1 wq by rw [← hwq]; exact belowD (Below.refl _ _) _)
    have HSQ := Lib.hid (show wq.heap.size = w1.heap.size by rw [← hwq]; rfl)
    clear hwq x0 x1 x2 x3 x4 x5 x6 x7 x8 x9 cX cC cF
    have HPQ := HPL.out
    rw [← HFE.out, ← HSQ.out] at HPQ
    have KS := Lib.hid (show ∀ W : World, Below wq.heap.size wq W → _ from fun W hW => KS0.out W (KQ.out.trans (hW.mono KQ.out.size)))
    have HPL := Lib.hid (fun W (hW : Below wq.heap.size wq W) => HPQ W (by have h9 := KQ.out.trans (hW.mono KQ.out.size); rw [HSQ.out]; exact h9))
    clear HPQ
    have lzq : w'.heap.size < wq.heap.size := by rw [HSQ.out]; exact lz
    have lzq1 : w'.heap.size + 1 < wq.heap.size := by rw [HSQ.out]; exact lz1
    have lXq : X < wq.heap.size := by rw [HSQ.out]; exact hXl
    go_wp2_with fail
    go_cut [7, 8] (fun p q wx => ∃ (gM gS : Nat) (cap : Array Value), p = .pointer (some ⟨gM, 0, none⟩) ∧ q = .pointer (some ⟨gS, 0, none⟩) ∧ gM ≠ gS ∧ wq.heap.size ≤ gM ∧ wq.heap.size ≤ gS ∧ gM < wx.heap.size ∧ gS < wx.heap.size ∧ wx.cell? ⟨gM, 0, none⟩ = some (.bool true) ∧ wx.frozen? ⟨gM, 0, none⟩ = false ∧
      wx.cell? ⟨gS, 0, none⟩ = some (.func (.func 70) #[] cap) ∧ StaysFn (fun x => Fx x ∨ x = gM) m t cuts 70 cap wx ∧ Below wq.heap.size wq wx)
    case first =>
      obtain ⟨W0, hW0⟩ : ∃ W0, W0 = wq.drew := ⟨_, rfl⟩
      have HW0 := Lib.hid (show Below wq.heap.size wq W0 by rw [hW0]; exact belowDrew0 _)
      refine wp_region_held_drew (S := (fun W => W.cell? ⟨w'.heap.size, 0, none⟩ = some (.pointer (some ⟨X, 0, none⟩)) ∧ W.cell? ⟨w'.heap.size + 1, 0, none⟩ = some (.slice B cuts.length d) ∧ W.cell? ⟨w'.heap.size + 1 + 1, 0, none⟩ = some (.slice none 0 0) ∧ (W.cell? ⟨X, 0, none⟩ = some (.int .i64 m.c) ∧ W.cell? ⟨X, 1, none⟩ = some (.int .i64 m.d) ∧ W.cell? ⟨X, 2, none⟩ = some (.int .i64 m.s) ∧ W.cell? ⟨X, 3, none⟩ = some (.int .i64 m.a) ∧ W.cell? ⟨X, 4, none⟩ = some (.int .i64 m.l) ∧ W.cell? ⟨X, 5, none⟩ = some (.slice A t.length c) ∧ True))) (by kernel_rfl) (KS.out _ (belowDrew0 _)) (fun hHeld => ?_)
      rw [← hW0]
      have HHeld0 := KS.out W0 HW0.out
      clear hW0
      refine takeD (i := 0) (some 24) (.pointer (some ⟨X, 0, none⟩)) rfl (by kernel_rfl) (by kernel_rfl) (by kernel_rfl) (by kernel_rfl) (fun _ _ _ h => h) (by assumption) (Or.inl ⟨by rfl, fun w hSw => by (try dsimp only at hSw); go_simp⟩) ?_
      simp only [Act.put, List.setIfInBounds_toArray, List.set_cons_zero, List.set_cons_succ]
      refine takeD (i := 1) (some 25) (.pointer (some ⟨X, 0, none⟩)) rfl (by kernel_rfl) (by kernel_rfl) (by kernel_rfl) (by kernel_rfl) (fun _ _ _ h => h) (by assumption) (Or.inl ⟨by rfl, fun w hSw => by (try dsimp only at hSw); go_simp⟩) ?_
      simp only [Act.put, List.setIfInBounds_toArray, List.set_cons_zero, List.set_cons_succ]
      refine takeD (i := 2) (some 26) (.pointer (some ⟨X, 0, none⟩)) rfl (by kernel_rfl) (by kernel_rfl) (by kernel_rfl) (by kernel_rfl) (fun _ _ _ h => h) (by assumption) (Or.inl ⟨by rfl, fun w hSw => by (try dsimp only at hSw); go_simp⟩) ?_
      simp only [Act.put, List.setIfInBounds_toArray, List.set_cons_zero, List.set_cons_succ]
      refine takeD (i := 3) (some 27) (.agg #[.int .i64 m.c, .int .i64 m.d, .int .i64 m.s, .int .i64 m.a, .int .i64 m.l, .slice A t.length c]) rfl (by kernel_rfl) (by kernel_rfl) (by kernel_rfl) (by kernel_rfl) (fun _ _ _ h => h) (by assumption) (Or.inl ⟨by rfl, fun w hSw => by (try dsimp only at hSw); go_simp⟩) ?_
      simp only [Act.put, List.setIfInBounds_toArray, List.set_cons_zero, List.set_cons_succ]
      refine takeD (i := 4) (some 28) (.slice B cuts.length d) rfl (by kernel_rfl) (by kernel_rfl) (by kernel_rfl) (by kernel_rfl) (fun _ _ _ h => h) (by assumption) (Or.inl ⟨by rfl, fun w hSw => by (try dsimp only at hSw); go_simp⟩) ?_
      simp only [Act.put, List.setIfInBounds_toArray, List.set_cons_zero, List.set_cons_succ]
      refine wpAnyH_ready (rs := [5, 6, 7]) (by kernel_rfl) (by simp) (AllReadyH.cons rfl (fun K hK => ?_) (AllReadyH.cons rfl (fun K hK => ?_) (AllReadyH.cons rfl (fun K hK => ?_) AllReadyH.nil)))
      · go_simp
        refine (HPL.out W0 HW0.out).mono ?_
        rintro e W1 ⟨cap, rfl, hst, b1⟩
        have HSTC := Lib.hid hst; clear hst
        have s1 := b1.size
        have HC1 := Lib.hid (Below.refl W1.heap.size W1)
        have HW1 := Lib.hid (HW0.out.trans (b1.mono HW0.out.size))
        have HHeld := KS.out _ HW1.out
        refine hK.out _ _ HHeld (fun _ => ?_)
        clear hK K
        try simp only [Act.put, List.setIfInBounds_toArray, List.set_cons_zero, List.set_cons_succ]
        clear b1
        refine wpAnyH_ready (rs := [6, 7]) (by kernel_rfl) (by simp) (AllReadyH.cons rfl (fun K hK => ?_) (AllReadyH.cons rfl (fun K hK => ?_) AllReadyH.nil))
        · go_simp
          obtain ⟨W2, hW2⟩ : ∃ W, W = W1.alloc (.cells #[.bool false] 4) := ⟨_, rfl⟩
          have b2 : Below W1.heap.size W1 W2 := by rw [hW2]; exact (Below.refl _ _).alloc (Nat.le_refl _) _
          have s2 : W1.heap.size < W2.heap.size := by rw [hW2]; simp
          have Z6 := Lib.hid (show W2.cell? ⟨W1.heap.size, 0, none⟩ = some (.bool false) ∧ W2.frozen? ⟨W1.heap.size, 0, none⟩ = false ∧ W1.heap.size < W2.heap.size by rw [hW2]; simp)
          rw [← hW2]
          have HC1 := Lib.hid (HC1.out.trans (b2.mono HC1.out.size))
          have HW2 := Lib.hid (HW1.out.trans (b2.mono HW1.out.size))
          have HHeld := KS.out _ HW2.out
          refine hK.out _ _ HHeld (fun _ => ?_)
          clear hK K
          try simp only [Act.put, List.setIfInBounds_toArray, List.set_cons_zero, List.set_cons_succ]
          clear b2 hW2
          refine wpAnyH_ready (rs := [7]) (by kernel_rfl) (by simp) (AllReadyH.cons rfl (fun K hK => ?_) AllReadyH.nil)
          go_simp
          obtain ⟨W3, hW3⟩ : ∃ W, W = W2.alloc (.cells #[.nilFunc] 76) := ⟨_, rfl⟩
          have b3 : Below W2.heap.size W2 W3 := by rw [hW3]; exact (Below.refl _ _).alloc (Nat.le_refl _) _
          have s3 : W2.heap.size < W3.heap.size := by rw [hW3]; simp
          have Z7 := Lib.hid (show W3.cell? ⟨W2.heap.size, 0, none⟩ = some (.nilFunc) ∧ W3.frozen? ⟨W2.heap.size, 0, none⟩ = false ∧ W2.heap.size < W3.heap.size by rw [hW3]; simp)
          rw [← hW3]
          have HC1 := Lib.hid (HC1.out.trans (b3.mono HC1.out.size))
          have HW3 := Lib.hid (HW2.out.trans (b3.mono HW2.out.size))
          have Z6 := Lib.hid (And.intro (cell_in b3 Z6.out.2.2 Z6.out.1) (And.intro ((b3.frozen (p := ⟨W1.heap.size, 0, none⟩) Z6.out.2.2).trans Z6.out.2.1) (Nat.lt_of_lt_of_le Z6.out.2.2 b3.size)))
          have HHeld := KS.out _ HW3.out
          refine hK.out _ _ HHeld (fun _ => ?_)
          clear hK K
          try simp only [Act.put, List.setIfInBounds_toArray, List.set_cons_zero, List.set_cons_succ]
          clear b3 hW3
          have hAB : W1.heap.size ≠ W2.heap.size := by omega
          have hA0 : wq.heap.size ≤ W1.heap.size := by have := HW1.out.size; omega
          have hB0 : wq.heap.size ≤ W2.heap.size := by have := HW2.out.size; omega
          have hAL : (wq.heap.size ≤ W1.heap.size ∧ W1.heap.size < W0.heap.size) ∨ W1.heap.size ≤ W1.heap.size := by omega
          have hBL : (wq.heap.size ≤ W2.heap.size ∧ W2.heap.size < W0.heap.size) ∨ W1.heap.size ≤ W2.heap.size := by omega
          obtain ⟨cz, fz, lz⟩ := Z6.out
          obtain ⟨cy, fy, ly⟩ := Z7.out
          refine wpAnyH_ready (rs := [8]) (by kernel_rfl) (by simp) (AllReadyH.cons rfl (fun K hK => ?_) AllReadyH.nil)
          go_simp
          obtain ⟨Xw, hX⟩ : ∃ Xw, Xw = W3.setCell ⟨W1.heap.size, 0, none⟩ (.bool true) := ⟨_, rfl⟩
          have HX := Lib.hid (show Below wq.heap.size wq Xw by rw [hX]; exact Below.setCell HW3.out (p := ⟨W1.heap.size, 0, none⟩) hA0 _)
          have KX := Lib.hid (show KeepF (fun x => Fx x ∨ (wq.heap.size ≤ x ∧ x < W0.heap.size)) W1 Xw by rw [hX]; exact (KeepF.ofBelow HC1.out).setCell (p := ⟨W1.heap.size, 0, none⟩) (by rcases hAL with h | h; exact .inl (.inr h); exact .inr h) _)
          have xz : Xw.cell? ⟨W1.heap.size, 0, none⟩ = some (.bool true) := by rw [hX]; exact World.cell?_setCell_same _ _ _ cz
          have xzf : Xw.frozen? ⟨W1.heap.size, 0, none⟩ = false := by rw [hX]; exact (World.frozen?_setCell _ _ _ _).trans fz
          have xy : Xw.cell? ⟨W2.heap.size, 0, none⟩ = some .nilFunc := by rw [hX]; exact (World.cell?_setCell_far _ _ _ _ hAB).trans cy
          have xf : Xw.frozen? ⟨W2.heap.size, 0, none⟩ = false := by rw [hX]; exact (World.frozen?_setCell _ _ _ _).trans fy
          have xs := Lib.hid (show Xw.heap.size = W3.heap.size by rw [hX]; simp)
          rw [← hX]
          clear cz fz cy fy hX
          have HHeld := KS.out _ HX.out
          refine hK.out _ _ HHeld (fun _ => ?_)
          clear hK K
          try simp only [Act.put, List.setIfInBounds_toArray, List.set_cons_zero, List.set_cons_succ]
          refine wpAnyH_ready (rs := [9]) (by kernel_rfl) (by simp) (AllReadyH.cons rfl (fun K hK => ?_) AllReadyH.nil)
          go_simp
          obtain ⟨Y, hY⟩ : ∃ Y, Y = Xw.setCell ⟨W2.heap.size, 0, none⟩ (.func (.func 70) #[] cap) := ⟨_, rfl⟩
          have HY := Lib.hid (show Below wq.heap.size wq Y by rw [hY]; exact Below.setCell HX.out (p := ⟨W2.heap.size, 0, none⟩) hB0 _)
          have KY := Lib.hid (show KeepF (fun x => Fx x ∨ (wq.heap.size ≤ x ∧ x < W0.heap.size)) W1 Y by rw [hY]; exact KX.out.setCell (p := ⟨W2.heap.size, 0, none⟩) (by rcases hBL with h | h; exact .inl (.inr h); exact .inr h) _)
          have ya := Lib.hid (show Y.cell? ⟨W1.heap.size, 0, none⟩ = some (.bool true) by rw [hY]; exact (World.cell?_setCell_far _ _ _ _ (Ne.symm hAB)).trans xz)
          have yaf := Lib.hid (show Y.frozen? ⟨W1.heap.size, 0, none⟩ = false by rw [hY]; exact (World.frozen?_setCell _ _ _ _).trans xzf)
          have yb := Lib.hid (show Y.cell? ⟨W2.heap.size, 0, none⟩ = some (.func (.func 70) #[] cap) by rw [hY]; exact World.cell?_setCell_same _ _ _ xy)
          have ys : Y.heap.size = W3.heap.size := by rw [hY]; simp only [World.size_setCell]; exact xs.out
          have GA := Lib.hid (show W1.heap.size < Y.heap.size ∧ W2.heap.size < Y.heap.size by omega)
          have HSF := Lib.hid (show StaysFn (fun x => Fx x ∨ x = W1.heap.size) m t cuts 70 cap Y from fun w9 k9 => HSTC.out w9 (KY.out.trans k9 (fun g hg h => by rcases h with h | h; exact .inl h; subst h; exact .inr (by omega))))
          rw [← hY]
          clear xz xzf xy xf hY ys
          have HHeld := KS.out _ HY.out
          refine hK.out _ _ HHeld (fun _ => ?_)
          clear hK K
          try simp only [Act.put, List.setIfInBounds_toArray, List.set_cons_zero, List.set_cons_succ]
          refine wpAnyH_done (by kernel_rfl) ?_ _
          go_wp2_with fail
          go_meet
          exact ⟨W1.heap.size, W2.heap.size, cap, rfl, rfl, hAB, hA0, hB0, GA.out.1, GA.out.2, ya.out, yaf.out, yb.out, HSF.out, HY.out⟩
        · go_simp
          obtain ⟨W2, hW2⟩ : ∃ W, W = W1.alloc (.cells #[.nilFunc] 76) := ⟨_, rfl⟩
          have b2 : Below W1.heap.size W1 W2 := by rw [hW2]; exact (Below.refl _ _).alloc (Nat.le_refl _) _
          have s2 : W1.heap.size < W2.heap.size := by rw [hW2]; simp
          have Z7 := Lib.hid (show W2.cell? ⟨W1.heap.size, 0, none⟩ = some (.nilFunc) ∧ W2.frozen? ⟨W1.heap.size, 0, none⟩ = false ∧ W1.heap.size < W2.heap.size by rw [hW2]; simp)
          rw [← hW2]
          have HC1 := Lib.hid (HC1.out.trans (b2.mono HC1.out.size))
          have HW2 := Lib.hid (HW1.out.trans (b2.mono HW1.out.size))
          have HHeld := KS.out _ HW2.out
          refine hK.out _ _ HHeld (fun _ => ?_)
          clear hK K
          try simp only [Act.put, List.setIfInBounds_toArray, List.set_cons_zero, List.set_cons_succ]
          clear b2 hW2
          refine wpAnyH_ready (rs := [6]) (by kernel_rfl) (by simp) (AllReadyH.cons rfl (fun K hK => ?_) AllReadyH.nil)
          go_simp
          obtain ⟨W3, hW3⟩ : ∃ W, W = W2.alloc (.cells #[.bool false] 4) := ⟨_, rfl⟩
          have b3 : Below W2.heap.size W2 W3 := by rw [hW3]; exact (Below.refl _ _).alloc (Nat.le_refl _) _
          have s3 : W2.heap.size < W3.heap.size := by rw [hW3]; simp
          have Z6 := Lib.hid (show W3.cell? ⟨W2.heap.size, 0, none⟩ = some (.bool false) ∧ W3.frozen? ⟨W2.heap.size, 0, none⟩ = false ∧ W2.heap.size < W3.heap.size by rw [hW3]; simp)
          rw [← hW3]
          have HC1 := Lib.hid (HC1.out.trans (b3.mono HC1.out.size))
          have HW3 := Lib.hid (HW2.out.trans (b3.mono HW2.out.size))
          have Z7 := Lib.hid (And.intro (cell_in b3 Z7.out.2.2 Z7.out.1) (And.intro ((b3.frozen (p := ⟨W1.heap.size, 0, none⟩) Z7.out.2.2).trans Z7.out.2.1) (Nat.lt_of_lt_of_le Z7.out.2.2 b3.size)))
          have HHeld := KS.out _ HW3.out
          refine hK.out _ _ HHeld (fun _ => ?_)
          clear hK K
          try simp only [Act.put, List.setIfInBounds_toArray, List.set_cons_zero, List.set_cons_succ]
          clear b3 hW3
          have hAB : W2.heap.size ≠ W1.heap.size := by omega
          have hA0 : wq.heap.size ≤ W2.heap.size := by have := HW2.out.size; omega
          have hB0 : wq.heap.size ≤ W1.heap.size := by have := HW1.out.size; omega
          have hAL : (wq.heap.size ≤ W2.heap.size ∧ W2.heap.size < W0.heap.size) ∨ W1.heap.size ≤ W2.heap.size := by omega
          have hBL : (wq.heap.size ≤ W1.heap.size ∧ W1.heap.size < W0.heap.size) ∨ W1.heap.size ≤ W1.heap.size := by omega
          obtain ⟨cz, fz, lz⟩ := Z6.out
          obtain ⟨cy, fy, ly⟩ := Z7.out
          refine wpAnyH_ready (rs := [8]) (by kernel_rfl) (by simp) (AllReadyH.cons rfl (fun K hK => ?_) AllReadyH.nil)
          go_simp
          obtain ⟨Xw, hX⟩ : ∃ Xw, Xw = W3.setCell ⟨W2.heap.size, 0, none⟩ (.bool true) := ⟨_, rfl⟩
          have HX := Lib.hid (show Below wq.heap.size wq Xw by rw [hX]; exact Below.setCell HW3.out (p := ⟨W2.heap.size, 0, none⟩) hA0 _)
          have KX := Lib.hid (show KeepF (fun x => Fx x ∨ (wq.heap.size ≤ x ∧ x < W0.heap.size)) W1 Xw by rw [hX]; exact (KeepF.ofBelow HC1.out).setCell (p := ⟨W2.heap.size, 0, none⟩) (by rcases hAL with h | h; exact .inl (.inr h); exact .inr h) _)
          have xz : Xw.cell? ⟨W2.heap.size, 0, none⟩ = some (.bool true) := by rw [hX]; exact World.cell?_setCell_same _ _ _ cz
          have xzf : Xw.frozen? ⟨W2.heap.size, 0, none⟩ = false := by rw [hX]; exact (World.frozen?_setCell _ _ _ _).trans fz
          have xy : Xw.cell? ⟨W1.heap.size, 0, none⟩ = some .nilFunc := by rw [hX]; exact (World.cell?_setCell_far _ _ _ _ hAB).trans cy
          have xf : Xw.frozen? ⟨W1.heap.size, 0, none⟩ = false := by rw [hX]; exact (World.frozen?_setCell _ _ _ _).trans fy
          have xs := Lib.hid (show Xw.heap.size = W3.heap.size by rw [hX]; simp)
          rw [← hX]
          clear cz fz cy fy hX
          have HHeld := KS.out _ HX.out
          refine hK.out _ _ HHeld (fun _ => ?_)
          clear hK K
          try simp only [Act.put, List.setIfInBounds_toArray, List.set_cons_zero, List.set_cons_succ]
          refine wpAnyH_ready (rs := [9]) (by kernel_rfl) (by simp) (AllReadyH.cons rfl (fun K hK => ?_) AllReadyH.nil)
          go_simp
          obtain ⟨Y, hY⟩ : ∃ Y, Y = Xw.setCell ⟨W1.heap.size, 0, none⟩ (.func (.func 70) #[] cap) := ⟨_, rfl⟩
          have HY := Lib.hid (show Below wq.heap.size wq Y by rw [hY]; exact Below.setCell HX.out (p := ⟨W1.heap.size, 0, none⟩) hB0 _)
          have KY := Lib.hid (show KeepF (fun x => Fx x ∨ (wq.heap.size ≤ x ∧ x < W0.heap.size)) W1 Y by rw [hY]; exact KX.out.setCell (p := ⟨W1.heap.size, 0, none⟩) (by rcases hBL with h | h; exact .inl (.inr h); exact .inr h) _)
          have ya := Lib.hid (show Y.cell? ⟨W2.heap.size, 0, none⟩ = some (.bool true) by rw [hY]; exact (World.cell?_setCell_far _ _ _ _ (Ne.symm hAB)).trans xz)
          have yaf := Lib.hid (show Y.frozen? ⟨W2.heap.size, 0, none⟩ = false by rw [hY]; exact (World.frozen?_setCell _ _ _ _).trans xzf)
          have yb := Lib.hid (show Y.cell? ⟨W1.heap.size, 0, none⟩ = some (.func (.func 70) #[] cap) by rw [hY]; exact World.cell?_setCell_same _ _ _ xy)
          have ys : Y.heap.size = W3.heap.size := by rw [hY]; simp only [World.size_setCell]; exact xs.out
          have GA := Lib.hid (show W2.heap.size < Y.heap.size ∧ W1.heap.size < Y.heap.size by omega)
          have HSF := Lib.hid (show StaysFn (fun x => Fx x ∨ x = W2.heap.size) m t cuts 70 cap Y from fun w9 k9 => HSTC.out w9 (KY.out.trans k9 (fun g hg h => by rcases h with h | h; exact .inl h; subst h; exact .inr (by omega))))
          rw [← hY]
          clear xz xzf xy xf hY ys
          have HHeld := KS.out _ HY.out
          refine hK.out _ _ HHeld (fun _ => ?_)
          clear hK K
          try simp only [Act.put, List.setIfInBounds_toArray, List.set_cons_zero, List.set_cons_succ]
          refine wpAnyH_done (by kernel_rfl) ?_ _
          go_wp2_with fail
          go_meet
          exact ⟨W2.heap.size, W1.heap.size, cap, rfl, rfl, hAB, hA0, hB0, GA.out.1, GA.out.2, ya.out, yaf.out, yb.out, HSF.out, HY.out⟩
      · go_simp
        obtain ⟨W1, hW1⟩ : ∃ W, W = W0.alloc (.cells #[.bool false] 4) := ⟨_, rfl⟩
        have b1 : Below W0.heap.size W0 W1 := by rw [hW1]; exact (Below.refl _ _).alloc (Nat.le_refl _) _
        have s1 : W0.heap.size < W1.heap.size := by rw [hW1]; simp
        have Z6 := Lib.hid (show W1.cell? ⟨W0.heap.size, 0, none⟩ = some (.bool false) ∧ W1.frozen? ⟨W0.heap.size, 0, none⟩ = false ∧ W0.heap.size < W1.heap.size by rw [hW1]; simp)
        rw [← hW1]
        have HW1 := Lib.hid (HW0.out.trans (b1.mono HW0.out.size))
        have HHeld := KS.out _ HW1.out
        refine hK.out _ _ HHeld (fun _ => ?_)
        clear hK K
        try simp only [Act.put, List.setIfInBounds_toArray, List.set_cons_zero, List.set_cons_succ]
        clear b1 hW1
        refine wpAnyH_ready (rs := [5, 7]) (by kernel_rfl) (by simp) (AllReadyH.cons rfl (fun K hK => ?_) (AllReadyH.cons rfl (fun K hK => ?_) AllReadyH.nil))
        · go_simp
          refine (HPL.out W1 HW1.out).mono ?_
          rintro e W2 ⟨cap, rfl, hst, b2⟩
          have HSTC := Lib.hid hst; clear hst
          have s2 := b2.size
          have HC1 := Lib.hid (Below.refl W2.heap.size W2)
          have HW2 := Lib.hid (HW1.out.trans (b2.mono HW1.out.size))
          have Z6 := Lib.hid (And.intro (cell_in b2 Z6.out.2.2 Z6.out.1) (And.intro ((b2.frozen (p := ⟨W0.heap.size, 0, none⟩) Z6.out.2.2).trans Z6.out.2.1) (Nat.lt_of_lt_of_le Z6.out.2.2 b2.size)))
          have HHeld := KS.out _ HW2.out
          refine hK.out _ _ HHeld (fun _ => ?_)
          clear hK K
          try simp only [Act.put, List.setIfInBounds_toArray, List.set_cons_zero, List.set_cons_succ]
          clear b2
          refine wpAnyH_ready (rs := [7]) (by kernel_rfl) (by simp) (AllReadyH.cons rfl (fun K hK => ?_) AllReadyH.nil)
          go_simp
          obtain ⟨W3, hW3⟩ : ∃ W, W = W2.alloc (.cells #[.nilFunc] 76) := ⟨_, rfl⟩
          have b3 : Below W2.heap.size W2 W3 := by rw [hW3]; exact (Below.refl _ _).alloc (Nat.le_refl _) _
          have s3 : W2.heap.size < W3.heap.size := by rw [hW3]; simp
          have Z7 := Lib.hid (show W3.cell? ⟨W2.heap.size, 0, none⟩ = some (.nilFunc) ∧ W3.frozen? ⟨W2.heap.size, 0, none⟩ = false ∧ W2.heap.size < W3.heap.size by rw [hW3]; simp)
          rw [← hW3]
          have HC1 := Lib.hid (HC1.out.trans (b3.mono HC1.out.size))
          have HW3 := Lib.hid (HW2.out.trans (b3.mono HW2.out.size))
          have Z6 := Lib.hid (And.intro (cell_in b3 Z6.out.2.2 Z6.out.1) (And.intro ((b3.frozen (p := ⟨W0.heap.size, 0, none⟩) Z6.out.2.2).trans Z6.out.2.1) (Nat.lt_of_lt_of_le Z6.out.2.2 b3.size)))
          have HHeld := KS.out _ HW3.out
          refine hK.out _ _ HHeld (fun _ => ?_)
          clear hK K
          try simp only [Act.put, List.setIfInBounds_toArray, List.set_cons_zero, List.set_cons_succ]
          clear b3 hW3
          have hAB : W0.heap.size ≠ W2.heap.size := by omega
          have hA0 : wq.heap.size ≤ W0.heap.size := by have := HW0.out.size; omega
          have hB0 : wq.heap.size ≤ W2.heap.size := by have := HW2.out.size; omega
          have hAL : (wq.heap.size ≤ W0.heap.size ∧ W0.heap.size < W1.heap.size) ∨ W2.heap.size ≤ W0.heap.size := by omega
          have hBL : (wq.heap.size ≤ W2.heap.size ∧ W2.heap.size < W1.heap.size) ∨ W2.heap.size ≤ W2.heap.size := by omega
          obtain ⟨cz, fz, lz⟩ := Z6.out
          obtain ⟨cy, fy, ly⟩ := Z7.out
          refine wpAnyH_ready (rs := [8]) (by kernel_rfl) (by simp) (AllReadyH.cons rfl (fun K hK => ?_) AllReadyH.nil)
          go_simp
          obtain ⟨Xw, hX⟩ : ∃ Xw, Xw = W3.setCell ⟨W0.heap.size, 0, none⟩ (.bool true) := ⟨_, rfl⟩
          have HX := Lib.hid (show Below wq.heap.size wq Xw by rw [hX]; exact Below.setCell HW3.out (p := ⟨W0.heap.size, 0, none⟩) hA0 _)
          have KX := Lib.hid (show KeepF (fun x => Fx x ∨ (wq.heap.size ≤ x ∧ x < W1.heap.size)) W2 Xw by rw [hX]; exact (KeepF.ofBelow HC1.out).setCell (p := ⟨W0.heap.size, 0, none⟩) (by rcases hAL with h | h; exact .inl (.inr h); exact .inr h) _)
          have xz : Xw.cell? ⟨W0.heap.size, 0, none⟩ = some (.bool true) := by rw [hX]; exact World.cell?_setCell_same _ _ _ cz
          have xzf : Xw.frozen? ⟨W0.heap.size, 0, none⟩ = false := by rw [hX]; exact (World.frozen?_setCell _ _ _ _).trans fz
          have xy : Xw.cell? ⟨W2.heap.size, 0, none⟩ = some .nilFunc := by rw [hX]; exact (World.cell?_setCell_far _ _ _ _ hAB).trans cy
          have xf : Xw.frozen? ⟨W2.heap.size, 0, none⟩ = false := by rw [hX]; exact (World.frozen?_setCell _ _ _ _).trans fy
          have xs := Lib.hid (show Xw.heap.size = W3.heap.size by rw [hX]; simp)
          rw [← hX]
          clear cz fz cy fy hX
          have HHeld := KS.out _ HX.out
          refine hK.out _ _ HHeld (fun _ => ?_)
          clear hK K
          try simp only [Act.put, List.setIfInBounds_toArray, List.set_cons_zero, List.set_cons_succ]
          refine wpAnyH_ready (rs := [9]) (by kernel_rfl) (by simp) (AllReadyH.cons rfl (fun K hK => ?_) AllReadyH.nil)
          go_simp
          obtain ⟨Y, hY⟩ : ∃ Y, Y = Xw.setCell ⟨W2.heap.size, 0, none⟩ (.func (.func 70) #[] cap) := ⟨_, rfl⟩
          have HY := Lib.hid (show Below wq.heap.size wq Y by rw [hY]; exact Below.setCell HX.out (p := ⟨W2.heap.size, 0, none⟩) hB0 _)
          have KY := Lib.hid (show KeepF (fun x => Fx x ∨ (wq.heap.size ≤ x ∧ x < W1.heap.size)) W2 Y by rw [hY]; exact KX.out.setCell (p := ⟨W2.heap.size, 0, none⟩) (by rcases hBL with h | h; exact .inl (.inr h); exact .inr h) _)
          have ya := Lib.hid (show Y.cell? ⟨W0.heap.size, 0, none⟩ = some (.bool true) by rw [hY]; exact (World.cell?_setCell_far _ _ _ _ (Ne.symm hAB)).trans xz)
          have yaf := Lib.hid (show Y.frozen? ⟨W0.heap.size, 0, none⟩ = false by rw [hY]; exact (World.frozen?_setCell _ _ _ _).trans xzf)
          have yb := Lib.hid (show Y.cell? ⟨W2.heap.size, 0, none⟩ = some (.func (.func 70) #[] cap) by rw [hY]; exact World.cell?_setCell_same _ _ _ xy)
          have ys : Y.heap.size = W3.heap.size := by rw [hY]; simp only [World.size_setCell]; exact xs.out
          have GA := Lib.hid (show W0.heap.size < Y.heap.size ∧ W2.heap.size < Y.heap.size by omega)
          have HSF := Lib.hid (show StaysFn (fun x => Fx x ∨ x = W0.heap.size) m t cuts 70 cap Y from fun w9 k9 => HSTC.out w9 (KY.out.trans k9 (fun g hg h => by rcases h with h | h; exact .inl h; subst h; exact .inr (by omega))))
          rw [← hY]
          clear xz xzf xy xf hY ys
          have HHeld := KS.out _ HY.out
          refine hK.out _ _ HHeld (fun _ => ?_)
          clear hK K
          try simp only [Act.put, List.setIfInBounds_toArray, List.set_cons_zero, List.set_cons_succ]
          refine wpAnyH_done (by kernel_rfl) ?_ _
          go_wp2_with fail
          go_meet
          exact ⟨W0.heap.size, W2.heap.size, cap, rfl, rfl, hAB, hA0, hB0, GA.out.1, GA.out.2, ya.out, yaf.out, yb.out, HSF.out, HY.out⟩
        · go_simp
          obtain ⟨W2, hW2⟩ : ∃ W, W = W1.alloc (.cells #[.nilFunc] 76) := ⟨_, rfl⟩
          have b2 : Below W1.heap.size W1 W2 := by rw [hW2]; exact (Below.refl _ _).alloc (Nat.le_refl _) _
          have s2 : W1.heap.size < W2.heap.size := by rw [hW2]; simp
          have Z7 := Lib.hid (show W2.cell? ⟨W1.heap.size, 0, none⟩ = some (.nilFunc) ∧ W2.frozen? ⟨W1.heap.size, 0, none⟩ = false ∧ W1.heap.size < W2.heap.size by rw [hW2]; simp)
          rw [← hW2]
          have HW2 := Lib.hid (HW1.out.trans (b2.mono HW1.out.size))
          have Z6 := Lib.hid (And.intro (cell_in b2 Z6.out.2.2 Z6.out.1) (And.intro ((b2.frozen (p := ⟨W0.heap.size, 0, none⟩) Z6.out.2.2).trans Z6.out.2.1) (Nat.lt_of_lt_of_le Z6.out.2.2 b2.size)))
          have HHeld := KS.out _ HW2.out
          refine hK.out _ _ HHeld (fun _ => ?_)
          clear hK K
          try simp only [Act.put, List.setIfInBounds_toArray, List.set_cons_zero, List.set_cons_succ]
          clear b2 hW2
          refine wpAnyH_ready (rs := [5]) (by kernel_rfl) (by simp) (AllReadyH.cons rfl (fun K hK => ?_) AllReadyH.nil)
          go_simp
          refine (HPL.out W2 HW2.out).mono ?_
          rintro e W3 ⟨cap, rfl, hst, b3⟩
          have HSTC := Lib.hid hst; clear hst
          have s3 := b3.size
          have HC1 := Lib.hid (Below.refl W3.heap.size W3)
          have HW3 := Lib.hid (HW2.out.trans (b3.mono HW2.out.size))
          have Z6 := Lib.hid (And.intro (cell_in b3 Z6.out.2.2 Z6.out.1) (And.intro ((b3.frozen (p := ⟨W0.heap.size, 0, none⟩) Z6.out.2.2).trans Z6.out.2.1) (Nat.lt_of_lt_of_le Z6.out.2.2 b3.size)))
          have Z7 := Lib.hid (And.intro (cell_in b3 Z7.out.2.2 Z7.out.1) (And.intro ((b3.frozen (p := ⟨W1.heap.size, 0, none⟩) Z7.out.2.2).trans Z7.out.2.1) (Nat.lt_of_lt_of_le Z7.out.2.2 b3.size)))
          have HHeld := KS.out _ HW3.out
          refine hK.out _ _ HHeld (fun _ => ?_)
          clear hK K
          try simp only [Act.put, List.setIfInBounds_toArray, List.set_cons_zero, List.set_cons_succ]
          clear b3
          have hAB : W0.heap.size ≠ W1.heap.size := by omega
          have hA0 : wq.heap.size ≤ W0.heap.size := by have := HW0.out.size; omega
          have hB0 : wq.heap.size ≤ W1.heap.size := by have := HW1.out.size; omega
          have hAL : (wq.heap.size ≤ W0.heap.size ∧ W0.heap.size < W2.heap.size) ∨ W3.heap.size ≤ W0.heap.size := by omega
          have hBL : (wq.heap.size ≤ W1.heap.size ∧ W1.heap.size < W2.heap.size) ∨ W3.heap.size ≤ W1.heap.size := by omega
          obtain ⟨cz, fz, lz⟩ := Z6.out
          obtain ⟨cy, fy, ly⟩ := Z7.out
          refine wpAnyH_ready (rs := [8]) (by kernel_rfl) (by simp) (AllReadyH.cons rfl (fun K hK => ?_) AllReadyH.nil)
          go_simp
          obtain ⟨Xw, hX⟩ : ∃ Xw, Xw = W3.setCell ⟨W0.heap.size, 0, none⟩ (.bool true) := ⟨_, rfl⟩
          have HX := Lib.hid (show Below wq.heap.size wq Xw by rw [hX]; exact Below.setCell HW3.out (p := ⟨W0.heap.size, 0, none⟩) hA0 _)
          have KX := Lib.hid (show KeepF (fun x => Fx x ∨ (wq.heap.size ≤ x ∧ x < W2.heap.size)) W3 Xw by rw [hX]; exact (KeepF.ofBelow HC1.out).setCell (p := ⟨W0.heap.size, 0, none⟩) (by rcases hAL with h | h; exact .inl (.inr h); exact .inr h) _)
          have xz : Xw.cell? ⟨W0.heap.size, 0, none⟩ = some (.bool true) := by rw [hX]; exact World.cell?_setCell_same _ _ _ cz
          have xzf : Xw.frozen? ⟨W0.heap.size, 0, none⟩ = false := by rw [hX]; exact (World.frozen?_setCell _ _ _ _).trans fz
          have xy : Xw.cell? ⟨W1.heap.size, 0, none⟩ = some .nilFunc := by rw [hX]; exact (World.cell?_setCell_far _ _ _ _ hAB).trans cy
          have xf : Xw.frozen? ⟨W1.heap.size, 0, none⟩ = false := by rw [hX]; exact (World.frozen?_setCell _ _ _ _).trans fy
          have xs := Lib.hid (show Xw.heap.size = W3.heap.size by rw [hX]; simp)
          rw [← hX]
          clear cz fz cy fy hX
          have HHeld := KS.out _ HX.out
          refine hK.out _ _ HHeld (fun _ => ?_)
          clear hK K
          try simp only [Act.put, List.setIfInBounds_toArray, List.set_cons_zero, List.set_cons_succ]
          refine wpAnyH_ready (rs := [9]) (by kernel_rfl) (by simp) (AllReadyH.cons rfl (fun K hK => ?_) AllReadyH.nil)
          go_simp
          obtain ⟨Y, hY⟩ : ∃ Y, Y = Xw.setCell ⟨W1.heap.size, 0, none⟩ (.func (.func 70) #[] cap) := ⟨_, rfl⟩
          have HY := Lib.hid (show Below wq.heap.size wq Y by rw [hY]; exact Below.setCell HX.out (p := ⟨W1.heap.size, 0, none⟩) hB0 _)
          have KY := Lib.hid (show KeepF (fun x => Fx x ∨ (wq.heap.size ≤ x ∧ x < W2.heap.size)) W3 Y by rw [hY]; exact KX.out.setCell (p := ⟨W1.heap.size, 0, none⟩) (by rcases hBL with h | h; exact .inl (.inr h); exact .inr h) _)
          have ya := Lib.hid (show Y.cell? ⟨W0.heap.size, 0, none⟩ = some (.bool true) by rw [hY]; exact (World.cell?_setCell_far _ _ _ _ (Ne.symm hAB)).trans xz)
          have yaf := Lib.hid (show Y.frozen? ⟨W0.heap.size, 0, none⟩ = false by rw [hY]; exact (World.frozen?_setCell _ _ _ _).trans xzf)
          have yb := Lib.hid (show Y.cell? ⟨W1.heap.size, 0, none⟩ = some (.func (.func 70) #[] cap) by rw [hY]; exact World.cell?_setCell_same _ _ _ xy)
          have ys : Y.heap.size = W3.heap.size := by rw [hY]; simp only [World.size_setCell]; exact xs.out
          have GA := Lib.hid (show W0.heap.size < Y.heap.size ∧ W1.heap.size < Y.heap.size by omega)
          have HSF := Lib.hid (show StaysFn (fun x => Fx x ∨ x = W0.heap.size) m t cuts 70 cap Y from fun w9 k9 => HSTC.out w9 (KY.out.trans k9 (fun g hg h => by rcases h with h | h; exact .inl h; subst h; exact .inr (by omega))))
          rw [← hY]
          clear xz xzf xy xf hY ys
          have HHeld := KS.out _ HY.out
          refine hK.out _ _ HHeld (fun _ => ?_)
          clear hK K
          try simp only [Act.put, List.setIfInBounds_toArray, List.set_cons_zero, List.set_cons_succ]
          refine wpAnyH_done (by kernel_rfl) ?_ _
          go_wp2_with fail
          go_meet
          exact ⟨W0.heap.size, W1.heap.size, cap, rfl, rfl, hAB, hA0, hB0, GA.out.1, GA.out.2, ya.out, yaf.out, yb.out, HSF.out, HY.out⟩
      · go_simp
        obtain ⟨W1, hW1⟩ : ∃ W, W = W0.alloc (.cells #[.nilFunc] 76) := ⟨_, rfl⟩
        have b1 : Below W0.heap.size W0 W1 := by rw [hW1]; exact (Below.refl _ _).alloc (Nat.le_refl _) _
        have s1 : W0.heap.size < W1.heap.size := by rw [hW1]; simp
        have Z7 := Lib.hid (show W1.cell? ⟨W0.heap.size, 0, none⟩ = some (.nilFunc) ∧ W1.frozen? ⟨W0.heap.size, 0, none⟩ = false ∧ W0.heap.size < W1.heap.size by rw [hW1]; simp)
        rw [← hW1]
        have HW1 := Lib.hid (HW0.out.trans (b1.mono HW0.out.size))
        have HHeld := KS.out _ HW1.out
        refine hK.out _ _ HHeld (fun _ => ?_)
        clear hK K
        try simp only [Act.put, List.setIfInBounds_toArray, List.set_cons_zero, List.set_cons_succ]
        clear b1 hW1
        refine wpAnyH_ready (rs := [5, 6]) (by kernel_rfl) (by simp) (AllReadyH.cons rfl (fun K hK => ?_) (AllReadyH.cons rfl (fun K hK => ?_) AllReadyH.nil))
        · go_simp
          refine (HPL.out W1 HW1.out).mono ?_
          rintro e W2 ⟨cap, rfl, hst, b2⟩
          have HSTC := Lib.hid hst; clear hst
          have s2 := b2.size
          have HC1 := Lib.hid (Below.refl W2.heap.size W2)
          have HW2 := Lib.hid (HW1.out.trans (b2.mono HW1.out.size))
          have Z7 := Lib.hid (And.intro (cell_in b2 Z7.out.2.2 Z7.out.1) (And.intro ((b2.frozen (p := ⟨W0.heap.size, 0, none⟩) Z7.out.2.2).trans Z7.out.2.1) (Nat.lt_of_lt_of_le Z7.out.2.2 b2.size)))
          have HHeld := KS.out _ HW2.out
          refine hK.out _ _ HHeld (fun _ => ?_)
          clear hK K
          try simp only [Act.put, List.setIfInBounds_toArray, List.set_cons_zero, List.set_cons_succ]
          clear b2
          refine wpAnyH_ready (rs := [6]) (by kernel_rfl) (by simp) (AllReadyH.cons rfl (fun K hK => ?_) AllReadyH.nil)
          go_simp
          obtain ⟨W3, hW3⟩ : ∃ W, W = W2.alloc (.cells #[.bool false] 4) := ⟨_, rfl⟩
          have b3 : Below W2.heap.size W2 W3 := by rw [hW3]; exact (Below.refl _ _).alloc (Nat.le_refl _) _
          have s3 : W2.heap.size < W3.heap.size := by rw [hW3]; simp
          have Z6 := Lib.hid (show W3.cell? ⟨W2.heap.size, 0, none⟩ = some (.bool false) ∧ W3.frozen? ⟨W2.heap.size, 0, none⟩ = false ∧ W2.heap.size < W3.heap.size by rw [hW3]; simp)
          rw [← hW3]
          have HC1 := Lib.hid (HC1.out.trans (b3.mono HC1.out.size))
          have HW3 := Lib.hid (HW2.out.trans (b3.mono HW2.out.size))
          have Z7 := Lib.hid (And.intro (cell_in b3 Z7.out.2.2 Z7.out.1) (And.intro ((b3.frozen (p := ⟨W0.heap.size, 0, none⟩) Z7.out.2.2).trans Z7.out.2.1) (Nat.lt_of_lt_of_le Z7.out.2.2 b3.size)))
          have HHeld := KS.out _ HW3.out
          refine hK.out _ _ HHeld (fun _ => ?_)
          clear hK K
          try simp only [Act.put, List.setIfInBounds_toArray, List.set_cons_zero, List.set_cons_succ]
          clear b3 hW3
          have hAB : W2.heap.size ≠ W0.heap.size := by omega
          have hA0 : wq.heap.size ≤ W2.heap.size := by have := HW2.out.size; omega
          have hB0 : wq.heap.size ≤ W0.heap.size := by have := HW0.out.size; omega
          have hAL : (wq.heap.size ≤ W2.heap.size ∧ W2.heap.size < W1.heap.size) ∨ W2.heap.size ≤ W2.heap.size := by omega
          have hBL : (wq.heap.size ≤ W0.heap.size ∧ W0.heap.size < W1.heap.size) ∨ W2.heap.size ≤ W0.heap.size := by omega
          obtain ⟨cz, fz, lz⟩ := Z6.out
          obtain ⟨cy, fy, ly⟩ := Z7.out
          refine wpAnyH_ready (rs := [8]) (by kernel_rfl) (by simp) (AllReadyH.cons rfl (fun K hK => ?_) AllReadyH.nil)
          go_simp
          obtain ⟨Xw, hX⟩ : ∃ Xw, Xw = W3.setCell ⟨W2.heap.size, 0, none⟩ (.bool true) := ⟨_, rfl⟩
          have HX := Lib.hid (show Below wq.heap.size wq Xw by rw [hX]; exact Below.setCell HW3.out (p := ⟨W2.heap.size, 0, none⟩) hA0 _)
          have KX := Lib.hid (show KeepF (fun x => Fx x ∨ (wq.heap.size ≤ x ∧ x < W1.heap.size)) W2 Xw by rw [hX]; exact (KeepF.ofBelow HC1.out).setCell (p := ⟨W2.heap.size, 0, none⟩) (by rcases hAL with h | h; exact .inl (.inr h); exact .inr h) _)
          have xz : Xw.cell? ⟨W2.heap.size, 0, none⟩ = some (.bool true) := by rw [hX]; exact World.cell?_setCell_same _ _ _ cz
          have xzf : Xw.frozen? ⟨W2.heap.size, 0, none⟩ = false := by rw [hX]; exact (World.frozen?_setCell _ _ _ _).trans fz
          have xy : Xw.cell? ⟨W0.heap.size, 0, none⟩ = some .nilFunc := by rw [hX]; exact (World.cell?_setCell_far _ _ _ _ hAB).trans cy
          have xf : Xw.frozen? ⟨W0.heap.size, 0, none⟩ = false := by rw [hX]; exact (World.frozen?_setCell _ _ _ _).trans fy
          have xs := Lib.hid (show Xw.heap.size = W3.heap.size by rw [hX]; simp)
          rw [← hX]
          clear cz fz cy fy hX
          have HHeld := KS.out _ HX.out
          refine hK.out _ _ HHeld (fun _ => ?_)
          clear hK K
          try simp only [Act.put, List.setIfInBounds_toArray, List.set_cons_zero, List.set_cons_succ]
          refine wpAnyH_ready (rs := [9]) (by kernel_rfl) (by simp) (AllReadyH.cons rfl (fun K hK => ?_) AllReadyH.nil)
          go_simp
          obtain ⟨Y, hY⟩ : ∃ Y, Y = Xw.setCell ⟨W0.heap.size, 0, none⟩ (.func (.func 70) #[] cap) := ⟨_, rfl⟩
          have HY := Lib.hid (show Below wq.heap.size wq Y by rw [hY]; exact Below.setCell HX.out (p := ⟨W0.heap.size, 0, none⟩) hB0 _)
          have KY := Lib.hid (show KeepF (fun x => Fx x ∨ (wq.heap.size ≤ x ∧ x < W1.heap.size)) W2 Y by rw [hY]; exact KX.out.setCell (p := ⟨W0.heap.size, 0, none⟩) (by rcases hBL with h | h; exact .inl (.inr h); exact .inr h) _)
          have ya := Lib.hid (show Y.cell? ⟨W2.heap.size, 0, none⟩ = some (.bool true) by rw [hY]; exact (World.cell?_setCell_far _ _ _ _ (Ne.symm hAB)).trans xz)
          have yaf := Lib.hid (show Y.frozen? ⟨W2.heap.size, 0, none⟩ = false by rw [hY]; exact (World.frozen?_setCell _ _ _ _).trans xzf)
          have yb := Lib.hid (show Y.cell? ⟨W0.heap.size, 0, none⟩ = some (.func (.func 70) #[] cap) by rw [hY]; exact World.cell?_setCell_same _ _ _ xy)
          have ys : Y.heap.size = W3.heap.size := by rw [hY]; simp only [World.size_setCell]; exact xs.out
          have GA := Lib.hid (show W2.heap.size < Y.heap.size ∧ W0.heap.size < Y.heap.size by omega)
          have HSF := Lib.hid (show StaysFn (fun x => Fx x ∨ x = W2.heap.size) m t cuts 70 cap Y from fun w9 k9 => HSTC.out w9 (KY.out.trans k9 (fun g hg h => by rcases h with h | h; exact .inl h; subst h; exact .inr (by omega))))
          rw [← hY]
          clear xz xzf xy xf hY ys
          have HHeld := KS.out _ HY.out
          refine hK.out _ _ HHeld (fun _ => ?_)
          clear hK K
          try simp only [Act.put, List.setIfInBounds_toArray, List.set_cons_zero, List.set_cons_succ]
          refine wpAnyH_done (by kernel_rfl) ?_ _
          go_wp2_with fail
          go_meet
          exact ⟨W2.heap.size, W0.heap.size, cap, rfl, rfl, hAB, hA0, hB0, GA.out.1, GA.out.2, ya.out, yaf.out, yb.out, HSF.out, HY.out⟩
        · go_simp
          obtain ⟨W2, hW2⟩ : ∃ W, W = W1.alloc (.cells #[.bool false] 4) := ⟨_, rfl⟩
          have b2 : Below W1.heap.size W1 W2 := by rw [hW2]; exact (Below.refl _ _).alloc (Nat.le_refl _) _
          have s2 : W1.heap.size < W2.heap.size := by rw [hW2]; simp
          have Z6 := Lib.hid (show W2.cell? ⟨W1.heap.size, 0, none⟩ = some (.bool false) ∧ W2.frozen? ⟨W1.heap.size, 0, none⟩ = false ∧ W1.heap.size < W2.heap.size by rw [hW2]; simp)
          rw [← hW2]
          have HW2 := Lib.hid (HW1.out.trans (b2.mono HW1.out.size))
          have Z7 := Lib.hid (And.intro (cell_in b2 Z7.out.2.2 Z7.out.1) (And.intro ((b2.frozen (p := ⟨W0.heap.size, 0, none⟩) Z7.out.2.2).trans Z7.out.2.1) (Nat.lt_of_lt_of_le Z7.out.2.2 b2.size)))
          have HHeld := KS.out _ HW2.out
          refine hK.out _ _ HHeld (fun _ => ?_)
          clear hK K
          try simp only [Act.put, List.setIfInBounds_toArray, List.set_cons_zero, List.set_cons_succ]
          clear b2 hW2
          refine wpAnyH_ready (rs := [5]) (by kernel_rfl) (by simp) (AllReadyH.cons rfl (fun K hK => ?_) AllReadyH.nil)
          go_simp
          refine (HPL.out W2 HW2.out).mono ?_
          rintro e W3 ⟨cap, rfl, hst, b3⟩
          have HSTC := Lib.hid hst; clear hst
          have s3 := b3.size
          have HC1 := Lib.hid (Below.refl W3.heap.size W3)
          have HW3 := Lib.hid (HW2.out.trans (b3.mono HW2.out.size))
          have Z6 := Lib.hid (And.intro (cell_in b3 Z6.out.2.2 Z6.out.1) (And.intro ((b3.frozen (p := ⟨W1.heap.size, 0, none⟩) Z6.out.2.2).trans Z6.out.2.1) (Nat.lt_of_lt_of_le Z6.out.2.2 b3.size)))
          have Z7 := Lib.hid (And.intro (cell_in b3 Z7.out.2.2 Z7.out.1) (And.intro ((b3.frozen (p := ⟨W0.heap.size, 0, none⟩) Z7.out.2.2).trans Z7.out.2.1) (Nat.lt_of_lt_of_le Z7.out.2.2 b3.size)))
          have HHeld := KS.out _ HW3.out
          refine hK.out _ _ HHeld (fun _ => ?_)
          clear hK K
          try simp only [Act.put, List.setIfInBounds_toArray, List.set_cons_zero, List.set_cons_succ]
          clear b3
          have hAB : W1.heap.size ≠ W0.heap.size := by omega
          have hA0 : wq.heap.size ≤ W1.heap.size := by have := HW1.out.size; omega
          have hB0 : wq.heap.size ≤ W0.heap.size := by have := HW0.out.size; omega
          have hAL : (wq.heap.size ≤ W1.heap.size ∧ W1.heap.size < W2.heap.size) ∨ W3.heap.size ≤ W1.heap.size := by omega
          have hBL : (wq.heap.size ≤ W0.heap.size ∧ W0.heap.size < W2.heap.size) ∨ W3.heap.size ≤ W0.heap.size := by omega
          obtain ⟨cz, fz, lz⟩ := Z6.out
          obtain ⟨cy, fy, ly⟩ := Z7.out
          refine wpAnyH_ready (rs := [8]) (by kernel_rfl) (by simp) (AllReadyH.cons rfl (fun K hK => ?_) AllReadyH.nil)
          go_simp
          obtain ⟨Xw, hX⟩ : ∃ Xw, Xw = W3.setCell ⟨W1.heap.size, 0, none⟩ (.bool true) := ⟨_, rfl⟩
          have HX := Lib.hid (show Below wq.heap.size wq Xw by rw [hX]; exact Below.setCell HW3.out (p := ⟨W1.heap.size, 0, none⟩) hA0 _)
          have KX := Lib.hid (show KeepF (fun x => Fx x ∨ (wq.heap.size ≤ x ∧ x < W2.heap.size)) W3 Xw by rw [hX]; exact (KeepF.ofBelow HC1.out).setCell (p := ⟨W1.heap.size, 0, none⟩) (by rcases hAL with h | h; exact .inl (.inr h); exact .inr h) _)
          have xz : Xw.cell? ⟨W1.heap.size, 0, none⟩ = some (.bool true) := by rw [hX]; exact World.cell?_setCell_same _ _ _ cz
          have xzf : Xw.frozen? ⟨W1.heap.size, 0, none⟩ = false := by rw [hX]; exact (World.frozen?_setCell _ _ _ _).trans fz
          have xy : Xw.cell? ⟨W0.heap.size, 0, none⟩ = some .nilFunc := by rw [hX]; exact (World.cell?_setCell_far _ _ _ _ hAB).trans cy
          have xf : Xw.frozen? ⟨W0.heap.size, 0, none⟩ = false := by rw [hX]; exact (World.frozen?_setCell _ _ _ _).trans fy
          have xs := Lib.hid (show Xw.heap.size = W3.heap.size by rw [hX]; simp)
          rw [← hX]
          clear cz fz cy fy hX
          have HHeld := KS.out _ HX.out
          refine hK.out _ _ HHeld (fun _ => ?_)
          clear hK K
          try simp only [Act.put, List.setIfInBounds_toArray, List.set_cons_zero, List.set_cons_succ]
          refine wpAnyH_ready (rs := [9]) (by kernel_rfl) (by simp) (AllReadyH.cons rfl (fun K hK => ?_) AllReadyH.nil)
          go_simp
          obtain ⟨Y, hY⟩ : ∃ Y, Y = Xw.setCell ⟨W0.heap.size, 0, none⟩ (.func (.func 70) #[] cap) := ⟨_, rfl⟩
          have HY := Lib.hid (show Below wq.heap.size wq Y by rw [hY]; exact Below.setCell HX.out (p := ⟨W0.heap.size, 0, none⟩) hB0 _)
          have KY := Lib.hid (show KeepF (fun x => Fx x ∨ (wq.heap.size ≤ x ∧ x < W2.heap.size)) W3 Y by rw [hY]; exact KX.out.setCell (p := ⟨W0.heap.size, 0, none⟩) (by rcases hBL with h | h; exact .inl (.inr h); exact .inr h) _)
          have ya := Lib.hid (show Y.cell? ⟨W1.heap.size, 0, none⟩ = some (.bool true) by rw [hY]; exact (World.cell?_setCell_far _ _ _ _ (Ne.symm hAB)).trans xz)
          have yaf := Lib.hid (show Y.frozen? ⟨W1.heap.size, 0, none⟩ = false by rw [hY]; exact (World.frozen?_setCell _ _ _ _).trans xzf)
          have yb := Lib.hid (show Y.cell? ⟨W0.heap.size, 0, none⟩ = some (.func (.func 70) #[] cap) by rw [hY]; exact World.cell?_setCell_same _ _ _ xy)
          have ys : Y.heap.size = W3.heap.size := by rw [hY]; simp only [World.size_setCell]; exact xs.out
          have GA := Lib.hid (show W1.heap.size < Y.heap.size ∧ W0.heap.size < Y.heap.size by omega)
          have HSF := Lib.hid (show StaysFn (fun x => Fx x ∨ x = W1.heap.size) m t cuts 70 cap Y from fun w9 k9 => HSTC.out w9 (KY.out.trans k9 (fun g hg h => by rcases h with h | h; exact .inl h; subst h; exact .inr (by omega))))
          rw [← hY]
          clear xz xzf xy xf hY ys
          have HHeld := KS.out _ HY.out
          refine hK.out _ _ HHeld (fun _ => ?_)
          clear hK K
          try simp only [Act.put, List.setIfInBounds_toArray, List.set_cons_zero, List.set_cons_succ]
          refine wpAnyH_done (by kernel_rfl) ?_ _
          go_wp2_with fail
          go_meet
          exact ⟨W1.heap.size, W0.heap.size, cap, rfl, rfl, hAB, hA0, hB0, GA.out.1, GA.out.2, ya.out, yaf.out, yb.out, HSF.out, HY.out⟩
    case rest =>
      obtain ⟨gM, gS, cap, rfl, rfl, hMS, hM0, hS0, hMl, hSl, cM, fM, cS, hst, bX⟩ := hcut
      obtain ⟨WD, hWD⟩ : ∃ WD, WD = wc.drew := ⟨_, rfl⟩
      have BD := Lib.hid (show Below wq.heap.size wq WD by rw [hWD]; exact bX.trans ((belowDrew0 wc).mono bX.size))
      have HDS := Lib.hid (show WD.heap.size = wc.heap.size by rw [hWD]; rfl)
      have B1D := Lib.hid (KQ.out.trans (BD.out.mono KQ.out.size))
      have BWD := Lib.hid (HLB.out.trans (B1D.out.mono HLB.out.size))
      have HKD := Lib.hid (show KeepF (fun x => F' x ∨ x = gM) wc WD by rw [hWD]; exact KeepF.ofBelow (belowDrew0 wc))
      have DM := Lib.hid (show WD.cell? ⟨gM, 0, none⟩ = some (.bool true) ∧ WD.frozen? ⟨gM, 0, none⟩ = false ∧ WD.cell? ⟨gS, 0, none⟩ = some (.func (.func 70) #[] cap) by rw [hWD]; exact ⟨cM, fM, cS⟩)
      have HSF := Lib.hid hst
      rw [HFE.out] at HSF
      have nM := Lib.hid (show ¬ F' gM from fun e => by have := HLF.out gM e; omega)
      have HN := Lib.hid (show w'.heap.size < gM ∧ w'.heap.size + 1 < gM ∧ w'.heap.size + 1 + 1 < gM ∧ gS ≠ gM ∧ ¬ F' gS ∧ gM < WD.heap.size ∧ gS < WD.heap.size by
        have h1 := HSQ.out; have h2 := HZ1.out; have h3 := HDS.out
        exact ⟨by omega, by omega, by omega, Ne.symm hMS, fun e => by have := HLF.out gS e; omega, by omega, by omega⟩)
      have HRG := Lib.hid (show RGo (RS RD X m A c t lim kd capD) gM (st, true) WD (fun x => F' x ∨ x = gM) from ⟨F', RS.fr HDD.out.fr st w1 WD F' HRS1.out (KeepF.ofBelow B1D.out), nM.out, HN.out.2.2.2.2.2.1, DM.out.1, DM.out.2.1, fun x => Iff.rfl⟩)
      have HSC := Lib.hid (KS.out WD BD.out)
      have HV := Lib.hid (show VisOK 55 #[.pointer (some ⟨w'.heap.size + 1 + 1, 0, none⟩), .pointer (some ⟨w'.heap.size, 0, none⟩), .pointer (some ⟨gM, 0, none⟩), .pointer (some ⟨gS, 0, none⟩), .pointer (some ⟨w'.heap.size + 1, 0, none⟩)]
          (goVis m t lim (goF m t lim visD r) cuts) (RGo (RS RD X m A c t lim kd capD) gM) (fun s => s.2 = true ∧ s.1.tries ≤ lim ∧ LD s.1.vis) (fun k => k ∈ keysG m allA [] m.c.toNat [] false) WD (fun x => F' x ∨ x = gM) from
        ⟨enters Tryz.func55 (by kernel_rfl) rfl, fun s key hL hP hb => by
          by_cases h1 : s.1.tries = lim
          · rw [goVis_lim h1] at hb; cases hb
          · have hT1 : s.1.tries + 1 ≤ lim := by have := hL.2; omega
            cases ho : openPart m t (cuts ++ [key]) with
            | true =>
              obtain ⟨b, s', hr⟩ : ∃ b s', goF m t lim visD r (cuts ++ [key]) ⟨s.1.tries + 1, s.1.over, s.1.vis⟩ = (b, s') := ⟨_, _, rfl⟩
              rw [goVis_open h1 ho hr] at hb ⊢
              have h2 := goF_tries (m := m) (t := t) (lim := lim) visD r (cuts ++ [key]) ⟨s.1.tries + 1, s.1.over, s.1.vis⟩ hT1
              have h3 := goF_live (m := m) (t := t) (lim := lim) HDD.out.live r (cuts ++ [key]) ⟨s.1.tries + 1, s.1.over, s.1.vis⟩ hL.2.2
              rw [hr] at h2 h3
              exact ⟨hb, h2, h3 hb⟩
            | false => rw [goVis_shut h1 ho] at hb ⊢; exact ⟨hb, hT1, hL.2.2⟩, RGo.lt (RS.lt HDD.out.lt), RGo.fr (RS.fr HDD.out.fr), fun s w9 G A9 c9 key hL hk hR hG hP hc hr hGA => by
          obtain ⟨st9, b9⟩ := s
          obtain ⟨hb9, ht9, hl9⟩ := hL
          simp only at hb9 ht9 hl9
          subst hb9
          have hkey := (allK_is HP.out.mak).1 hP
          have hz0 := HK.out.2.size
          have hzD := BWD.out.size
          have hGF : ∀ g, G g → F0 g ∨ w0.heap.size ≤ g := fun g hg => by
            rcases hG g hg with (h | h) | h
            · exact HK.out.1 g h
            · right; have := HN.out.1; omega
            · right; omega
          have hGw : ∀ g, G g → F' g ∨ w'.heap.size ≤ g := fun g hg => by
            rcases hG g hg with (h | h) | h
            · exact .inl h
            · right; have := HN.out.1; omega
            · right; omega
          have kw9 : KeepF (fun x => F' x ∨ w'.heap.size ≤ x) w' w9 := (KeepF.ofBelow BWD.out).trans hk (fun g hg e => by
            rcases e with h | h
            · exact .inl h
            · right; have := HN.out.1; omega)
          have hnG : ∀ g, w'.heap.size ≤ g → g < WD.heap.size → g ≠ gM → ¬ G g := fun g h1 h2 h3 e => by
            rcases hG g e with (h | h) | h
            · have := HLF.out g h; omega
            · exact h3 h
            · omega
          have hnF : ∀ g, w'.heap.size ≤ g → g ≠ gM → ¬ (F' g ∨ g = gM) := fun g h1 h3 e => by
            rcases e with h | h
            · have := HLF.out g h; omega
            · exact h3 h
          have hN := HN.out
          have hzw : w'.heap.size + 1 + 1 < WD.heap.size := by omega
          refine goClo_any RD LD X m A c t lim hlim kd capD visD w0 F0 HDD.out.lt HDD.out.fr r IH.out cuts B d HP.out HLT.out (w'.heap.size + 1 + 1) w'.heap.size gM gS (w'.heap.size + 1) 70 cap (enters Tryz.func70 (by kernel_rfl) rfl) st9 w9 G hR
            ((hk.cell (p := ⟨w'.heap.size + 1 + 1, 0, none⟩) hzw (hnF (w'.heap.size + 1 + 1) (by omega) (by omega))).trans HSC.out.2.2.1) ((hk.cell (p := ⟨w'.heap.size, 0, none⟩) (by simp only; omega) (hnF w'.heap.size (Nat.le_refl _) (by omega))).trans HSC.out.1) ((hk.cell (p := ⟨gS, 0, none⟩) hN.2.2.2.2.2.2 (hnF gS (by omega) hN.2.2.2.1)).trans DM.out.2.2) ((hk.cell (p := ⟨w'.heap.size + 1, 0, none⟩) (by simp only; omega) (hnF (w'.heap.size + 1) (by omega) (by omega))).trans HSC.out.2.1)
            (hnG w'.heap.size (Nat.le_refl _) (by omega) (by omega)) (hnG (w'.heap.size + 1) (by omega) (by omega) (by omega)) (hnG gS (by omega) hN.2.2.2.2.2.2 hN.2.2.2.1) ht9 hl9
            (HK.out.2.trans kw9 (fun g hg e => by
              rcases e with h | h
              · rcases HK.out.1 g h with h' | h'
                · exact h'
                · omega
              · omega)) hGF (fun g hg hlt => by rcases hGF g hg with h | h; exact h; omega) (((HB.out.up).keepF kw9).mono hGw) A9 c9 key hr hc hGA hkey (fun w10 k10 hr10 => ?_)
          have := HSF.out w10 ((HKD.out.trans hk (fun g _ e => e)).trans k10 (fun g hg e => by
            rcases hG g e with h | h
            · exact h
            · have := HDS.out; omega)) A9 c9 key hr10 hc (key_parts hkey).1
          rw [stays_open HP.out HO.out] at this
          exact this⟩)
      have HEK := eachKey_n m HP.out.mak _ _ _ _ _ WD _ (st, true) HV.out HRG.out ⟨rfl, HTR.out, hLD⟩
      rw [show keysG m allA [] m.c.toNat [] false = allK m from rfl, runVis_go] at HEK
      have hgl : goL m t lim (goF m t lim visD r) cuts (allK m) st = (bg, stg) := HBG.out
      rw [hgl] at HEK
      have HEKK := Lib.hid HEK
      clear HEK hgl hst bX cM fM cS hMS hM0 hS0 hMl hSl
      go_wp2_with fail
      refine wp_region_held_drew (S := (fun W => W.cell? ⟨w'.heap.size, 0, none⟩ = some (.pointer (some ⟨X, 0, none⟩)) ∧ W.cell? ⟨w'.heap.size + 1, 0, none⟩ = some (.slice B cuts.length d) ∧ W.cell? ⟨w'.heap.size + 1 + 1, 0, none⟩ = some (.slice none 0 0) ∧ (W.cell? ⟨X, 0, none⟩ = some (.int .i64 m.c) ∧ W.cell? ⟨X, 1, none⟩ = some (.int .i64 m.d) ∧ W.cell? ⟨X, 2, none⟩ = some (.int .i64 m.s) ∧ W.cell? ⟨X, 3, none⟩ = some (.int .i64 m.a) ∧ W.cell? ⟨X, 4, none⟩ = some (.int .i64 m.l) ∧ W.cell? ⟨X, 5, none⟩ = some (.slice A t.length c) ∧ True))) (by kernel_rfl) ((by rw [← hWD]; exact HSC.out)) (fun hHeld => ?_)
      rw [← hWD]
      have HHeld0 := HSC.out
      clear hWD
      refine takeD (i := 0) (some 30) (.pointer (some ⟨X, 0, none⟩)) rfl (by kernel_rfl) (by kernel_rfl) (by kernel_rfl) (by kernel_rfl) (fun _ _ _ h => h) (by assumption) (Or.inl ⟨by rfl, fun w hSw => by (try dsimp only at hSw); go_simp⟩) ?_
      simp only [Act.put, List.setIfInBounds_toArray, List.set_cons_zero, List.set_cons_succ]
      refine takeD (i := 1) (some 31) (.pointer (some ⟨X, 0, none⟩)) rfl (by kernel_rfl) (by kernel_rfl) (by kernel_rfl) (by kernel_rfl) (fun _ _ _ h => h) (by assumption) (Or.inl ⟨by rfl, fun w hSw => by (try dsimp only at hSw); go_simp⟩) ?_
      simp only [Act.put, List.setIfInBounds_toArray, List.set_cons_zero, List.set_cons_succ]
      refine takeD (i := 2) (some 32) (.pointer (some ⟨X, 0, none⟩)) rfl (by kernel_rfl) (by kernel_rfl) (by kernel_rfl) (by kernel_rfl) (fun _ _ _ h => h) (by assumption) (Or.inl ⟨by rfl, fun w hSw => by (try dsimp only at hSw); go_simp⟩) ?_
      simp only [Act.put, List.setIfInBounds_toArray, List.set_cons_zero, List.set_cons_succ]
      refine takeD (i := 3) (some 33) (.pointer (some ⟨X, 0, none⟩)) rfl (by kernel_rfl) (by kernel_rfl) (by kernel_rfl) (by kernel_rfl) (fun _ _ _ h => h) (by assumption) (Or.inl ⟨by rfl, fun w hSw => by (try dsimp only at hSw); go_simp⟩) ?_
      simp only [Act.put, List.setIfInBounds_toArray, List.set_cons_zero, List.set_cons_succ]
      refine takeD (i := 4) (some 34) (.agg #[.int .i64 m.c, .int .i64 m.d, .int .i64 m.s, .int .i64 m.a, .int .i64 m.l]) rfl (by kernel_rfl) (by kernel_rfl) (by kernel_rfl) (by kernel_rfl) (fun _ _ _ h => h) (by assumption) (Or.inl ⟨by rfl, fun w hSw => by (try dsimp only at hSw); go_simp⟩) ?_
      simp only [Act.put, List.setIfInBounds_toArray, List.set_cons_zero, List.set_cons_succ]
      refine takeD (i := 5) (some 35) (.slice none 0 0) rfl (by kernel_rfl) (by kernel_rfl) (by kernel_rfl) (by kernel_rfl) (fun _ _ _ h => h) (by assumption) (Or.inl ⟨by rfl, fun w hSw => by (try dsimp only at hSw); go_simp⟩) ?_
      simp only [Act.put, List.setIfInBounds_toArray, List.set_cons_zero, List.set_cons_succ]
      refine takeD (i := 6) (some 36) (.func (.func 55) #[] #[.pointer (some ⟨w'.heap.size + 1 + 1, 0, none⟩), .pointer (some ⟨w'.heap.size, 0, none⟩), .pointer (some ⟨gM, 0, none⟩), .pointer (some ⟨gS, 0, none⟩), .pointer (some ⟨w'.heap.size + 1, 0, none⟩)]) rfl (by kernel_rfl) (by kernel_rfl) (by kernel_rfl) (by kernel_rfl) (fun _ _ _ h => h) (by assumption) (Or.inl ⟨by rfl, fun w hSw => by (try dsimp only at hSw); go_simp⟩) ?_
      simp only [Act.put, List.setIfInBounds_toArray, List.set_cons_zero, List.set_cons_succ]
      refine wpAnyH_ready (rs := [7]) (by kernel_rfl) (by simp) (AllReadyH.cons rfl (fun K hK => ?_) AllReadyH.nil)
      go_simp
      refine HEKK.out.mono ?_
      rintro e w5 ⟨rfl, G, hR5, hk5, hG5⟩
      obtain ⟨F5, hS5, nM5, hMl5, c5, f5, hF5⟩ := hR5
      simp only at hS5 c5
      have H5 := Lib.hid (And.intro hS5 (And.intro nM5 (And.intro hk5 (And.intro hG5 hF5))))
      have hnF5 : ∀ g, w'.heap.size ≤ g → g ≠ gM → ¬ (F' g ∨ g = gM) := fun g h1 h3 e => by
        rcases e with h | h
        · have := HLF.out g h; omega
        · exact h3 h
      have hN := HN.out
      have HS5 := Lib.hid (show (w5.cell? ⟨w'.heap.size, 0, none⟩ = some (.pointer (some ⟨X, 0, none⟩)) ∧ w5.cell? ⟨w'.heap.size + 1, 0, none⟩ = some (.slice B cuts.length d) ∧ w5.cell? ⟨w'.heap.size + 1 + 1, 0, none⟩ = some (.slice none 0 0) ∧ (w5.cell? ⟨X, 0, none⟩ = some (.int .i64 m.c) ∧ w5.cell? ⟨X, 1, none⟩ = some (.int .i64 m.d) ∧ w5.cell? ⟨X, 2, none⟩ = some (.int .i64 m.s) ∧ w5.cell? ⟨X, 3, none⟩ = some (.int .i64 m.a) ∧ w5.cell? ⟨X, 4, none⟩ = some (.int .i64 m.l) ∧ w5.cell? ⟨X, 5, none⟩ = some (.slice A t.length c) ∧ True)) from by
        obtain ⟨G9, _, _, _, bX9, _⟩ := hS5
        obtain ⟨x0, x1, x2, x3, x4, x5, _⟩ := bX9
        exact ⟨(hk5.cell (p := ⟨w'.heap.size, 0, none⟩) (by simp only; omega) (hnF5 w'.heap.size (Nat.le_refl _) (by omega))).trans HSC.out.1, (hk5.cell (p := ⟨w'.heap.size + 1, 0, none⟩) (by simp only; omega) (hnF5 (w'.heap.size + 1) (by omega) (by omega))).trans HSC.out.2.1, (hk5.cell (p := ⟨w'.heap.size + 1 + 1, 0, none⟩) (by simp only; omega) (hnF5 (w'.heap.size + 1 + 1) (by omega) (by omega))).trans HSC.out.2.2.1, x0, x1, x2, x3, x4, x5, trivial⟩)
      clear hS5 nM5 hk5 hG5 hF5 f5 hnF5 hN
      have HHeld := HS5.out
      refine hK.out _ _ HHeld (fun _ => ?_)
      clear hK K
      try simp only [Act.put, List.setIfInBounds_toArray, List.set_cons_zero, List.set_cons_succ]
      refine wpAnyH_done (by kernel_rfl) ?_ _
      go_wp2_with fail
      go_ret
      obtain ⟨hS5, nM5, hk5, hG5, hF5⟩ := H5.out
      have hN := HN.out
      have hzD := BWD.out.size
      refine ⟨rfl, F5, hS5, (KeepF.ofBelow (F := F') BWD.out).trans hk5 (fun g hg e => ?_), fun g hg => ?_⟩
      · rcases e with h | h
        · exact h
        · omega
      · rcases hG5 g ((hF5 g).2 (.inl hg)) with (h | h) | h
        · exact .inl h
        · right; omega
        · right; omega
end Go.Proofs.YtapocenhmdcfoaaGreat
