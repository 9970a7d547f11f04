/- The program's search: its memory; contracts of Clone of lists and of goOn's visitor. -/
import Derived.Test.YtapocenhmdcfoaaFEachN
import Derived.Test.YtapocenhmdcfoaaFStaysI
import Derived.Test.YtapocenhmdcfoaaFCandS
import Derived.Test.YtapocenhmdcfoaaPSearch
namespace Go.Proofs.Ytapocenhmdcfoaa
set_option linter.unusedVariables false
open Go.RowKit
theorem BoxC.keepGe {w w' : World} {b : Nat} : ∀ {vs : List Value} {i : Nat}, BoxC w b i vs → (∀ j v, i ≤ j → w.cell? ⟨b, j, none⟩ = some v → w'.cell? ⟨b, j, none⟩ = some v) → BoxC w' b i vs
  | [], _, _, _ => trivial
  | v :: vs, i, h, hk => ⟨hk i v (Nat.le_refl _) h.1, BoxC.keepGe h.2 fun j v hj => hk j v (by omega)⟩
theorem BoxC.set {w : World} {b : Nat} {x : Value} : ∀ {vs : List Value} {i k : Nat}, BoxC w b i vs → k < vs.length → BoxC (w.setCell ⟨b, i + k, none⟩ x) b i (vs.set k x)
  | [], _, _, _, hk => by simp at hk
  | v :: vs, i, 0, h, _ => ⟨World.cell?_setCell_same _ _ _ h.1, BoxC.keepGe h.2 fun j v hj hv => (World.cell?_setCell_other _ _ _ _ (fun e => by injection e with _ e; omega)).trans hv⟩
  | v :: vs, i, k + 1, h, hk => ⟨(World.cell?_setCell_other _ _ _ _ (fun e => by injection e with _ e; omega)).trans h.1, by
    have := BoxC.set (x := x) (k := k) h.2 (by simp at hk; omega)
    rw [show i + (k + 1) = i + 1 + k by omega]; exact this⟩
theorem BoxC.keepF' {w w' : World} {F : Nat → Prop} {b i : Nat} {vs : List Value} (h : BoxC w b i vs) (k : KeepF F w w') (hb : b < w.heap.size) (hF : ¬ F b) : BoxC w' b i vs := h.keep fun i v hv => (k.cell (p := ⟨b, i, none⟩) hb hF).trans hv
theorem RIIn.up {F : Nat → Prop} {w : World} {A : Option Addr} {xss : List (List Int)} (h : RIIn F w A xss) : RIIn (fun g => F g ∨ w.heap.size ≤ g) w A xss := by
  obtain ⟨us, h1, h2, h3, h4⟩ := h
  exact ⟨us, h1, h2, fun h0 b o e hf => by
    rcases hf with hf | hf
    · exact h3 h0 b o e hf
    · have := ri_block' h2 (by omega) e; omega, fun j hj => by
    obtain ⟨A', c, a, b, d, n⟩ := h4 j hj
    exact ⟨A', c, a, b, d, fun h0 b o e hf => by
      rcases hf with hf | hf
      · exact n h0 b o e hf
      · have := ri_block' d (by rw [ints_length]; exact h0) e; omega⟩⟩
/-- the search's variable at X -/
def RS {τ : Type} (RD : τ → World → (Nat → Prop) → Prop) (X : Nat) (m : Mk) (A : Option Addr) (c : Nat) (t : List (List Int)) (lim : Nat) (kd : FuncId) (capD : Array Value) (st : Srch τ) (w : World) (F : Nat → Prop) : Prop :=
  ∃ G, RD st.vis w G ∧ ¬ G X ∧ X < w.heap.size ∧ BoxC w X 0 [.int .i64 m.c, .int .i64 m.d, .int .i64 m.s, .int .i64 m.a, .int .i64 m.l, .slice A t.length c, .int .i64 (lim : Int), .int .i64 (st.tries : Int), .bool st.over, .func (.func kd) #[] capD] ∧
    w.frozen? ⟨X, 7, none⟩ = false ∧ w.frozen? ⟨X, 8, none⟩ = false ∧ ∀ x, F x ↔ (G x ∨ x = X)
/-- what visits designs -/
structure DesOK {τ : Type} (kd : FuncId) (capD : Array Value) (visD : τ → List (List Int) → Bool × τ) (RD : τ → World → (Nat → Prop) → Prop) (LD : τ → Prop) (m : Mk) (t : List (List Int)) (w0 : World) (F0 : Nat → Prop) : Prop where
  ent : Enters Try.prog kd
  live : ∀ s d, LD s → (visD s d).1 = true → LD (visD s d).2
  lt : ∀ s w F, RD s w F → ∀ g, F g → g < w.heap.size
  fr : ∀ s w w' F, RD s w F → KeepF (fun g => ¬ F g) w w' → RD s w' F
  call : ∀ s w' G A c cuts, LD s → KeepF F0 w0 w' → RD s w' G → (∀ g, G g → F0 g ∨ w0.heap.size ≤ g) → RIIn G w' A cuts → PartOK m t cuts → Calls Try.prog kd (#[.slice A cuts.length c] ++ capD) w' fun e w'' => e = .returned (.bool (visD s cuts).1) ∧ ∃ G', RD (visD s cuts).2 w'' G' ∧ KeepF G w' w'' ∧ ∀ g, G' g → G g ∨ w'.heap.size ≤ g
section
variable {τ : Type} {RD : τ → World → (Nat → Prop) → Prop} {X : Nat} {m : Mk} {A : Option Addr} {c : Nat} {t : List (List Int)} {lim : Nat} {kd : FuncId} {capD : Array Value}
theorem RS.lt (hl : ∀ s w F, RD s w F → ∀ g, F g → g < w.heap.size) (st : Srch τ) (w : World) (F : Nat → Prop) (h : RS RD X m A c t lim kd capD st w F) : ∀ g, F g → g < w.heap.size := by
  obtain ⟨G, h1, _, h3, _, _, _, h7⟩ := h
  intro g hg
  rcases (h7 g).1 hg with e | e
  · exact hl _ _ _ h1 g e
  · omega
theorem RS.fr (hf : ∀ s w w' F, RD s w F → KeepF (fun g => ¬ F g) w w' → RD s w' F) (st : Srch τ) (w w' : World) (F : Nat → Prop) (h : RS RD X m A c t lim kd capD st w F) (k : KeepF (fun g => ¬ F g) w w') : RS RD X m A c t lim kd capD st w' F := by
  obtain ⟨G, h1, h2, h3, h4, h5, h6, h7⟩ := h
  have hn : ¬ ¬ F X := fun e => e ((h7 X).2 (.inr rfl))
  exact ⟨G, hf _ _ _ _ h1 (k.mono fun x hx hg => hx ((h7 x).2 (.inl hg))), h2, by have := k.size; omega, h4.keepF' k h3 hn, (k.frozen (p := ⟨X, 7, none⟩) h3 hn).trans h5, (k.frozen (p := ⟨X, 8, none⟩) h3 hn).trans h6, h7⟩
/-- a new number of tries, or broken off -/
theorem RS.upd (hf : ∀ s w w' F, RD s w F → KeepF (fun g => ¬ F g) w w' → RD s w' F) {st : Srch τ} {w w' : World} {F K : Nat → Prop} (h : RS RD X m A c t lim kd capD st w F) (k : KeepF K w w') (hK : ∀ g, K g → ¬ F g ∨ g = X) {n : Nat} {b : Bool}
    (hb : BoxC w' X 0 [.int .i64 m.c, .int .i64 m.d, .int .i64 m.s, .int .i64 m.a, .int .i64 m.l, .slice A t.length c, .int .i64 (lim : Int), .int .i64 (n : Int), .bool b, .func (.func kd) #[] capD]) (f7 : w'.frozen? ⟨X, 7, none⟩ = false) (f8 : w'.frozen? ⟨X, 8, none⟩ = false) : RS RD X m A c t lim kd capD ⟨n, b, st.vis⟩ w' F := by
  obtain ⟨G, h1, h2, h3, _, _, _, h7⟩ := h
  refine ⟨G, hf _ _ _ _ h1 (k.mono fun x hx hg => ?_), h2, by have := k.size; omega, hb, f7, f8, h7⟩
  rcases hK x hx with e | e
  · exact e ((h7 x).2 (.inl hg))
  · subst e; exact h2 hg
/-- the search's variable, and whether it goes on, at gM -/
def RGo (R : Srch τ → World → (Nat → Prop) → Prop) (gM : Nat) (s : Srch τ × Bool) (w : World) (F : Nat → Prop) : Prop :=
  ∃ Fx, R s.1 w Fx ∧ ¬ Fx gM ∧ gM < w.heap.size ∧ w.cell? ⟨gM, 0, none⟩ = some (.bool s.2) ∧ w.frozen? ⟨gM, 0, none⟩ = false ∧ ∀ x, F x ↔ (Fx x ∨ x = gM)
theorem RGo.lt {R : Srch τ → World → (Nat → Prop) → Prop} {gM : Nat} (hl : ∀ s w F, R s w F → ∀ g, F g → g < w.heap.size) (s : Srch τ × Bool) (w : World) (F : Nat → Prop) (h : RGo R gM s w F) : ∀ g, F g → g < w.heap.size := by
  obtain ⟨G, h1, _, h3, _, _, h7⟩ := h
  intro g hg
  rcases (h7 g).1 hg with e | e
  · exact hl _ _ _ h1 g e
  · omega
theorem RGo.fr {R : Srch τ → World → (Nat → Prop) → Prop} {gM : Nat} (hf : ∀ s w w' F, R s w F → KeepF (fun g => ¬ F g) w w' → R s w' F) (s : Srch τ × Bool) (w w' : World) (F : Nat → Prop) (h : RGo R gM s w F) (k : KeepF (fun g => ¬ F g) w w') : RGo R gM s w' F := by
  obtain ⟨G, h1, h2, h3, h4, h5, h7⟩ := h
  have hn : ¬ ¬ F gM := fun e => e ((h7 gM).2 (.inr rfl))
  exact ⟨G, hf _ _ _ _ h1 (k.mono fun x hx hg => hx ((h7 x).2 (.inl hg))), h2, by have := k.size; omega, (k.cell (p := ⟨gM, 0, none⟩) h3 hn).trans h4, (k.frozen (p := ⟨gM, 0, none⟩) h3 hn).trans h5, h7⟩
/-- behind a search -/
def GoPost (R : Srch τ → World → (Nat → Prop) → Prop) (p : Bool × Srch τ) (w : World) (F : Nat → Prop) (e : Ending) (w' : World) : Prop :=
  e = .returned (.bool p.1) ∧ ∃ F', R p.2 w' F' ∧ KeepF F w w' ∧ ∀ g, F' g → F g ∨ w.heap.size ≤ g
end
set_option maxRecDepth 100000 in
set_option maxHeartbeats 1000000 in
theorem sCloneII_any (A : Option Addr) (c : Nat) (xss : List (List Int)) (us : List Value) (w : World) (h1 : us.length = xss.length) (h2 : RV w A us) (h3 : ∀ u ∈ us, u.oneCell' = true) (hn : xss.length ≤ 1000000) :
    Calls Try.prog 213 #[.slice A xss.length c] w fun e w' => ∃ A' c', e = .returned (.slice A' xss.length c') ∧ OV w' w.heap.size 56 (.slice A' xss.length c') us ∧ Below w.heap.size w w' := by
  cases A with
  | none =>
    have hx : us = [] := by
      by_cases h0 : us = []
      · exact h0
      · obtain ⟨b, o, e, _⟩ := h2.2 h0; cases e
    subst hx
    have hxs : xss = [] := List.length_eq_zero_iff.1 h1.symm
    subst hxs
    have hq := fun w : World => Go.Lib.run_eql_slice_nil (P := Try.prog) w 24 56 none 0 c 0 0 Try.underlying24
    simp only [Option.isNone_none] at hq
    go_enter Try.func213, Try.ntmps213
    go_wp2_with fail
    go_ret
    exact ⟨none, 0, rfl, OV.nil, Below.refl _ _⟩
  | some a =>
    have B0 : Below w.heap.size w (w.alloc (.cells #[] 56)) := (Below.refl w.heap.size w).alloc (Nat.le_refl _) _
    have ho := OV.new0 (w := w) (e := 56) (B := w.heap.size) (Nat.le_refl _)
    have hq := fun w : World => Go.Lib.run_eql_slice_nil (P := Try.prog) w 24 56 (some a) xss.length c 0 0 Try.underlying24
    simp only [Option.isNone_some] at hq
    have H1 := Lib.hid h1
    have H1' := Lib.hid h1.symm
    have hnu : us.length ≤ 1000000 := by omega
    have h2' := RV.below h2 B0
    have HON := Lib.hid h3
    clear h1 h2 h3
    go_enter Try.func213, Try.ntmps213
    go_wp2_with (at_builtin; refine wpList_app _ rfl _ _ _ rfl w.heap.size 56 _ 24 Try.underlying24 info_sl rfl _ _ rfl ho _ _ c us rfl H1'.out h2' HON.out (by simp; omega) (by simp; omega) (by simp) ?_; intro v' w3 ho3 hg3 hn3 hat3)
    go_ret
    rw [List.nil_append] at ho3
    have hb3 := ho.own (Nat.le_refl _) B0 hg3 (by simp)
    obtain ⟨A', c', rfl, _, _⟩ := ho3.reads
    rw [H1.out] at ho3 ⊢
    exact ⟨A', c', rfl, ho3, hb3⟩
/-- what a search with so many rows to come does -/
def GoIH {τ : Type} (RD : τ → World → (Nat → Prop) → Prop) (LD : τ → Prop) (X : Nat) (m : Mk) (A : Option Addr) (c : Nat) (t : List (List Int)) (lim : Nat) (kd : FuncId) (capD : Array Value) (visD : τ → List (List Int) → Bool × τ) (w0 : World) (F0 : Nat → Prop) (fn : FuncId) (r : Nat) : Prop :=
  ∀ (cuts : List (List Int)) (st : Srch τ) (w' : World) (F' : Nat → Prop) (B : Option Addr) (d : Nat), PartOK m t cuts → cuts.length + r = t.length → openPart m t cuts = true → cuts.length ≤ d → st.tries ≤ lim → LD st.vis → KeepF F0 w0 w' → (∀ g, F' g → F0 g ∨ w0.heap.size ≤ g) →
    RS RD X m A c t lim kd capD st w' F' → RIIn F' w' B cuts → Calls Try.prog fn #[.pointer (some ⟨X, 0, none⟩), .slice B cuts.length d, .slice none 0 0] w' (GoPost (RS RD X m A c t lim kd capD) (goF m t lim visD r cuts st) w' F')
set_option maxRecDepth 100000 in
set_option maxHeartbeats 16000000 in
theorem goClo_any {τ : Type} (RD : τ → World → (Nat → Prop) → Prop) (LD : τ → Prop) (X : Nat) (m : Mk) (A : Option Addr) (c : Nat) (t : List (List Int)) (lim : Nat) (hlim : lim ≤ 4000) (kd : FuncId) (capD : Array Value) (visD : τ → List (List Int) → Bool × τ) (w0 : World) (F0 : Nat → Prop)
    (hl : ∀ s w F, RD s w F → ∀ g, F g → g < w.heap.size) (hf : ∀ s w w' F, RD s w F → KeepF (fun g => ¬ F g) w w' → RD s w' F) (r : Nat) (IH : GoIH RD LD X m A c t lim kd capD visD w0 F0 179 r)
    (cuts : List (List Int)) (B : Option Addr) (d : Nat) (hp : PartOK m t cuts) (hlt : cuts.length + (r + 1) = t.length) (gF gX gM gS gC : Nat) (kc : FuncId) (cap : Array Value) (hent : Enters Try.prog kc)
    (st : Srch τ) (w : World) (G : Nat → Prop) (hG : RGo (RS RD X m A c t lim kd capD) gM (st, true) w G)
    (cF : w.cell? ⟨gF, 0, none⟩ = some (.slice none 0 0)) (cX : w.cell? ⟨gX, 0, none⟩ = some (.pointer (some ⟨X, 0, none⟩))) (cS : w.cell? ⟨gS, 0, none⟩ = some (.func (.func kc) #[] cap)) (cC : w.cell? ⟨gC, 0, none⟩ = some (.slice B cuts.length d))
    (nX : ¬ G gX) (nC : ¬ G gC) (nS : ¬ G gS) (htr : st.tries ≤ lim) (hLD : LD st.vis) (hK : KeepF F0 w0 w) (hGF0 : ∀ g, G g → F0 g ∨ w0.heap.size ≤ g) (hF0 : ∀ g, G g → g < w0.heap.size → F0 g) (hB : RIIn G w B cuts)
    (Kk : Option Addr) (q : Nat) (key : List Int) (hr : RI w Kk key) (hq : key.length ≤ q) (hkG : ∀ b o, Kk = some ⟨b, o, none⟩ → ¬ G b) (hkey : isKey m key = true)
    (hst : ∀ w', KeepF G w w' → RI w' Kk key → Calls Try.prog kc (#[.slice Kk key.length q] ++ cap) w' fun e w'' => e = .returned (.bool (openPart m t (cuts ++ [key]))) ∧ Below w'.heap.size w' w'') :
    Calls Try.prog 212 #[.slice Kk key.length q, .pointer (some ⟨gF, 0, none⟩), .pointer (some ⟨gX, 0, none⟩), .pointer (some ⟨gM, 0, none⟩), .pointer (some ⟨gS, 0, none⟩), .pointer (some ⟨gC, 0, none⟩)] w
      (VisPost (goVis m t lim (goF m t lim visD r) cuts) (RGo (RS RD X m A c t lim kd capD) gM) (st, true) key w G) := by
  have HQ := fun w : World => run_neq_slice_nil' (P := Try.prog) w (t := 56) (e := 2) none 0 0 Try.underlying56
  simp only [Option.isNone_none, Bool.not_true] at HQ
  obtain ⟨Fx, hRS, nM, hMl, cM, fM, hGF⟩ := hG
  have HRS := Lib.hid hRS
  obtain ⟨G0, hD, nGX, hXl, bX, f7, f8, hFx⟩ := hRS
  simp only at hMl cM
  have HBX := Lib.hid bX
  obtain ⟨x0, x1, x2, x3, x4, x5, x6, x7, x8, x9, _⟩ := bX
  simp only [Nat.zero_add] at x1 x2 x3 x4 x5 x6 x7 x8 x9
  have hGX : G X := (hGF X).2 (.inl ((hFx X).2 (.inr rfl)))
  have hGM : G gM := (hGF gM).2 (.inr rfl)
  have hXM : X ≠ gM := fun e => nM (by rw [← e]; exact (hFx X).2 (.inr rfl))
  have lF := World.block_lt_of_cell? w _ cF
  have lX := World.block_lt_of_cell? w _ cX
  have lS := World.block_lt_of_cell? w _ cS
  have lC := World.block_lt_of_cell? w _ cC
  simp only at lF lX lS lC
  have HNE := Lib.hid (show gX ≠ X ∧ gC ≠ X ∧ gS ≠ X ∧ gX ≠ gM ∧ gC ≠ gM from ⟨fun e => nX (by rw [e]; exact hGX), fun e => nC (by rw [e]; exact hGX), fun e => nS (by rw [e]; exact hGX), fun e => nX (by rw [e]; exact hGM), fun e => nC (by rw [e]; exact hGM)⟩)
  have HFX := Lib.hid hFx; have HGF := Lib.hid hGF
  have HM := Lib.hid (And.intro nM (And.intro hMl (And.intro cM fM)))
  have HF := Lib.hid (And.intro f7 f8)
  have hent' := hent
  unfold Enters at hent'
  by_cases hlm : st.tries = lim
  · have hlm' : ((st.tries : Int) == (lim : Int)) = true := by rw [hlm]; simp
    have HVV := Lib.hid (goVis_lim (m := m) (t := t) (rec := goF m t lim visD r) (cuts := cuts) (s := (st, true)) (k := key) hlm)
    have HLM := Lib.hid hlm
    clear hlm hD nGX hFx hGF hst hB hr hkG hK hGF0 hF0 IH cS cC htr
    go_enter Try.func212, Try.ntmps212
    go_wp2_with fail
    go_quiet (fail)
    generalize hwq : w.drewN _ = wq
    have KQ := Lib.hid (show Below w.heap.size w wq by rw [← hwq]; exact belowD (Below.refl _ _) _)
    have y8 : wq.cell? ⟨X, 8, none⟩ = some (.bool st.over) := by rw [← hwq]; exact x8
    have e8 : wq.frozen? ⟨X, 8, none⟩ = false := by rw [← hwq]; exact HF.out.2
    have yM : wq.cell? ⟨gM, 0, none⟩ = some (.bool true) := by rw [← hwq]; exact HM.out.2.2.1
    have eM : wq.frozen? ⟨gM, 0, none⟩ = false := by rw [← hwq]; exact HM.out.2.2.2
    have yX : wq.cell? ⟨gX, 0, none⟩ = some (.pointer (some ⟨X, 0, none⟩)) := by rw [← hwq]; exact cX
    have zM : (wq.setCell ⟨X, 8, none⟩ (.bool true)).cell? ⟨gM, 0, none⟩ = some (.bool true) := (World.cell?_setCell_far _ _ _ _ hXM).trans yM
    have hs : wq.heap.size = w.heap.size := by rw [← hwq]; rfl
    have HS := Lib.hid hs
    have lXq : gX < wq.heap.size := by omega
    clear hwq hs
    go_wp2_with fail
    go_ret
    obtain ⟨wf, hwf⟩ : ∃ wf, wf = (wq.setCell ⟨X, 8, none⟩ (.bool true)).setCell ⟨gM, 0, none⟩ (.bool false) := ⟨_, rfl⟩
    rw [← hwf]
    have KF : KeepF (fun g => g = X ∨ g = gM) w wf := by
      rw [hwf]; exact ((KeepF.ofBelow KQ.out).setCell (p := ⟨X, 8, none⟩) (.inl (.inl rfl)) _).setCell (p := ⟨gM, 0, none⟩) (.inl (.inr rfl)) _
    have bF : BoxC wf X 0 [.int .i64 m.c, .int .i64 m.d, .int .i64 m.s, .int .i64 m.a, .int .i64 m.l, .slice A t.length c, .int .i64 (lim : Int), .int .i64 (st.tries : Int), .bool true, .func (.func kd) #[] capD] := by
      have h1 := BoxC.set (x := .bool true) (k := 8) (HBX.out.below KQ.out) (by simp)
      rw [hwf]
      exact BoxC.keep (fun i v hv => (World.cell?_setCell_far _ _ _ _ (Ne.symm hXM)).trans hv) h1
    unfold VisPost
    rw [HVV.out]
    refine ⟨rfl, G, ⟨Fx, RS.upd hf HRS.out KF (fun g hg => ?_) bF ?_ ?_, HM.out.1, by have := KF.size; omega, ?_, ?_, HGF.out⟩, KF.mono (fun g hg => ?_), fun g hg => .inl hg⟩
    · rcases hg with e | e
      · exact .inr e
      · subst e; exact .inl HM.out.1
    · rw [hwf]; simp only [World.frozen?_setCell]
      exact (KQ.out.frozen (p := ⟨X, 7, none⟩) hXl).trans HF.out.1
    · rw [hwf]; simp only [World.frozen?_setCell]; exact e8
    · rw [hwf]; exact World.cell?_setCell_same _ _ _ zM
    · rw [hwf]; simp only [World.frozen?_setCell]; exact eM
    · rcases hg with e | e
      · subst e; exact hGX
      · subst e; exact hGM
  · have hlm' : ((st.tries : Int) == (lim : Int)) = false := by simp; omega
    have hwr : wrap64 ((st.tries : Int) + 1) = (st.tries : Int) + 1 := (wrap_next (n := st.tries) (by omega)).trans (Int.natCast_succ _)
    have HCAST := Lib.hid (show ((st.tries + 1 : Nat) : Int) = (st.tries : Int) + 1 by omega)
    obtain ⟨us, u1, u2, u3, u4⟩ := hB
    have HU := Lib.hid (And.intro u1 (And.intro u2 (And.intro u3 u4)))
    have HONE := Lib.hid (show ∀ u ∈ us, u.oneCell' = true by
      intro u hu
      obtain ⟨j, hj, rfl⟩ := List.getElem_of_mem hu
      obtain ⟨A', c', a, _⟩ := u4 j (by omega)
      rw [List.getElem?_eq_getElem hj] at a
      injection a with a
      rw [a]; rfl)
    have HKP := Lib.hid (key_parts hkey)
    have HC6 := Lib.hid (mk_bounds hp.mak).2.1
    have HP := Lib.hid hp; have HLT := Lib.hid hlt; have HKEY := Lib.hid hkey
    have HIH := Lib.hid IH; have HST := Lib.hid hst; have HR := Lib.hid hr; have HKG := Lib.hid hkG
    have HK := Lib.hid hK; have HG0 := Lib.hid hGF0
    have HLM := Lib.hid (And.intro hlm htr)
    have CC := Lib.hid cC; have CS := Lib.hid cS; have CX := Lib.hid cX
    clear hlm hD nGX hFx hGF hst hr hkG hK hGF0 hF0 IH u1 u2 u3 u4 hp hlt hkey htr
    go_enter Try.func212, Try.ntmps212
    go_wp2_with fail
    go_quiet (fail)
    generalize hwq : w.drewN _ = wq
    have KQ := Lib.hid (show Below w.heap.size w wq by rw [← hwq]; exact belowD (Below.refl _ _) _)
    have y7 : wq.cell? ⟨X, 7, none⟩ = some (.int .i64 (st.tries : Int)) := by rw [← hwq]; exact x7
    have e7 : wq.frozen? ⟨X, 7, none⟩ = false := by rw [← hwq]; exact HF.out.1
    have yX : wq.cell? ⟨gX, 0, none⟩ = some (.pointer (some ⟨X, 0, none⟩)) := by rw [← hwq]; exact cX
    have yS : wq.cell? ⟨gS, 0, none⟩ = some (.func (.func kc) #[] cap) := by rw [← hwq]; exact cS
    have hs : wq.heap.size = w.heap.size := by rw [← hwq]; rfl
    have zS : (wq.setCell ⟨X, 7, none⟩ (.int .i64 ((st.tries : Int) + 1))).cell? ⟨gS, 0, none⟩ = some (.func (.func kc) #[] cap) := (World.cell?_setCell_far _ _ _ _ (Ne.symm HNE.out.2.2.1)).trans yS
    have lXq : gX < wq.heap.size := by omega
    have lSq : gS < wq.heap.size := by omega
    have HS := Lib.hid hs
    clear hwq hs
    obtain ⟨w1, hw1⟩ : ∃ w1, w1 = wq.setCell ⟨X, 7, none⟩ (.int .i64 ((st.tries : Int) + 1)) := ⟨_, rfl⟩
    have K1 := Lib.hid (show KeepF (fun g => g = X) w w1 by rw [hw1]; exact (KeepF.ofBelow (F := fun g => g = X) KQ.out).setCell (p := ⟨X, 7, none⟩) (.inl rfl) _)
    have KG1 := Lib.hid (K1.out.mono (fun g e => show G g by subst e; exact hGX))
    have R1 := Lib.hid (show RS RD X m A c t lim kd capD ⟨st.tries + 1, st.over, st.vis⟩ w1 Fx by
      have b1 := BoxC.set (x := .int .i64 ((st.tries : Int) + 1)) (k := 7) (HBX.out.below KQ.out) (by simp)
      refine RS.upd hf HRS.out K1.out (fun g hg => .inr hg) (by rw [HCAST.out, hw1]; exact b1) ?_ ?_
      · rw [hw1]; simp only [World.frozen?_setCell]; exact e7
      · rw [hw1]; simp only [World.frozen?_setCell]; exact (KQ.out.frozen (p := ⟨X, 8, none⟩) hXl).trans HF.out.2)
    have HCL := HST.out w1 KG1.out (RV.keepF HR.out KG1.out HKG.out)
    have hw1s : w1.heap.size = w.heap.size := by rw [hw1]; simp; exact HS.out
    have HW1S := Lib.hid hw1s
    clear hw1s
    cases hop : openPart m t (cuts ++ [key]) with
    | false =>
      rw [hop] at HCL
      have HCLL := Lib.hid HCL; clear HCL
      have HVV := Lib.hid (goVis_shut (m := m) (t := t) (rec := goF m t lim visD r) (cuts := cuts) (s := (st, true)) (k := key) HLM.out.1 hop)
      clear hop
      go_wp2_with fail
      rw [← hw1]
      refine HCLL.out.mono ?_
      rintro e w2 ⟨rfl, b2⟩
      have K2 := Lib.hid (KG1.out.trans (KeepF.ofBelow (F := G) b2) (fun _ _ e => e))
      have k1M : w1.cell? ⟨gM, 0, none⟩ = some (.bool true) := (K1.out.cell (p := ⟨gM, 0, none⟩) hMl (Ne.symm hXM)).trans HM.out.2.2.1
      have h1M : w1.frozen? ⟨gM, 0, none⟩ = false := (K1.out.frozen (p := ⟨gM, 0, none⟩) hMl (Ne.symm hXM)).trans HM.out.2.2.2
      have lM1 : gM < w1.heap.size := by rw [HW1S.out]; exact hMl
      have k2M := cell_in b2 lM1 k1M
      have h2M := Lib.hid ((b2.frozen (p := ⟨gM, 0, none⟩) lM1).trans h1M)
      have K2M := Lib.hid k2M
      have R2 := Lib.hid (RS.fr hf _ w1 w2 Fx R1.out (KeepF.ofBelow b2))
      clear hw1 h1M b2
      go_wp2_with fail
      go_ret
      unfold VisPost
      rw [HVV.out]
      exact ⟨rfl, G, ⟨Fx, R2.out, HM.out.1, by have := K2.out.size; omega, K2M.out, h2M.out, HGF.out⟩, K2.out, fun g hg => .inl hg⟩
    | true =>
      rw [hop] at HCL
      have HCLL := Lib.hid HCL; clear HCL
      have k1M : w1.cell? ⟨gM, 0, none⟩ = some (.bool true) := (K1.out.cell (p := ⟨gM, 0, none⟩) hMl (Ne.symm hXM)).trans HM.out.2.2.1
      have h1M : w1.frozen? ⟨gM, 0, none⟩ = false := (K1.out.frozen (p := ⟨gM, 0, none⟩) hMl (Ne.symm hXM)).trans HM.out.2.2.2
      have lM1 : gM < w1.heap.size := by rw [HW1S.out]; exact hMl
      have L1M := Lib.hid (And.intro k1M (And.intro h1M lM1)); clear k1M h1M lM1
      obtain ⟨b7, st7, hb7⟩ : ∃ b7 st7, goF m t lim visD r (cuts ++ [key]) ⟨st.tries + 1, st.over, st.vis⟩ = (b7, st7) := ⟨_, _, rfl⟩
      have HVV := Lib.hid (goVis_open (m := m) (t := t) (rec := goF m t lim visD r) (cuts := cuts) (s := (st, true)) (k := key) HLM.out.1 hop hb7)
      obtain ⟨zs, hzs⟩ : ∃ zs, zs = cuts ++ [key] := ⟨_, rfl⟩
      rw [← hzs] at hop hb7
      have HB7 := Lib.hid hb7; have HOP := Lib.hid hop; have HZS := Lib.hid hzs
      clear hop hb7 hzs
      go_wp2_with fail
      rw [← hw1]
      refine HCLL.out.mono ?_
      rintro e w2 ⟨rfl, b2⟩
      have K2 := Lib.hid (KG1.out.trans (KeepF.ofBelow (F := G) b2) (fun _ _ e => e))
      have R2 := Lib.hid (RS.fr hf _ w1 w2 Fx R1.out (KeepF.ofBelow b2))
      have L2M := Lib.hid (And.intro (cell_in b2 L1M.out.2.2 L1M.out.1) (And.intro ((b2.frozen (p := ⟨gM, 0, none⟩) L1M.out.2.2).trans L1M.out.2.1) (Nat.lt_of_lt_of_le L1M.out.2.2 b2.size)))
      have KS := Lib.hid (show ∀ w', KeepF G w w' → (w'.cell? ⟨gX, 0, none⟩ = some (.pointer (some ⟨X, 0, none⟩)) ∧ w'.cell? ⟨gC, 0, none⟩ = some (.slice B cuts.length d)) from fun w' k => ⟨(k.cell (p := ⟨gX, 0, none⟩) lX nX).trans CX.out, (k.cell (p := ⟨gC, 0, none⟩) lC nC).trans CC.out⟩)
      have hs2 : w.heap.size ≤ w2.heap.size := K2.out.size
      clear hw1 b2 y7 e7 yX yS zS
      go_wp2_with fail
      refine wp_region_held_drew (S := (fun w' => w'.cell? ⟨gX, 0, none⟩ = some (.pointer (some ⟨X, 0, none⟩)) ∧ w'.cell? ⟨gC, 0, none⟩ = some (.slice B cuts.length d))) (by kernel_rfl) (KS.out _ (K2.out.trans (KeepF.ofBelow (F := G) (belowDrew0 w2)) (fun _ _ e => e))) (fun hHeld => ?_)
      refine takeD (i := 0) (some 37) (.pointer (some ⟨X, 0, none⟩)) rfl (by kernel_rfl) (by kernel_rfl) (by kernel_rfl) (by kernel_rfl) (fun _ _ _ h => h) (by assumption) (Or.inl ⟨by rfl, fun w hSw => by (try dsimp only at hSw); go_simp⟩) ?_
      simp only [Act.put, List.setIfInBounds_toArray, List.set_cons_zero, List.set_cons_succ]
      refine takeD (i := 1) (some 38) (.slice B cuts.length d) rfl (by kernel_rfl) (by kernel_rfl) (by kernel_rfl) (by kernel_rfl) (fun _ _ _ h => h) (by assumption) (Or.inl ⟨by rfl, fun w hSw => by (try dsimp only at hSw); go_simp⟩) ?_
      simp only [Act.put, List.setIfInBounds_toArray, List.set_cons_zero, List.set_cons_succ]
      refine takeD (i := 3) (some 40) (.slice Kk key.length q) rfl (by kernel_rfl) (by kernel_rfl) (by kernel_rfl) (by kernel_rfl) (fun _ _ _ h => h) (by assumption) (Or.inl ⟨by rfl, fun w hSw => by (try dsimp only at hSw); go_simp⟩) ?_
      simp only [Act.put, List.setIfInBounds_toArray, List.set_cons_zero, List.set_cons_succ]
      have KD := Lib.hid (K2.out.trans (KeepF.ofBelow (F := G) (belowDrew0 w2)) (fun _ _ e => e))
      refine wpAnyH_ready (rs := [2]) (by kernel_rfl) (by simp) (AllReadyH.cons rfl (fun K hK => ?_) AllReadyH.nil)
      go_simp
      refine (sCloneII_any B d cuts us _ HU.out.1 (HU.out.2.1.keepN KD.out (by rw [HU.out.1]; exact HU.out.2.2.1)) HONE.out (by have := HP.out.le; have := HP.out.t10; omega)).mono ?_
      rintro e w3 ⟨A3, c3, rfl, ho3, b3⟩
      have K3 := Lib.hid (KD.out.trans (KeepF.ofBelow (F := G) b3) (fun _ _ e => e))
      have B3 := Lib.hid (belowDrew b3)
      have HHeld := KS.out _ K3.out
      refine hK.out _ _ HHeld (fun _ => ?_)
      clear hK K
      try simp only [Act.put, List.setIfInBounds_toArray, List.set_cons_zero, List.set_cons_succ]
      refine wpAnyH_ready (rs := [4]) (by kernel_rfl) (by simp) (AllReadyH.cons rfl (fun K hK => ?_) AllReadyH.nil)
      go_simp
      refine (sClone_any Kk q key w3 (RV.keepF HR.out K3.out HKG.out) (by have := HKP.out.1; have := HC6.out; omega)).mono ?_
      rintro e w4 ⟨A4, c4, rfl, hc4, hr4, ho4, b4⟩
      have K4 := Lib.hid (K3.out.trans (KeepF.ofBelow (F := G) b4) (fun _ _ e => e))
      have B4 := Lib.hid (B3.out.trans (b4.mono B3.out.size))
      have HL3 := Lib.hid (show ∀ g, (Value.slice A3 cuts.length c3).ownBlock = some g → g < w3.heap.size from fun g e => (ho3.lt g e).2)
      have H23 := Lib.hid (show w2.heap.size ≤ w3.heap.size from B3.out.size)
      have HO3 := Lib.hid (show OV w4 w2.heap.size 56 (.slice A3 cuts.length c3) us from ho3.below' b4)
      have HO4 := Lib.hid ho4
      clear ho3 b3 b4
      have HHeld := KS.out _ K4.out
      refine hK.out _ _ HHeld (fun _ => ?_)
      clear hK K
      try simp only [Act.put, List.setIfInBounds_toArray, List.set_cons_zero, List.set_cons_succ]
      refine wpAnyH_ready (rs := [5]) (by kernel_rfl) (by simp) (AllReadyH.cons rfl (fun K hK => ?_) AllReadyH.nil)
      go_simp
      have HHeld := KS.out _ (K4.out.alloc (.cells #[.slice A4 key.length c4] 56))
      refine hK.out _ _ HHeld (fun _ => ?_)
      clear hK K
      try simp only [Act.put, List.setIfInBounds_toArray, List.set_cons_zero, List.set_cons_succ]
      refine wpAnyH_ready (rs := [6]) (by kernel_rfl) (by simp) (AllReadyH.cons rfl (fun K hK => ?_) AllReadyH.nil)
      refine step_app1 _ (by rfl) _ _ _ (by rfl) w2.heap.size 56 _ 24 Try.underlying24 info_sl rfl (by omega) _ us (by rfl) (HO3.out.alloc _) _ _ (by rfl) (one_cell _ _ _) rfl (by have := HU.out.1; have := HP.out.le; have := HP.out.t10; omega) (by have := B4.out.size; simp; omega) ?_
      intro v6 w6 ho6 hg6 hn6 hat6
      have k46 : KeepF (fun x => (Value.slice A3 cuts.length c3).ownBlock = some x) w4 w6 := ((KeepF.refl _ _).alloc _).grown hg6 (fun g e => .inl e)
      have hown : ∀ g, (Value.slice A3 cuts.length c3).ownBlock = some g → w2.heap.size ≤ g := fun g e => (HO3.out.lt g e).1
      have K6 := Lib.hid (show KeepF G w w6 from by
        refine K4.out.trans k46 (fun g hg e => ?_)
        have := hown g e; omega)
      have B6 := Lib.hid (show Below w2.heap.size w2 w6 from (HO3.out.alloc _).own (Nat.le_refl _) (B4.out.alloc B4.out.size _) hg6 (by have := B4.out.size; simp; omega))
      have hgl : ∀ g, G g → g < w.heap.size := fun g hg => RGo.lt (RS.lt hl) (st, true) w G ⟨Fx, HRS.out, HM.out.1, HM.out.2.1, HM.out.2.2.1, HM.out.2.2.2, HGF.out⟩ g hg
      have HGL := Lib.hid hgl
      have hsn := RIIn.snoc (F := G) ho6 HU.out.1 (fun j hj => by
          obtain ⟨A', c', a, b, d', e⟩ := HU.out.2.2.2 j hj
          exact ⟨A', c', a, b, d'.keepN K6.out e, e⟩) hc4 (RV.keepF hr4 k46 (fun b o e e' => by
            have h1 := HL3.out b e'
            have h2 := (HO4.out.1.lt b (by rw [e]; rfl)).1
            omega)) (fun _ b o e hg => by
            have h1 := hgl b hg
            have h2 := (HO4.out.1.lt b (by rw [e]; rfl)).1
            have h3 := H23.out
            omega) (fun g e hg => by have := (ho6.lt g e).1; have := hgl g hg; omega)
      rw [← HZS.out] at hsn
      obtain ⟨A6, c6, rfl, hc6, hr6⟩ := hsn
      have R6 := Lib.hid (RS.fr hf _ w2 w6 Fx R2.out (KeepF.ofBelow B6.out))
      have L6M := Lib.hid (And.intro (cell_in B6.out L2M.out.2.2 L2M.out.1) (And.intro ((B6.out.frozen (p := ⟨gM, 0, none⟩) L2M.out.2.2).trans L2M.out.2.1) (Nat.lt_of_lt_of_le L2M.out.2.2 B6.out.size)))
      have HI := HIH.out zs ⟨st.tries + 1, st.over, st.vis⟩ w6 Fx A6 c6 (by rw [HZS.out]; exact HP.out.snoc (by have := HLT.out; omega) HKEY.out) (by rw [HZS.out, List.length_append, List.length_cons, List.length_nil]; have := HLT.out; omega) HOP.out hc6 (by show st.tries + 1 ≤ lim; have := HLM.out; omega) hLD
        (HK.out.trans K6.out (fun g hg e => by rcases HG0.out g e with h | h; exact h; omega)) (fun g hg => HG0.out g ((HGF.out g).2 (.inl hg))) R6.out (hr6.mono (fun g hg => (HGF.out g).2 (.inl hg)))
      rw [HB7.out] at HI
      have HI7 := Lib.hid HI
      clear HI ho6 hg6 hn6 hat6 k46 hown hgl hr6 ho4 hr4
      have HHeld := KS.out _ K6.out
      refine hK.out _ _ HHeld (fun _ => ?_)
      clear hK K
      (try simp only [Act.put]); (try simp only [List.setIfInBounds_toArray]); (try simp only [List.set_cons_zero, List.set_cons_succ])
      refine wpAnyH_ready (rs := [7]) (by kernel_rfl) (by simp) (AllReadyH.cons rfl (fun K hK => ?_) AllReadyH.nil)
      go_simp
      refine HI7.out.mono ?_
      rintro e w7 ⟨rfl, F7, hR7, k7, s7⟩
      have K7 := Lib.hid (show KeepF G w w7 from K6.out.trans k7 (fun g _ hg => (HGF.out g).2 (.inl hg)))
      have c7M := (k7.cell (p := ⟨gM, 0, none⟩) L6M.out.2.2 HM.out.1).trans L6M.out.1
      have f7M := (k7.frozen (p := ⟨gM, 0, none⟩) L6M.out.2.2 HM.out.1).trans L6M.out.2.1
      have l7M : gM < w7.heap.size := Nat.lt_of_lt_of_le L6M.out.2.2 k7.size
      have HR7 := Lib.hid (And.intro hR7 s7)
      have H6S := Lib.hid (show w.heap.size ≤ w6.heap.size from K6.out.size)
      clear hR7 k7 s7
      simp only
      have HHeld := KS.out _ K7.out
      refine hK.out _ _ HHeld (fun _ => ?_)
      clear hK K
      try simp only [Act.put, List.setIfInBounds_toArray, List.set_cons_zero, List.set_cons_succ]
      refine wpAnyH_ready (rs := [8]) (by kernel_rfl) (by simp) (AllReadyH.cons rfl (fun K hK => ?_) AllReadyH.nil)
      go_simp
      have C8M := Lib.hid (show (w7.setCell ⟨gM, 0, none⟩ (.bool b7)).cell? ⟨gM, 0, none⟩ = some (.bool b7) from World.cell?_setCell_same _ _ _ c7M)
      have HHeld := KS.out _ (K7.out.setCell (p := ⟨gM, 0, none⟩) (.inl hGM) (.bool b7))
      refine hK.out _ _ HHeld (fun _ => ?_)
      clear hK K
      try simp only [Act.put, List.setIfInBounds_toArray, List.set_cons_zero, List.set_cons_succ]
      refine wpAnyH_done (by kernel_rfl) ?_ _
      have c8M := C8M.out
      have F7M := Lib.hid f7M
      clear f7M c7M
      go_wp2_with fail
      go_ret
      have nF7 : ¬ F7 gM := fun e => by
        rcases HR7.out.2 gM e with h | h
        · exact HM.out.1 h
        · have := L6M.out.2.2; omega
      unfold VisPost
      rw [HVV.out]
      refine ⟨rfl, fun x => F7 x ∨ x = gM, ⟨F7, RS.fr hf _ w7 _ F7 HR7.out.1 ((KeepF.refl (fun g => ¬ F7 g) w7).setCell (p := ⟨gM, 0, none⟩) (.inl nF7) _), nF7, by simp only [World.size_setCell]; exact l7M, C8M.out, by simp only [World.frozen?_setCell]; exact F7M.out, fun x => Iff.rfl⟩, K7.out.setCell (p := ⟨gM, 0, none⟩) (.inl hGM) _, fun g hg => ?_⟩
      rcases hg with hg | hg
      · rcases HR7.out.2 g hg with h | h
        · exact .inl ((HGF.out g).2 (.inl h))
        · right; have := H6S.out; omega
      · subst hg; exact .inl hGM
end Go.Proofs.Ytapocenhmdcfoaa
