/- The reference's search: its memory; contract of l17From. -/
import Derived.Test.YtapocenhmdcfoaaFCandS
import Derived.Test.YtapocenhmdcfoaaPSearch
namespace Go.Proofs.Ytapocenhmdcfoaa
set_option linter.unusedVariables false
open Go.RowKit
theorem boxC_keepGe {w w' : World} {b : Nat} : ∀ {vs : List Value} {i : Nat}, BoxC w b i vs → (∀ j v, i ≤ j → w.cell? ⟨b, j, none⟩ = some v → w'.cell? ⟨b, j, none⟩ = some v) → BoxC w' b i vs
  | [], _, _, _ => trivial
  | v :: vs, i, h, hk => ⟨hk i v (Nat.le_refl _) h.1, boxC_keepGe h.2 fun j v hj => hk j v (by omega)⟩
theorem boxC_set {w : World} {b : Nat} {x : Value} : ∀ {vs : List Value} {i k : Nat}, BoxC w b i vs → k < vs.length → BoxC (w.setCell ⟨b, i + k, none⟩ x) b i (vs.set k x)
  | [], _, _, _, hk => by simp at hk
  | v :: vs, i, 0, h, _ => ⟨World.cell?_setCell_same _ _ _ h.1, boxC_keepGe h.2 fun j v hj hv => (World.cell?_setCell_other _ _ _ _ (fun e => by injection e with _ e; omega)).trans hv⟩
  | v :: vs, i, k + 1, h, hk => ⟨(World.cell?_setCell_other _ _ _ _ (fun e => by injection e with _ e; omega)).trans h.1, by
    have := boxC_set (x := x) (k := k) h.2 (by simp at hk; omega)
    rw [show i + (k + 1) = i + 1 + k by omega]; exact this⟩
theorem RIIn.up' {F : Nat → Prop} {w : World} {A : Option Addr} {xss : List (List Int)} (hr : RIIn F w A xss) : RIIn (fun g => F g ∨ w.heap.size ≤ g) w A xss := by
  obtain ⟨us, h1, h2, h3, h4⟩ := hr
  exact ⟨us, h1, h2, fun h0 b o e hf => by
    rcases hf with hf | hf
    · exact h3 h0 b o e hf
    · have := ri_block' h2 (by omega) e; omega, fun j hj => by
    obtain ⟨A', c, a, b, d, n⟩ := h4 j hj
    exact ⟨A', c, a, b, d, fun h0 b o e hf => by
      rcases hf with hf | hf
      · exact n h0 b o e hf
      · have := ri_block' d (by rw [ints_length]; exact h0) e; omega⟩⟩
theorem info_sl2 : (Try.prog.info? 24).map (fun i => (i.zero, i.size, i.bytes)) = some (some (.slice none 0 0), 1, 24) := by kernel_rfl
abbrev SrchL := Srch (List (List (List Int)))
/-- the variable at X, the designs in the row v -/
structure RFV (X : Nat) (m : Mk) (A : Option Addr) (c : Nat) (t : List (List Int)) (lim most : Nat) (st : SrchL) (w : World) (F : Nat → Prop) (v : Value) (us : List Value) : Prop where
  len : us.length = st.vis.length
  own : OV w (X + 1) 24 v us
  rows : ∀ j (hj : j < st.vis.length), ∃ A' c', us[j]? = some (.slice A' st.vis[j].length c') ∧ st.vis[j].length ≤ c' ∧ RIIn F w A' st.vis[j]
  xl : X < w.heap.size
  box : BoxC w X 0 [.int .i64 m.c, .int .i64 m.d, .int .i64 m.s, .int .i64 m.a, .int .i64 m.l, .slice A t.length c, .int .i64 (lim : Int), .int .i64 (most : Int), .int .i64 (st.tries : Int), .bool st.over, v]
  f8 : w.frozen? ⟨X, 8, none⟩ = false
  f9 : w.frozen? ⟨X, 9, none⟩ = false
  f10 : w.frozen? ⟨X, 10, none⟩ = false
  fx : ∀ x, F x ↔ (x = X ∨ v.ownBlock = some x)
def RF (X : Nat) (m : Mk) (A : Option Addr) (c : Nat) (t : List (List Int)) (lim most : Nat) (st : SrchL) (w : World) (F : Nat → Prop) : Prop := ∃ v us, RFV X m A c t lim most st w F v us
section
variable {X : Nat} {m : Mk} {A : Option Addr} {c : Nat} {t : List (List Int)} {lim most : Nat} {st : SrchL} {w w' : World} {F : Nat → Prop} {v : Value} {us : List Value}
theorem RF.lt (h : RF X m A c t lim most st w F) : ∀ g, F g → g < w.heap.size := by
  obtain ⟨v, us, h⟩ := h
  intro g hg
  rcases (h.fx g).1 hg with e | e
  · subst e; exact h.xl
  · exact (h.own.lt g e).2
theorem RFV.below (h : RFV X m A c t lim most st w F v us) (hb : Below w.heap.size w w') : RFV X m A c t lim most st w' F v us :=
  ⟨h.len, h.own.below' hb, fun j hj => by obtain ⟨A', c', a, b, d⟩ := h.rows j hj; exact ⟨A', c', a, b, d.keepF (KeepF.ofBelow hb)⟩, Nat.lt_of_lt_of_le h.xl hb.size, h.box.below hb, (hb.frozen (p := ⟨X, 8, none⟩) h.xl).trans h.f8, (hb.frozen (p := ⟨X, 9, none⟩) h.xl).trans h.f9, (hb.frozen (p := ⟨X, 10, none⟩) h.xl).trans h.f10, h.fx⟩
/-- a cell of the variable has been written: tries or over -/
theorem RFV.upd (h : RFV X m A c t lim most st w F v us) {k : Nat} {x : Value} {n : Nat} {b : Bool}
    (hb : BoxC (w.setCell ⟨X, k, none⟩ x) X 0 [.int .i64 m.c, .int .i64 m.d, .int .i64 m.s, .int .i64 m.a, .int .i64 m.l, .slice A t.length c, .int .i64 (lim : Int), .int .i64 (most : Int), .int .i64 (n : Int), .bool b, v]) : RFV X m A c t lim most ⟨n, b, st.vis⟩ (w.setCell ⟨X, k, none⟩ x) F v us := by
  have k1 : KeepF (fun g => g = X) w (w.setCell ⟨X, k, none⟩ x) := (KeepF.refl (fun g => g = X) w).setCell (p := ⟨X, k, none⟩) (.inl rfl) _
  have kF : KeepF F w (w.setCell ⟨X, k, none⟩ x) := k1.mono fun g e => (h.fx g).2 (.inl e)
  exact ⟨h.len, h.own.keepF k1 (fun g e e' => by have := (h.own.lt g e).1; omega), fun j hj => by obtain ⟨A', c', a, b, d⟩ := h.rows j hj; exact ⟨A', c', a, b, d.keepF kF⟩, by simp only [World.size_setCell]; exact h.xl, hb, by simp only [World.frozen?_setCell]; exact h.f8, by simp only [World.frozen?_setCell]; exact h.f9, by simp only [World.frozen?_setCell]; exact h.f10, h.fx⟩
/-- one design more -/
theorem RFV.push (h : RFV X m A c t lim most st w F v us) {o : Obj} {w4 : World} {v' : Value} {B : Option Addr} {d : Nat} {cuts : List (List Int)} (hB : RIIn F w B cuts) (hd : cuts.length ≤ d) (ho : OV w4 (X + 1) 24 v' (us ++ [.slice B cuts.length d])) (hg : (w.alloc o).grownBy w4 v.ownBlock) (hat : v'.ownBlock = v.ownBlock ∨ v'.ownBlock = some (w.alloc o).heap.size) :
    ∃ F', RFV X m A c t lim most ⟨st.tries, st.over, st.vis ++ [cuts]⟩ (w4.setCell ⟨X, 10, none⟩ v') F' v' (us ++ [.slice B cuts.length d]) ∧ KeepF F w (w4.setCell ⟨X, 10, none⟩ v') ∧ ∀ g, F' g → F g ∨ w.heap.size ≤ g := by
  have k4 : KeepF (fun g => v.ownBlock = some g) w w4 := ((KeepF.refl _ _).alloc o).grown hg (fun g e => .inl e)
  have nX : ¬ (v.ownBlock = some X) := fun e => by have := (h.own.lt X e).1; omega
  have k5 : KeepF (fun g => g = X) w4 (w4.setCell ⟨X, 10, none⟩ v') := (KeepF.refl (fun g => g = X) w4).setCell (p := ⟨X, 10, none⟩) (.inl rfl) _
  have kF : KeepF F w (w4.setCell ⟨X, 10, none⟩ v') := (k4.mono fun g e => (h.fx g).2 (.inr e)).trans k5 (fun g _ e => (h.fx g).2 (.inl e))
  have b4 : BoxC w4 X 0 [.int .i64 m.c, .int .i64 m.d, .int .i64 m.s, .int .i64 m.a, .int .i64 m.l, .slice A t.length c, .int .i64 (lim : Int), .int .i64 (most : Int), .int .i64 (st.tries : Int), .bool st.over, v] := h.box.keep fun i v hv => (k4.cell (p := ⟨X, i, none⟩) h.xl nX).trans hv
  have hsub : ∀ g, (g = X ∨ v'.ownBlock = some g) → F g ∨ w.heap.size ≤ g := fun g hg => by
    rcases hg with e | e
    · exact .inl ((h.fx g).2 (.inl e))
    · rcases hat with h1 | h1
      · exact .inl ((h.fx g).2 (.inr (h1.symm.trans e)))
      · have h2 := h1.symm.trans e; injection h2 with h2; simp only [World.size_alloc] at h2; right; omega
  have up : ∀ (A' : Option Addr) (xss : List (List Int)), RIIn F w A' xss → RIIn (fun g => g = X ∨ v'.ownBlock = some g) (w4.setCell ⟨X, 10, none⟩ v') A' xss := fun A' xss hr =>
    (hr.up'.keepF (kF.mono fun g hg => .inl hg)).mono hsub
  refine ⟨fun g => g = X ∨ v'.ownBlock = some g, ⟨by simp [h.len], ho.keepF k5 (fun g e e' => by have := (ho.lt g e).1; omega), fun j hj => ?_, by have := kF.size; have := h.xl; omega, boxC_set (x := v') (k := 10) b4 (by simp), ?_, ?_, ?_, fun g => Iff.rfl⟩, kF, hsub⟩
  · by_cases hjl : j < st.vis.length
    · obtain ⟨A', c', a, b, d⟩ := h.rows j hjl
      refine ⟨A', c', by rw [List.getElem?_append_left (by rw [h.len]; exact hjl)]; simp only [List.getElem_append_left hjl]; exact a, by simp only [List.getElem_append_left hjl]; exact b, by simp only [List.getElem_append_left hjl]; exact up _ _ d⟩
    · have hje : j = st.vis.length := by simp at hj; omega
      subst hje
      refine ⟨B, d, by rw [List.getElem?_append_right (by rw [h.len]; omega)]; simp [h.len], by simp; exact hd, by simp; exact up _ _ hB⟩
  all_goals simp only [World.frozen?_setCell]
  · exact (k4.frozen (p := ⟨X, 8, none⟩) h.xl nX).trans h.f8
  · exact (k4.frozen (p := ⟨X, 9, none⟩) h.xl nX).trans h.f9
  · exact (k4.frozen (p := ⟨X, 10, none⟩) h.xl nX).trans h.f10
end
theorem goL_vis {m : Mk} {t : List (List Int)} {lim : Nat} {rec : List (List Int) → SrchL → Bool × SrchL} (hrec : ∀ cuts (b : SrchL), b.vis.length < b.tries → (rec cuts b).2.vis.length ≤ (rec cuts b).2.tries) (cuts : List (List Int)) : ∀ (ks : List (List Int)) (b : SrchL), b.vis.length ≤ b.tries → (goL m t lim rec cuts ks b).2.vis.length ≤ (goL m t lim rec cuts ks b).2.tries
  | [], b, h => h
  | k :: ks, b, h => by
    by_cases h1 : b.tries = lim
    · rw [goL_lim h1]; exact h
    · cases ho : openPart m t (cuts ++ [k]) with
      | true =>
        obtain ⟨x, b', hb⟩ : ∃ x b', rec (cuts ++ [k]) ⟨b.tries + 1, b.over, b.vis⟩ = (x, b') := ⟨_, _, rfl⟩
        have h2 := hrec (cuts ++ [k]) ⟨b.tries + 1, b.over, b.vis⟩ (by show b.vis.length < b.tries + 1; omega)
        rw [hb] at h2
        cases x with
        | true => rw [goL_on h1 ho hb]; exact goL_vis hrec cuts ks b' h2
        | false => rw [goL_end h1 ho hb]; exact h2
      | false => rw [goL_shut h1 ho]; exact goL_vis hrec cuts ks _ (by show b.vis.length ≤ b.tries + 1; omega)
theorem goF_vis {m : Mk} {t : List (List Int)} {lim : Nat} (most : Nat) : ∀ (r : Nat) (cuts : List (List Int)) (b : SrchL), b.vis.length + (if r = 0 then 1 else 0) ≤ b.tries → (goF m t lim (visMost most) r cuts b).2.vis.length ≤ (goF m t lim (visMost most) r cuts b).2.tries
  | 0, cuts, b, h => by
    rw [if_pos rfl] at h
    show (b.vis ++ [cuts]).length ≤ b.tries
    simp; omega
  | r + 1, cuts, b, h => by
    rw [if_neg (by omega)] at h
    exact goL_vis (fun cuts b h => goF_vis most r cuts b (by split <;> omega)) cuts (allK m) b h
/-- behind the reference's search: whether it ends -/
def FromPost (X : Nat) (m : Mk) (A : Option Addr) (c : Nat) (t : List (List Int)) (lim most : Nat) (p : Bool × SrchL) (w : World) (F : Nat → Prop) (e : Ending) (w' : World) : Prop :=
  e = .returned (.bool (!p.1)) ∧ ∃ F', RF X m A c t lim most p.2 w' F' ∧ KeepF F w w' ∧ ∀ g, F' g → F g ∨ w.heap.size ≤ g
/-- what a search with so many rows to come does -/
def FromIH (X : Nat) (m : Mk) (A : Option Addr) (c : Nat) (t : List (List Int)) (lim most : Nat) (fn : FuncId) (r : Nat) : Prop :=
  ∀ (cuts : List (List Int)) (st : SrchL) (w : World) (F : Nat → Prop) (B : Option Addr) (d : Nat), PartOK m t cuts → cuts.length + r = t.length → cuts.length ≤ d → st.tries ≤ lim → st.vis.length + (if r = 0 then 1 else 0) ≤ st.tries → RF X m A c t lim most st w F → RIIn F w A t → RIIn F w B cuts →
    Calls Try.prog fn #[.pointer (some ⟨X, 0, none⟩), .slice B cuts.length d, .slice none 0 0] w (FromPost X m A c t lim most (goF m t lim (visMost most) r cuts st) w F)
set_option maxRecDepth 100000 in
set_option maxHeartbeats 16000000 in
theorem l17From_zero (X : Nat) (m : Mk) (A : Option Addr) (c : Nat) (t : List (List Int)) (lim most : Nat) (hlim : lim ≤ 4000) (hmost : most ≤ 1000000) : FromIH X m A c t lim most 176 0 := by
  intro cuts st w F B d hp hlt hcd htr hvl0 hRF hT hB
  have hvl : st.vis.length ≤ 100000 := by rw [if_pos rfl] at hvl0; omega
  clear hvl0
  obtain ⟨v, us, hV⟩ := hRF
  have t1 : ((cuts.length : Int) == (t.length : Int)) = true := by simp; omega
  have htl := hT.rii.le
  have hcl := hB.rii.le
  have hXl := hV.xl
  obtain ⟨x0, x1, x2, x3, x4, x5, x6, x7, x8, x9, x10, _⟩ := hV.box
  simp only [Nat.zero_add] at x1 x2 x3 x4 x5 x6 x7 x8 x9 x10
  have HV := Lib.hid hV
  have HB := Lib.hid hB
  have f10 := hV.f10
  have hul : us.length ≤ 100000 := by rw [hV.len]; exact hvl
  have HX1 := Lib.hid (show X + 1 ≤ w.heap.size by omega)
  obtain ⟨Av, cv, rfl, hcv, _⟩ := hV.own.reads
  have HH := Lib.hid (And.intro hp (And.intro hlt (And.intro hT hvl)))
  clear hV hB hp hlt hT hvl
  go_enter Try.func176, Try.ntmps176
  go_wp2_with (
    at_builtin
    refine wpList_app1 _ rfl _ _ _ rfl (X + 1) 24 _ 24 Try.underlying99 info_sl2 rfl (by omega) _ us rfl (HV.out.own.alloc _) _ _ rfl (one_cell _ _ _) rfl (by omega) (by have := HX1.out; simp; omega) ?_
    intro v' w4 ho4 hg4 hn4 hat4
    obtain ⟨n, hn⟩ : ∃ n, n = (us ++ [Value.slice B cuts.length d]).length := ⟨_, rfl⟩
    obtain ⟨A4, c4, e4, hc4, _⟩ := ho4.reads
    rw [← hn] at e4 hc4
    subst e4
    have k4 : KeepF (fun g => (Value.slice Av us.length cv).ownBlock = some g) w w4 := ((KeepF.refl _ _).alloc _).grown hg4 (fun g e => .inl e)
    have nX : ¬ ((Value.slice Av us.length cv).ownBlock = some X) := fun e => by have := (HV.out.own.lt X e).1; omega
    have c10 := (k4.cell (p := ⟨X, 10, none⟩) hXl nX).trans x10
    have e10 := (k4.frozen (p := ⟨X, 10, none⟩) hXl nX).trans f10
    have HPU := Lib.hid (HV.out.push HB.out hcd ho4 hg4 hat4)
    have HN := Lib.hid (show n = st.vis.length + 1 by rw [hn]; simp [HV.out.len])
    have hX4 : X < w4.heap.size := by have := k4.size; omega
    have z7 := (World.cell?_setCell_other (w := w4) (a := ⟨X, 10, none⟩) (b := ⟨X, 7, none⟩) (v := .slice A4 n c4) (by simp)).trans ((k4.cell (p := ⟨X, 7, none⟩) hXl nX).trans x7)
    have z10 : (w4.setCell ⟨X, 10, none⟩ (.slice A4 n c4)).cell? ⟨X, 10, none⟩ = some (.slice A4 n c4) := World.cell?_setCell_same _ _ _ c10
    have hnl : n ≤ 1000000 := by rw [HN.out]; have := HV.out.len; omega
    clear ho4 hg4 hn4 hat4 hn k4 nX)
  generalize hw5 : w4.setCell ⟨X, 10, none⟩ (.slice A4 n c4) = w5 at *
  clear hw5
  have hX5 : X < w5.heap.size := by
    obtain ⟨F', h1, _⟩ := HPU.out; exact h1.xl
  cases hge : decide (most ≤ n) with
  | true =>
    have HR := Lib.hid (show (true : Bool) = !(visMost most st.vis cuts).1 by
      have := HN.out; simp only [decide_eq_true_eq] at hge
      unfold visMost; simp; omega)
    go_quiet (fail)
    go_wp2_with fail
    go_ret
    obtain ⟨F', h1, h2, h3⟩ := HPU.out
    exact ⟨retB HR.out, F', ⟨_, _, h1.below (belowD (Below.refl _ _) _)⟩, h2.trans (KeepF.ofBelow (F := F) (belowD (Below.refl _ _) _)) (fun _ _ e => e), h3⟩
  | false =>
    have HR := Lib.hid (show (false : Bool) = !(visMost most st.vis cuts).1 by
      have := HN.out; simp only [decide_eq_false_iff_not] at hge
      unfold visMost; simp; omega)
    go_quiet (fail)
    go_wp2_with fail
    go_ret
    obtain ⟨F', h1, h2, h3⟩ := HPU.out
    exact ⟨retB HR.out, F', ⟨_, _, h1.below (belowD (Below.refl _ _) _)⟩, h2.trans (KeepF.ofBelow (F := F) (belowD (Below.refl _ _) _)) (fun _ _ e => e), h3⟩
set_option maxRecDepth 100000 in
set_option maxHeartbeats 16000000 in
theorem l17From_succ (X : Nat) (m : Mk) (A : Option Addr) (c : Nat) (t : List (List Int)) (lim most : Nat) (hlim : lim ≤ 4000) (hmost : most ≤ 1000000) (r : Nat) (hmk : isMaker m = true) (IH : FromIH X m A c t lim most 176 r) : FromIH X m A c t lim most 176 (r + 1) := by
  intro cuts st w F B d hp hlt hcd htr hvl hRF hT hB
  obtain ⟨bg, stg, hbg⟩ : ∃ bg stg, goF m t lim (visMost most) (r + 1) cuts st = (bg, stg) := ⟨_, _, rfl⟩
  have t1 : ((cuts.length : Int) == (t.length : Int)) = false := by simp; omega
  have htl := hT.rii.le
  have hcl := hB.rii.le
  have HMK := Lib.hid hmk
  have hmb := mk_bounds hmk
  have hc2 := hmb.1; have hc6 := hmb.2.1
  have HRF := Lib.hid hRF
  have HP := Lib.hid hp; have HLT := Lib.hid hlt; have HT := Lib.hid hT; have HB := Lib.hid hB
  have HIH := Lib.hid IH
  have HBG := Lib.hid hbg
  have HTV := Lib.hid (show st.tries ≤ lim ∧ st.vis.length ≤ st.tries by rw [if_neg (by omega)] at hvl; omega)
  have hc10 : cuts.length ≤ 1000000 := by have := hp.le; have := hp.t10; omega
  obtain ⟨v, us, hV⟩ := hRF
  have hXl := hV.xl
  obtain ⟨x0, x1, x2, x3, x4, x5, x6, x7, x8, x9, x10, _⟩ := hV.box
  simp only [Nat.zero_add] at x1 x2 x3 x4 x5 x6 x7 x8 x9 x10
  have HFIR := Lib.hid (fun W => l02First_any m HMK.out m.c.toNat [] none 0 W RI.nil (Nat.le_refl _) (by simp; omega) rfl)
  have HALLK := Lib.hid (show firstK m m.c.toNat [] = (allK m).head? by unfold firstK; rw [if_pos (begins_nil m)]; rfl)
  clear hmb hmk hp hlt hT hB IH hbg htr hvl hV
  unfold FromPost
  rw [HBG.out]
  go_enter Try.func176, Try.ntmps176
  go_wp2_with fail
  refine (HFIR.out _).mono ?_
  rintro e w2 ⟨A2, c2, xs2, b2, rfl, hc2', hr2, hso, hno, hbk, bb⟩
  have HSO := Lib.hid hso; have HNO := Lib.hid hno
  have HR2 := Lib.hid hr2
  have HBB := Lib.hid bb
  have HK2 := Lib.hid (show ∀ b o, A2 = some ⟨b, o, none⟩ → w.heap.size ≤ b from fun b o e => by
    rcases hbk b o e with h | ⟨o', h⟩
    · exact h
    · cases h)
  clear hso hno hr2 hbk bb x0 x1 x2 x3 x4 x5 x6 x7 x8 x9 x10
  go_wp2_with fail
  go_loopg [7, 8, 9] (allK m).length (fun gk kv ok nx wr => ∃ (done rest : List (List Int)) (st1 : SrchL) (F1 : Nat → Prop) (Ak : Option Addr) (ck : Nat) (xs : List Int) (b : Bool),
    kv = .slice Ak xs.length ck ∧ ok = .bool b ∧ Hid (allK m = done ++ rest) ∧ rest.length ≤ gk ∧ Hid (b = true → ∃ tl, rest = xs :: tl) ∧ Hid (b = false → rest = []) ∧ xs.length ≤ ck ∧ Hid (RI wr Ak xs) ∧ Hid (NF F1 Ak xs.length) ∧ Hid (RF X m A c t lim most st1 wr F1) ∧ st1.tries ≤ lim ∧ st1.vis.length ≤ st1.tries ∧
    Hid (goL m t lim (goF m t lim (visMost most) r) cuts rest st1 = (bg, stg)) ∧ KeepF F w wr ∧ (∀ g, F1 g → F g ∨ w.heap.size ≤ g))
  case atStart =>
    refine ⟨[], allK m, st, F, A2, c2, xs2, b2, rfl, rfl, Lib.hid rfl, Nat.le_refl _, Lib.hid (fun hb => ?_), Lib.hid (fun hb => ?_), hc2', HR2, Lib.hid (fun h0 b o e hf => ?_), Lib.hid (by obtain ⟨v, us, hv⟩ := HRF.out; exact ⟨v, us, hv.below HBB.out⟩), HTV.out.1, HTV.out.2, Lib.hid HBG.out, KeepF.ofBelow HBB.out, fun g hg => .inl hg⟩
    · cases hh : firstK m m.c.toNat [] with
      | none => rw [HNO.out hh] at hb; cases hb
      | some x =>
        have h2 := (HSO.out x hh).2
        subst h2
        rw [HALLK.out] at hh
        cases htl : allK m with
        | nil => rw [htl] at hh; cases hh
        | cons y ys => rw [htl] at hh; injection hh with hh; subst hh; exact ⟨ys, rfl⟩
    · cases hh : firstK m m.c.toNat [] with
      | none => rw [HALLK.out] at hh; exact List.head?_eq_none_iff.1 hh
      | some x => have := (HSO.out x hh).1; rw [hb] at this; cases this
    · have h1 := HK2.out b o e
      have h2 := RF.lt HRF.out b hf
      omega
  case round =>
    obtain ⟨done, rest, st1, F1, Ak, ck, xs, b, rfl, rfl, HALL, hgk, HTL, HFL, hck, HRX, HNF, HR1, htr, hvl, HGO, hK, hsub⟩ := hrel
    cases b with
    | false =>
      have HE := Lib.hid (show (true, st1) = (bg, stg) by
        have := HGO.out; rw [HFL.out rfl, goL] at this; exact this)
      go_wp2_with fail
      go_ret
      have hE := HE.out
      injection hE with h1 h2
      subst h1 h2
      exact ⟨rfl, F1, HR1.out, hK, hsub⟩
    | true =>
      obtain ⟨tl, hres⟩ := (by first | exact HTL.out rfl | exact HTL.out trivial : ∃ tl, rest = xs :: tl)
      have hres := Lib.hid hres
      have HKEY := Lib.hid (show isKey m xs = true from (allK_is HMK.out).1 (by rw [HALL.out, hres.out]; simp))
      obtain ⟨v1, us1, hV1⟩ := HR1.out
      have HV1 := Lib.hid hV1
      have hXr := hV1.xl
      obtain ⟨x0, x1, x2, x3, x4, x5, x6, x7, x8, x9, x10, _⟩ := hV1.box
      simp only [Nat.zero_add] at x1 x2 x3 x4 x5 x6 x7 x8 x9 x10
      have g8 := hV1.f8; have g9 := hV1.f9
      clear hV1
      by_cases hlm : st1.tries = lim
      · have hlm' : ((st1.tries : Int) == (lim : Int)) = true := by rw [hlm]; simp
        have HE := Lib.hid (show (false, (⟨st1.tries, true, st1.vis⟩ : SrchL)) = (bg, stg) by
          have := HGO.out; rw [hres.out, goL_lim hlm] at this; exact this)
        have HLM := Lib.hid hlm; clear hlm
        go_wp2_with fail
        go_quiet (fail)
        generalize hwq : wr.drewN _ = wq
        have KQ := Lib.hid (show Below wr.heap.size wr wq by rw [← hwq]; exact belowD (Below.refl _ _) _)
        have HVQ := Lib.hid (HV1.out.below KQ.out)
        have y9 : wq.cell? ⟨X, 9, none⟩ = some (.bool st1.over) := by rw [← hwq]; exact x9
        have e9 : wq.frozen? ⟨X, 9, none⟩ = false := by rw [← hwq]; exact g9
        have hXq : X < wq.heap.size := HVQ.out.xl
        clear hwq
        go_wp2_with fail
        go_ret
        have hE := HE.out
        injection hE with h1 h2
        subst h1 h2
        have k9 : KeepF F1 wq (wq.setCell ⟨X, 9, none⟩ (.bool true)) := (KeepF.refl F1 wq).setCell (p := ⟨X, 9, none⟩) (.inl ((HVQ.out.fx X).2 (.inl rfl))) _
        exact ⟨rfl, F1, ⟨_, _, HVQ.out.upd (k := 9) (boxC_set (x := .bool true) (k := 9) HVQ.out.box (by simp))⟩, (hK.trans (KeepF.ofBelow (F := F) KQ.out) (fun _ _ e => e)).trans k9 (fun g hg e => by rcases hsub g e with h | h; exact h; omega), hsub⟩
      · have hlm' : ((st1.tries : Int) == (lim : Int)) = false := by simp; omega
        have hwr : wrap64 ((st1.tries : Int) + 1) = (st1.tries : Int) + 1 := (wrap_next (n := st1.tries) (by omega)).trans (Int.natCast_succ _)
        have HCAST := Lib.hid (show ((st1.tries + 1 : Nat) : Int) = (st1.tries : Int) + 1 by omega)
        have HLM := Lib.hid hlm; clear hlm
        have HTRV := Lib.hid (And.intro htr hvl)
        have HKW := Lib.hid (And.intro hK hsub)
        have HBR := Lib.hid (show RIIn F1 wr B cuts from ((HB.out.up').keepF (hK.mono fun g hg => .inl hg)).mono hsub)
        have HTR0 := Lib.hid (show RIIn F1 wr A t from ((HT.out.up').keepF (hK.mono fun g hg => .inl hg)).mono hsub)
        clear hK hsub htr hvl
        go_wp2_with fail
        go_quiet (fail)
        generalize hwq : wr.drewN _ = wq
        have KQ := Lib.hid (show Below wr.heap.size wr wq by rw [← hwq]; exact belowD (Below.refl _ _) _)
        have HVQ := Lib.hid (HV1.out.below KQ.out)
        have y8 : wq.cell? ⟨X, 8, none⟩ = some (.int .i64 (st1.tries : Int)) := by rw [← hwq]; exact x8
        have e8 : wq.frozen? ⟨X, 8, none⟩ = false := by rw [← hwq]; exact g8
        have hXq : X < wq.heap.size := HVQ.out.xl
        obtain ⟨w1, hw1⟩ : ∃ w1, w1 = wq.setCell ⟨X, 8, none⟩ (.int .i64 ((st1.tries : Int) + 1)) := ⟨_, rfl⟩
        have HV2 := Lib.hid (show RFV X m A c t lim most ⟨st1.tries + 1, st1.over, st1.vis⟩ w1 F1 v1 us1 by
          have b1 := boxC_set (x := .int .i64 ((st1.tries : Int) + 1)) (k := 8) HVQ.out.box (by simp)
          rw [hw1]
          exact HVQ.out.upd (k := 8) (by rw [HCAST.out]; exact b1))
        have K1 := Lib.hid (show KeepF F1 wr w1 by rw [hw1]; exact (KeepF.ofBelow (F := F1) KQ.out).setCell (p := ⟨X, 8, none⟩) (.inl ((HVQ.out.fx X).2 (.inl rfl))) _)
        have HRX1 := Lib.hid (RI.keepN HRX.out K1.out HNF.out)
        have HLT1 := Lib.hid (show ∀ g, F1 g → g < w1.heap.size from RF.lt ⟨_, _, HV2.out⟩)
        have HWI := l16With_any F1 B d cuts Ak ck xs w1 (HBR.out.keepF K1.out) hc10 HRX1.out hck HNF.out HLT1.out
        obtain ⟨zs, hzs⟩ : ∃ zs, zs = cuts ++ [xs] := ⟨_, rfl⟩
        rw [← hzs] at HWI
        have HWW := Lib.hid HWI
        have HZS := Lib.hid hzs
        clear hwq hzs HWI x0 x1 x2 x3 x4 x5 x6 x7 x8 x9 x10 g8 g9
        go_wp2_with fail
        rw [← hw1]
        clear hw1 y8 e8
        refine HWW.out.mono ?_
        rintro e w3 ⟨A3, c3, rfl, hc3, hr3, bb3⟩
        have HV3 := Lib.hid (HV2.out.below bb3)
        have K3 := Lib.hid (K1.out.trans (KeepF.ofBelow (F := F1) bb3) (fun _ _ e => e))
        have HR3 := Lib.hid hr3
        have hX3 := HV3.out.xl
        obtain ⟨x0, x1, x2, x3, x4, x5, x6, x7, x8, x9, x10, _⟩ := HV3.out.box
        simp only [Nat.zero_add] at x1 x2 x3 x4 x5 x6 x7 x8 x9 x10
        have HPZ := Lib.hid (show PartOK m t zs by rw [HZS.out]; exact HP.out.snoc (by have := HLT.out; omega) HKEY.out)
        have HOPN := l16Open_any m A c t A3 c3 zs w3 ((HTR0.out.keepF K3.out).rii) HR3.out.rii HPZ.out
        have HRX3 := Lib.hid (RI.keepN HRX.out K3.out HNF.out)
        clear hr3 bb3
        cases hop : openPart m t zs with
        | false =>
          rw [hop] at HOPN
          have HOO := Lib.hid HOPN; clear HOPN
          have HREST := Lib.hid (show goL m t lim (goF m t lim (visMost most) r) cuts tl ⟨st1.tries + 1, st1.over, st1.vis⟩ = (bg, stg) by
            have := HGO.out; rw [hres.out, goL_shut HLM.out (by rw [← HZS.out]; exact hop)] at this; exact this)
          have HTR2 : (⟨st1.tries + 1, st1.over, st1.vis⟩ : SrchL).tries ≤ lim := by have := HTRV.out; have := HLM.out; show st1.tries + 1 ≤ lim; omega
          have HVL2 : (⟨st1.tries + 1, st1.over, st1.vis⟩ : SrchL).vis.length ≤ (⟨st1.tries + 1, st1.over, st1.vis⟩ : SrchL).tries := by have := HTRV.out; show st1.vis.length ≤ st1.tries + 1; omega
          have HTR2 := Lib.hid HTR2; have HVL2 := Lib.hid HVL2
          clear hop
          go_wp2_with fail
          refine HOO.out.mono ?_
          rintro e w4 ⟨rfl, bb4⟩
          have HV4 := Lib.hid (HV3.out.below bb4)
          have K4 := Lib.hid (K3.out.trans (KeepF.ofBelow (F := F1) bb4) (fun _ _ e => e))
          have HRX4 := Lib.hid (RI.keepN HRX.out K4.out HNF.out)
          have HKF := Lib.hid (show KeepF F w w4 from HKW.out.1.trans K4.out (fun g hg e => by rcases HKW.out.2 g e with h | h; exact h; omega))
          clear bb4 x0 x1 x2 x3 x4 x5 x6 x7 x8 x9 x10
          have hxl7 := HV4.out.xl
          obtain ⟨x0, x1, x2, x3, x4, x5, x6, x7, x8, x9, x10, _⟩ := HV4.out.box
          simp only [Nat.zero_add] at x1 x2 x3 x4 x5 x6 x7 x8 x9 x10
          go_wp2_with fail
          refine (l02Next_any m HMK.out xs Ak ck w4 HRX4.out hck HKEY.out).mono ?_
          rintro e w7 ⟨A7, c7, xs7, b7, rfl, hc7, hr7, hso7, hno7, hbk7, bb7⟩
          have HSO := Lib.hid hso7; have HNO := Lib.hid hno7
          have HR7 := Lib.hid hr7
          have hs7 := bb7.size
          have HNX := Lib.hid (show (behindK m [] xs) = tl from allK_behind (HALL.out.trans (by rw [hres.out])))
          have Hb7 := Lib.hid bb7
          have HK7 := Lib.hid (show ∀ b o, A7 = some ⟨b, o, none⟩ → w4.heap.size ≤ b from fun b o e => by
            rcases hbk7 b o e with h | ⟨o', h⟩
            · exact h
            · cases h)
          clear hso7 hno7 hbk7 bb7 x0 x1 x2 x3 x4 x5 x6 x7 x8 x9 x10 hr7
          go_wp2_with fail
          go_roundg tl.length
          case measure => rw [hres.out, List.length_cons] at hgk; omega
          case rel =>
            refine ⟨done ++ [xs], tl, (⟨st1.tries + 1, st1.over, st1.vis⟩ : SrchL), F1, A7, c7, xs7, b7, rfl, rfl, Lib.hid (by rw [HALL.out, hres.out]; simp), Nat.le_refl _, Lib.hid (fun hb => ?_), Lib.hid (fun hb => ?_), hc7, HR7, Lib.hid (fun h0 b o e hf => ?_), Lib.hid (by obtain ⟨v, us, hv⟩ := (⟨_, _, HV4.out⟩ : RF X m A c t lim most (⟨st1.tries + 1, st1.over, st1.vis⟩ : SrchL) w4 F1); exact ⟨v, us, hv.below Hb7.out⟩), ?_, ?_, HREST, (HKF.out).trans (KeepF.ofBelow (F := F) Hb7.out) (fun _ _ e => e), HKW.out.2⟩
            · cases hh : (behindK m [] xs).head? with
              | none => rw [HNO.out hh] at hb; cases hb
              | some x =>
                have h2 := (HSO.out x hh).2
                subst h2
                rw [HNX.out] at hh
                cases htl : tl with
                | nil => rw [htl] at hh; cases hh
                | cons y ys => rw [htl] at hh; injection hh with hh; subst hh; exact ⟨ys, rfl⟩
            · cases hh : (behindK m [] xs).head? with
              | none => rw [HNX.out] at hh; exact List.head?_eq_none_iff.1 hh
              | some x => have := (HSO.out x hh).1; rw [hb] at this; cases this
            · have h1 := HK7.out b o e
              have h2 := RF.lt (⟨_, _, HV4.out⟩ : RF X m A c t lim most (⟨st1.tries + 1, st1.over, st1.vis⟩ : SrchL) w4 F1) b hf
              omega
            · exact HTR2.out
            · exact HVL2.out
        | true =>
          rw [hop] at HOPN
          have HOO := Lib.hid HOPN; clear HOPN
          have HOP := Lib.hid hop; clear hop
          obtain ⟨b7, st7, hb7⟩ : ∃ b7 st7, goF m t lim (visMost most) r zs ⟨st1.tries + 1, st1.over, st1.vis⟩ = (b7, st7) := ⟨_, _, rfl⟩
          have HB7 := Lib.hid hb7; clear hb7
          have HST7 := Lib.hid (show st7.tries ≤ lim ∧ st7.vis.length ≤ st7.tries by
            have h1 := goF_tries (m := m) (t := t) (lim := lim) (visMost most) r zs ⟨st1.tries + 1, st1.over, st1.vis⟩ (by have := HTRV.out; have := HLM.out; show st1.tries + 1 ≤ lim; omega)
            have h2 := goF_vis (m := m) (t := t) (lim := lim) most r zs ⟨st1.tries + 1, st1.over, st1.vis⟩ (by have := HTRV.out; show st1.vis.length + _ ≤ st1.tries + 1; split <;> omega)
            rw [HB7.out] at h1 h2
            exact ⟨h1, h2⟩)
          go_wp2_with fail
          refine HOO.out.mono ?_
          rintro e w4 ⟨rfl, bb4⟩
          have HV4 := Lib.hid (HV3.out.below bb4)
          have K4 := Lib.hid (K3.out.trans (KeepF.ofBelow (F := F1) bb4) (fun _ _ e => e))
          have HI := HIH.out zs ⟨st1.tries + 1, st1.over, st1.vis⟩ w4 F1 A3 c3 HPZ.out (by rw [HZS.out, List.length_append, List.length_cons, List.length_nil]; have := HLT.out; omega) hc3 (by have := HTRV.out; have := HLM.out; show st1.tries + 1 ≤ lim; omega) (by have := HTRV.out; show st1.vis.length + _ ≤ st1.tries + 1; split <;> omega) ⟨_, _, HV4.out⟩ (HTR0.out.keepF K4.out) (HR3.out.keepF (KeepF.ofBelow bb4))
          rw [HB7.out] at HI
          have HII := Lib.hid HI
          clear HI bb4 x0 x1 x2 x3 x4 x5 x6 x7 x8 x9 x10
          go_wp2_with fail
          refine HII.out.mono ?_
          rintro e w5 ⟨rfl, F5, hR5, k5, s5⟩
          have K5 := Lib.hid (show KeepF F w w5 from (HKW.out.1.trans K4.out (fun g hg e => by rcases HKW.out.2 g e with h | h; exact h; omega)).trans k5 (fun g hg e => by rcases HKW.out.2 g e with h | h; exact h; omega))
          have HS5 := Lib.hid (show ∀ g, F5 g → F g ∨ w.heap.size ≤ g from fun g hg => by
            rcases s5 g hg with h | h
            · exact HKW.out.2 g h
            · right
              have h1 := HKW.out.1.size; have h2 := K4.out.size; omega)
          have HRX5 := Lib.hid (RI.keepN (RI.keepN HRX.out K4.out HNF.out) k5 HNF.out)
          have HR5 := Lib.hid hR5
          clear hR5 k5 s5
          cases b7 with
          | false =>
            have HE := Lib.hid (show (false, st7) = (bg, stg) by
              have := HGO.out; rw [hres.out, goL_end HLM.out (by rw [← HZS.out]; exact HOP.out) (by rw [← HZS.out]; exact HB7.out)] at this; exact this)
            simp only [Bool.not_false]
            go_wp2_with fail
            go_ret
            have hE := HE.out
            injection hE with h1 h2
            subst h1 h2
            exact ⟨rfl, F5, HR5.out, K5.out, HS5.out⟩
          | true =>
            have HREST := Lib.hid (show goL m t lim (goF m t lim (visMost most) r) cuts tl st7 = (bg, stg) by
              have := HGO.out; rw [hres.out, goL_on HLM.out (by rw [← HZS.out]; exact HOP.out) (by rw [← HZS.out]; exact HB7.out)] at this; exact this)
            have HTR2 := Lib.hid HST7.out.1; have HVL2 := Lib.hid HST7.out.2
            obtain ⟨v5, us5, hV5⟩ := HR5.out
            have HV5 := Lib.hid hV5
            clear hV5
            simp only [Bool.not_true]
            have hxl7 := HV5.out.xl
            obtain ⟨x0, x1, x2, x3, x4, x5, x6, x7, x8, x9, x10, _⟩ := HV5.out.box
            simp only [Nat.zero_add] at x1 x2 x3 x4 x5 x6 x7 x8 x9 x10
            go_wp2_with fail
            refine (l02Next_any m HMK.out xs Ak ck w5 HRX5.out hck HKEY.out).mono ?_
            rintro e w7 ⟨A7, c7, xs7, b7, rfl, hc7, hr7, hso7, hno7, hbk7, bb7⟩
            have HSO := Lib.hid hso7; have HNO := Lib.hid hno7
            have HR7 := Lib.hid hr7
            have hs7 := bb7.size
            have HNX := Lib.hid (show (behindK m [] xs) = tl from allK_behind (HALL.out.trans (by rw [hres.out])))
            have Hb7 := Lib.hid bb7
            have HK7 := Lib.hid (show ∀ b o, A7 = some ⟨b, o, none⟩ → w5.heap.size ≤ b from fun b o e => by
              rcases hbk7 b o e with h | ⟨o', h⟩
              · exact h
              · cases h)
            clear hso7 hno7 hbk7 bb7 x0 x1 x2 x3 x4 x5 x6 x7 x8 x9 x10 hr7
            go_wp2_with fail
            go_roundg tl.length
            case measure => rw [hres.out, List.length_cons] at hgk; omega
            case rel =>
              refine ⟨done ++ [xs], tl, st7, F5, A7, c7, xs7, b7, rfl, rfl, Lib.hid (by rw [HALL.out, hres.out]; simp), Nat.le_refl _, Lib.hid (fun hb => ?_), Lib.hid (fun hb => ?_), hc7, HR7, Lib.hid (fun h0 b o e hf => ?_), Lib.hid (by obtain ⟨v, us, hv⟩ := (⟨_, _, HV5.out⟩ : RF X m A c t lim most st7 w5 F5); exact ⟨v, us, hv.below Hb7.out⟩), ?_, ?_, HREST, (K5.out).trans (KeepF.ofBelow (F := F) Hb7.out) (fun _ _ e => e), HS5.out⟩
              · cases hh : (behindK m [] xs).head? with
                | none => rw [HNO.out hh] at hb; cases hb
                | some x =>
                  have h2 := (HSO.out x hh).2
                  subst h2
                  rw [HNX.out] at hh
                  cases htl : tl with
                  | nil => rw [htl] at hh; cases hh
                  | cons y ys => rw [htl] at hh; injection hh with hh; subst hh; exact ⟨ys, rfl⟩
              · cases hh : (behindK m [] xs).head? with
                | none => rw [HNX.out] at hh; exact List.head?_eq_none_iff.1 hh
                | some x => have := (HSO.out x hh).1; rw [hb] at this; cases this
              · have h1 := HK7.out b o e
                have h2 := RF.lt (⟨_, _, HV5.out⟩ : RF X m A c t lim most st7 w5 F5) b hf
                omega
              · exact HTR2.out
              · exact HVL2.out
end Go.Proofs.Ytapocenhmdcfoaa
