/- Results in several cells; a row of a nest that is written; the rest of a nest. -/
import Derived.Test.YtdedajohkdbdkaaGreatDoorDrKey
namespace Go.Proofs.YtdedajohkdbdkaaGreatDoor
set_option linter.unusedVariables false
open Go.RowKit
theorem results_cells2 {fn : Func} {p p' : Tmp} {ty ty' : TypeId} (h : fn.results = #[.cell p ty, .cell p' ty']) (tmps : Array Value) (P : Program) (w : World) :
    (results fn tmps).run P w =
      ((asAddr (tmps.getD p undef)).run P w).andThen fun a w₁ => ((loadVar ty a).run P w₁).andThen fun y w₂ => ((asAddr (tmps.getD p' undef)).run P w₂).andThen fun a' w₃ => ((loadVar ty' a').run P w₃).andThen fun y' w₄ => .ok (.tuple #[y, y']) w₄ := by
  simp only [results, h]
  simp [Sem.run_bind, Result.andThen]
theorem results_two {P : Program} {fn : Func} {p p' : Tmp} {ty ty' : TypeId} (h : fn.results = #[.cell p ty, .cell p' ty']) (tmps : Array Value) (w : World)
    (g : Nat) (t : TypeId) (cs : Array Value) (fr : Nat × Nat) (d : TypeDesc) (hp : tmps.getD p undef = .pointer (some ⟨g, 0, none⟩)) (hg : w.heap[g]? = some (.cells cs t fr))
    (hu : P.underlying ty = some d) (hd : (match d with | .struct _ | .array _ _ => true | _ => false) = true) (hi : (P.info? ty).map (·.size) = some cs.size)
    (g' : Nat) (t' : TypeId) (cs' : Array Value) (fr' : Nat × Nat) (d' : TypeDesc) (hp' : tmps.getD p' undef = .pointer (some ⟨g', 0, none⟩)) (hg' : w.heap[g']? = some (.cells cs' t' fr'))
    (hu' : P.underlying ty' = some d') (hd' : (match d' with | .struct _ | .array _ _ => true | _ => false) = true) (hi' : (P.info? ty').map (·.size) = some cs'.size) :
    (results fn tmps).run P w = .ok (.tuple #[.agg cs, .agg cs']) w := by
  rw [results_cells2 h, hp, hp']
  simp [asAddr, Result.andThen, run_loadVar_row w g t ty cs fr d hg hu hd hi, run_loadVar_row w g' t' ty' cs' fr' d' hg' hu' hd' hi']
theorem results_cells21 {fn : Func} {p p' u : Tmp} {ty ty' : TypeId} (h : fn.results = #[.cell p ty, .cell p' ty', .tmp u]) (tmps : Array Value) (P : Program) (w : World) :
    (results fn tmps).run P w =
      ((asAddr (tmps.getD p undef)).run P w).andThen fun a w₁ => ((loadVar ty a).run P w₁).andThen fun y w₂ => ((asAddr (tmps.getD p' undef)).run P w₂).andThen fun a' w₃ => ((loadVar ty' a').run P w₃).andThen fun y' w₄ => .ok (.tuple #[y, y', tmps.getD u undef]) w₄ := by
  simp only [results, h]
  simp [Sem.run_bind, Result.andThen]
theorem results_two1 {P : Program} {fn : Func} {p p' u : Tmp} {ty ty' : TypeId} (h : fn.results = #[.cell p ty, .cell p' ty', .tmp u]) (tmps : Array Value) (w : World)
    (g : Nat) (t : TypeId) (cs : Array Value) (fr : Nat × Nat) (d : TypeDesc) (hp : tmps.getD p undef = .pointer (some ⟨g, 0, none⟩)) (hg : w.heap[g]? = some (.cells cs t fr))
    (hu : P.underlying ty = some d) (hd : (match d with | .struct _ | .array _ _ => true | _ => false) = true) (hi : (P.info? ty).map (·.size) = some cs.size)
    (g' : Nat) (t' : TypeId) (cs' : Array Value) (fr' : Nat × Nat) (d' : TypeDesc) (hp' : tmps.getD p' undef = .pointer (some ⟨g', 0, none⟩)) (hg' : w.heap[g']? = some (.cells cs' t' fr'))
    (hu' : P.underlying ty' = some d') (hd' : (match d' with | .struct _ | .array _ _ => true | _ => false) = true) (hi' : (P.info? ty').map (·.size) = some cs'.size) :
    (results fn tmps).run P w = .ok (.tuple #[.agg cs, .agg cs', tmps.getD u undef]) w := by
  rw [results_cells21 h, hp, hp']
  simp [asAddr, Result.andThen, run_loadVar_row w g t ty cs fr d hg hu hd hi, run_loadVar_row w g' t' ty' cs' fr' d' hg' hu' hd' hi']
theorem results_cells22 {fn : Func} {p p' u v : Tmp} {ty ty' : TypeId} (h : fn.results = #[.cell p ty, .cell p' ty', .tmp u, .tmp v]) (tmps : Array Value) (P : Program) (w : World) :
    (results fn tmps).run P w =
      ((asAddr (tmps.getD p undef)).run P w).andThen fun a w₁ => ((loadVar ty a).run P w₁).andThen fun y w₂ => ((asAddr (tmps.getD p' undef)).run P w₂).andThen fun a' w₃ => ((loadVar ty' a').run P w₃).andThen fun y' w₄ => .ok (.tuple #[y, y', tmps.getD u undef, tmps.getD v undef]) w₄ := by
  simp only [results, h]
  simp [Sem.run_bind, Result.andThen]
theorem results_two2 {P : Program} {fn : Func} {p p' u v : Tmp} {ty ty' : TypeId} (h : fn.results = #[.cell p ty, .cell p' ty', .tmp u, .tmp v]) (tmps : Array Value) (w : World)
    (g : Nat) (t : TypeId) (cs : Array Value) (fr : Nat × Nat) (d : TypeDesc) (hp : tmps.getD p undef = .pointer (some ⟨g, 0, none⟩)) (hg : w.heap[g]? = some (.cells cs t fr))
    (hu : P.underlying ty = some d) (hd : (match d with | .struct _ | .array _ _ => true | _ => false) = true) (hi : (P.info? ty).map (·.size) = some cs.size)
    (g' : Nat) (t' : TypeId) (cs' : Array Value) (fr' : Nat × Nat) (d' : TypeDesc) (hp' : tmps.getD p' undef = .pointer (some ⟨g', 0, none⟩)) (hg' : w.heap[g']? = some (.cells cs' t' fr'))
    (hu' : P.underlying ty' = some d') (hd' : (match d' with | .struct _ | .array _ _ => true | _ => false) = true) (hi' : (P.info? ty').map (·.size) = some cs'.size) :
    (results fn tmps).run P w = .ok (.tuple #[.agg cs, .agg cs', tmps.getD u undef, tmps.getD v undef]) w := by
  rw [results_cells22 h, hp, hp']
  simp [asAddr, Result.andThen, run_loadVar_row w g t ty cs fr d hg hu hd hi, run_loadVar_row w g' t' ty' cs' fr' d' hg' hu' hd' hi']
theorem results_o1 {fn : Func} {p u : Tmp} {ty : TypeId} (h : fn.results = #[.cell p ty, .tmp u]) (tmps : Array Value) (P : Program) (w : World) :
    (results fn tmps).run P w =
      ((asAddr (tmps.getD p undef)).run P w).andThen fun a w₁ => ((loadVar ty a).run P w₁).andThen fun y w₂ => .ok (.tuple #[y, tmps.getD u undef]) w₂ := by
  simp only [results, h]
  simp [Sem.run_bind, Result.andThen]
theorem results_one1 {P : Program} {fn : Func} {p u : Tmp} {ty : TypeId} (h : fn.results = #[.cell p ty, .tmp u]) (tmps : Array Value) (w : World) (g : Nat) (t : TypeId) (cs : Array Value) (fr : Nat × Nat) (d : TypeDesc)
    (hp : tmps.getD p undef = .pointer (some ⟨g, 0, none⟩)) (hg : w.heap[g]? = some (.cells cs t fr))
    (hu : P.underlying ty = some d) (hd : (match d with | .struct _ | .array _ _ => true | _ => false) = true) (hi : (P.info? ty).map (·.size) = some cs.size) :
    (results fn tmps).run P w = .ok (.tuple #[.agg cs, tmps.getD u undef]) w := by
  rw [results_o1 h, hp]
  simp [asAddr, Result.andThen, run_loadVar_row w g t ty cs fr d hg hu hd hi]
theorem results_o2 {fn : Func} {p u v : Tmp} {ty : TypeId} (h : fn.results = #[.cell p ty, .tmp u, .tmp v]) (tmps : Array Value) (P : Program) (w : World) :
    (results fn tmps).run P w =
      ((asAddr (tmps.getD p undef)).run P w).andThen fun a w₁ => ((loadVar ty a).run P w₁).andThen fun y w₂ => .ok (.tuple #[y, tmps.getD u undef, tmps.getD v undef]) w₂ := by
  simp only [results, h]
  simp [Sem.run_bind, Result.andThen]
theorem results_one2 {P : Program} {fn : Func} {p u v : Tmp} {ty : TypeId} (h : fn.results = #[.cell p ty, .tmp u, .tmp v]) (tmps : Array Value) (w : World) (g : Nat) (t : TypeId) (cs : Array Value) (fr : Nat × Nat) (d : TypeDesc)
    (hp : tmps.getD p undef = .pointer (some ⟨g, 0, none⟩)) (hg : w.heap[g]? = some (.cells cs t fr))
    (hu : P.underlying ty = some d) (hd : (match d with | .struct _ | .array _ _ => true | _ => false) = true) (hi : (P.info? ty).map (·.size) = some cs.size) :
    (results fn tmps).run P w = .ok (.tuple #[.agg cs, tmps.getD u undef, tmps.getD v undef]) w := by
  rw [results_o2 h, hp]
  simp [asAddr, Result.andThen, run_loadVar_row w g t ty cs fr d hg hu hd hi]
theorem results_o3 {fn : Func} {p u v x : Tmp} {ty : TypeId} (h : fn.results = #[.cell p ty, .tmp u, .tmp v, .tmp x]) (tmps : Array Value) (P : Program) (w : World) :
    (results fn tmps).run P w =
      ((asAddr (tmps.getD p undef)).run P w).andThen fun a w₁ => ((loadVar ty a).run P w₁).andThen fun y w₂ => .ok (.tuple #[y, tmps.getD u undef, tmps.getD v undef, tmps.getD x undef]) w₂ := by
  simp only [results, h]
  simp [Sem.run_bind, Result.andThen]
theorem results_one3 {P : Program} {fn : Func} {p u v x : Tmp} {ty : TypeId} (h : fn.results = #[.cell p ty, .tmp u, .tmp v, .tmp x]) (tmps : Array Value) (w : World) (g : Nat) (t : TypeId) (cs : Array Value) (fr : Nat × Nat) (d : TypeDesc)
    (hp : tmps.getD p undef = .pointer (some ⟨g, 0, none⟩)) (hg : w.heap[g]? = some (.cells cs t fr))
    (hu : P.underlying ty = some d) (hd : (match d with | .struct _ | .array _ _ => true | _ => false) = true) (hi : (P.info? ty).map (·.size) = some cs.size) :
    (results fn tmps).run P w = .ok (.tuple #[.agg cs, tmps.getD u undef, tmps.getD v undef, tmps.getD x undef]) w := by
  rw [results_o3 h, hp]
  simp [asAddr, Result.andThen, run_loadVar_row w g t ty cs fr d hg hu hd hi]
theorem OV.putV {w : World} {B e g c n : Nat} {us : List Value} (h : OV w B e (.slice (some ⟨g, 0, none⟩) n c) us) (hn : n = us.length) (k : Nat) (v : Value) :
    OV (w.setCell ⟨g, k, none⟩ v) B e (.slice (some ⟨g, 0, none⟩) n c) (us.set k v) := by
  subst hn
  unfold OV at h ⊢
  rw [List.length_set]
  exact (h.stored k v).1
section
variable {B : Nat} {w : World} {us : List Value} {xss : List (List Int)}
theorem ri_new {W : World} {K : Option Addr} {ys : List Int} (hr : RI W K ys) {b o : Nat} (h0 : 0 < ys.length) (e : K = some ⟨b, o, none⟩) : b < W.heap.size := ri_block' hr (by rw [ints_length]; exact h0) e
/-- a nest opened: where its rows' headers lie -/
theorem NEST.open_ {v : Value} (h : NEST B w v us xss) (h0 : 0 < xss.length) :
    ∃ g c, v = .slice (some ⟨g, 0, none⟩) xss.length c ∧ xss.length ≤ c ∧ B ≤ g ∧ g < w.heap.size ∧ (∀ k (hk : k < xss.length), ∃ A' c', us[k]? = some (.slice A' xss[k].length c') ∧ w.cell? ⟨g, k, none⟩ = some (.slice A' xss[k].length c') ∧ xss[k].length ≤ c') ∧ ∀ k, w.frozen? ⟨g, k, none⟩ = false := by
  have hl := h.len
  obtain ⟨g, c, rfl, hg1, hg2⟩ := World.ownsRow.form h.own (by omega)
  obtain ⟨A9, c9, e9, hc9, _⟩ := h.own.reads
  injection e9 with _ _ e93
  refine ⟨g, c, by rw [hl], by omega, hg1, hg2, fun k hk => ?_, fun k => ?_⟩
  · obtain ⟨A', c', a, b, _, _⟩ := h.rows k hk
    have hhd := World.ownsRow.cells h.own (g := g) rfl k _ a
    rw [Addr.add_lit] at hhd
    simp only [Nat.zero_add] at hhd
    exact ⟨A', c', a, hhd, b⟩
  · have h5 : World.ownsRow w B 44 1 (.slice (some ⟨g, 0, none⟩) us.length c) us.length us := h.own
    exact h5.frozenAt k
/-- row k of a nest now is another list, of new memory -/
theorem NEST.put {g c n : Nat} (h : NEST B w (.slice (some ⟨g, 0, none⟩) n c) us xss) (hn : n = xss.length) {k : Nat} (hk : k < xss.length) {K : Option Addr} {q : Nat} {ys : List Int} (hq : ys.length ≤ q) (hr : RI w K ys)
    (hnf : NF (fun x => x < B ∨ x = g) K ys.length) : NEST B (w.setCell ⟨g, k, none⟩ (.slice K ys.length q)) (.slice (some ⟨g, 0, none⟩) n c) (us.set k (.slice K ys.length q)) (xss.set k ys) := by
  have hl := h.len
  have kf : KeepF (fun x => x = g) w (w.setCell ⟨g, k, none⟩ (.slice K ys.length q)) := (KeepF.refl (fun x => x = g) w).setCell (p := ⟨g, k, none⟩) (.inl rfl) _
  have hob : (Value.slice (some ⟨g, 0, none⟩) n c).ownBlock = some g := rfl
  refine ⟨by simp [hl], h.own.putV (by omega) k _, fun j hj => ?_⟩
  rw [List.length_set] at hj
  by_cases e : j = k
  · subst e
    refine ⟨K, q, by rw [List.getElem?_set_self (by omega), List.getElem_set_self], by rw [List.getElem_set_self]; exact hq, by rw [List.getElem_set_self]; exact hr.keepN kf (hnf.mono fun x hx => .inr hx), ?_⟩
    rw [List.getElem_set_self]
    exact hnf.mono fun x hx => by rcases hx with hx | hx; exact .inl hx; (rw [hob] at hx; injection hx with hx; exact .inr hx.symm)
  · obtain ⟨A', c', a, b, d, e5⟩ := h.rows j hj
    refine ⟨A', c', by rw [List.getElem?_set_ne (Ne.symm e), List.getElem_set_ne (Ne.symm e)]; exact a, by rw [List.getElem_set_ne (Ne.symm e)]; exact b, ?_, ?_⟩
    · rw [List.getElem_set_ne (Ne.symm e)]
      exact d.keepN kf (e5.mono fun x hx => .inr (by rw [hob, hx]))
    · rw [List.getElem_set_ne (Ne.symm e)]; exact e5
end
theorem NEST.riib' {B : Nat} {w : World} {us : List Value} {xss : List (List Int)} {g n c : Nat} (h : NEST B w (.slice (some ⟨g, 0, none⟩) n c) us xss) : n = xss.length ∧ xss.length ≤ c ∧ RIIb B w (some ⟨g, 0, none⟩) xss := by
  obtain ⟨K, q, e, hq, hr⟩ := h.riib
  injection e with e1 e2 e3
  subst e1 e3
  exact ⟨e2, hq, hr⟩
/-- the rest of a nest behind its first row -/
theorem RIIn.rest {F : Nat → Prop} {w : World} {b o : Nat} {xss : List (List Int)} (h : RIIn F w (some ⟨b, o, none⟩) xss) : RIIn F w (some ⟨b, o + 1, none⟩) (xss.drop 1) := by
  obtain ⟨us, h1, h2, h3, h4⟩ := h
  refine ⟨us.drop 1, by simp [h1], ⟨by have := h2.1; simp; omega, fun hn => ?_⟩, fun h0 b' o' e => ?_, fun j hj => ?_⟩
  · obtain ⟨b', o', e, hc⟩ := h2.2 (by rintro rfl; simp at hn)
    injection e with e; injection e with e1 e2 _
    subst e1 e2
    refine ⟨b, o + 1, rfl, fun j u hu => ?_⟩
    rw [List.getElem?_drop] at hu
    have := hc (1 + j) u hu
    rwa [show o + 1 + j = o + (1 + j) by omega]
  · injection e with e; injection e with e1 _ _
    subst e1
    exact h3 (by simp at h0; omega) b o rfl
  · rw [List.length_drop] at hj
    obtain ⟨A', c, a, b2, d, e⟩ := h4 (1 + j) (by omega)
    refine ⟨A', c, ?_, ?_, ?_, ?_⟩
    · rw [List.getElem?_drop, List.getElem_drop]; exact a
    · rw [List.getElem_drop]; exact b2
    · rw [List.getElem_drop]; exact d
    · rw [List.getElem_drop]; exact e
/-- two rows of one number each, built -/
theorem two_ones (B : Nat) (w : World) (x y : Int) (hB : B ≤ w.heap.size) :
    RIIb B (((w.alloc (.cells #[.int .i64 x] 2)).alloc (.cells #[.int .i64 y] 2)).alloc (.cells #[.slice (some ⟨w.heap.size, 0, none⟩) 1 1, .slice (some ⟨w.heap.size + 1, 0, none⟩) 1 1] 44)) (some ⟨w.heap.size + 2, 0, none⟩) [[x], [y]] := by
  have h1 := OV.new (w := w) (B := B) (e := 2) #[.int .i64 x] hB (by simp [maxLen])
  have h2 := OV.new (w := w.alloc (.cells #[.int .i64 x] 2)) (B := B) (e := 2) #[.int .i64 y] (by simp; omega) (by simp [maxLen])
  have h3 := OV.new (w := (w.alloc (.cells #[.int .i64 x] 2)).alloc (.cells #[.int .i64 y] 2)) (B := B) (e := 44) #[.slice (some ⟨w.heap.size, 0, none⟩) 1 1, .slice (some ⟨w.heap.size + 1, 0, none⟩) 1 1] (by simp; omega) (by simp [maxLen])
  obtain ⟨A', c', e, _, hr⟩ := h3.reads
  injection e with e1 _ _; subst e1
  simp only [World.size_alloc] at hr h2
  have r1 := RIn.ofOI (xs := [x]) ((h1.alloc (.cells #[.int .i64 y] 2)).alloc (.cells #[.slice (some ⟨w.heap.size, 0, none⟩) 1 1, .slice (some ⟨w.heap.size + 1, 0, none⟩) 1 1] 44))
  have r2 := RIn.ofOI (xs := [y]) (h2.alloc (.cells #[.slice (some ⟨w.heap.size, 0, none⟩) 1 1, .slice (some ⟨w.heap.size + 1, 0, none⟩) 1 1] 44))
  refine ⟨[.slice (some ⟨w.heap.size, 0, none⟩) 1 1, .slice (some ⟨w.heap.size + 1, 0, none⟩) 1 1], rfl, hr, fun _ b o e e' => by injection e with e; injection e with e1 _ _; omega, fun j hj => ?_⟩
  match j, hj with
  | 0, _ => exact ⟨some ⟨w.heap.size, 0, none⟩, 1, rfl, Nat.le_refl _, r1.1, r1.2⟩
  | 1, _ => exact ⟨some ⟨w.heap.size + 1, 0, none⟩, 1, rfl, Nat.le_refl _, r2.1, r2.2⟩
/-- openers and change keys: a nest of new memory -/
theorem RowsK.riib {w' : World} {B : Nat} {A : Option Addr} {us : List Value} {xss : List (List Int)} (hr : RV w' A us) (hk : RowsK w' (fun b => B ≤ b) us xss) (ha : ∀ b o, A = some ⟨b, o, none⟩ → B ≤ b) : RIIb B w' A xss :=
  ⟨us, hk.1, hr, fun _ b o e e' => by have := ha b o e; omega, fun j hj => by
    obtain ⟨A', c, h1, h2, h3, h4⟩ := hk.2 j hj
    exact ⟨A', c, h1, h2, h3, fun _ b o e e' => by have := (h4 b o e).1; omega⟩⟩
end Go.Proofs.YtdedajohkdbdkaaGreatDoor
