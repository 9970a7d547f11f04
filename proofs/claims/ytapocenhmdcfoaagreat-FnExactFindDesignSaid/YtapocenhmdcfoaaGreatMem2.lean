/- More words for memory: a row of the call's own that is written in place; copies. -/
import Derived.Test.YtapocenhmdcfoaaGreatHelp
namespace Go.Proofs.YtapocenhmdcfoaaGreat
set_option linter.unusedVariables false
open Go.RowKit
/-- What a row of the call's own gives the walk. -/
theorem OV.open1 {w : World} {B : Nat} {v : Value} {xs : List Int} (h : OV w B 2 v (ints xs)) (h0 : 0 < xs.length) :
    ∃ g c, v = .slice (some ⟨g, 0, none⟩) xs.length c ∧ B ≤ g ∧ g < w.heap.size ∧ xs.length ≤ c ∧ (∀ k (hk : k < xs.length), w.cell? ⟨g, k, none⟩ = some (.int .i64 xs[k])) ∧ (∀ k, w.frozen? ⟨g, k, none⟩ = false) := by
  unfold OV at h
  rw [ints_length] at h
  obtain ⟨g, c, rfl, hB, hg⟩ := h.form h0
  refine ⟨g, c, rfl, hB, hg, ?_, fun k hk => ?_, fun k => h.frozenAt k⟩
  · rcases h.2 with ⟨h', _⟩ | ⟨g', cap', cur, h', _, _, hc, _⟩
    · simp at h'
    · simp only [Value.slice.injEq, Option.some.injEq, Addr.mk.injEq, and_true, true_and] at h'
      omega
  · rw [h.cellAt k (by omega)]
    simp [ints, List.getElem?_eq_getElem hk]
/-- One number of it is written. -/
theorem OV.put {w : World} {B g c n : Nat} {xs : List Int} (h : OV w B 2 (.slice (some ⟨g, 0, none⟩) n c) (ints xs)) (hn : n = xs.length) (k : Nat) (x : Int) :
    OV (w.setCell ⟨g, k, none⟩ (.int .i64 x)) B 2 (.slice (some ⟨g, 0, none⟩) n c) (ints (xs.set k x)) := by
  subst hn
  unfold OV at h ⊢
  rw [ints_length] at h
  rw [ints_length, List.length_set]
  have := (h.stored k (.int .i64 x)).1
  have e : (ints xs).set k (.int .i64 x) = ints (xs.set k x) := by simp only [ints, List.map_set]
  rw [e] at this
  exact this
theorem resI_mono {w a w' : World} {xs : List Int} {e : Ending} (h : ResI a xs e w') (hb : Below w.heap.size w a) : ResI w xs e w' := by
  obtain ⟨A, c, h1, h2, h3, h4, h5⟩ := h
  exact ⟨A, c, h1, h2, h3, h4.wide hb.size (Nat.le_refl _), hb.trans (h5.mono hb.size)⟩
/-- a code behind a list -/
theorem resIC_of {w a w' : World} {r : List Int × Int} {A : Option Addr} {c : Nat} {xs : List Int} {k : Int} (h : (xs, k) = r) (hc : xs.length ≤ c) (hr : RI w' A xs) (ho : OI w' a.heap.size w'.heap.size (.slice A xs.length c) xs) (hb : Below w.heap.size w a) (hb2 : Below a.heap.size a w') :
    ResIC w r (.returned (.tuple #[.slice A xs.length c, .int .i64 k])) w' := by
  subst h
  exact ⟨A, c, rfl, hc, hr, ho.wide hb.size (Nat.le_refl _), hb.trans (hb2.mono hb.size)⟩
set_option maxHeartbeats 400000 in
theorem l01Own_any (A : Option Addr) (c : Nat) (xs : List Int) (w : World) (h : RI w A xs) (hn : xs.length ≤ 1073741824) :
    Calls Tryz.prog 34 #[.slice A xs.length c] w (ResI w xs) := by
  have B0 : Below w.heap.size w (w.alloc (.cells #[] 2)) := (Below.refl w.heap.size w).alloc (Nat.le_refl _) _
  have ho := OV.new0 (w := w) (e := 2) (B := w.heap.size) (Nat.le_refl _)
  go_enter Tryz.func34, Tryz.ntmps34
  go_wp2_with (at_builtin; refine wpList_app _ rfl _ _ _ rfl w.heap.size 2 _ 8 Tryz.underlying47 info_int rfl _ _ rfl ho A xs.length c (ints xs) rfl (ints_length xs).symm (h.alloc _) (ints_one xs) (by simp [ints_length]; omega) (by simp [ints_length]; omega) (by simp) ?_; intro v' w3 ho3 hg3 hn3 hat3)
  go_ret
  exact resI_own ho3 (Nat.le_refl _) (ho.own (Nat.le_refl _) B0 hg3 (by simp))
theorem RI.none_nil {w : World} {xs : List Int} (h : RI w none xs) : xs = [] := by
  by_cases hn : xs = []
  · exact hn
  · obtain ⟨b, o, e, _⟩ := h.2 (by simp [ints, hn])
    cases e
set_option maxHeartbeats 400000 in
theorem sClone_any (A : Option Addr) (c : Nat) (xs : List Int) (w : World) (h : RI w A xs) (hn : xs.length ≤ 1073741824) :
    Calls Tryz.prog 52 #[.slice A xs.length c] w (ResI w xs) := by
  cases A with
  | none =>
    have hx := h.none_nil
    subst hx
    have hq := fun w : World => Go.Lib.run_eql_slice_nil (P := Tryz.prog) w 47 2 none 0 c 0 0 Tryz.underlying47
    simp only [Option.isNone_none] at hq
    go_enter Tryz.func52, Tryz.ntmps52
    go_wp2_with fail
    go_ret
    exact ⟨none, 0, rfl, Nat.le_refl _, RI.nil, OI.nil, Below.refl _ _⟩
  | some a =>
    have B0 : Below w.heap.size w (w.alloc (.cells #[] 2)) := (Below.refl w.heap.size w).alloc (Nat.le_refl _) _
    have ho := OV.new0 (w := w) (e := 2) (B := w.heap.size) (Nat.le_refl _)
    have hq := fun w : World => Go.Lib.run_eql_slice_nil (P := Tryz.prog) w 47 2 (some a) xs.length c 0 0 Tryz.underlying47
    simp only [Option.isNone_some] at hq
    go_enter Tryz.func52, Tryz.ntmps52
    go_wp2_with (at_builtin; refine wpList_app _ rfl _ _ _ rfl w.heap.size 2 _ 8 Tryz.underlying47 info_int rfl _ _ rfl ho _ xs.length c (ints xs) rfl (ints_length xs).symm (h.alloc _) (ints_one xs) (by simp [ints_length]; omega) (by simp [ints_length]; omega) (by simp) ?_; intro v' w3 ho3 hg3 hn3 hat3)
    go_ret
    exact resI_own ho3 (Nat.le_refl _) (ho.own (Nat.le_refl _) B0 hg3 (by simp))
end Go.Proofs.YtapocenhmdcfoaaGreat
