/- Contracts of eachKey, countKeys, firstKeys. -/
import Derived.Test.YtdedajohkdbdkaaGreatFEach
import Derived.Laws.EntriesVeiled
namespace Go.Proofs.YtdedajohkdbdkaaGreat
set_option linter.unusedVariables false
open Go.RowKit
theorem run_neq_slice_nil' {P : Program} (w : World) {t e : TypeId} (a : Option Addr) (n c : Nat) (h : P.underlying t = some (.slice e)) : (binOp .neq t (.slice a n c) (.slice none 0 0)).run P w = .ok (.bool (!a.isNone)) w := by
  simp only [binOp]
  simp [Op.equal, Op.maxDepth, Go.Lib.run_equalIn_slice_nil w 9999 t e a n c 0 0 h]
theorem EK.start {σ : Type} (m : Mk) (va vv vc : Value) (R : σ → World → (Nat → Prop) → Prop) (w : World) (F : Nat → Prop) (s : σ) (T0 T1 T2 T3 T5 T6 : Nat) (lt : ∀ s w F, R s w F → ∀ g, F g → g < w.heap.size) (fr : ∀ s w w' F, R s w F → KeepF (fun g => ¬ F g) w w' → R s w' F) (hs : R s w F) :
    EK m none 0 0 va vv vc R w F (((((((w.alloc (.cells #[.int .i64 m.c, .int .i64 m.d, .int .i64 m.s, .int .i64 m.a, .int .i64 m.l] T0)).alloc (.cells #[.slice none 0 0] T1)).alloc (.cells #[va] T2)).alloc (.cells #[vv] T3)).alloc (.cells #[] 2)).alloc (.cells #[.slice (some ⟨w.heap.size + 4, 0, none⟩) 0 0] T5)).alloc (.cells #[vc] T6)) [] (.slice (some ⟨w.heap.size + 4, 0, none⟩) 0 0) s F := by
  have k : KeepF F w (((((((w.alloc (.cells #[.int .i64 m.c, .int .i64 m.d, .int .i64 m.s, .int .i64 m.a, .int .i64 m.l] T0)).alloc (.cells #[.slice none 0 0] T1)).alloc (.cells #[va] T2)).alloc (.cells #[vv] T3)).alloc (.cells #[] 2)).alloc (.cells #[.slice (some ⟨w.heap.size + 4, 0, none⟩) 0 0] T5)).alloc (.cells #[vc] T6)) := (((((((KeepF.refl F w).alloc _).alloc _).alloc _).alloc _).alloc _).alloc _).alloc _
  have k0 : KeepF (fun g => ¬ F g) w (((((((w.alloc (.cells #[.int .i64 m.c, .int .i64 m.d, .int .i64 m.s, .int .i64 m.a, .int .i64 m.l] T0)).alloc (.cells #[.slice none 0 0] T1)).alloc (.cells #[va] T2)).alloc (.cells #[vv] T3)).alloc (.cells #[] 2)).alloc (.cells #[.slice (some ⟨w.heap.size + 4, 0, none⟩) 0 0] T5)).alloc (.cells #[vc] T6)) := (((((((KeepF.refl _ w).alloc _).alloc _).alloc _).alloc _).alloc _).alloc _).alloc _
  have hn := lt s w F hs
  have ho := ((OV.new0 (w := (((w.alloc (.cells #[.int .i64 m.c, .int .i64 m.d, .int .i64 m.s, .int .i64 m.a, .int .i64 m.l] T0)).alloc (.cells #[.slice none 0 0] T1)).alloc (.cells #[va] T2)).alloc (.cells #[vv] T3)) (B := w.heap.size + 4) (e := 2) (by simp)).alloc (.cells #[.slice (some ⟨w.heap.size + 4, 0, none⟩) 0 0] T5)).alloc (.cells #[vc] T6)
  refine ⟨k, by simp, fr _ _ _ _ hs k0, fun g hg => .inl hg, hn, fun g hg => ?_, by simpa [ints] using ho, ?_, ?_, ?_, ?_, ?_, ?_, ?_⟩
  · simp [Value.ownBlock] at hg
    subst hg
    exact ⟨fun e => by have := hn _ e; omega, .inl rfl⟩
  · refine BoxC.of_cells (cs := [.int .i64 m.c, .int .i64 m.d, .int .i64 m.s, .int .i64 m.a, .int .i64 m.l]) _ 0 (fun j v hj => ?_) rfl
    iterate 6 rw [World.cell?_alloc_lt _ _ _ (by simp only [World.size_alloc]; omega)]
    rw [World.cell?_alloc_at (hn := rfl)]; simpa using hj
  · iterate 5 rw [World.cell?_alloc_lt _ _ _ (by simp only [World.size_alloc]; omega)]
    rw [World.cell?_alloc_at (hn := by simp)]; rfl
  · iterate 4 rw [World.cell?_alloc_lt _ _ _ (by simp only [World.size_alloc]; omega)]
    rw [World.cell?_alloc_at (hn := by simp)]; rfl
  · iterate 3 rw [World.cell?_alloc_lt _ _ _ (by simp only [World.size_alloc]; omega)]
    rw [World.cell?_alloc_at (hn := by simp)]; rfl
  · rw [World.cell?_alloc_lt _ _ _ (by simp only [World.size_alloc]; omega)]
    rw [World.cell?_alloc_at (hn := by simp)]; rfl
  · rw [World.cell?_alloc_at (hn := by simp)]; rfl
  · rw [World.frozen?_alloc_past _ _ _ (by simp only [World.size_alloc]; omega)]
    rw [World.frozen?_alloc_at _ _ _ _ (by simp)]
end Go.Proofs.YtdedajohkdbdkaaGreat
