/- Contracts of eachKey, countKeys, firstKeys. -/
import Derived.Test.YtdedajohkdbdkaaGreatFEach
import Derived.Laws.EntriesVeiled
namespace Go.Proofs.YtdedajohkdbdkaaGreat
set_option linter.unusedVariables false
open Go.RowKit
theorem eachClo_f {σ : Type} (m : Mk) (hm : isMaker m = true) (Af : Option Addr) (nf cf : Nat) (ka kv : FuncId) (capA capV : Array Value) (vis : σ → List Int → Bool × σ) (R : σ → World → (Nat → Prop) → Prop) (L : σ → Prop) (P : List Int → Prop) (w : World) (F : Nat → Prop)
    (hv : VisOK kv capV vis R L P w F) (al : Nat → Int → Bool) (ha : AlOK ka capA al m w F) (fr : List Int) : ∀ (r : Nat)
    (key : List Int) (wr : World) (v : Value) (s : σ) (G : Nat → Prop), (key.length : Int) + r = m.c → (∀ i (h : i < key.length), 0 ≤ key[i] ∧ key[i] < m.d) →
      EK m Af nf cf (.func (.func ka) #[] capA) (.func (.func kv) #[] capV) (.func (.func 148) #[] #[.pointer (some ⟨w.heap.size + 5, 0, none⟩), .pointer (some ⟨w.heap.size, 0, none⟩), .pointer (some ⟨w.heap.size + 3, 0, none⟩), .pointer (some ⟨w.heap.size + 1, 0, none⟩), .pointer (some ⟨w.heap.size + 2, 0, none⟩), .pointer (some ⟨w.heap.size + 6, 0, none⟩)]) R w F wr key v s G → L s → (∀ x, x ∈ keysG m al fr r key false → P x) → ∀ (b : Bool) (s' : σ), runVis vis s (keysG m al fr r key false) = (b, s') →
      Calls Tryz.prog 148 #[.bool false, .pointer (some ⟨w.heap.size + 5, 0, none⟩), .pointer (some ⟨w.heap.size, 0, none⟩), .pointer (some ⟨w.heap.size + 3, 0, none⟩), .pointer (some ⟨w.heap.size + 1, 0, none⟩), .pointer (some ⟨w.heap.size + 2, 0, none⟩), .pointer (some ⟨w.heap.size + 6, 0, none⟩)] wr (EKPost m Af nf cf (.func (.func ka) #[] capA) (.func (.func kv) #[] capV) (.func (.func 148) #[] #[.pointer (some ⟨w.heap.size + 5, 0, none⟩), .pointer (some ⟨w.heap.size, 0, none⟩), .pointer (some ⟨w.heap.size + 3, 0, none⟩), .pointer (some ⟨w.heap.size + 1, 0, none⟩), .pointer (some ⟨w.heap.size + 2, 0, none⟩), .pointer (some ⟨w.heap.size + 6, 0, none⟩)]) R w F key b s')
  | 0, key, wr, v, s, G, hkey, hbd, hE, hL, hP, b, s', hrun => eachZero_any m Af nf cf _ _ kv capV vis R L P w F hv al fr key false wr v s G (by omega) hE hL hP b s' hrun
  | r + 1, key, wr, v, s, G, hkey, hbd, hE, hL, hP, b, s', hrun => eachStep_f m hm Af nf cf ka kv capA capV vis R L P w F hv al ha fr r (eachClo_f m hm Af nf cf ka kv capA capV vis R L P w F hv al ha fr r) key wr v s G (by omega) hbd hE hL hP b s' hrun
theorem run_neq_slice_nil' {P : Program} (w : World) {t e : TypeId} (a : Option Addr) (n c : Nat) (h : P.underlying t = some (.slice e)) : (binOp .neq t (.slice a n c) (.slice none 0 0)).run P w = .ok (.bool (!a.isNone)) w := by
  simp only [binOp]
  simp [Op.equal, Op.maxDepth, Go.Lib.run_equalIn_slice_nil w 9999 t e a n c 0 0 h]
theorem EK.start {σ : Type} (m : Mk) (va vv vc : Value) (R : σ → World → (Nat → Prop) → Prop) (w : World) (F : Nat → Prop) (s : σ) (T0 T1 T2 T3 T5 T6 : Nat) (lt : ∀ s w F, R s w F → ∀ g, F g → g < w.heap.size) (fr : ∀ s w w' F, R s w F → KeepF (fun g => ¬ F g) w w' → R s w' F) (hs : R s w F) :
    EK m none 0 0 va vv vc R w F (((((((w.alloc (.cells #[.int .i64 m.c, .int .i64 m.d, .int .i64 m.s, .int .i64 m.a, .int .i64 m.l] T0)).alloc (.cells #[.slice none 0 0] T1)).alloc (.cells #[va] T2)).alloc (.cells #[vv] T3)).alloc (.cells #[] 2)).alloc (.cells #[.slice (some ⟨w.heap.size + 4, 0, none⟩) 0 0] T5)).alloc (.cells #[vc] T6)) [] (.slice (some ⟨w.heap.size + 4, 0, none⟩) 0 0) s F := by
  have k : KeepF F w (((((((w.alloc (.cells #[.int .i64 m.c, .int .i64 m.d, .int .i64 m.s, .int .i64 m.a, .int .i64 m.l] T0)).alloc (.cells #[.slice none 0 0] T1)).alloc (.cells #[va] T2)).alloc (.cells #[vv] T3)).alloc (.cells #[] 2)).alloc (.cells #[.slice (some ⟨w.heap.size + 4, 0, none⟩) 0 0] T5)).alloc (.cells #[vc] T6)) := (((((((KeepF.refl F w).alloc _).alloc _).alloc _).alloc _).alloc _).alloc _).alloc _
  have k0 : KeepF (fun g => ¬ F g) w (((((((w.alloc (.cells #[.int .i64 m.c, .int .i64 m.d, .int .i64 m.s, .int .i64 m.a, .int .i64 m.l] T0)).alloc (.cells #[.slice none 0 0] T1)).alloc (.cells #[va] T2)).alloc (.cells #[vv] T3)).alloc (.cells #[] 2)).alloc (.cells #[.slice (some ⟨w.heap.size + 4, 0, none⟩) 0 0] T5)).alloc (.cells #[vc] T6)) := (((((((KeepF.refl _ w).alloc _).alloc _).alloc _).alloc _).alloc _).alloc _).alloc _
  have hn := lt s w F hs
  have ho := ((OV.new0 (w := (((w.alloc (.cells #[.int .i64 m.c, .int .i64 m.d, .int .i64 m.s, .int .i64 m.a, .int .i64 m.l] T0)).alloc (.cells #[.slice none 0 0] T1)).alloc (.cells #[va] T2)).alloc (.cells #[vv] T3)) (B := w.heap.size + 4) (e := 2) (by simp)).alloc (.cells #[.slice (some ⟨w.heap.size + 4, 0, none⟩) 0 0] T5)).alloc (.cells #[vc] T6)
  refine ⟨k, by simp, fr _ _ _ _ hs k0, fun g hg => .inl hg, hn, fun g hg => ?_, by simpa [ints] using ho, ?_, ?_, ?_, ?_, ?_, ?_, ?_⟩
  · simp [Value.ownBlock] at hg
    subst hg
    exact ⟨fun e => by have := hn _ e; omega, .inl rfl⟩
  · refine BoxC.of_cells (cs := [.int .i64 m.c, .int .i64 m.d, .int .i64 m.s, .int .i64 m.a, .int .i64 m.l]) _ 0 (fun j v hj => ?_) rfl
    iterate 6 rw [World.cell?_alloc_lt _ _ _ (by simp only [World.size_alloc]; omega)]
    rw [World.cell?_alloc_at (hn := rfl)]; simpa using hj
  · iterate 5 rw [World.cell?_alloc_lt _ _ _ (by simp only [World.size_alloc]; omega)]
    rw [World.cell?_alloc_at (hn := by simp)]; rfl
  · iterate 4 rw [World.cell?_alloc_lt _ _ _ (by simp only [World.size_alloc]; omega)]
    rw [World.cell?_alloc_at (hn := by simp)]; rfl
  · iterate 3 rw [World.cell?_alloc_lt _ _ _ (by simp only [World.size_alloc]; omega)]
    rw [World.cell?_alloc_at (hn := by simp)]; rfl
  · rw [World.cell?_alloc_lt _ _ _ (by simp only [World.size_alloc]; omega)]
    rw [World.cell?_alloc_at (hn := by simp)]; rfl
  · rw [World.cell?_alloc_at (hn := by simp)]; rfl
  · rw [World.frozen?_alloc_past _ _ _ (by simp only [World.size_alloc]; omega)]
    rw [World.frozen?_alloc_at _ _ _ _ (by simp)]
set_option maxRecDepth 100000 in
set_option maxHeartbeats 4000000 in
theorem eachKey_any {σ : Type} (m : Mk) (hm : isMaker m = true) (ka kv : FuncId) (capA capV : Array Value) (vis : σ → List Int → Bool × σ) (R : σ → World → (Nat → Prop) → Prop) (L : σ → Prop) (w : World) (F : Nat → Prop) (s : σ) (al : Nat → Int → Bool)
    (hv : VisOK kv capV vis R L (fun k => k ∈ keysG m al [] m.c.toNat [] false) w F) (ha : AlOK ka capA al m w F) (hs : R s w F) (hL : L s) :
    Calls Tryz.prog 106 #[.agg #[.int .i64 m.c, .int .i64 m.d, .int .i64 m.s, .int .i64 m.a, .int .i64 m.l], .slice none 0 0, .func (.func ka) #[] capA, .func (.func kv) #[] capV] w fun e w' => e = .returned (.tuple #[]) ∧ ∃ G, R (runVis vis s (keysG m al [] m.c.toNat [] false)).2 w' G ∧ KeepF F w w' ∧ ∀ g, G g → F g ∨ w.heap.size ≤ g := by
  have hq := fun w : World => run_neq_slice_nil' (P := Tryz.prog) w (t := 33) (e := 2) none 0 0 Tryz.underlying33
  simp only [Option.isNone_none, Bool.not_true] at hq
  have hentC : Enters Tryz.prog 148 := enters Tryz.func148 (by kernel_rfl) rfl
  have HV := Lib.hid hv
  have HA := Lib.hid ha
  have HS := Lib.hid hs
  have HLL := Lib.hid hL
  clear hv ha hs hL
  unfold Enters at hentC
  go_enter Tryz.func106, Tryz.ntmps106
  go_wp2_with fail
  have hE := EK.start m (.func (.func ka) #[] capA) (.func (.func kv) #[] capV) (.func (.func 148) #[] #[.pointer (some ⟨w.heap.size + 5, 0, none⟩), .pointer (some ⟨w.heap.size, 0, none⟩), .pointer (some ⟨w.heap.size + 3, 0, none⟩), .pointer (some ⟨w.heap.size + 1, 0, none⟩), .pointer (some ⟨w.heap.size + 2, 0, none⟩), .pointer (some ⟨w.heap.size + 6, 0, none⟩)]) R w F s 25 33 86 81 33 141 HV.out.lt HV.out.fr HS.out
  have HC := eachClo_f m hm none 0 0 ka kv capA capV vis R L _ w F HV.out al HA.out [] m.c.toNat [] _ _ s F (by have := (mk_bounds hm).1; simp; omega) (fun i h => by simp at h) hE HLL.out (fun x hx => hx) _ _ rfl
  refine HC.mono ?_
  rintro e w1 ⟨rfl, v1, G1, hE1⟩
  go_wp2_with fail
  go_end0
  exact ⟨rfl, G1, hE1.rep, hE1.keep, fun g hg => by rcases hE1.sub g hg with h | h; exact .inl h; exact .inr (by omega)⟩
end Go.Proofs.YtdedajohkdbdkaaGreat
