/- Contracts of LockAt. -/
import Derived.Test.YtdedajohkdbdkaaGreatFHull
import Derived.Test.YtdedajohkdbdkaaGreatFCuts
import Derived.Laws.ResultCell
namespace Go.Proofs.YtdedajohkdbdkaaGreat
set_option linter.unusedVariables false
open Go.RowKit
theorem results_cell_row_tmp {P : Program} {fn : Func} {p u : Tmp} {ty : TypeId} (h : fn.results = #[.cell p ty, .tmp u]) (tmps : Array Value) (w : World) (g : Nat) (t : TypeId) (cs : Array Value) (fr : Nat × Nat) (d : TypeDesc)
    (hp : tmps.getD p undef = .pointer (some ⟨g, 0, none⟩)) (hg : w.heap[g]? = some (.cells cs t fr))
    (hu : P.underlying ty = some d) (hd : (match d with | .struct _ | .array _ _ => true | _ => false) = true) (hi : (P.info? ty).map (·.size) = some cs.size) :
    (results fn tmps).run P w = .ok (.tuple #[.agg cs, tmps.getD u undef]) w := by
  rw [results_cell_tmp h, hp]
  simp [asAddr, Result.andThen, run_loadVar_row w g t ty cs fr d hg hu hd hi]
theorem resLC_own {w w' : World} {r : List (List Int) × Int} {A : Option Addr} {c : Nat} {l : List (List Int)} (h : (l, 0) = r) (hc : l.length ≤ c) (hr : RII w' A l) (ho : OII w' w.heap.size w'.heap.size (.slice A l.length c) l) (hb : Below w.heap.size w w') :
    ResLC w r (.returned (.tuple #[.agg #[.slice A l.length c], .int .i64 0])) w' := by subst h; exact ⟨A, c, rfl, hc, hr, ho, hb⟩
theorem resLC_nil {w w' : World} {r : List (List Int) × Int} {c : Int} (h : ([], c) = r) (hb : Below w.heap.size w w') : ResLC w r (.returned (.tuple #[.agg #[.slice none 0 0], .int .i64 c])) w' := by
  subst h; exact ⟨none, 0, rfl, Nat.le_refl _, RII.nil, OII.nil, hb⟩
/-- Two rows in a row of the call's own. -/
theorem RII.two {w : World} {g : Nat} {A1 A2 : Option Addr} {c1 c2 : Nat} {xs ys : List Int} (h1 : xs.length ≤ c1) (h2 : ys.length ≤ c2) (r1 : RI w A1 xs) (r2 : RI w A2 ys)
    (e0 : w.cell? ⟨g, 0, none⟩ = some (.slice A1 xs.length c1)) (e1 : w.cell? ⟨g, 1, none⟩ = some (.slice A2 ys.length c2)) : RII w (some ⟨g, 0, none⟩) [xs, ys] := by
  refine ⟨[.slice A1 xs.length c1, .slice A2 ys.length c2], rfl, ⟨by simp, fun _ => ⟨g, 0, rfl, fun j u hu => ?_⟩⟩, fun j hj => ?_⟩
  · match j, hu with
    | 0, hu => simp at hu; subst hu; exact e0
    | 1, hu => simp at hu; subst hu; exact e1
    | j + 2, hu => simp at hu
  · match j, hj with
    | 0, _ => exact ⟨A1, c1, rfl, h1, r1⟩
    | 1, _ => exact ⟨A2, c2, rfl, h2, r2⟩
    | j + 2, hj => exact absurd hj (by simp)
theorem innerC_in {b : Int} {ms : List Int} {first : Nat} (hb : 1 ≤ b) : ∀ (k : Nat) (n : Int) (cs : List Int), (∀ x ∈ cs, 0 ≤ x ∧ x ≤ b) → ∀ x ∈ innerC b ms first k n cs, 0 ≤ x ∧ x ≤ b
  | 0, _, _, h => h
  | k + 1, n, cs, h => by
    rw [innerC]
    refine innerC_in hb k _ _ fun x hx => ?_
    rcases List.mem_or_eq_of_mem_set hx with h1 | h1
    · exact h x h1
    · subst h1
      have := emod_in (n := n) hb
      unfold bump; split <;> omega
theorem outerC_in {b : Int} {ms : List Int} (hb : 1 ≤ b) : ∀ (ls ps : List Int) (first : Nat) (cs : List Int), (∀ x ∈ cs, 0 ≤ x ∧ x ≤ b) → ∀ x ∈ outerC b ms first ls ps cs, 0 ≤ x ∧ x ≤ b
  | [], _, _, _, h => by simpa [outerC] using h
  | _ :: _, [], _, _, h => by simpa [outerC] using h
  | l :: ls, n :: ps, first, cs, h => by rw [outerC]; exact outerC_in hb ls ps _ _ (innerC_in hb _ _ _ h)
theorem cutsAt_cuts {m : Mk} {ms ls ps : List Int} (h : levelsCode m ms ls ps = 0) : allCuts m [ms, cutsAtF m ms ls ps] ∧ (cutsAtF m ms ls ps).length = ms.length := by
  obtain ⟨hm, hc, _, _⟩ := lc_0_iff.1 h
  have h2 := cutsOK_get hc
  have d2 := (mk_bounds hm).2.2.1
  have hlen : (cutsAtF m ms ls ps).length = ms.length := outerC_len _ _ _ _ _ _
  have hall : ∀ xs : List Int, (∀ x ∈ xs, 0 ≤ x ∧ x ≤ m.d - 1) → allW 0 (m.d - 1) xs = true := fun xs hx => by
    unfold allW; rw [List.all_eq_true]; intro x hx2; have := hx x hx2; simp [inB]; omega
  have hms : ∀ x ∈ ms, 0 ≤ x ∧ x ≤ m.d - 1 := fun x hx => by
    obtain ⟨i, hi, rfl⟩ := List.getElem_of_mem hx
    exact h2.2 i hi
  refine ⟨fun k hk => ?_, hlen⟩
  match k, hk with
  | 0, _ => exact ⟨h2.1, hall _ hms⟩
  | 1, _ => exact ⟨by show ((cutsAtF m ms ls ps).length : Int) = m.c; rw [hlen]; exact h2.1, hall _ (outerC_in (by omega) _ _ _ _ hms)⟩
  | k + 2, hk => exact absurd hk (by simp)
def lockAtR (m : Mk) (ms ls ps : List Int) : List (List Int) × Int := if levelsCode m ms ls ps = 0 then (hullF m.c.toNat m.d.toNat [ms, cutsAtF m ms ls ps], 0) else ([], levelsCode m ms ls ps)
end Go.Proofs.YtdedajohkdbdkaaGreat
