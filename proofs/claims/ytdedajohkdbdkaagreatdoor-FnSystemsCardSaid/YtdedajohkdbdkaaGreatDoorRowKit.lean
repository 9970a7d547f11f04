/- From a row's reading of its arguments to the words of the walks; the row's end. -/
import Derived.Test.YtdedajohkdbdkaaGreatDoorFTable
import Derived.Test.YtdedajohkdbdkaaGreatDoorRows
import Derived.ProofKit
import Derived.OpenShut
import Derived.Deep.Matrix
import Derived.Carry
import Derived.Lib.SmallJoins
namespace Go.Proofs.YtdedajohkdbdkaaGreatDoor
set_option linter.unusedVariables false
set_option maxRecDepth 100000
open Go.ChangeShapes Go.WideShapes Go.ChangeAt Go.RowKit Go.Joins Go.Deep
theorem own : ownKnob Tryz.prog.godebug = none := by kernel_rfl
theorem Tryz.laidOut : laidOutB Tryz.prog = true := by kernel_rfl

section
variable {H : Type} {enc : TypeId × Value → H} {P : Program}
/-- The row's last step where only new memory is known to have turned (howto/extra-small.md, 9). -/
theorem post_of_below {f : Func} {s : ChangeSpec} {apart fresh handsOn again : Bool} {W W' : World} {args : Array Value} {v : Value} {ds gs : List (DataW H)} {before pa pv : List MemPlace}
    (hW : DataW.Whole enc P f.params.toList s.vars apart W args.toList ds gs before)
    (hres : ∀ (b : Nat) (sp : Nat → Bool) (hd : Bool), DataW.TrodAll enc P W' b sp hd f.resultTypes.toList (v.resultList f.resultTypes.size) (s.fn H (ds ++ gs)).results [])
    (hargs : ∀ sp : Nat → Bool, (∀ p ∈ before, sp p.block = true) → DataW.TrodAll enc P W' 0 sp true f.params.toList args.toList (s.fn H (ds ++ gs)).args pa)
    (hvars : ∀ sp : Nat → Bool, (∀ p ∈ before, sp p.block = true) → DataW.TrodVars enc P W' sp s.vars (s.fn H (ds ++ gs)).vars pv)
    (hps : before = pa ++ pv) (hb : Below W.heap.size W W')
    (hok : ∀ (j : Nat) (t : TypeId) (r : Value), f.resultTypes[j]? = some t → (v.resultList f.resultTypes.size)[j]? = some r → Value.okWide P W' .any 0 t r) :
    s.post enc P f apart fresh handsOn again W args v W' := by
  have hlt : ∀ p ∈ before, p.block < W.heap.size := fun p hp => hW.lt p hp
  have hold : ∀ p ∈ before, (fun b => decide (b < W.heap.size)) p.block = true := fun p hp => by simpa using hlt p hp
  refine ⟨ds, gs, before, [], pa, pv, hW, hres _ _ _, hargs _ hold, hvars _ hold, World.keptBut_mono (fun p hp => ⟨hp, ?_⟩) (hb.frame (· ∈ before)), fun _ => ?_⟩
  · rw [hps, List.mem_append] at hp
    exact Or.inr hp
  · obtain ⟨_, _, _, _, _, hz, hn⟩ := hW
    refine ⟨hok, _, _, ([] ++ pa) ++ pv, ⟨[] ++ pa, pv, trodAll_append (hargs _ (fun _ _ => rfl)) (hres _ _ _), hvars _ (fun _ _ => rfl), rfl, ?_, ?_⟩, ?_⟩
    · intro b off hp
      have hin : MemPlace.cell b off ∈ before := by rw [hps]; simpa using hp
      rw [hb.frozen (hlt _ hin)]
      exact hz b off hin
    · intro ha
      have := hn ha
      rw [hps] at this
      simpa using this
    · intro p hp _
      rw [hps]
      simpa using hp
end

section
variable {H : Type} {enc : TypeId × Value → H} {W : World} {r : Reach} {base : Nat} {v : Value} {d : DataW H} {p : List MemPlace}
theorem Tryz.cells_int : Tryz.prog.cellsOf 2 = 1 := by kernel_rfl
theorem RI_of {fuel : Nat} {v : Value} {x : DataW H × List MemPlace} (hf : DataW.trod enc Tryz.prog W 0 (fun _ => true) true fuel 44 [v] = some x) :
    ∃ A xs c, v = .slice A (List.length xs) c ∧ xs.length ≤ c ∧ RI W A xs := by
  rcases open_ints Tryz.underlying44 Tryz.underlying2 Tryz.cells_int hf with ⟨hcs, hx⟩ | ⟨a, len', cap', zs, hcs, _, hl, hm, hz, hx, hcell, hwz⟩
  · simp at hcs
    exact ⟨none, [], 0, hcs, by simp, RI.nil⟩
  · simp at hcs
    simp only [if_true] at hz
    have hlen : (zs.take len').length = len' := by simp; omega
    refine ⟨some a, zs.take len', cap', by rw [hlen]; exact hcs, by omega, ?_⟩
    refine ⟨by rw [ints_length, hlen]; simp only [maxLen] at hm; omega, fun hn => ?_⟩
    have h0 : 0 < len' := by
      rcases Nat.eq_zero_or_pos len' with h0 | h0
      · subst h0; simp [ints] at hn
      · exact h0
    obtain ⟨b, o, spot⟩ := a
    have hs : spot = none := by
      have := hcell 0 (by omega)
      cases spot with
      | none => rfl
      | some x => simp [Addr.add, World.cell?] at this; split at this <;> simp at this
    subst hs
    refine ⟨b, o, rfl, fun j u hu => ?_⟩
    have hj : j < (ints (zs.take len')).length := (List.getElem?_eq_some_iff.1 hu).1
    rw [ints_length, hlen] at hj
    have := hcell j (by omega)
    rw [Addr.add_lit] at this
    rw [this]
    simp [ints, hj, List.getElem?_eq_getElem (show j < zs.length by omega)] at hu
    simp [List.getD, List.getElem?_eq_getElem (show j < zs.length by omega), hu]
/-- An argument that is a list of int64. -/
theorem open_RI (hv : Value.okWide Tryz.prog W r base 44 v) (h : DataW.Trod enc Tryz.prog W 0 (fun _ => true) true 44 v d p) :
    ∃ A xs c, v = .slice A (List.length xs) c ∧ xs.length ≤ c ∧ RI W A xs := by
  obtain ⟨a0, len, cap, rfl⟩ := okWide_slice Tryz.underlying44 hv
  obtain ⟨fuel, hf⟩ := h
  exact RI_of (by simpa [Value.cells] using hf)
/-- An argument that is a number. -/
theorem open_N (hv : Value.okWide Tryz.prog W r base 2 v) (h : DataW.Trod enc Tryz.prog W 0 (fun _ => true) true 2 v d p) : ∃ n, v = .int .i64 n ∧ (Lit.int .i64 n).wf = true := by
  obtain ⟨x, rfl, _, _, wx⟩ := open_int Tryz.underlying2 hv h
  exact ⟨x, rfl, wx⟩
theorem trod_int1 {n : Nat} {c : Value} {y : DataW H × List MemPlace} (h : DataW.trod enc Tryz.prog W 0 (fun _ => true) true n 2 [c] = some y) : ∃ x, c = .int .i64 x := by
  obtain ⟨x, e, _, _⟩ := DataW.trod_int Tryz.underlying2 h
  simp at e
  exact ⟨x, e⟩
/-- A row of lists. -/
theorem RII_of {fuel : Nat} {v : Value} {x : DataW H × List MemPlace} (h : DataW.trod enc Tryz.prog W 0 (fun _ => true) true fuel 26 [v] = some x) :
    ∃ A xss c, v = .slice A (List.length xss) c ∧ xss.length ≤ c ∧ RII W A xss := by
  rcases open_int_rows Tryz.underlying26 Tryz.underlying44 Tryz.underlying2 (by kernel_rfl) Tryz.cells_int h with ⟨hcs, hx⟩ | ⟨a, len, cap, A, L, C, Z, hcs, _, hl, hm, hx, hr⟩
  · simp at hcs
    exact ⟨none, [], 0, hcs, by simp, RII.nil⟩
  · simp at hcs
    have hlen : ((List.range len).map fun j => (Z j).take (L j)).length = len := by simp
    refine ⟨some a, (List.range len).map fun j => (Z j).take (L j), cap, by rw [hlen]; exact hcs, by omega, ?_⟩
    refine ⟨(List.range len).map fun j => .slice (A j) (L j) (C j), by simp, ⟨by simp; simp only [maxLen] at hm; omega, fun hn => ?_⟩, fun j hj => ?_⟩
    · have h0 : 0 < len := by
        rcases Nat.eq_zero_or_pos len with h0 | h0
        · subst h0; simp at hn
        · exact h0
      obtain ⟨b, o, spot⟩ := a
      have hs : spot = none := by
        have := (hr 0 (by omega)).1
        cases spot with
        | none => rfl
        | some x => simp [Addr.add, World.cell?] at this; split at this <;> simp at this
      subst hs
      refine ⟨b, o, rfl, fun j u hu => ?_⟩
      have hj : j < len := by have := (List.getElem?_eq_some_iff.1 hu).1; simpa using this
      have := (hr j (by omega)).1
      rw [Addr.add_lit] at this
      rw [this]
      simp [hj] at hu
      rw [hu]
    · rw [hlen] at hj
      obtain ⟨h1, h2, h3, h4, h5, h6, h7⟩ := hr j (by omega)
      have hz : (((List.range len).map fun j => (Z j).take (L j))[j]'(by simpa using hj)) = (Z j).take (L j) := by simp
      have hzl : ((Z j).take (L j)).length = L j := by simp; omega
      rw [hz]
      refine ⟨A j, C j, by simp [hj, hzl], by omega, ⟨by rw [ints_length, hzl]; simp only [maxLen] at h3; omega, fun hn => ?_⟩⟩
      have h0 : 0 < L j := by
        rcases Nat.eq_zero_or_pos (L j) with h0 | h0
        · rw [h0] at hn; simp [ints] at hn
        · exact h0
      cases hA : A j with
      | none => have := h6 hA; omega
      | some ad =>
        have hc := (h7 ad hA).2
        obtain ⟨b, o, spot⟩ := ad
        have hs : spot = none := by
          have := hc 0 (by omega)
          cases spot with
          | none => rfl
          | some x => simp [Addr.add, World.cell?] at this; split at this <;> simp at this
        subst hs
        refine ⟨b, o, rfl, fun i u hu => ?_⟩
        have hi : i < (ints ((Z j).take (L j))).length := (List.getElem?_eq_some_iff.1 hu).1
        rw [ints_length, hzl] at hi
        have := hc i (by omega)
        rw [Addr.add_lit] at this
        rw [this]
        simp [ints, hi, List.getElem?_eq_getElem (show i < (Z j).length by omega)] at hu
        simp [List.getD, List.getElem?_eq_getElem (show i < (Z j).length by omega), hu]
theorem open_RII (hv : Value.okWide Tryz.prog W r base 26 v) (h : DataW.Trod enc Tryz.prog W 0 (fun _ => true) true 26 v d p) :
    ∃ A xss c, v = .slice A (List.length xss) c ∧ xss.length ≤ c ∧ RII W A xss := by
  obtain ⟨a0, len, cap, rfl⟩ := okWide_slice Tryz.underlying26 hv
  obtain ⟨fuel, hf⟩ := h
  exact RII_of (by simpa [Value.cells] using hf)
end
section
variable {H : Type} {enc : TypeId × Value → H} {P : Program} {w : World} {base : Nat} {spare : Nat → Bool} {held : Bool}
theorem open_agg5 {r : Reach} {b0 : Nat} {t : TypeId} {f0 f1 f2 f3 f4 : Field} {v : Value} {d : DataW H} {p : List MemPlace} (hs : P.underlying t = some (.struct #[f0, f1, f2, f3, f4])) (hone : oneCellFields P #[f0, f1, f2, f3, f4] = true) (hC : P.cellsOf t = 5)
    (hv : Value.okWide P w r b0 t v) (h : DataW.Trod enc P w base spare held t v d p) :
    ∃ (v0 v1 v2 v3 v4 : Value) (y0 y1 y2 y3 y4 : DataW H × List MemPlace) (n : Nat), v = .agg #[v0, v1, v2, v3, v4] ∧ d = .agg [y0.1, y1.1, y2.1, y3.1, y4.1] ∧ p = y0.2 ++ (y1.2 ++ (y2.2 ++ (y3.2 ++ y4.2))) ∧
      DataW.trod enc P w base spare held n f0.type [v0] = some y0 ∧ DataW.trod enc P w base spare held n f1.type [v1] = some y1 ∧ DataW.trod enc P w base spare held n f2.type [v2] = some y2 ∧ DataW.trod enc P w base spare held n f3.type [v3] = some y3 ∧ DataW.trod enc P w base spare held n f4.type [v4] = some y4 := by
  obtain ⟨cs, rfl, hsz⟩ := okWide_struct hs hv
  obtain ⟨l⟩ := cs
  match l, hsz.trans hC with
  | [c0, c1, c2, c3, c4], _ =>
    obtain ⟨fuel, hf⟩ := h
    obtain ⟨xs, n, _, hx, _, hlen, hg⟩ := DataW.trod_struct hs hf
    obtain ⟨o0, k0⟩ := hone_of hone 0 f0 rfl
    obtain ⟨o1, k1⟩ := hone_of hone 1 f1 rfl
    obtain ⟨o2, k2⟩ := hone_of hone 2 f2 rfl
    obtain ⟨o3, k3⟩ := hone_of hone 3 f3 rfl
    obtain ⟨o4, k4⟩ := hone_of hone 4 f4 rfl
    match xs, hlen with
    | [y0, y1, y2, y3, y4], _ =>
      simp only [Prod.mk.injEq] at hx
      exact ⟨c0, c1, c2, c3, c4, y0, y1, y2, y3, y4, n, rfl, by simpa using hx.1, by simpa using hx.2, by simpa [Value.cells, o0, k0] using hg 0 f0 rfl, by simpa [Value.cells, o1, k1] using hg 1 f1 rfl, by simpa [Value.cells, o2, k2] using hg 2 f2 rfl, by simpa [Value.cells, o3, k3] using hg 3 f3 rfl, by simpa [Value.cells, o4, k4] using hg 4 f4 rfl⟩
end
section
variable {H : Type} {enc : TypeId × Value → H} {W : World} {r : Reach} {base : Nat} {v : Value} {d : DataW H} {p : List MemPlace}
end
end Go.Proofs.YtdedajohkdbdkaaGreatDoor
