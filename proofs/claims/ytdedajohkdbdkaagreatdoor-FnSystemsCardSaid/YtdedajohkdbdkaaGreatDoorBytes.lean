/- An argument of bytes: from a row's reading to the words of the draws. -/
import Derived.Test.YtdedajohkdbdkaaGreatDoorRowKit
import Derived.Test.YtdedajohkdbdkaaGreatDoorDraw
namespace Go.Proofs.YtdedajohkdbdkaaGreatDoor
set_option linter.unusedVariables false
set_option maxRecDepth 100000
open Go.ChangeShapes Go.WideShapes Go.ChangeAt Go.RowKit Go.Joins Go.Deep
section
variable {H : Type} {enc : TypeId × Value → H} {W : World} {r : Reach} {base : Nat} {v : Value} {d : DataW H} {p : List MemPlace}
theorem Tryz.cells_u8 : Tryz.prog.cellsOf 5 = 1 := by kernel_rfl
/-- An argument of bytes. -/
theorem open_B (hv : Value.okWide Tryz.prog W r base 22 v) (h : DataW.Trod enc Tryz.prog W 0 (fun _ => true) true 22 v d p) :
    ∃ A bs c, v = .slice A (List.length bs) c ∧ bs.length ≤ c ∧ RV W A (bytesV bs) ∧ ∀ b ∈ bs, 0 ≤ b ∧ b < 256 := by
  obtain ⟨a0, len, cap, rfl⟩ := okWide_slice Tryz.underlying22 hv
  obtain ⟨fuel, hf⟩ := h
  have hf' : DataW.trod enc Tryz.prog W 0 (fun _ => true) true fuel 22 [.slice a0 len cap] = some (d, p) := by simpa [Value.cells] using hf
  rcases open_ints Tryz.underlying22 Tryz.underlying5 Tryz.cells_u8 hf' with ⟨hcs, hx⟩ | ⟨a, len', cap', zs, hcs, _, hl, hm, hz, hx, hcell, hwz⟩
  · simp at hcs
    obtain ⟨rfl, rfl, rfl⟩ := hcs
    exact ⟨none, [], 0, rfl, by simp, ⟨by simp [bytesV], fun h => absurd rfl h⟩, by simp⟩
  · simp at hcs
    obtain ⟨rfl, rfl, rfl⟩ := hcs
    simp only [if_true] at hz
    have hlen : (zs.take len).length = len := by simp; omega
    refine ⟨some a, zs.take len, cap, by rw [hlen], by omega, ?_, ?_⟩
    · refine ⟨by simp only [bytesV, List.length_map]; rw [hlen]; simp only [maxLen] at hm; omega, fun hn => ?_⟩
      have h0 : 0 < len := by
        rcases Nat.eq_zero_or_pos len with h0 | h0
        · subst h0; simp [bytesV] at hn
        · exact h0
      obtain ⟨b, o, spot⟩ := a
      have hs : spot = none := by
        have := hcell 0 (by omega)
        cases spot with
        | none => rfl
        | some x => simp [Addr.add, World.cell?] at this; split at this <;> simp at this
      subst hs
      refine ⟨b, o, rfl, fun j u hu => ?_⟩
      have hj : j < (bytesV (zs.take len)).length := (List.getElem?_eq_some_iff.1 hu).1
      simp only [bytesV, List.length_map, hlen] at hj
      have := hcell j (by omega)
      rw [Addr.add_lit] at this
      rw [this]
      simp [bytesV, hj, List.getElem?_eq_getElem (show j < zs.length by omega)] at hu
      simp [List.getD, List.getElem?_eq_getElem (show j < zs.length by omega), hu]
    · intro b hb
      have := hwz b (List.mem_of_mem_take hb)
      simp only [Lit.wf, Bool.and_eq_true, decide_eq_true_eq] at this
      have h1 : IntKind.u8.min = 0 := by decide
      have h2 : IntKind.u8.max = 255 := by decide
      omega
end
end Go.Proofs.YtdedajohkdbdkaaGreatDoor
