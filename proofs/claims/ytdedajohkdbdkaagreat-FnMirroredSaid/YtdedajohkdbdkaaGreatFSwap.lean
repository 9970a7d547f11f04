/- Contract of l15Swap (of the reference). -/
import Derived.Test.YtdedajohkdbdkaaGreatFCopies
namespace Go.Proofs.YtdedajohkdbdkaaGreat
set_option linter.unusedVariables false
open Go.RowKit
/-- The header of row k of a nest of the call's own: its cell, and that it is free to be written. -/
theorem OIIu.row {w : World} {B C g c n : Nat} {us : List Value} {xss : List (List Int)} (h : OIIu w B C (.slice (some ⟨g, 0, none⟩) n c) us xss) {k : Nat} (hk : k < xss.length) :
    B ≤ g ∧ g < C ∧ w.frozen? ⟨g, k, none⟩ = false ∧ ∃ A' c', us[k]? = some (.slice A' xss[k].length c') ∧ w.cell? ⟨g, k, none⟩ = some (.slice A' xss[k].length c') ∧ xss[k].length ≤ c' ∧ RI w A' xss[k] := by
  obtain ⟨h1, h2, h3, h4⟩ := h
  obtain ⟨u, hu, ho⟩ := h3 k hk
  obtain ⟨A', c', rfl, hc', hr'⟩ := OR.readsI (xs := xss[k]) ho
  have hg := h2.2 g rfl
  have hl := (h2.1.lt g rfl).1
  obtain ⟨A9, c9, e9, _, hr9⟩ := h2.1.reads
  injection e9 with e91 e92 e93
  subst e91
  have hkl : k < us.length := by omega
  obtain ⟨b, o, e, hcell⟩ := hr9.at_ hkl
  injection e with e; injection e with e1 e2 _; subst e1 e2
  rw [Nat.zero_add] at hcell
  have hu2 : us[k] = .slice A' xss[k].length c' := by rw [List.getElem?_eq_getElem hkl] at hu; exact Option.some.inj hu
  refine ⟨hl, hg, ?_, A', c', hu, by rw [hcell, hu2], hc', hr'⟩
  subst e92
  have h5 : World.ownsRow w B 33 1 (.slice (some ⟨g, 0, none⟩) us.length c) us.length us := h2.1
  exact h5.frozenAt k
theorem OIIu.keep' {w w' : World} {B C : Nat} {v : Value} {us : List Value} {xss : List (List Int)} (h : OIIu w B C v us xss) (hb : Below C w w') : OIIu w' B C v us xss := by
  obtain ⟨h1, h2, h3, h4⟩ := h
  exact ⟨h1, h2.below hb, fun j hj => by obtain ⟨u, a, b⟩ := h3 j hj; exact ⟨u, a, b.below hb⟩, h4⟩
set_option maxRecDepth 100000 in
set_option maxHeartbeats 4000000 in
theorem l15Swap_any (A : Option Addr) (c : Nat) (xss : List (List Int)) (a b : Nat) (w : World) (h : RII w A xss) (hn : xss.length ≤ 1000000) (hm : ∀ k (hk : k < xss.length), xss[k].length ≤ 1073741824) (ha : a < xss.length) (hb : b < xss.length) :
    Calls Tryz.prog 71 #[.slice A xss.length c, .int .i64 (a : Int), .int .i64 (b : Int)] w (ResII w (swapL xss a b [])) := by
  have hle := h.le
  have HLI := Lib.hid (l15Lists_any A c xss w h hn hm)
  have HOW := Lib.hid (fun (k : Nat) (hk : k < xss.length) (W : World) (A' : Option Addr) (c' : Nat) (hr : RI W A' xss[k]) => l01Own_any A' c' xss[k] W hr (hm k hk))
  have i0 : (0 : Int) ≤ (a : Int) := by omega
  have i1 : (a : Int) < (xss.length : Int) := by omega
  have i2 : (0 : Int) ≤ (b : Int) := by omega
  have i3 : (b : Int) < (xss.length : Int) := by omega
  clear hm
  go_enter Tryz.func71, Tryz.ntmps71
  go_wp2_with fail
  refine HLI.out.mono ?_
  rintro e w1 ⟨A1, c1, rfl, hc1, r1, ⟨us, ho1⟩, b1⟩
  obtain ⟨g, c9, e9, _⟩ := World.ownsRow.form (show World.ownsRow w1 w.heap.size 33 1 (.slice A1 xss.length c1) us.length us from ho1.2.1.1) (by have := ho1.1; omega)
  injection e9 with e91 e92 e93
  subst e91 e93
  clear e92
  obtain ⟨bA, oA, AB, cB, rfl, hcB, hccB, hrB⟩ := (h.below b1).at_ hb
  obtain ⟨xb, hxb⟩ : ∃ xb, xb = xss[b] := ⟨_, rfl⟩
  have HB := Lib.hid (HOW.out b hb w1 AB cB hrB)
  rw [← hxb] at HB hcB
  have HXB := Lib.hid hxb; clear hxb
  have hcA := (h.below b1).cell ha
  have HO1 := Lib.hid (show OIIu w1 w.heap.size w1.heap.size (.slice (some ⟨g, 0, none⟩) xss.length c1) us xss from ho1); have Hb1 := Lib.hid b1
  have hs1 := b1.size
  clear r1 ho1
  go_wp2_with fail
  refine HB.out.mono ?_
  rintro e w2 ⟨A2, c2, rfl, hc2, r2, o2, b2⟩
  have k2 := HO1.out.keep' b2
  obtain ⟨hg1, hg2, fzA, Ax, cx, _, czA, _, _⟩ := k2.row ha
  have hs2 := b2.size
  obtain ⟨AA, cA, hcA1, hccA, hrA⟩ := hcA
  have hbA := World.block_lt_of_cell? w _ (show w.cell? ⟨bA, oA + a, none⟩ = some (.slice AA xss[a].length cA) from by
    obtain ⟨A0, c0, h0, _, _⟩ := h.cell ha
    have := cell_in Hb1.out (World.block_lt_of_cell? w _ h0) h0
    rw [hcA1] at this; rw [h0, ← this])
  simp only at hbA
  obtain ⟨xa, hxa⟩ : ∃ xa, xa = xss[a] := ⟨_, rfl⟩
  obtain ⟨X, hX⟩ : ∃ X, X = w2.setCell ⟨g, a, none⟩ (.slice A2 xb.length c2) := ⟨_, rfl⟩
  have hXc : X.cell? ⟨bA, oA + a, none⟩ = some (.slice AA xa.length cA) := by
    rw [hX, hxa]; exact (World.cell?_setCell_far _ _ _ _ (by show g ≠ bA; omega)).trans (cell_in b2 (by show bA < _; omega) hcA1)
  have p1 : OIIu X w.heap.size w2.heap.size (.slice (some ⟨g, 0, none⟩) xss.length c1) (us.set a (.slice A2 xb.length c2)) (xss.set a xb) := by
    rw [hX]; exact k2.put (by rw [HO1.out.1]) ha o2 (by omega) hs2
  have HP1 := Lib.hid p1
  have HBX := Lib.hid (show Below w.heap.size w X by rw [hX]; exact (Hb1.out.trans (b2.mono hs1)).setCell (by show w.heap.size ≤ g; omega) _)
  have hXs : X.heap.size = w2.heap.size := by rw [hX]; simp
  have HXS := Lib.hid hXs
  have HA := Lib.hid (fun (hr : RI X AA xss[a]) => HOW.out a ha X AA cA hr)
  have hrX : RI X AA xss[a] := by
    obtain ⟨A0, c0, h0, _, r0⟩ := (h.below HBX.out).cell ha
    rw [hXc, hxa] at h0
    injection h0 with h0; injection h0 with h0 _ _; subst h0; exact r0
  have HA2 := Lib.hid (HA.out hrX)
  rw [← hxa] at HA2
  have hX2 : w2.setCell ⟨g, a, none⟩ (.slice A2 xb.length c2) = X := hX.symm
  rw [hX] at hXc
  have HX2 := Lib.hid hX2
  have HXA := Lib.hid hxa
  clear hX hX2 hXs hxa hcA1 hccA hrA p1 k2 r2 o2 b2 hrX HA hcB
  go_wp2_with fail
  rw [HX2.out]
  refine HA2.out.mono ?_
  rintro e w3 ⟨A3, c3, rfl, hc3, r3, o3, b3⟩
  have k3 := HP1.out.keep' (b3.mono (by rw [HXS.out]; exact Nat.le_refl _))
  obtain ⟨_, _, fzB, Ay, cy, _, czB, _, _⟩ := k3.row (k := b) (by rw [List.length_set]; exact hb)
  have hs3 := b3.size
  have p2 : OIIu (w3.setCell ⟨g, b, none⟩ (.slice A3 xa.length c3)) w.heap.size w3.heap.size (.slice (some ⟨g, 0, none⟩) xss.length c1) ((us.set a (.slice A2 xb.length c2)).set b (.slice A3 xa.length c3)) ((xss.set a xb).set b xa) :=
    k3.put (by rw [List.length_set, HO1.out.1]) (by rw [List.length_set]; exact hb) (o3.wide (by rw [HXS.out]; exact Nat.le_refl _) (Nat.le_refl _)) (by omega) (by rw [HXS.out] at hs3; exact hs3)
  have HP2 := Lib.hid p2
  have HB3 := Lib.hid ((HBX.out.trans (b3.mono HBX.out.size)).setCell (p := ⟨g, b, none⟩) (by show w.heap.size ≤ g; omega) (.slice A3 xa.length c3))
  have HSW := Lib.hid (show swapL xss a b [] = (xss.set a xb).set b xa by unfold swapL; rw [HXB.out, HXA.out, getD_row ha, getD_row hb])
  clear p2 k3 o3 r3 b3 hXc
  go_wp2_with fail
  go_ret
  rw [HSW.out]
  exact resII_own HP2.out.ex (Nat.le_refl _) (by simp) HB3.out
end Go.Proofs.YtdedajohkdbdkaaGreat
