/- Contracts of l16With and l16Candidates. -/
import Derived.Test.YtapocenhmdcfoaaGreatFNextK
import Derived.Test.YtapocenhmdcfoaaGreatFStays
import Derived.Deep.LoopGhost
namespace Go.Proofs.YtapocenhmdcfoaaGreat
set_option linter.unusedVariables false
open Go.RowKit
theorem RII.n {w : World} {A : Option Addr} {xss : List (List Int)} (h : RII w A xss) : RIIn (fun _ => False) w A xss := by
  obtain ⟨us, h1, h2, h3⟩ := h
  exact ⟨us, h1, h2, fun _ _ _ _ => id, fun j hj => by obtain ⟨A', c, a, b, d⟩ := h3 j hj; exact ⟨A', c, a, b, d, fun _ _ _ _ => id⟩⟩
theorem ri_block' {w : World} {A : Option Addr} {b o : Nat} {us : List Value} (h : RV w A us) (h0 : 0 < us.length) (e : A = some ⟨b, o, none⟩) : b < w.heap.size := by
  subst e; exact ri_block h (fun e => by rw [e] at h0; simp at h0)
/-- what reads now does not lie in blocks to come -/
theorem RII.nF {w : World} {A : Option Addr} {xss : List (List Int)} (h : RII w A xss) {F : Nat → Prop} (hF : ∀ g, F g → w.heap.size ≤ g) : RIIn F w A xss := by
  obtain ⟨us, h1, h2, h3⟩ := h
  exact ⟨us, h1, h2, fun h0 b o e hf => by have := ri_block' h2 (by omega) e; have := hF b hf; omega, fun j hj => by
    obtain ⟨A', c, a, b, d⟩ := h3 j hj
    exact ⟨A', c, a, b, d, fun h0 b o e hf => by have := ri_block' d (by rw [ints_length]; exact h0) e; have := hF b hf; omega⟩⟩
/-- one list more -/
theorem RIIn.snoc {F : Nat → Prop} {w : World} {B : Nat} {v : Value} {us : List Value} {xss : List (List Int)} {K : Option Addr} {q : Nat} {key : List Int} (ho : OV w B 47 v (us ++ [.slice K key.length q])) (h1 : us.length = xss.length)
    (h4 : ∀ j (hj : j < xss.length), ∃ A' c, us[j]? = some (.slice A' xss[j].length c) ∧ xss[j].length ≤ c ∧ RI w A' xss[j] ∧ NF F A' xss[j].length)
    (hq : key.length ≤ q) (hk : RI w K key) (nk : NF F K key.length) (nv : ∀ g, v.ownBlock = some g → ¬ F g) :
    ∃ A c, v = .slice A (xss ++ [key]).length c ∧ (xss ++ [key]).length ≤ c ∧ RIIn F w A (xss ++ [key]) := by
  obtain ⟨A, c, rfl, hc, hr⟩ := ho.reads
  have e : (us ++ [Value.slice K key.length q]).length = (xss ++ [key]).length := by simp [h1]
  rw [e] at hc nv ⊢
  refine ⟨A, c, rfl, hc, us ++ [.slice K key.length q], e, hr, fun _ b o hA => nv b (by rw [hA]; rfl), fun j hj => ?_⟩
  by_cases hx : j < xss.length
  · rw [List.getElem?_append_left (by omega), List.getElem_append_left hx]; exact h4 j hx
  · have : j = xss.length := by simp at hj; omega
    subst this
    rw [List.getElem?_append_right (by omega), List.getElem_append_right (by omega)]
    simp only [h1, Nat.sub_self, List.getElem?_cons_zero, List.getElem_cons_zero]
    exact ⟨K, q, rfl, hq, hk, nk⟩
set_option maxRecDepth 100000 in
set_option maxHeartbeats 4000000 in
theorem l16With_any (F : Nat → Prop) (A : Option Addr) (c : Nat) (cuts : List (List Int)) (K : Option Addr) (q : Nat) (key : List Int) (w : World) (h : RIIn F w A cuts) (hn : cuts.length ≤ 1000000) (hk : RI w K key) (hq : key.length ≤ q)
    (nk : NF F K key.length) (hF : ∀ g, F g → g < w.heap.size) :
    Calls Tryz.prog 37 #[.slice A cuts.length c, .slice K key.length q] w fun e w' => ∃ A' c', e = .returned (.slice A' (cuts ++ [key]).length c') ∧ (cuts ++ [key]).length ≤ c' ∧ RIIn F w' A' (cuts ++ [key]) ∧ Below w.heap.size w w' := by
  obtain ⟨us, h1, h2, h3, h4⟩ := h
  have hle := h2.1
  have B0 := (Below.refl w.heap.size w).alloc (Nat.le_refl _) (.cells #[] 47)
  have h2' := RV.below h2 B0
  have H4 := Lib.hid h4
  have HK := Lib.hid hk
  have HB0 := Lib.hid B0
  have hone : ∀ u ∈ us, u.oneCell' = true := by
    intro u hu
    obtain ⟨j, hj, rfl⟩ := List.getElem_of_mem hu
    obtain ⟨A', c', a, _⟩ := h4 j (by omega)
    rw [List.getElem?_eq_getElem hj] at a
    injection a with a
    rw [a]; rfl
  have HONE := Lib.hid hone
  have h1' := h1.symm
  have HH := Lib.hid (And.intro h1 (And.intro h2 h3)); clear h1 h2 h3 h4 hk hone B0
  go_enter Tryz.func37, Tryz.ntmps37
  go_wp2_with (first
    | (at_builtin; refine wpList_app _ rfl _ _ _ rfl w.heap.size 47 _ 24 Tryz.underlying24 info_sl rfl _ [] rfl (OV.new0 (Nat.le_refl _)) _ _ _ us rfl h1' h2' HONE.out (by simp; omega) (by simp; omega) (by simp) ?_; intro v2 w2 ho2 hg2 hn2 hat2; rw [List.nil_append] at ho2; have hb2 := (OV.new0 (w := w) (B := w.heap.size) (e := 47) (Nat.le_refl _)).own (Nat.le_refl _) HB0.out hg2 HB0.out.size; obtain ⟨A2, c2, rfl, _, _⟩ := ho2.reads; have Hb2 := Lib.hid hb2; have hs2 := hb2.size; clear hg2 hn2 hat2 h2')
    | (at_builtin; refine wpList_app1 _ rfl _ _ _ rfl w.heap.size 47 _ 24 Tryz.underlying24 info_sl rfl (by omega) _ us rfl (ho2.alloc _) _ _ rfl (one_cell _ _ _) rfl (by omega) (by simp; omega) ?_; intro v4 w4 ho4 hg4 hn4 hat4; have hb4 := (ho2.alloc _).own (Nat.le_refl _) (Hb2.out.alloc hs2 _) hg4 (by simp; omega); have Hb4 := Lib.hid hb4; clear hn4 hat4 hg4))
  go_wp2_with fail
  go_ret
  obtain ⟨A', c', rfl, hc, hr⟩ := RIIn.snoc (F := F) ho4 HH.out.1 (fun j hj => by
      obtain ⟨A', c, a, b, d, e⟩ := H4.out j hj
      exact ⟨A', c, a, b, d.below Hb4.out, e⟩) hq (HK.out.below Hb4.out) nk (fun g hg hf => by have := (ho4.lt g hg).1; have := hF g hf; omega)
  exact ⟨A', c', rfl, hc, hr, Hb4.out⟩
theorem cand_done {p : List Int → Bool} {all done rest outl : List (List Int)} {most : Nat} (h1 : all = done ++ rest) (h2 : outl = done.filter p) (h3 : outl.length ≤ most) (h : rest = [] ∨ outl.length = most) : outl = (all.filter p).take most := by
  subst h1
  rw [List.filter_append, ← h2]
  rcases h with h | h
  · subst h; rw [List.filter_nil, List.append_nil, List.take_of_length_le h3]
  · rw [List.take_append_of_le_length (by omega), List.take_of_length_le (by omega)]
theorem filter_yes {p : List Int → Bool} {done outl : List (List Int)} {x : List Int} (h : outl = done.filter p) (hp : p x = true) : outl ++ [x] = (done ++ [x]).filter p := by
  rw [List.filter_append, ← h, List.filter_cons, if_pos hp, List.filter_nil]
theorem filter_not {p : List Int → Bool} {done outl : List (List Int)} {x : List Int} (h : outl = done.filter p) (hp : p x = false) : outl = (done ++ [x]).filter p := by
  rw [List.filter_append, ← h, List.filter_cons, if_neg (by rw [hp]; simp), List.filter_nil, List.append_nil]
theorem PartOK.snoc {m : Mk} {t cuts : List (List Int)} {key : List Int} (h : PartOK m t cuts) (hl : cuts.length < t.length) (hk : isKey m key = true) : PartOK m t (cuts ++ [key]) :=
  ⟨h.mak, h.t1, h.t10, h.row, by simp; omega, fun j hj => by
    by_cases hx : j < cuts.length
    · rw [List.getElem_append_left hx]; exact h.keys j hx
    · rw [List.getElem_append_right (by omega)]
      have : j - cuts.length = 0 := by simp at hj; omega
      simp only [this, List.getElem_cons_zero]; exact hk⟩
end Go.Proofs.YtapocenhmdcfoaaGreat
