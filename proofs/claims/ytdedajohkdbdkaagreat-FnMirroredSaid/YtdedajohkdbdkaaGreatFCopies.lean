/- Contracts of copyLists (of the program), l15Lists and l15Swap (of the reference); two rows exchanged. -/
import Derived.Test.YtdedajohkdbdkaaGreatMem
import Derived.Test.YtdedajohkdbdkaaGreatFCodes
namespace Go.Proofs.YtdedajohkdbdkaaGreat
set_option linter.unusedVariables false
open Go.RowKit
set_option maxRecDepth 100000 in
set_option maxHeartbeats 4000000 in
theorem copyLists_any (A : Option Addr) (c : Nat) (xss : List (List Int)) (w : World) (h : RII w A xss) (hn : xss.length ≤ 1000000) (hm : ∀ k (hk : k < xss.length), xss[k].length ≤ 1073741824) :
    Calls Tryz.prog 69 #[.slice A xss.length c] w (ResII w xss) := by
  have hle := h.le
  have HM := Lib.hid hm; clear hm
  go_enter Tryz.func69, Tryz.ntmps69
  go_wp2_with fail
  go_loopw [3, 5, 9] (fun v _ i wr => ∃ (k : Nat) (v0 : Value), k ≤ xss.length ∧ i = .int .i64 k ∧ v = v0 ∧ OII wr w.heap.size wr.heap.size v0 (xss.take k) ∧ Below w.heap.size w wr) (fun _ _ i _ => xss.length - (intOf i).toNat)
  case atStart => exact ⟨0, _, by omega, rfl, rfl, by simpa using (OII.new0 (w := w) (Nat.le_refl _)).wide (Nat.le_refl _) (show w.heap.size + 1 ≤ (w.alloc (.cells #[] 33)).heap.size by simp), (Below.refl _ _).alloc (Nat.le_refl _) _⟩
  case round =>
    obtain ⟨k, v0, hk, rfl, rfl, ho, hb⟩ := hrel
    have HO := Lib.hid ho; clear ho
    have hsz := hb.size
    by_cases hlt : k < xss.length
    · obtain ⟨b, o, A', c', rfl, hc0, hcc, hr⟩ := (h.below hb).at_ hlt
      have HC := Lib.hid (sClone_any A' c' xss[k] wr hr (HM.out k hlt))
      have HS := Lib.hid (show xss.take (k + 1) = xss.take k ++ [xss[k]] from List.take_succ_eq_append_getElem hlt)
      obtain ⟨zs, hzs⟩ : ∃ zs, zs = xss[k] := ⟨_, rfl⟩
      rw [← hzs] at HC HS
      rw [← hzs] at hc0
      have HZ := Lib.hid hzs
      clear hr hzs hcc
      go_wp2_with fail
      refine HC.out.mono ?_
      rintro e w3 ⟨A3, c3, rfl, hc3, r3, o3, b3⟩
      have HO3 := Lib.hid (show OI w3 wr.heap.size w3.heap.size (.slice A3 zs.length c3) zs from o3)
      obtain ⟨us, k1, k2, k3, k4⟩ := HO.out.below b3
      have hul : us.length ≤ 1000000 := by rw [k1, List.length_take]; omega
      have HK := Lib.hid (And.intro k1 (And.intro k3 k4)); clear k1 k3 k4
      have hs3 := b3.size
      clear r3 o3
      go_wp2_with (at_builtin; refine wpList_app1 _ rfl _ _ _ rfl w.heap.size 33 _ 24 Tryz.underlying26 info_sl rfl (by omega) _ us rfl (k2.1.alloc _) _ _ rfl (one_cell _ _ _) rfl (by omega) (by simp; omega) ?_; intro v' w5 ho5 hg5 hn5 hat5)
      have HN := Lib.hid (OII.push1 (ys := zs) HK.out.1 k2 HK.out.2.1 HK.out.2.2 HO3.out.1 hsz hs3 ho5 hg5)
      have HB5 := Lib.hid ((k2.1.alloc (.cells #[.slice A3 zs.length c3] 33)).own (Nat.le_refl _) ((hb.trans (b3.mono hsz)).alloc (by omega) _) hg5 (by simp; omega))
      clear ho5 hg5 hn5 hat5
      go_roundw
      case rel => exact ⟨k + 1, v', by omega, by go_num, rfl, by rw [HS.out]; exact HN.out, HB5.out⟩
      case measure => simp [intOf]; omega
    · obtain rfl : k = xss.length := by omega
      have hoo := HO.out
      rw [List.take_length] at hoo
      have HOO := Lib.hid hoo; clear hoo
      go_wp2_with fail
      go_ret
      exact resII_own HOO.out (Nat.le_refl _) (Nat.le_refl _) hb
set_option maxRecDepth 100000 in
set_option maxHeartbeats 4000000 in
theorem l15Lists_any (A : Option Addr) (c : Nat) (xss : List (List Int)) (w : World) (h : RII w A xss) (hn : xss.length ≤ 1000000) (hm : ∀ k (hk : k < xss.length), xss[k].length ≤ 1073741824) :
    Calls Tryz.prog 123 #[.slice A xss.length c] w (ResII w xss) := by
  have hle := h.le
  have HM := Lib.hid hm; clear hm
  go_enter Tryz.func123, Tryz.ntmps123
  go_wp2_with fail
  go_loopw [3, 4] (fun v i wr => ∃ (k : Nat) (v0 : Value), k ≤ xss.length ∧ i = .int .i64 k ∧ v = v0 ∧ OII wr w.heap.size wr.heap.size v0 (xss.take k) ∧ Below w.heap.size w wr) (fun _ i _ => xss.length - (intOf i).toNat)
  case atStart => exact ⟨0, _, by omega, rfl, rfl, by simpa using (OII.new0 (w := w) (Nat.le_refl _)).wide (Nat.le_refl _) (show w.heap.size + 1 ≤ (w.alloc (.cells #[] 33)).heap.size by simp), (Below.refl _ _).alloc (Nat.le_refl _) _⟩
  case round =>
    obtain ⟨k, v0, hk, rfl, rfl, ho, hb⟩ := hrel
    have HO := Lib.hid ho; clear ho
    have hsz := hb.size
    by_cases hlt : k < xss.length
    · obtain ⟨b, o, A', c', rfl, hc0, hcc, hr⟩ := (h.below hb).at_ hlt
      have HC := Lib.hid (l01Own_any A' c' xss[k] wr hr (HM.out k hlt))
      have HS := Lib.hid (show xss.take (k + 1) = xss.take k ++ [xss[k]] from List.take_succ_eq_append_getElem hlt)
      obtain ⟨zs, hzs⟩ : ∃ zs, zs = xss[k] := ⟨_, rfl⟩
      rw [← hzs] at HC HS
      rw [← hzs] at hc0
      have HZ := Lib.hid hzs
      clear hr hzs hcc
      go_wp2_with fail
      refine HC.out.mono ?_
      rintro e w3 ⟨A3, c3, rfl, hc3, r3, o3, b3⟩
      have HO3 := Lib.hid (show OI w3 wr.heap.size w3.heap.size (.slice A3 zs.length c3) zs from o3)
      obtain ⟨us, k1, k2, k3, k4⟩ := HO.out.below b3
      have hul : us.length ≤ 1000000 := by rw [k1, List.length_take]; omega
      have HK := Lib.hid (And.intro k1 (And.intro k3 k4)); clear k1 k3 k4
      have hs3 := b3.size
      clear r3 o3
      go_wp2_with (at_builtin; refine wpList_app1 _ rfl _ _ _ rfl w.heap.size 33 _ 24 Tryz.underlying26 info_sl rfl (by omega) _ us rfl (k2.1.alloc _) _ _ rfl (one_cell _ _ _) rfl (by omega) (by simp; omega) ?_; intro v' w5 ho5 hg5 hn5 hat5)
      have HN := Lib.hid (OII.push1 (ys := zs) HK.out.1 k2 HK.out.2.1 HK.out.2.2 HO3.out.1 hsz hs3 ho5 hg5)
      have HB5 := Lib.hid ((k2.1.alloc (.cells #[.slice A3 zs.length c3] 33)).own (Nat.le_refl _) ((hb.trans (b3.mono hsz)).alloc (by omega) _) hg5 (by simp; omega))
      clear ho5 hg5 hn5 hat5
      go_roundw
      case rel => exact ⟨k + 1, v', by omega, by go_num, rfl, by rw [HS.out]; exact HN.out, HB5.out⟩
      case measure => simp [intOf]; omega
    · obtain rfl : k = xss.length := by omega
      have hoo := HO.out
      rw [List.take_length] at hoo
      have HOO := Lib.hid hoo; clear hoo
      go_wp2_with fail
      go_ret
      exact resII_own HOO.out (Nat.le_refl _) (Nat.le_refl _) hb
/-! ### one row put in another's place -/
/-- Row k of a nest of the call's own now is u, whose numbers lie in blocks of their own (from C to D - 1, behind the nest's). -/
theorem OIIu.put {w : World} {B C D g c n : Nat} {u : Value} {us : List Value} {xss : List (List Int)} {ys : List Int} (h : OIIu w B C (.slice (some ⟨g, 0, none⟩) n c) us xss) (hn : n = us.length) {k : Nat} (hk : k < xss.length) (hu : OI w C D u ys) (hBC : B ≤ C) (hCD : C ≤ D) :
    OIIu (w.setCell ⟨g, k, none⟩ u) B D (.slice (some ⟨g, 0, none⟩) n c) (us.set k u) (xss.set k ys) := by
  subst hn
  obtain ⟨h1, h2, h3, h4⟩ := h
  have hgC : g < C := h2.2 g rfl
  have hkp : ∀ (B' C' : Nat) (u0 : Value) (zs : List Int), OI w B' C' u0 zs → OI (w.setCell ⟨g, k, none⟩ u) B' C' u0 zs := by
    intro B' C' u0 zs h0
    refine ⟨h0.1.same fun x hx => ?_, h0.2⟩
    by_cases hxg : x = g
    · subst hxg
      obtain ⟨cs, fr, hh, _⟩ := h0.1.block_ty hx
      obtain ⟨cs2, fr2, hh2, _⟩ := h2.1.block_ty (g := x) rfl
      rw [hh] at hh2
      injection hh2 with hh2
      injection hh2 with _ ht
      exact absurd ht (by decide)
    · simp [World.setCell, Array.getElem?_modify, Ne.symm hxg]
  have hst := (show OV w B 33 (.slice (some ⟨g, 0, none⟩) us.length c) us from h2.1).stored k u
  refine ⟨by simp [h1], ⟨by unfold OV; rw [List.length_set]; exact hst.1, fun x hx => Nat.lt_of_lt_of_le (h2.2 x hx) hCD⟩, fun j hj => ?_, fun i j a b hij ha hb x hxa hxb => ?_⟩
  · have hj0 : j < xss.length := by simpa using hj
    by_cases hjk : j = k
    · subst hjk
      exact ⟨u, by rw [List.getElem?_set_self (by omega)], by simpa using (hkp _ _ _ _ hu).wide hBC (Nat.le_refl _)⟩
    · obtain ⟨u0, hu0, ho0⟩ := h3 j hj0
      refine ⟨u0, by rw [List.getElem?_set_ne (Ne.symm hjk)]; exact hu0, ?_⟩
      have e : (xss.set k ys)[j]'hj = xss[j] := by rw [List.getElem_set]; simp [Ne.symm hjk]
      rw [e]
      exact (hkp _ _ _ _ ho0).wide (Nat.le_refl _) hCD
  · have cases' : ∀ (q : Nat) (y : Value), (us.set k u)[q]? = some y → (q = k ∧ y = u) ∨ (q ≠ k ∧ us[q]? = some y) := by
      intro q y hy
      by_cases hqk : q = k
      · subst hqk
        have hl : q < us.length := by rw [h1]; exact hk
        rw [List.getElem?_set_self hl] at hy
        exact .inl ⟨rfl, (Option.some.inj hy).symm⟩
      · rw [List.getElem?_set_ne (Ne.symm hqk)] at hy
        exact .inr ⟨hqk, hy⟩
    have old : ∀ (q : Nat) (y : Value), us[q]? = some y → ∀ x, y.ownBlock = some x → x < C := by
      intro q y hy x hx
      have hq : q < xss.length := by have := (List.getElem?_eq_some_iff.1 hy).1; omega
      obtain ⟨u0, hu0, ho0⟩ := h3 q hq
      rw [hy] at hu0; injection hu0 with hu0; subst hu0
      exact ho0.2 x hx
    rcases cases' i a ha with ⟨rfl, rfl⟩ | ⟨hi, ha'⟩
    · rcases cases' j b hb with ⟨rfl, rfl⟩ | ⟨hj, hb'⟩
      · exact hij rfl
      · have := old j b hb' x hxb; have := (hu.1.lt x hxa).1; omega
    · rcases cases' j b hb with ⟨rfl, rfl⟩ | ⟨hj, hb'⟩
      · have := old i a ha' x hxa; have := (hu.1.lt x hxb).1; omega
      · exact h4 i j a b hij ha' hb' x hxa hxb
/-- Two rows of a nest of the call's own have been exchanged. -/
def swapL {α : Type} (xs : List α) (a b : Nat) (d : α) : List α := (xs.set a (xs.getD b d)).set b (xs.getD a d)
theorem swapL_get {α : Type} {xs : List α} {a b j : Nat} {d : α} (ha : a < xs.length) (hb : b < xs.length) (hj : j < xs.length) : (swapL xs a b d)[j]? = some (if j = b then xs[a] else if j = a then xs[b] else xs[j]) := by
  unfold swapL
  by_cases h1 : j = b
  · subst h1
    rw [List.getElem?_set_self (by simpa using hb), if_pos rfl]; simp [List.getD, List.getElem?_eq_getElem ha]
  · rw [List.getElem?_set_ne (Ne.symm h1), if_neg h1]
    by_cases h2 : j = a
    · subst h2
      rw [List.getElem?_set_self ha, if_pos rfl]; simp [List.getD, List.getElem?_eq_getElem hb]
    · rw [List.getElem?_set_ne (Ne.symm h2), if_neg h2, List.getElem?_eq_getElem hj]
theorem swapL_length {α : Type} (xs : List α) (a b : Nat) (d : α) : (swapL xs a b d).length = xs.length := by simp [swapL]
theorem OIIu.swap {w : World} {B C g c n : Nat} {us : List Value} {xss : List (List Int)} (h : OIIu w B C (.slice (some ⟨g, 0, none⟩) n c) us xss) (hn : n = us.length) {a b : Nat} (ha : a < xss.length) (hb : b < xss.length) :
    OIIu ((w.setCell ⟨g, a, none⟩ (us.getD b undef)).setCell ⟨g, b, none⟩ (us.getD a undef)) B C (.slice (some ⟨g, 0, none⟩) n c) (swapL us a b undef) (swapL xss a b []) := by
  subst hn
  obtain ⟨h1, h2, h3, h4⟩ := h
  have ha' : a < us.length := by omega
  have hb' : b < us.length := by omega
  have hkp : ∀ (B' C' : Nat) (u0 : Value) (zs : List Int), OI w B' C' u0 zs → OI ((w.setCell ⟨g, a, none⟩ (us.getD b undef)).setCell ⟨g, b, none⟩ (us.getD a undef)) B' C' u0 zs := by
    intro B' C' u0 zs h0
    refine ⟨h0.1.same fun x hx => ?_, h0.2⟩
    by_cases hxg : x = g
    · subst hxg
      obtain ⟨cs, fr, hh, _⟩ := h0.1.block_ty hx
      obtain ⟨cs2, fr2, hh2, _⟩ := h2.1.block_ty (g := x) rfl
      rw [hh] at hh2
      injection hh2 with hh2
      injection hh2 with _ ht
      exact absurd ht (by decide)
    · simp [World.setCell, Array.getElem?_modify, Ne.symm hxg]
  have hst := (show OV w B 33 (.slice (some ⟨g, 0, none⟩) us.length c) us from h2.1).stored a (us.getD b undef)
  have hst2 := (show World.ownsRow (w.setCell ⟨g, a, none⟩ (us.getD b undef)) B 33 1 (.slice (some ⟨g, 0, none⟩) us.length c) us.length (us.set a (us.getD b undef)) from hst.1).stored b (us.getD a undef)
  -- which place of the old row stands at place j
  let p : Nat → Nat := fun j => if j = b then a else if j = a then b else j
  have hp : ∀ j, j < us.length → p j < us.length := by intro j hj; show (if j = b then a else if j = a then b else j) < us.length; split <;> (try split) <;> omega
  have hpi : ∀ i j, i < us.length → j < us.length → i ≠ j → p i ≠ p j := by
    intro i j hi hj hij
    show (if i = b then a else if i = a then b else i) ≠ (if j = b then a else if j = a then b else j)
    split <;> split <;> (try split) <;> (try split) <;> omega
  have hus : ∀ j, j < us.length → (swapL us a b undef)[j]? = us[p j]? := by
    intro j hj
    rw [swapL_get ha' hb' hj]
    show _ = us[if j = b then a else if j = a then b else j]?
    by_cases e1 : j = b
    · simp only [if_pos e1]; rw [List.getElem?_eq_getElem ha']
    · by_cases e2 : j = a
      · simp only [if_neg e1, if_pos e2]; rw [List.getElem?_eq_getElem hb']
      · simp only [if_neg e1, if_neg e2]; rw [List.getElem?_eq_getElem hj]
  refine ⟨by rw [swapL_length, swapL_length, h1], ⟨by unfold OV; rw [swapL_length]; exact hst2.1, h2.2⟩, fun j hj => ?_, fun i j x y hij hx hy q hq1 hq2 => ?_⟩
  · have hj0 : j < xss.length := by rw [swapL_length] at hj; exact hj
    have hju : j < us.length := by omega
    have hpj := hp j hju
    obtain ⟨u0, hu0, ho0⟩ := h3 (p j) (by omega)
    refine ⟨u0, by rw [hus j hju]; exact hu0, ?_⟩
    have e : (swapL xss a b [])[j]'hj = xss[p j]'(by omega) := by
      have h5 := swapL_get (d := ([] : List Int)) ha hb hj0
      rw [List.getElem?_eq_getElem hj] at h5
      have h6 := Option.some.inj h5
      rw [h6]
      show _ = xss[if j = b then a else if j = a then b else j]'_
      by_cases e1 : j = b
      · simp only [if_pos e1]
      · by_cases e2 : j = a
        · simp only [if_neg e1, if_pos e2]
        · simp only [if_neg e1, if_neg e2]
    rw [e]
    exact hkp _ _ _ _ ho0
  · have hi : i < us.length := by have := (List.getElem?_eq_some_iff.1 hx).1; rw [swapL_length] at this; exact this
    have hj : j < us.length := by have := (List.getElem?_eq_some_iff.1 hy).1; rw [swapL_length] at this; exact this
    rw [hus i hi] at hx
    rw [hus j hj] at hy
    exact h4 (p i) (p j) x y (hpi i j hi hj hij) hx hy q hq1 hq2
end Go.Proofs.YtdedajohkdbdkaaGreat
