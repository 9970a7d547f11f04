/- Plain laws: mirrored keys; rows that are exchanged. No program. -/
import Derived.Test.YtdedajohkdbdkaaGreatPSysLaw
import Derived.Test.YtdedajohkdbdkaaGreatFMirror
import Derived.Test.YtdedajohkdbdkaaGreatFSwapKeys
namespace Go.Proofs.YtdedajohkdbdkaaGreat
set_option linter.unusedVariables false
theorem mirror_getD {m : Mk} {xs : List Int} {i : Nat} (h : i < xs.length) : (mirror m xs).getD i 0 = m.d - 1 - xs.getD i 0 := by
  unfold mirror
  simp [List.getD, List.getElem?_eq_getElem h]
theorem mirror_take (m : Mk) (xs : List Int) (k : Nat) : (mirror m xs).take k = mirror m (xs.take k) := by unfold mirror; rw [List.map_take]
theorem mirror_mirror (m : Mk) (xs : List Int) : mirror m (mirror m xs) = xs := by
  unfold mirror
  rw [List.map_map]
  conv => rhs; rw [← List.map_id xs]
  apply List.map_congr_left; intro x _; simp only [Function.comp, id]; omega
theorem takeWhile_mirror (D x : Int) : ∀ r : List Int, ((r.map fun y => D - y).takeWhile (· == D - x)).length = (r.takeWhile (· == x)).length
  | [] => rfl
  | y :: r => by
    rw [List.map_cons, List.takeWhile_cons, List.takeWhile_cons]
    have e : (D - y == D - x) = (y == x) := by
      rw [Bool.eq_iff_iff, beq_iff_eq, beq_iff_eq]; omega
    rw [e]
    split
    · rw [List.length_cons, List.length_cons, takeWhile_mirror D x r]
    · rfl
theorem endRun_mirror (m : Mk) (xs : List Int) : endRun (mirror m xs) = endRun xs := by
  unfold endRun mirror
  rw [← List.map_reverse]
  cases xs.reverse with
  | nil => rfl
  | cons x r => simp only [List.map_cons]; rw [takeWhile_mirror]
theorem hasI_mirror (m : Mk) (xs : List Int) (x : Int) : hasI (mirror m xs) (m.d - 1 - x) = hasI xs x := by
  rw [Bool.eq_iff_iff, hasI_iff, hasI_iff]
  unfold mirror
  rw [List.mem_map]
  constructor
  · rintro ⟨y, hy, e⟩
    have : y = x := by omega
    rwa [this] at hy
  · intro h; exact ⟨x, h, rfl⟩
theorem steps_mirror (m : Mk) (s : Int) (xs : List Int) : stepsOK s (mirror m xs) = stepsOK s xs := by
  unfold stepsOK
  rw [mirror_len]
  apply range_congr
  intro i hi
  unfold stepAt
  by_cases h0 : i = 0
  · subst h0; rfl
  · rw [mirror_getD hi, mirror_getD (show i - 1 < xs.length by omega)]
    congr 2
    unfold absI
    refine propext ?_
    constructor <;> intro h <;> omega
theorem runs_mirror (m : Mk) (a : Int) (xs : List Int) : runsOK a (mirror m xs) = runsOK a xs := by
  unfold runsOK
  rw [mirror_len]
  apply range_congr
  intro i hi
  unfold runAt
  rw [mirror_take, endRun_mirror]
theorem kinds_mirror (m : Mk) (xs : List Int) : kinds (mirror m xs) = kinds xs := by
  unfold kinds kindsN
  rw [mirror_len]
  congr 2
  refine List.filter_congr fun i hi => ?_
  have hi := List.mem_range.1 hi
  unfold newAt
  rw [mirror_take, mirror_getD hi, hasI_mirror]
theorem key_mirror {m : Mk} {xs : List Int} (h : isKey m xs = true) : isKey m (mirror m xs) = true := by
  rw [begins_fault] at h ⊢
  unfold begins at h ⊢
  rw [mirror_len, steps_mirror, runs_mirror, kinds_mirror]
  refine ⟨h.1, ?_, h.2.2⟩
  rw [allW_iff] at h ⊢
  intro i hi
  rw [mirror_len] at hi
  have := h.2.1 i hi
  rw [mirror_getD hi]; omega
theorem mirrors_getD (m : Mk) (cuts : List (List Int)) (i : Nat) : (cuts.map (mirror m)).getD i [] = mirror m (cuts.getD i []) := by
  by_cases h : i < cuts.length
  · simp [List.getD, List.getElem?_eq_getElem h]
  · simp [List.getD, List.getElem?_eq_none (show cuts.length ≤ i by omega), mirror]
theorem mirrors_C {m : Mk} {t cuts : List (List Int)} (h : cutsC m t cuts = 0) : cutsC m t (cuts.map (mirror m)) = 0 := by
  obtain ⟨h1, h2, h3⟩ := cutsC_0 h
  unfold cutsC
  rw [if_pos h1, if_pos]
  rw [Bool.and_eq_true, decide_eq_true_eq, List.length_map]
  refine ⟨h2, ?_⟩
  unfold areKeysF at h3 ⊢
  rw [List.all_eq_true] at h3 ⊢
  intro x hx
  obtain ⟨y, hy, rfl⟩ := List.mem_map.1 hx
  exact key_mirror (h3 y hy)
theorem mirror_faulty {m : Mk} {t cuts : List (List Int)} (hp : PartOK m t cuts) {i d : Nat} (h : Faulty t cuts i d) : Faulty t (cuts.map (mirror m)) i d := by
  obtain ⟨h1, h2, h3, h4⟩ := h
  refine ⟨by rw [List.length_map]; exact h1, h2, h3, fun ch hch => ?_⟩
  rw [mirrors_getD, mirror_len] at hch
  obtain ⟨j, a, b, e⟩ := h4 ch hch
  refine ⟨j, by rw [List.length_map]; exact a, b, ?_⟩
  have l1 := isKey_len (hp.key h1); have l2 := isKey_len (hp.key a)
  rw [mirrors_getD, mirrors_getD, mirror_getD (by omega), mirror_getD hch, e]
theorem mirrors_back (m : Mk) (cuts : List (List Int)) : (cuts.map (mirror m)).map (mirror m) = cuts := by
  rw [List.map_map]
  conv => rhs; rw [← List.map_id cuts]
  apply List.map_congr_left; intro x _; exact mirror_mirror m x
/-- a design stays one if all keys are mirrored -/
theorem mirror_open {m : Mk} {t cuts : List (List Int)} (h : cutsC m t cuts = 0) : openPart m t (cuts.map (mirror m)) = openPart m t cuts := by
  have hp := cutsC_ok h
  have hq := cutsC_ok (mirrors_C h)
  rw [Bool.eq_iff_iff, open_iff hp, open_iff hq]
  constructor
  · intro h i d hf; exact h i d (mirror_faulty hp hf)
  · intro h i d hf
    have := mirror_faulty hq hf
    rw [mirrors_back] at this
    exact h i d this
/-! ### exchanged rows -/
/-- the row that lies at j behind the exchange -/
def swI (a b j : Nat) : Nat := if j = b then a else if j = a then b else j
theorem swI_swI (a b j : Nat) : swI a b (swI a b j) = j := by
  unfold swI
  by_cases h1 : j = b
  · subst h1
    rw [if_pos rfl]
    by_cases h2 : a = j
    · rw [if_pos h2]; exact h2
    · rw [if_neg h2, if_pos rfl]
  · rw [if_neg h1]
    by_cases h2 : j = a
    · subst h2; rw [if_pos rfl, if_pos rfl]
    · rw [if_neg h2, if_neg h1, if_neg h2]
theorem swI_lt {a b j n : Nat} (ha : a < n) (hb : b < n) (hj : j < n) : swI a b j < n := by
  unfold swI; split
  · exact ha
  · split
    · exact hb
    · exact hj
theorem swap_len {α : Type} (xs : List α) (a b : Nat) (d : α) : (swapL xs a b d).length = xs.length := by simp [swapL]
theorem swap_getD {xs : List (List Int)} {a b : Nat} (ha : a < xs.length) (hb : b < xs.length) {j : Nat} (hj : j < xs.length) : (swapL xs a b []).getD j [] = xs.getD (swI a b j) [] := by
  have := swapL_get (d := []) ha hb hj
  unfold swI
  rw [show (swapL xs a b []).getD j [] = ((swapL xs a b [])[j]?).getD [] from rfl, this, Option.getD_some]
  split
  · rw [getD_row ha]
  · split
    · rw [getD_row hb]
    · rw [getD_row hj]
theorem swap_mem {xs : List (List Int)} {a b : Nat} (ha : a < xs.length) (hb : b < xs.length) {x : List Int} (h : x ∈ swapL xs a b []) : x ∈ xs := by
  obtain ⟨j, hj, rfl⟩ := List.getElem_of_mem h
  rw [swap_len] at hj
  have := swap_getD ha hb hj
  rw [getD_row (by rw [swap_len]; exact hj), getD_row (swI_lt ha hb hj)] at this
  rw [this]; exact List.getElem_mem _
theorem swap_swap {xs : List (List Int)} {a b : Nat} (ha : a < xs.length) (hb : b < xs.length) : swapL (swapL xs a b []) a b [] = xs := by
  apply List.ext_getElem (by rw [swap_len, swap_len])
  intro j h1 h2
  have e := swap_getD (xs := swapL xs a b []) (by rw [swap_len]; exact ha) (by rw [swap_len]; exact hb) (by rw [swap_len]; exact h2)
  rw [swap_getD ha hb (swI_lt ha hb h2), swI_swI, getD_row h1, getD_row h2] at e
  exact e
theorem swap_head {m : Mk} {t : List (List Int)} {a b : Nat} (ht : isTable t = true) (ha : a < t.length) (hb : b < t.length) : ((swapL t a b []).headD []).length = (t.headD []).length := by
  have h := isTable_get ht
  have h0 : 0 < (swapL t a b []).length := by rw [swap_len]; omega
  rw [headD_len h0]
  have hm := swap_mem ha hb (List.getElem_mem h0)
  obtain ⟨k, hk, e⟩ := List.getElem_of_mem hm
  rw [← e]; exact (h.2.2 k hk).1
theorem swap_table {t : List (List Int)} {a b : Nat} (ht : isTable t = true) (ha : a < t.length) (hb : b < t.length) : isTable (swapL t a b []) = true := by
  have hh := swap_head (m := ⟨0, 0, 0, 0, 0⟩) ht ha hb
  unfold isTable at ht ⊢
  rw [Bool.and_eq_true, List.all_eq_true] at ht ⊢
  rw [swap_len, hh]
  exact ⟨ht.1, fun x hx => ht.2 x (swap_mem ha hb hx)⟩
theorem swap_system {m : Mk} {t : List (List Int)} {a b : Nat} (h : isSystem m t = true) (ha : a < t.length) (hb : b < t.length) : isSystem m (swapL t a b []) = true := by
  unfold isSystem at h ⊢
  rw [Bool.and_eq_true, Bool.and_eq_true, List.all_eq_true] at h ⊢
  refine ⟨⟨h.1.1, swap_table h.1.2 ha hb⟩, fun d hd => ?_⟩
  rw [swap_head (m := m) h.1.2 ha hb] at hd
  have := h.2 d hd
  unfold opened at this ⊢
  rw [List.any_eq_true] at this ⊢
  obtain ⟨r, hr, h1⟩ := this
  refine ⟨r, ?_, h1⟩
  rw [← swap_swap ha hb] at hr
  exact swap_mem (by rw [swap_len]; exact ha) (by rw [swap_len]; exact hb) hr
theorem swap_C {m : Mk} {t cuts : List (List Int)} {a b : Nat} (h : cutsC m t cuts = 0) (ha : a < t.length) (hb : b < t.length) : cutsC m (swapL t a b []) (swapL cuts a b []) = 0 := by
  obtain ⟨h1, h2, h3⟩ := cutsC_0 h
  unfold cutsC
  rw [if_pos (swap_system h1 ha hb), if_pos]
  rw [Bool.and_eq_true, decide_eq_true_eq, swap_len, swap_len]
  refine ⟨h2, ?_⟩
  unfold areKeysF at h3 ⊢
  rw [List.all_eq_true] at h3 ⊢
  exact fun x hx => h3 x (swap_mem (by omega) (by omega) hx)
theorem swap_faulty {m : Mk} {t cuts : List (List Int)} {a b : Nat} (h : cutsC m t cuts = 0) (ha : a < t.length) (hb : b < t.length) {i d : Nat} (hf : Faulty t cuts i d) : Faulty (swapL t a b []) (swapL cuts a b []) (swI a b i) d := by
  obtain ⟨h1, h2, h3⟩ := cutsC_0 h
  have ht : isTable t = true := by unfold isSystem at h1; rw [Bool.and_eq_true, Bool.and_eq_true] at h1; exact h1.1.2
  obtain ⟨f1, f2, f3, f4⟩ := hf
  have hit : i < t.length := by omega
  have hs := swI_lt ha hb hit
  have hsc : swI a b i < cuts.length := by omega
  have gt : ∀ j, j < t.length → (swapL t a b []).getD (swI a b j) [] = t.getD j [] := fun j hj => by rw [swap_getD ha hb (swI_lt ha hb hj), swI_swI]
  have gc : ∀ j, j < cuts.length → (swapL cuts a b []).getD (swI a b j) [] = cuts.getD j [] := fun j hj => by rw [swap_getD (by omega) (by omega) (swI_lt (by omega) (by omega) hj), swI_swI]
  refine ⟨by rw [swap_len]; exact hsc, by rw [swap_head (m := m) ht ha hb]; exact f2, by rw [gt i hit]; exact f3, fun ch hch => ?_⟩
  rw [gc i f1] at hch ⊢
  obtain ⟨j, j1, j2, j3⟩ := f4 ch hch
  refine ⟨swI a b j, by rw [swap_len]; exact swI_lt (by omega) (by omega) j1, ?_, ?_⟩
  · rw [gt j (by omega)]; exact j2
  · rw [gc j j1]; exact j3
/-- a design stays one if two rows are exchanged together with their keys -/
theorem swap_open {m : Mk} {t cuts : List (List Int)} {a b : Nat} (h : cutsC m t cuts = 0) (ha : a < t.length) (hb : b < t.length) : openPart m (swapL t a b []) (swapL cuts a b []) = openPart m t cuts := by
  have hc := swap_C h ha hb
  have hp := cutsC_ok h
  have hq := cutsC_ok hc
  have h2 := (cutsC_0 h).2.1
  rw [Bool.eq_iff_iff, open_iff hp, open_iff hq]
  constructor
  · intro hn i d hf; exact hn _ d (swap_faulty h ha hb hf)
  · intro hn i d hf
    have := swap_faulty hc (by rw [swap_len]; exact ha) (by rw [swap_len]; exact hb) hf
    rw [swap_swap ha hb, swap_swap (by omega) (by omega)] at this
    exact hn _ d this
/-! ### as the program tells them -/
theorem mirror_law {m : Mk} {t cuts ms : List (List Int)} {k : Int} (h : mirrorCutsR m t cuts = (ms, k)) (hk : k = 0) : mirrorCutsR m t ms = (cuts, 0) ∧ ((cutsC m t ms == 0) && openPart m t ms) = ((cutsC m t cuts == 0) && openPart m t cuts) := by
  subst hk
  unfold mirrorCutsR at h
  by_cases h0 : cutsC m t cuts = 0
  · rw [if_pos h0] at h
    have e : ms = cuts.map (mirror m) := (congrArg Prod.fst h).symm
    subst e
    have h1 := mirrors_C h0
    unfold mirrorCutsR
    rw [if_pos h1, mirrors_back, h0, h1, mirror_open h0]
    exact ⟨rfl, rfl⟩
  · rw [if_neg h0] at h; exact absurd (congrArg Prod.snd h) h0
theorem swap_law {m m2 : Mk} {t t2 cuts cs2 : List (List Int)} {a b k : Int} (h : swapR m t cuts a b = (m2, t2, cs2, k)) (hk : k = 0) : ((cutsC m2 t2 cs2 == 0) && openPart m2 t2 cs2) = ((cutsC m t cuts == 0) && openPart m t cuts) ∧ isSystem m2 t2 = true := by
  subst hk
  unfold swapR at h
  by_cases hs : swapC m t cuts a b = 0
  · rw [if_pos hs] at h
    obtain ⟨rfl, rfl, rfl, -⟩ := (show m = m2 ∧ swapL t a.toNat b.toNat [] = t2 ∧ swapL cuts a.toNat b.toNat [] = cs2 ∧ True by simpa using h)
    unfold swapC at hs
    by_cases h0 : cutsC m t cuts = 0
    · rw [if_pos h0] at hs
      have hin : inB a 0 (cuts.length - 1) = true ∧ inB b 0 (cuts.length - 1) = true := by
        by_cases hh : (inB a 0 (cuts.length - 1) && inB b 0 (cuts.length - 1)) = true
        · rwa [Bool.and_eq_true] at hh
        · rw [if_neg hh] at hs; cases hs
      have e2 := (cutsC_0 h0).2.1
      have e3 := sys_facts (cutsC_0 h0).1
      have ha := inB_iff.1 hin.1; have hb := inB_iff.1 hin.2
      have ha' : a.toNat < t.length := by omega
      have hb' : b.toNat < t.length := by omega
      rw [swap_open h0 ha' hb', swap_C h0 ha' hb', h0]
      exact ⟨rfl, swap_system (cutsC_0 h0).1 ha' hb'⟩
    · rw [if_neg h0] at hs; exact absurd hs h0
  · rw [if_neg hs] at h
    exact absurd (congrArg (fun x => x.2.2.2) h) hs
end Go.Proofs.YtdedajohkdbdkaaGreat
