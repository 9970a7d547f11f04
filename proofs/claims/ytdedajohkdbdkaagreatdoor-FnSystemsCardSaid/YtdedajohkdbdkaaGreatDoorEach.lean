/- Plain laws: the keys whose cuts are allowed, in order; visits. No program. -/
import Derived.Test.YtdedajohkdbdkaaGreatDoorFKey
import Derived.Test.YtdedajohkdbdkaaGreatDoorFCodes
import Derived.Test.YtdedajohkdbdkaaGreatDoorFSets
import Derived.Test.YtdedajohkdbdkaaGreatDoorMem
namespace Go.Proofs.YtdedajohkdbdkaaGreatDoor
set_option linter.unusedVariables false
/-- visits in order, until a visit says no -/
def runVis {σ : Type} (vis : σ → List Int → Bool × σ) : σ → List (List Int) → Bool × σ
  | s, [] => (true, s)
  | s, k :: ks => if (vis s k).1 = true then runVis vis (vis s k).2 ks else (false, (vis s k).2)
theorem runVis_append {σ : Type} (vis : σ → List Int → Bool × σ) : ∀ (xs ys : List (List Int)) (s : σ),
    runVis vis s (xs ++ ys) = if (runVis vis s xs).1 = true then runVis vis (runVis vis s xs).2 ys else (false, (runVis vis s xs).2)
  | [], ys, s => by simp [runVis]
  | k :: ks, ys, s => by
    simp only [List.cons_append, runVis]
    by_cases h : (vis s k).1 = true
    · simp only [h, if_true]; exact runVis_append vis ks ys _
    · simp [h]
/-- may depth d follow the cuts? -/
def mayAt (m : Mk) (al : Nat → Int → Bool) (key : List Int) (d : Int) : Bool := al key.length d && (decide (key.length = 0) || decide (absI (d - key.getD (key.length - 1) 0) ≤ m.s))
def mayRun (m : Mk) (key : List Int) (d : Int) : Bool := decide ((endRun (key ++ [d]) : Int) ≤ m.a)
/-- lo, lo + 1, .., hi - 1 -/
def depths (lo hi : Int) : List Int := (List.range (hi - lo).toNat).map fun (i : Nat) => lo + (i : Int)
theorem depths_nil {lo hi : Int} (h : hi ≤ lo) : depths lo hi = [] := by simp [depths, show (hi - lo).toNat = 0 by omega]
theorem depths_cons {lo hi : Int} (h : lo < hi) : depths lo hi = lo :: depths (lo + 1) hi := by
  unfold depths
  rw [show (hi - lo).toNat = (hi - (lo + 1)).toNat + 1 by omega, List.range_succ_eq_map]
  simp only [List.map_cons, List.map_map, Int.natCast_zero, Int.add_zero]
  congr 1
  apply List.map_congr_left; intro x _; simp only [Function.comp]; omega
theorem mem_depths {lo hi x : Int} : x ∈ depths lo hi ↔ lo ≤ x ∧ x < hi := by
  simp only [depths, List.mem_map, List.mem_range]
  constructor
  · rintro ⟨i, hi, rfl⟩; omega
  · rintro ⟨h1, h2⟩; exact ⟨(x - lo).toNat, by omega, by omega⟩
def least (fr : List Int) (key : List Int) (tight : Bool) : Int := if tight = true then fr.getD key.length 0 else 0
/-- all keys with so many cuts still to come, behind some cuts -/
def keysG (m : Mk) (al : Nat → Int → Bool) (fr : List Int) : Nat → List Int → Bool → List (List Int)
  | 0, key, _ => if kinds key < m.l then [] else [key]
  | r + 1, key, tight => (depths (least fr key tight) m.d).flatMap fun d => if (mayAt m al key d && mayRun m key d) = true then keysG m al fr r (key ++ [d]) (tight && d == least fr key tight) else []
/-- those from depth d on -/
def keysFrom (m : Mk) (al : Nat → Int → Bool) (fr : List Int) (r : Nat) (key : List Int) (tight : Bool) (d : Int) : List (List Int) :=
  (depths d m.d).flatMap fun d => if (mayAt m al key d && mayRun m key d) = true then keysG m al fr r (key ++ [d]) (tight && d == least fr key tight) else []
theorem keysG_succ (m : Mk) (al : Nat → Int → Bool) (fr : List Int) (r : Nat) (key : List Int) (tight : Bool) : keysG m al fr (r + 1) key tight = keysFrom m al fr r key tight (least fr key tight) := rfl
theorem keysFrom_end (m : Mk) (al : Nat → Int → Bool) (fr : List Int) (r : Nat) (key : List Int) (tight : Bool) {d : Int} (h : m.d ≤ d) : keysFrom m al fr r key tight d = [] := by
  unfold keysFrom; rw [depths_nil h]; rfl
theorem keysFrom_skip {m : Mk} {al : Nat → Int → Bool} {fr : List Int} {r : Nat} {key : List Int} {tight : Bool} {d : Int} (h : d < m.d) (hp : (mayAt m al key d && mayRun m key d) = false) :
    keysFrom m al fr r key tight d = keysFrom m al fr r key tight (d + 1) := by
  unfold keysFrom; rw [depths_cons h, List.flatMap_cons, if_neg (by rw [hp]; simp), List.nil_append]
theorem keysFrom_take {m : Mk} {al : Nat → Int → Bool} {fr : List Int} {r : Nat} {key : List Int} {tight : Bool} {d : Int} (h : d < m.d) (hp : (mayAt m al key d && mayRun m key d) = true) :
    keysFrom m al fr r key tight d = keysG m al fr r (key ++ [d]) (tight && d == least fr key tight) ++ keysFrom m al fr r key tight (d + 1) := by
  unfold keysFrom; rw [depths_cons h, List.flatMap_cons, if_pos hp]
theorem keysG_len (m : Mk) (al : Nat → Int → Bool) (fr : List Int) (h8 : m.d ≤ 8) (hf : ∀ k, 0 ≤ fr.getD k 0) : ∀ (r : Nat) (key : List Int) (tight : Bool), (keysG m al fr r key tight).length ≤ 8 ^ r
  | 0, key, _ => by rw [keysG]; split <;> simp
  | r + 1, key, tight => by
    rw [keysG]
    have hl : 0 ≤ least fr key tight := by unfold least; split; exact hf _; omega
    have key' : ∀ (ds : List Int), ((ds.flatMap fun d => if (mayAt m al key d && mayRun m key d) = true then keysG m al fr r (key ++ [d]) (tight && d == least fr key tight) else [])).length ≤ ds.length * 8 ^ r := by
      intro ds
      induction ds with
      | nil => simp
      | cons d ds ih =>
        rw [List.flatMap_cons, List.length_append, List.length_cons, Nat.add_mul, Nat.one_mul]
        have : (if (mayAt m al key d && mayRun m key d) = true then keysG m al fr r (key ++ [d]) (tight && d == least fr key tight) else []).length ≤ 8 ^ r := by
          split
          · exact keysG_len m al fr h8 hf r _ _
          · simp
        omega
    have h := key' (depths (least fr key tight) m.d)
    have hd : (depths (least fr key tight) m.d).length ≤ 8 := by simp [depths]; omega
    have : (depths (least fr key tight) m.d).length * 8 ^ r ≤ 8 * 8 ^ r := Nat.mul_le_mul_right _ hd
    rw [Nat.pow_succ]; omega
/-! ### visits that count, that collect -/
theorem runVis_count : ∀ (ks : List (List Int)) (n : Nat), runVis (fun (s : Nat) _ => (true, s + 1)) n ks = (true, n + ks.length)
  | [], n => by simp [runVis]
  | k :: ks, n => by rw [runVis, if_pos rfl, runVis_count ks (n + 1)]; simp; omega
/-- collects, until there are most of them -/
def visColl (most : Nat) (s : List (List Int)) (k : List Int) : Bool × List (List Int) := (decide (s.length + 1 < most), s ++ [k])
theorem runVis_coll (most : Nat) : ∀ (ks s : List (List Int)), s.length < most → (runVis (visColl most) s ks).2 = (s ++ ks).take most
  | [], s, h => by rw [runVis, List.append_nil, List.take_of_length_le (by omega)]
  | k :: ks, s, h => by
    rw [runVis]
    by_cases hm : s.length + 1 < most
    · rw [if_pos (by simp [visColl, hm])]
      have := runVis_coll most ks (s ++ [k]) (by simp; omega)
      simp only [visColl]
      rw [this, List.append_assoc]; rfl
    · rw [if_neg (by simp [visColl]; omega)]
      simp only [visColl]
      rw [show s ++ k :: ks = (s ++ [k]) ++ ks by simp, List.take_append_of_le_length (by simp; omega), List.take_of_length_le (by simp; omega)]
end Go.Proofs.YtdedajohkdbdkaaGreatDoor

/- Plain laws: the openers of a lock, the ghosts. No program. -/
namespace Go.Proofs.YtdedajohkdbdkaaGreatDoor
set_option linter.unusedVariables false
def begins (m : Mk) (xs : List Int) : Bool := stepsOK m.s xs && runsOK m.a xs
def stepOK (m : Mk) (key : List Int) (d : Int) : Bool := decide (key.length = 0) || decide (absI (d - key.getD (key.length - 1) 0) ≤ m.s)
theorem getD_left {xs ys : List Int} {i : Nat} (h : i < xs.length) : (xs ++ ys).getD i 0 = xs.getD i 0 := by
  simp [List.getD, List.getElem?_append_left h]
theorem getD_snoc (xs : List Int) (d : Int) : (xs ++ [d]).getD xs.length 0 = d := by simp [List.getD]
theorem range_congr {p q : Nat → Bool} {n : Nat} (h : ∀ i, i < n → p i = q i) : (List.range n).all p = (List.range n).all q := by
  rw [Bool.eq_iff_iff]; simp only [List.all_eq_true, List.mem_range]
  exact ⟨fun g i hi => by rw [← h i hi]; exact g i hi, fun g i hi => by rw [h i hi]; exact g i hi⟩
theorem begins_snoc (m : Mk) (key : List Int) (d : Int) : begins m (key ++ [d]) = (begins m key && (stepOK m key d && mayRun m key d)) := by
  have h1 : stepsOK m.s (key ++ [d]) = (stepsOK m.s key && stepOK m key d) := by
    unfold stepsOK
    rw [List.length_append, List.length_cons, List.length_nil, Nat.zero_add, rangeAll_next]
    congr 1
    · apply range_congr; intro i hi; unfold stepAt
      rw [getD_left hi, getD_left (by omega)]
    · unfold stepAt stepOK
      rw [getD_snoc]
      by_cases h0 : key.length = 0
      · simp [h0]
      · rw [getD_left (by omega)]; simp [h0]
  have h2 : runsOK m.a (key ++ [d]) = (runsOK m.a key && mayRun m key d) := by
    unfold runsOK
    rw [List.length_append, List.length_cons, List.length_nil, Nat.zero_add, rangeAll_next]
    congr 1
    · apply range_congr; intro i hi; unfold runAt
      rw [List.take_append_of_le_length (by omega)]
    · unfold runAt mayRun
      rw [List.take_of_length_le (by simp)]
  unfold begins; rw [h1, h2]
  cases stepsOK m.s key <;> cases runsOK m.a key <;> cases stepOK m key d <;> cases mayRun m key d <;> rfl
theorem begins_nil (m : Mk) : begins m [] = true := by simp [begins, stepsOK, runsOK]
theorem begins_take {m : Mk} {x : List Int} (h : begins m x = true) (k : Nat) : begins m (x.take k) = true := by
  have key : ∀ n, n ≤ x.length → begins m (x.take n) = true → ∀ j, j ≤ n → begins m (x.take j) = true := by
    intro n
    induction n with
    | zero => intro _ h j hj; obtain rfl : j = 0 := by omega
              exact h
    | succ n ih =>
      intro hn h j hj
      by_cases e : j = n + 1
      · subst e; exact h
      · rw [List.take_succ_eq_append_getElem (by omega), begins_snoc, Bool.and_eq_true] at h
        exact ih (by omega) h.1 j (by omega)
  by_cases hk : k ≤ x.length
  · exact key x.length (Nat.le_refl _) (by rw [List.take_length]; exact h) k hk
  · rw [List.take_of_length_le (by omega)]; exact h
theorem keysG_may (m : Mk) (al : Nat → Int → Bool) (key : List Int) (d : Int) : (mayAt m al key d && mayRun m key d) = (al key.length d && (stepOK m key d && mayRun m key d)) := by
  unfold mayAt stepOK; rw [Bool.and_assoc]
theorem least_f (fr key : List Int) : least fr key false = 0 := by simp [least]
/-- the reference's openers -/
def openF (m : Mk) (l : List (List Int)) : Nat → List Int → Int → List (List Int)
  | 0, cuts, most => if (begins m cuts && decide (0 < most)) = true then (if kinds cuts < m.l then [] else [cuts]) else []
  | r + 1, cuts, most => if (begins m cuts && decide (0 < most)) = true then (l.getD cuts.length []).foldl (fun out d => out ++ openF m l r (cuts ++ [d]) (most - (out.length : Int))) [] else []
theorem foldl_take {α : Type} (f : Int → List α) (F : Int → Int → List α) (hF : ∀ d k, F d k = (f d).take k.toNat) (most : Int) (h0 : 0 ≤ most) : ∀ (ds : List Int) (out : List α),
    ds.foldl (fun out d => out ++ F d (most - (out.length : Int))) (out.take most.toNat) = (out ++ ds.flatMap f).take most.toNat
  | [], out => by simp
  | d :: ds, out => by
    rw [List.foldl_cons, List.flatMap_cons, ← List.append_assoc, ← foldl_take f F hF most h0 ds (out ++ f d), hF, List.take_append]
    congr 3
    rw [List.length_take]; omega
theorem flatMap_ite {α : Type} (p : Int → Bool) (f : Int → List α) : ∀ ds : List Int, (ds.flatMap fun d => if p d = true then f d else []) = (ds.filter p).flatMap f
  | [] => rfl
  | d :: ds => by
    rw [List.flatMap_cons, flatMap_ite p f ds, List.filter_cons]
    by_cases h : p d = true
    · rw [if_pos h, if_pos h, List.flatMap_cons]
    · rw [if_neg h, if_neg h, List.nil_append]
theorem flatMap_same {α : Type} {f g : Int → List α} : ∀ {ds : List Int}, (∀ d, d ∈ ds → f d = g d) → ds.flatMap f = ds.flatMap g
  | [], _ => rfl
  | d :: ds, h => by rw [List.flatMap_cons, List.flatMap_cons, h d (by simp), flatMap_same (fun x hx => h x (by simp [hx]))]
theorem inc_lo {hi : Int} : ∀ {xs : List Int} {lo : Int}, Inc lo hi xs → ∀ x, x ∈ xs → lo ≤ x ∧ x < hi
  | [], _, _, x, hx => by simp at hx
  | y :: r, lo, h, x, hx => by
    rcases List.mem_cons.1 hx with rfl | hx
    · exact ⟨h.1, h.2.1⟩
    · have := inc_lo h.2.2 x hx; have := h.1; omega
theorem inc_filter (hi : Int) : ∀ (n : Nat) (lo : Int) (xs : List Int), hi - lo ≤ n → Inc lo hi xs → (depths lo hi).filter (hasI xs) = xs
  | 0, lo, xs, hn, h => by
    rw [depths_nil (by omega)]
    cases xs with
    | nil => rfl
    | cons x r => have := h.1; have := h.2.1; omega
  | n + 1, lo, xs, hn, h => by
    by_cases hlt : lo < hi
    · rw [depths_cons hlt, List.filter_cons]
      cases xs with
      | nil => simp [hasI]
      | cons x r =>
        by_cases e : x = lo
        · subst e
          rw [if_pos (hasI_iff.2 (by simp))]
          congr 1
          rw [← inc_filter hi n (x + 1) r (by omega) h.2.2]
          rw [inc_filter hi n (x + 1) r (by omega) h.2.2]
          rw [show List.filter (hasI (x :: r)) (depths (x + 1) hi) = List.filter (hasI r) (depths (x + 1) hi) from ?_, inc_filter hi n (x + 1) r (by omega) h.2.2]
          apply List.filter_congr
          intro y hy
          have := mem_depths.1 hy
          rw [Bool.eq_iff_iff, hasI_iff, hasI_iff, List.mem_cons]
          constructor
          · rintro (rfl | h); omega; exact h
          · exact .inr
        · have h1 := h.1
          rw [if_neg]
          · exact inc_filter hi n (lo + 1) (x :: r) (by omega) ⟨by omega, h.2.1, h.2.2⟩
          · intro hc
            have := inc_lo (lo := lo + 1) (show Inc (lo + 1) hi (x :: r) from ⟨by omega, h.2.1, h.2.2⟩) lo (hasI_iff.1 hc)
            omega
    · cases xs with
      | nil => rw [depths_nil (by omega)]; rfl
      | cons x r => have := h.1; have := h.2.1; omega
theorem openF_eq (m : Mk) (l : List (List Int)) (hl : ∀ i, Inc 0 m.d (l.getD i [])) : ∀ (r : Nat) (cuts : List Int) (most : Int), openF m l r cuts most = if begins m cuts = true then (keysG m (frees l) [] r cuts false).take most.toNat else []
  | 0, cuts, most => by
    rw [openF, keysG]
    by_cases hb : begins m cuts = true
    · rw [if_pos hb, hb, Bool.true_and]
      by_cases h0 : 0 < most
      · rw [if_pos (by simpa using h0)]
        split
        · simp
        · rw [List.take_of_length_le (by simp; omega)]
      · rw [if_neg (by simpa using h0), show most.toNat = 0 by omega, List.take_zero]
    · rw [if_neg hb, if_neg (by rw [Bool.and_eq_true]; exact fun h => hb h.1)]
  | r + 1, cuts, most => by
    rw [openF]
    by_cases hb : begins m cuts = true
    · rw [if_pos hb, hb, Bool.true_and]
      by_cases h0 : 0 < most
      · rw [if_pos (by simpa using h0)]
        have hF : ∀ d k, openF m l r (cuts ++ [d]) k = (if begins m (cuts ++ [d]) = true then keysG m (frees l) [] r (cuts ++ [d]) false else []).take k.toNat := by
          intro d k
          rw [openF_eq m l hl r (cuts ++ [d]) k]
          split
          · rfl
          · simp
        have := foldl_take (fun d => if begins m (cuts ++ [d]) = true then keysG m (frees l) [] r (cuts ++ [d]) false else []) (fun d k => openF m l r (cuts ++ [d]) k) hF most (by omega) (l.getD cuts.length []) []
        rw [List.take_nil, List.nil_append] at this
        rw [this]
        congr 1
        rw [keysG, least_f]
        have e : ∀ d, (if (mayAt m (frees l) cuts d && mayRun m cuts d) = true then keysG m (frees l) [] r (cuts ++ [d]) (false && d == 0) else []) = if hasI (l.getD cuts.length []) d = true then (if begins m (cuts ++ [d]) = true then keysG m (frees l) [] r (cuts ++ [d]) false else []) else [] := by
          intro d
          rw [keysG_may, begins_snoc, hb, Bool.true_and, Bool.false_and]
          show (if (hasI (l.getD cuts.length []) d && _) = true then _ else _) = _
          cases hasI (l.getD cuts.length []) d <;> simp
        simp only [e]
        rw [flatMap_ite (hasI (l.getD cuts.length [])), inc_filter m.d m.d.toNat 0 _ (by omega) (hl _)]
      · rw [if_neg (by simpa using h0), show most.toNat = 0 by omega, List.take_zero]
    · rw [if_neg hb, if_neg (by rw [Bool.and_eq_true]; exact fun h => hb h.1)]
/-! ### which keys there are -/
theorem keysG_pref (m : Mk) (al : Nat → Int → Bool) (fr : List Int) : ∀ (r : Nat) (key : List Int) (t : Bool) (x : List Int), x ∈ keysG m al fr r key t → x.length = key.length + r ∧ x.take key.length = key
  | 0, key, t, x, h => by
    rw [keysG] at h
    split at h
    · simp at h
    · simp at h; subst h; simp
  | r + 1, key, t, x, h => by
    rw [keysG, List.mem_flatMap] at h
    obtain ⟨d, _, h⟩ := h
    split at h
    · obtain ⟨h1, h2⟩ := keysG_pref m al fr r _ _ x h
      rw [List.length_append, List.length_cons, List.length_nil, Nat.zero_add] at h1 h2
      refine ⟨by omega, ?_⟩
      have := congrArg (List.take key.length) h2
      rw [List.take_take, Nat.min_eq_left (by omega), List.take_append_of_le_length (Nat.le_refl _), List.take_length] at this
      exact this
    · simp at h
theorem take_snoc_getD {x key : List Int} {d : Int} (h : x.take (key.length + 1) = key ++ [d]) : x.getD key.length 0 = d := by
  have h1 : (x.take (key.length + 1)).getD key.length 0 = d := by rw [h, getD_snoc]
  rw [← h1]
  simp [List.getD]
theorem take_getD_snoc {x key : List Int} (h : x.take key.length = key) (hl : key.length < x.length) : x.take (key.length + 1) = key ++ [x.getD key.length 0] := by
  rw [List.take_succ_eq_append_getElem hl, h]; simp [List.getD, List.getElem?_eq_getElem hl]
theorem mem_keysG (m : Mk) (al : Nat → Int → Bool) : ∀ (r : Nat) (key x : List Int), begins m key = true →
    (x ∈ keysG m al [] r key false ↔ (x.length = key.length + r ∧ x.take key.length = key ∧ begins m x = true ∧ m.l ≤ kinds x ∧ ∀ i, key.length ≤ i → i < x.length → 0 ≤ x.getD i 0 ∧ x.getD i 0 < m.d ∧ al i (x.getD i 0) = true))
  | 0, key, x, hb => by
    rw [keysG]
    constructor
    · intro h
      split at h
      · simp at h
      · simp at h; subst h
        exact ⟨by simp, by simp, hb, by omega, fun i h1 h2 => by omega⟩
    · rintro ⟨h1, h2, h3, h4, h5⟩
      rw [List.take_of_length_le (by omega)] at h2
      subst h2
      rw [if_neg (by omega)]; simp
  | r + 1, key, x, hb => by
    rw [keysG, List.mem_flatMap, least_f]
    constructor
    · rintro ⟨d, hd, h⟩
      have hd := mem_depths.1 hd
      by_cases hc : (mayAt m al key d && mayRun m key d) = true
      · rw [if_pos hc] at h
        rw [Bool.false_and] at h
        rw [keysG_may, Bool.and_eq_true] at hc
        have hb' : begins m (key ++ [d]) = true := by rw [begins_snoc, hb, hc.2]; rfl
        obtain ⟨h1, h2, h3, h4, h5⟩ := (mem_keysG m al r (key ++ [d]) x hb').1 h
        have hp := keysG_pref m al [] r _ _ x h
        rw [List.length_append, List.length_cons, List.length_nil, Nat.zero_add] at h1 h2 h5
        have hg := take_snoc_getD h2
        refine ⟨by omega, ?_, h3, h4, fun i hi1 hi2 => ?_⟩
        · have := congrArg (List.take key.length) h2
          rw [List.take_take, Nat.min_eq_left (by omega), List.take_append_of_le_length (Nat.le_refl _), List.take_length] at this
          exact this
        · by_cases e : i = key.length
          · subst e; rw [hg]; exact ⟨hd.1, hd.2, hc.1⟩
          · exact h5 i (by omega) hi2
      · rw [if_neg hc] at h; simp at h
    · rintro ⟨h1, h2, h3, h4, h5⟩
      have hlt : key.length < x.length := by omega
      have hk := h5 key.length (Nat.le_refl _) hlt
      refine ⟨x.getD key.length 0, mem_depths.2 ⟨hk.1, hk.2.1⟩, ?_⟩
      have ht := take_getD_snoc h2 hlt
      have hb' : begins m (key ++ [x.getD key.length 0]) = true := by rw [← ht]; exact begins_take h3 _
      have hc := hb'
      rw [begins_snoc, Bool.and_eq_true] at hc
      rw [if_pos (by rw [keysG_may, hk.2.2, hc.2]; rfl), Bool.false_and, mem_keysG m al r _ x hb']
      rw [List.length_append, List.length_cons, List.length_nil, Nat.zero_add]
      exact ⟨by omega, ht, h3, h4, fun i hi1 hi2 => h5 i (by omega) hi2⟩
theorem nodup_keysG (m : Mk) (al : Nat → Int → Bool) (fr : List Int) : ∀ (r : Nat) (key : List Int) (t : Bool), (keysG m al fr r key t).Nodup
  | 0, key, t => by rw [keysG]; split <;> simp
  | r + 1, key, t => by
    rw [keysG]
    show List.Pairwise _ _
    rw [List.pairwise_flatMap]
    constructor
    · intro d _
      split
      · exact nodup_keysG m al fr r _ _
      · exact List.Pairwise.nil
    · have hp : List.Pairwise (· < ·) (depths (least fr key t) m.d) := by
        unfold depths
        rw [List.pairwise_map]
        exact List.pairwise_lt_range.imp (fun {a b} h => by omega)
      refine hp.imp ?_
      intro a b hab x hx y hy e
      subst e
      split at hx
      · split at hy
        · have h1 := (keysG_pref m al fr r _ _ x hx).2
          have h2 := (keysG_pref m al fr r _ _ x hy).2
          rw [List.length_append, List.length_cons, List.length_nil, Nat.zero_add] at h1 h2
          have := take_snoc_getD h1; have := take_snoc_getD h2; omega
        · simp at hy
      · simp at hx
theorem keysG_congr {m : Mk} {al al' : Nat → Int → Bool} : ∀ (r : Nat) (key : List Int), (∀ ch d, ch < key.length + r → 0 ≤ d → d < m.d → al ch d = al' ch d) → keysG m al [] r key false = keysG m al' [] r key false
  | 0, key, h => by rw [keysG, keysG]
  | r + 1, key, h => by
    rw [keysG, keysG]
    apply flatMap_same
    intro d hd
    have hd := mem_depths.1 hd
    rw [least_f] at hd
    rw [keysG_may, keysG_may, h key.length d (by omega) hd.1 hd.2, Bool.false_and]
    split
    · exact keysG_congr r _ (fun ch d h1 h2 h3 => h ch d (by simp at h1; omega) h2 h3)
    · rfl
end Go.Proofs.YtdedajohkdbdkaaGreatDoor

/- eachKey's memory: its own blocks, the visitor's blocks, and what stays. -/
namespace Go.Proofs.YtdedajohkdbdkaaGreatDoor
set_option linter.unusedVariables false
open Go.RowKit
theorem run_equalIn_func_nil {P : Program} (w : World) (n : Nat) {t : TypeId} {ps rs : Array TypeId} {vr : Bool} (f : Fn) (ca cap : Array Value) (h : P.underlying t = some (.func ps rs vr)) : (Op.equalIn (n + 1) t (.func f ca cap) .nilFunc).run P w = .ok false w := by
  simp [Op.equalIn, run_underlying h]
theorem run_equalIn_nil_nil {P : Program} (w : World) (n : Nat) {t : TypeId} {ps rs : Array TypeId} {vr : Bool} (h : P.underlying t = some (.func ps rs vr)) : (Op.equalIn (n + 1) t .nilFunc .nilFunc).run P w = .ok true w := by
  simp [Op.equalIn, run_underlying h]
theorem run_neq_func_nil {P : Program} (w : World) {t : TypeId} {ps rs : Array TypeId} {vr : Bool} (f : Fn) (ca cap : Array Value) (h : P.underlying t = some (.func ps rs vr)) : (binOp .neq t (.func f ca cap) .nilFunc).run P w = .ok (.bool true) w := by
  simp only [binOp]
  simp [Op.equal, Op.maxDepth, run_equalIn_func_nil w 9999 f ca cap h]
theorem run_neq_nil_nil {P : Program} (w : World) {t : TypeId} {ps rs : Array TypeId} {vr : Bool} (h : P.underlying t = some (.func ps rs vr)) : (binOp .neq t .nilFunc .nilFunc).run P w = .ok (.bool false) w := by
  simp only [binOp]
  simp [Op.equal, Op.maxDepth, run_equalIn_nil_nil w 9999 h]
/-- All blocks but those of F are as they were. -/
structure KeepF (F : Nat → Prop) (w w' : World) : Prop where
  os : w'.os = w.os
  tape : w'.tape = w.tape
  output : w'.output = w.output
  size : w.heap.size ≤ w'.heap.size
  block : ∀ g, g < w.heap.size → ¬ F g → w'.heap[g]? = w.heap[g]?
theorem KeepF.refl (F : Nat → Prop) (w : World) : KeepF F w w := ⟨rfl, rfl, rfl, Nat.le_refl _, fun _ _ _ => rfl⟩
theorem KeepF.trans {F G : Nat → Prop} {a b c : World} (h : KeepF F a b) (k : KeepF G b c) (hG : ∀ g, g < a.heap.size → G g → F g) : KeepF F a c :=
  ⟨k.os.trans h.os, k.tape.trans h.tape, k.output.trans h.output, Nat.le_trans h.size k.size, fun g hg hF => (k.block g (by have := h.size; omega) fun e => hF (hG g hg e)).trans (h.block g hg hF)⟩
theorem KeepF.ofBelow {F : Nat → Prop} {w w' : World} (h : Below w.heap.size w w') : KeepF F w w' := ⟨h.os, h.tape, h.output, h.size, fun g hg _ => h.block g hg⟩
theorem KeepF.toBelow {F : Nat → Prop} {B : Nat} {w w' : World} (h : KeepF F w w') (hB : B ≤ w.heap.size) (hF : ∀ g, g < B → ¬ F g) : Below B w w' := ⟨h.os, h.tape, h.output, h.size, fun g hg => h.block g (by omega) (hF g hg)⟩
theorem KeepF.cell {F : Nat → Prop} {w w' : World} (h : KeepF F w w') {p : Addr} (hp : p.block < w.heap.size) (hF : ¬ F p.block) : w'.cell? p = w.cell? p := World.cell?_of_block (w := w) (h.block p.block hp hF)
theorem KeepF.frozen {F : Nat → Prop} {w w' : World} (h : KeepF F w w') {p : Addr} (hp : p.block < w.heap.size) (hF : ¬ F p.block) : w'.frozen? p = w.frozen? p := World.frozen?_of_block (w := w) (h.block p.block hp hF)
theorem KeepF.setCell {F : Nat → Prop} {a w : World} (h : KeepF F a w) {p : Addr} (hp : F p.block ∨ a.heap.size ≤ p.block) (u : Value) : KeepF F a (w.setCell p u) :=
  h.trans (G := fun g => g = p.block) ⟨rfl, rfl, rfl, by simp [World.setCell], fun g _ hF => Below.heap_setCell _ _ _ _ hF⟩ (fun g hg e => by subst e; rcases hp with h | h; exact h; omega)
theorem KeepF.alloc {F : Nat → Prop} {a w : World} (h : KeepF F a w) (o : Obj) : KeepF F a (w.alloc o) :=
  h.trans (G := F) (KeepF.ofBelow ((Below.refl _ _).alloc (Nat.le_refl _) o)) (fun _ _ e => e)
theorem KeepF.grown {F : Nat → Prop} {a w w' : World} {row : Option Nat} (h : KeepF F a w) (hg : w.grownBy w' row) (hr : ∀ g, row = some g → F g ∨ a.heap.size ≤ g) : KeepF F a w' :=
  h.trans (G := fun g => row = some g) ⟨hg.os, hg.tape, hg.output, hg.size, fun g hlt hF => hg.block g hlt (fun e => hF e.symm)⟩ (fun g hlt e => by rcases hr g e with h | h; exact h; omega)
theorem KeepF.mono {F G : Nat → Prop} {w w' : World} (h : KeepF F w w') (hG : ∀ g, F g → G g) : KeepF G w w' := ⟨h.os, h.tape, h.output, h.size, fun g hg hn => h.block g hg fun e => hn (hG g e)⟩
theorem OV.keepF {F : Nat → Prop} {w w' : World} {B e : Nat} {v : Value} {us : List Value} (h : OV w B e v us) (k : KeepF F w w') (hF : ∀ g, v.ownBlock = some g → ¬ F g) : OV w' B e v us :=
  h.same fun g hg => k.block g (h.lt g hg).2 (hF g hg)
theorem RV.keepF {F : Nat → Prop} {w w' : World} {A : Option Addr} {us : List Value} (h : RV w A us) (k : KeepF F w w') (hF : ∀ b o, A = some ⟨b, o, none⟩ → ¬ F b) : RV w' A us := by
  refine ⟨h.1, fun hn => ?_⟩
  obtain ⟨b, o, rfl, hc⟩ := h.2 hn
  exact ⟨b, o, rfl, fun j u hu => (k.cell (p := ⟨b, o + j, none⟩) (World.block_lt_of_cell? w _ (hc j u hu)) (hF b o rfl)).trans (hc j u hu)⟩
/-- A row of the call's own, cut at its end. -/
theorem OV.cut' {w : World} {B e n c : Nat} {A : Option Addr} {us : List Value} (h : OV w B e (.slice A n c) us) (k : Nat) (hk : k ≤ n) (hk0 : 0 < n) : OV w B e (.slice A k c) (us.take k) := by
  obtain ⟨hl, hr⟩ := h
  refine ⟨by simp, ?_⟩
  rcases hr with ⟨h', h0⟩ | ⟨g, cap, cur, h', hB, hh, hc, hm, hs, ht⟩
  · injection h' with h1 h2 h3
    omega
  · injection h' with h1 h2 h3
    subst h1 h3
    right
    have e : (us.take k).length = k := by simp only [List.length_take]; omega
    refine ⟨g, c, cur, by rw [e], hB, hh, by rw [e]; omega, hm, hs, ?_⟩
    rw [e]
    conv => rhs; rw [← ht, List.take_take]
    rw [Nat.min_eq_left (by omega), Nat.mul_one]
/-- behind a visit -/
def VisPost {σ : Type} (vis : σ → List Int → Bool × σ) (R : σ → World → (Nat → Prop) → Prop) (s : σ) (key : List Int) (w : World) (G : Nat → Prop) (e : Ending) (w' : World) : Prop :=
  e = .returned (.bool (vis s key).1) ∧ ∃ G', R (vis s key).2 w' G' ∧ KeepF G w w' ∧ ∀ g, G' g → G g ∨ w.heap.size ≤ g
/-- A visitor: its state s lies in the blocks F, and is 'live' till a visit says no; what it does in a world that keeps to w but for these. -/
structure VisOK {σ : Type} (kv : FuncId) (capV : Array Value) (vis : σ → List Int → Bool × σ) (R : σ → World → (Nat → Prop) → Prop) (L : σ → Prop) (P : List Int → Prop) (w : World) (F : Nat → Prop) : Prop where
  ent : Enters Tryz.prog kv
  live : ∀ s key, L s → P key → (vis s key).1 = true → L (vis s key).2
  lt : ∀ s w F, R s w F → ∀ g, F g → g < w.heap.size
  fr : ∀ s w w' F, R s w F → KeepF (fun g => ¬ F g) w w' → R s w' F
  call : ∀ s w' G A c key, L s → KeepF F w w' → R s w' G → (∀ g, G g → F g ∨ w.heap.size ≤ g) → P key → key.length ≤ c → RI w' A key → (∀ b o, A = some ⟨b, o, none⟩ → ¬ G b) → Calls Tryz.prog kv (#[.slice A key.length c] ++ capV) w' (VisPost vis R s key w' G)
/-- What tells which cuts are allowed. -/
structure AlOK (ka : FuncId) (capA : Array Value) (al : Nat → Int → Bool) (m : Mk) (w : World) (F : Nat → Prop) : Prop where
  ent : Enters Tryz.prog ka
  call : ∀ w', KeepF F w w' → ∀ (ch : Nat) (d : Int), (ch : Int) < m.c → 0 ≤ d → d < m.d → Calls Tryz.prog ka (#[.int .i64 (ch : Int), .int .i64 d] ++ capA) w' fun e w'' => e = .returned (.bool (al ch d)) ∧ Below w'.heap.size w' w''
/-- The call's own blocks: from N on the boxes of the maker, the first cuts, the allowed, the visit, (the first row), the key, the cut. -/
structure EK {σ : Type} (m : Mk) (Af : Option Addr) (nf cf : Nat) (va vv vc : Value) (R : σ → World → (Nat → Prop) → Prop) (w : World) (F : Nat → Prop) (wr : World) (key : List Int) (v : Value) (s : σ) (G : Nat → Prop) : Prop where
  keep : KeepF F w wr
  size : w.heap.size + 7 ≤ wr.heap.size
  rep : R s wr G
  sub : ∀ g, G g → F g ∨ w.heap.size + 7 ≤ g
  low : ∀ g, F g → g < w.heap.size
  row : ∀ g, v.ownBlock = some g → ¬ G g ∧ (g = w.heap.size + 4 ∨ w.heap.size + 7 ≤ g)
  own : OV wr (w.heap.size + 4) 2 v (ints key)
  cM : BoxC wr w.heap.size 0 [.int .i64 m.c, .int .i64 m.d, .int .i64 m.s, .int .i64 m.a, .int .i64 m.l]
  cF : wr.cell? ⟨w.heap.size + 1, 0, none⟩ = some (.slice Af nf cf)
  cA : wr.cell? ⟨w.heap.size + 2, 0, none⟩ = some va
  cV : wr.cell? ⟨w.heap.size + 3, 0, none⟩ = some vv
  cK : wr.cell? ⟨w.heap.size + 5, 0, none⟩ = some v
  cC : wr.cell? ⟨w.heap.size + 6, 0, none⟩ = some vc
  fz : wr.frozen? ⟨w.heap.size + 5, 0, none⟩ = false
section
variable {σ : Type} {m : Mk} {Af : Option Addr} {nf cf : Nat} {va vv vc : Value} {R : σ → World → (Nat → Prop) → Prop} {w wr w' : World} {F : Nat → Prop} {key : List Int} {v : Value} {s : σ} {G : Nat → Prop}
theorem EK.notG (h : EK m Af nf cf va vv vc R w F wr key v s G) {j : Nat} (h0 : w.heap.size ≤ j) (h7 : j < w.heap.size + 7) : ¬ G j := fun e => by
  rcases h.sub j e with h1 | h1
  · have := h.low j h1; omega
  · omega
theorem BoxC.keepF {b i : Nat} {vs : List Value} (h : BoxC wr b i vs) (k : KeepF G wr w') (hb : b < wr.heap.size) (hG : ¬ G b) : BoxC w' b i vs := h.keep fun i v hv => (k.cell (p := ⟨b, i, none⟩) hb hG).trans hv
/-- what the visitor has done -/
theorem EK.visited (h : EK m Af nf cf va vv vc R w F wr key v s G) {s' : σ} {G' : Nat → Prop} (hR : R s' w' G') (k : KeepF G wr w') (hs : ∀ g, G' g → G g ∨ wr.heap.size ≤ g) : EK m Af nf cf va vv vc R w F w' key v s' G' := by
  have hz := h.size
  have hw := k.size
  refine ⟨h.keep.trans k (fun g hg e => ?_), by omega, hR, fun g e => ?_, h.low, fun g e => ?_, h.own.keepF k (fun g e => (h.row g e).1), ?_, ?_, ?_, ?_, ?_, ?_, ?_⟩
  · rcases h.sub g e with h1 | h1
    · exact h1
    · omega
  · rcases hs g e with h1 | h1
    · exact h.sub g h1
    · right; omega
  · refine ⟨fun e' => ?_, (h.row g e).2⟩
    rcases hs g e' with h1 | h1
    · exact (h.row g e).1 h1
    · have := (h.own.lt g e).2; omega
  · exact h.cM.keepF k (by omega) (h.notG (by omega) (by omega))
  all_goals first | exact (k.frozen (by simp only; omega) (h.notG (by simp only; omega) (by simp only; omega))).trans (by first | exact h.fz) | exact (k.cell (by simp only; omega) (h.notG (by simp only; omega) (by simp only; omega))).trans (by first | exact h.cF | exact h.cA | exact h.cV | exact h.cK | exact h.cC)
theorem EK.below (h : EK m Af nf cf va vv vc R w F wr key v s G) (hb : Below wr.heap.size wr w') (fr : ∀ s w w' F, R s w F → KeepF (fun g => ¬ F g) w w' → R s w' F) : EK m Af nf cf va vv vc R w F w' key v s G :=
  h.visited (fr s wr w' G h.rep (KeepF.ofBelow hb)) (KeepF.ofBelow hb) fun g e => .inl e
/-- one block has been written that is the call's own -/
theorem EK.stored (h : EK m Af nf cf va vv vc R w F wr key v s G) (fr : ∀ s w w' F, R s w F → KeepF (fun g => ¬ F g) w w' → R s w' F) {key' : List Int} {A : Option Addr} {n c : Nat}
    (hr : ∀ g, (Value.slice A n c).ownBlock = some g → ¬ G g ∧ (g = w.heap.size + 4 ∨ w.heap.size + 7 ≤ g)) (ho : OV wr (w.heap.size + 4) 2 (.slice A n c) (ints key')) :
    EK m Af nf cf va vv vc R w F (wr.setCell ⟨w.heap.size + 5, 0, none⟩ (.slice A n c)) key' (.slice A n c) s G := by
  have hz := h.size
  have hF : ¬ F (w.heap.size + 5) := fun e => by have := h.low _ e; omega
  have k : KeepF (fun g => g = w.heap.size + 5) wr (wr.setCell ⟨w.heap.size + 5, 0, none⟩ (.slice A n c)) := (KeepF.refl (fun g => g = w.heap.size + 5) wr).setCell (p := ⟨w.heap.size + 5, 0, none⟩) (.inl rfl) _
  have hn : ¬ G (w.heap.size + 5) := h.notG (by omega) (by omega)
  refine ⟨h.keep.trans k (fun g hg e => by omega), by simpa using hz, fr s wr _ G h.rep (k.mono fun g e => by subst e; exact hn), h.sub, h.low, hr, ho.keepF k (fun g e => ?_), h.cM.keepF k (by omega) (by omega), ?_, ?_, ?_, ?_, ?_, ?_⟩
  · rcases (hr g e).2 with h1 | h1 <;> omega
  · exact (k.cell (by simp only; omega) (by simp only; omega)).trans h.cF
  · exact (k.cell (by simp only; omega) (by simp only; omega)).trans h.cA
  · exact (k.cell (by simp only; omega) (by simp only; omega)).trans h.cV
  · exact World.cell?_setCell_same _ _ _ h.cK
  · exact (k.cell (by simp only; omega) (by simp only; omega)).trans h.cC
  · simpa using h.fz
/-- the key has been written: a new row, or a shorter one -/
theorem EK.move (h : EK m Af nf cf va vv vc R w F wr key v s G) (fr : ∀ s w w' F, R s w F → KeepF (fun g => ¬ F g) w w' → R s w' F) {K : Nat → Prop} {w5 : World} {key' : List Int} {v' : Value} (k : KeepF K wr w5)
    (hK : ∀ g, g < wr.heap.size → K g → ¬ G g ∧ (g = w.heap.size + 4 ∨ g = w.heap.size + 5 ∨ w.heap.size + 7 ≤ g)) (hr : ∀ g, v'.ownBlock = some g → ¬ G g ∧ (g = w.heap.size + 4 ∨ w.heap.size + 7 ≤ g))
    (ho : OV w5 (w.heap.size + 4) 2 v' (ints key')) (hc : w5.cell? ⟨w.heap.size + 5, 0, none⟩ = some v') (hf : w5.frozen? ⟨w.heap.size + 5, 0, none⟩ = false) :
    EK m Af nf cf va vv vc R w F w5 key' v' s G := by
  have hz := h.size
  have hw := k.size
  have k' : KeepF (fun g => g < wr.heap.size ∧ K g) wr w5 := ⟨k.os, k.tape, k.output, k.size, fun g hg hn => k.block g hg fun e => hn ⟨hg, e⟩⟩
  have hn : ∀ j, j < w.heap.size + 7 → j ≠ w.heap.size + 4 → j ≠ w.heap.size + 5 → ¬ (j < wr.heap.size ∧ K j) := fun j h1 h2 h3 e => by have := (hK j e.1 e.2).2; omega
  refine ⟨h.keep.trans k' (fun g hg e => ?_), by omega, fr s wr _ G h.rep (k'.mono fun g e => (hK g e.1 e.2).1), h.sub, h.low, hr, ho, h.cM.keepF k' (by omega) (hn _ (by omega) (by omega) (by omega)), ?_, ?_, ?_, hc, ?_, hf⟩
  · exfalso; have := (hK g e.1 e.2).2; omega
  · exact (k'.cell (by simp only; omega) (hn _ (by simp only; omega) (by simp only; omega) (by simp only; omega))).trans h.cF
  · exact (k'.cell (by simp only; omega) (hn _ (by simp only; omega) (by simp only; omega) (by simp only; omega))).trans h.cA
  · exact (k'.cell (by simp only; omega) (hn _ (by simp only; omega) (by simp only; omega) (by simp only; omega))).trans h.cV
  · exact (k'.cell (by simp only; omega) (hn _ (by simp only; omega) (by simp only; omega) (by simp only; omega))).trans h.cC
/-- behind an append of the key, ahead of the store -/
theorem EK.grow (h : EK m Af nf cf va vv vc R w F wr key v s G) {o : Obj} {w4 : World} (hg : (wr.alloc o).grownBy w4 v.ownBlock) :
    w4.cell? ⟨w.heap.size + 5, 0, none⟩ = some v ∧ w4.frozen? ⟨w.heap.size + 5, 0, none⟩ = false ∧ KeepF (fun g => v.ownBlock = some g) wr w4 := by
  have hz := h.size
  have k : KeepF (fun g => v.ownBlock = some g) wr w4 := ((KeepF.refl _ _).alloc o).grown hg (fun g e => .inl e)
  have hn : ¬ (v.ownBlock = some (w.heap.size + 5)) := fun e => by have := (h.row _ e).2; omega
  exact ⟨(k.cell (by simp only; omega) hn).trans h.cK, (k.frozen (by simp only; omega) hn).trans h.fz, k⟩
/-- and behind the store -/
theorem EK.push (h : EK m Af nf cf va vv vc R w F wr key v s G) (lt : ∀ s w F, R s w F → ∀ g, F g → g < w.heap.size) (fr : ∀ s w w' F, R s w F → KeepF (fun g => ¬ F g) w w' → R s w' F) {o : Obj} {w4 : World} (hg : (wr.alloc o).grownBy w4 v.ownBlock)
    {v' : Value} {key' : List Int} (hat : v'.ownBlock = v.ownBlock ∨ v'.ownBlock = some (wr.alloc o).heap.size) (ho : OV w4 (w.heap.size + 4) 2 v' (ints key')) :
    EK m Af nf cf va vv vc R w F (w4.setCell ⟨w.heap.size + 5, 0, none⟩ v') key' v' s G := by
  obtain ⟨h1, h2, k⟩ := h.grow hg
  have hz := h.size
  have hrow : ∀ g, v'.ownBlock = some g → ¬ G g ∧ (g = w.heap.size + 4 ∨ w.heap.size + 7 ≤ g) := fun g e => by
    rcases hat with e1 | e1
    · exact h.row g (e1.symm.trans e)
    · have e2 := e1.symm.trans e
      injection e2 with e2
      rw [World.size_alloc] at e2
      exact ⟨fun hg => by have := lt _ _ _ h.rep g hg; omega, by omega⟩
  have k5 : KeepF (fun g => v.ownBlock = some g ∨ g = w.heap.size + 5) wr (w4.setCell ⟨w.heap.size + 5, 0, none⟩ v') := (k.mono (fun g e => .inl e)).setCell (p := ⟨w.heap.size + 5, 0, none⟩) (.inl (.inr rfl)) _
  refine h.move fr k5 (fun g hlt e => ?_) hrow ?_ (World.cell?_setCell_same _ _ _ h1) (by simpa using h2)
  · rcases e with e | e
    · have := h.row g e; exact ⟨this.1, by omega⟩
    · subst e; exact ⟨h.notG (by omega) (by omega), by omega⟩
  · exact ho.keepF ((KeepF.refl (fun g => g = w.heap.size + 5) w4).setCell (p := ⟨w.heap.size + 5, 0, none⟩) (.inl rfl) _) (fun g e e' => by have := (hrow g e).2; omega)
/-- the key is cut at its end again -/
theorem EK.pop {A : Option Addr} {n c : Nat} (h : EK m Af nf cf va vv vc R w F wr key (.slice A n c) s G) (fr : ∀ s w w' F, R s w F → KeepF (fun g => ¬ F g) w w' → R s w' F) {key' : List Int} {d : Int} (hk : key = key' ++ [d]) (hn : n = key.length) :
    EK m Af nf cf va vv vc R w F (wr.setCell ⟨w.heap.size + 5, 0, none⟩ (.slice A key'.length c)) key' (.slice A key'.length c) s G := by
  have hlen : key.length = key'.length + 1 := by rw [hk]; simp
  have ho := h.own.cut' key'.length (by omega) (by omega)
  have e : (ints key).take key'.length = ints key' := by rw [hk, ← ints_take, List.take_left]
  rw [e] at ho
  exact h.stored fr (fun g hg => h.row g (by cases A with | none => simp [Value.ownBlock] at hg | some a => simpa [Value.ownBlock] using hg)) ho
end
end Go.Proofs.YtdedajohkdbdkaaGreatDoor
