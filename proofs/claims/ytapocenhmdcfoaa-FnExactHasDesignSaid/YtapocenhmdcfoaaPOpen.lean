/- Plain laws: the openers of a lock, the ghosts. No program. -/
import Derived.Test.YtapocenhmdcfoaaPEach
import Derived.Test.YtapocenhmdcfoaaFLock
import Derived.Test.YtapocenhmdcfoaaPLeastK
namespace Go.Proofs.Ytapocenhmdcfoaa
set_option linter.unusedVariables false
def begins (m : Mk) (xs : List Int) : Bool := stepsOK m.s xs && runsOK m.a xs
def stepOK (m : Mk) (key : List Int) (d : Int) : Bool := decide (key.length = 0) || decide (absI (d - key.getD (key.length - 1) 0) ≤ m.s)
theorem getD_left {xs ys : List Int} {i : Nat} (h : i < xs.length) : (xs ++ ys).getD i 0 = xs.getD i 0 := by
  simp [List.getD, List.getElem?_append_left h]
theorem getD_snoc (xs : List Int) (d : Int) : (xs ++ [d]).getD xs.length 0 = d := by simp [List.getD]
theorem range_congr {p q : Nat → Bool} {n : Nat} (h : ∀ i, i < n → p i = q i) : (List.range n).all p = (List.range n).all q := by
  rw [Bool.eq_iff_iff]; simp only [List.all_eq_true, List.mem_range]
  exact ⟨fun g i hi => by rw [← h i hi]; exact g i hi, fun g i hi => by rw [h i hi]; exact g i hi⟩
theorem begins_snoc (m : Mk) (key : List Int) (d : Int) : begins m (key ++ [d]) = (begins m key && (stepOK m key d && mayRun m key d)) := by
  have h1 : stepsOK m.s (key ++ [d]) = (stepsOK m.s key && stepOK m key d) := by
    unfold stepsOK
    rw [List.length_append, List.length_cons, List.length_nil, Nat.zero_add, rangeAll_next]
    congr 1
    · apply range_congr; intro i hi; unfold stepAt
      rw [getD_left hi, getD_left (by omega)]
    · unfold stepAt stepOK
      rw [getD_snoc]
      by_cases h0 : key.length = 0
      · simp [h0]
      · rw [getD_left (by omega)]; simp [h0]
  have h2 : runsOK m.a (key ++ [d]) = (runsOK m.a key && mayRun m key d) := by
    unfold runsOK
    rw [List.length_append, List.length_cons, List.length_nil, Nat.zero_add, rangeAll_next]
    congr 1
    · apply range_congr; intro i hi; unfold runAt
      rw [List.take_append_of_le_length (by omega)]
    · unfold runAt mayRun
      rw [List.take_of_length_le (by simp)]
  unfold begins; rw [h1, h2]
  cases stepsOK m.s key <;> cases runsOK m.a key <;> cases stepOK m key d <;> cases mayRun m key d <;> rfl
theorem begins_nil (m : Mk) : begins m [] = true := by simp [begins, stepsOK, runsOK]
theorem begins_take {m : Mk} {x : List Int} (h : begins m x = true) (k : Nat) : begins m (x.take k) = true := by
  have key : ∀ n, n ≤ x.length → begins m (x.take n) = true → ∀ j, j ≤ n → begins m (x.take j) = true := by
    intro n
    induction n with
    | zero => intro _ h j hj; obtain rfl : j = 0 := by omega
              exact h
    | succ n ih =>
      intro hn h j hj
      by_cases e : j = n + 1
      · subst e; exact h
      · rw [List.take_succ_eq_append_getElem (by omega), begins_snoc, Bool.and_eq_true] at h
        exact ih (by omega) h.1 j (by omega)
  by_cases hk : k ≤ x.length
  · exact key x.length (Nat.le_refl _) (by rw [List.take_length]; exact h) k hk
  · rw [List.take_of_length_le (by omega)]; exact h
theorem keysG_may (m : Mk) (al : Nat → Int → Bool) (key : List Int) (d : Int) : (mayAt m al key d && mayRun m key d) = (al key.length d && (stepOK m key d && mayRun m key d)) := by
  unfold mayAt stepOK; rw [Bool.and_assoc]
theorem least_f (fr key : List Int) : least fr key false = 0 := by simp [least]
/-- the reference's openers -/
def openF (m : Mk) (l : List (List Int)) : Nat → List Int → Int → List (List Int)
  | 0, cuts, most => if (begins m cuts && decide (0 < most)) = true then (if kinds cuts < m.l then [] else [cuts]) else []
  | r + 1, cuts, most => if (begins m cuts && decide (0 < most)) = true then (l.getD cuts.length []).foldl (fun out d => out ++ openF m l r (cuts ++ [d]) (most - (out.length : Int))) [] else []
theorem foldl_take {α : Type} (f : Int → List α) (F : Int → Int → List α) (hF : ∀ d k, F d k = (f d).take k.toNat) (most : Int) (h0 : 0 ≤ most) : ∀ (ds : List Int) (out : List α),
    ds.foldl (fun out d => out ++ F d (most - (out.length : Int))) (out.take most.toNat) = (out ++ ds.flatMap f).take most.toNat
  | [], out => by simp
  | d :: ds, out => by
    rw [List.foldl_cons, List.flatMap_cons, ← List.append_assoc, ← foldl_take f F hF most h0 ds (out ++ f d), hF, List.take_append]
    congr 3
    rw [List.length_take]; omega
theorem flatMap_ite {α : Type} (p : Int → Bool) (f : Int → List α) : ∀ ds : List Int, (ds.flatMap fun d => if p d = true then f d else []) = (ds.filter p).flatMap f
  | [] => rfl
  | d :: ds => by
    rw [List.flatMap_cons, flatMap_ite p f ds, List.filter_cons]
    by_cases h : p d = true
    · rw [if_pos h, if_pos h, List.flatMap_cons]
    · rw [if_neg h, if_neg h, List.nil_append]
theorem flatMap_same {α : Type} {f g : Int → List α} : ∀ {ds : List Int}, (∀ d, d ∈ ds → f d = g d) → ds.flatMap f = ds.flatMap g
  | [], _ => rfl
  | d :: ds, h => by rw [List.flatMap_cons, List.flatMap_cons, h d (by simp), flatMap_same (fun x hx => h x (by simp [hx]))]
theorem inc_lo {hi : Int} : ∀ {xs : List Int} {lo : Int}, Inc lo hi xs → ∀ x, x ∈ xs → lo ≤ x ∧ x < hi
  | [], _, _, x, hx => by simp at hx
  | y :: r, lo, h, x, hx => by
    rcases List.mem_cons.1 hx with rfl | hx
    · exact ⟨h.1, h.2.1⟩
    · have := inc_lo h.2.2 x hx; have := h.1; omega
theorem inc_filter (hi : Int) : ∀ (n : Nat) (lo : Int) (xs : List Int), hi - lo ≤ n → Inc lo hi xs → (depths lo hi).filter (hasI xs) = xs
  | 0, lo, xs, hn, h => by
    rw [depths_nil (by omega)]
    cases xs with
    | nil => rfl
    | cons x r => have := h.1; have := h.2.1; omega
  | n + 1, lo, xs, hn, h => by
    by_cases hlt : lo < hi
    · rw [depths_cons hlt, List.filter_cons]
      cases xs with
      | nil => simp [hasI]
      | cons x r =>
        by_cases e : x = lo
        · subst e
          rw [if_pos (hasI_iff.2 (by simp))]
          congr 1
          rw [← inc_filter hi n (x + 1) r (by omega) h.2.2]
          rw [inc_filter hi n (x + 1) r (by omega) h.2.2]
          rw [show List.filter (hasI (x :: r)) (depths (x + 1) hi) = List.filter (hasI r) (depths (x + 1) hi) from ?_, inc_filter hi n (x + 1) r (by omega) h.2.2]
          apply List.filter_congr
          intro y hy
          have := mem_depths.1 hy
          rw [Bool.eq_iff_iff, hasI_iff, hasI_iff, List.mem_cons]
          constructor
          · rintro (rfl | h); omega; exact h
          · exact .inr
        · have h1 := h.1
          rw [if_neg]
          · exact inc_filter hi n (lo + 1) (x :: r) (by omega) ⟨by omega, h.2.1, h.2.2⟩
          · intro hc
            have := inc_lo (lo := lo + 1) (show Inc (lo + 1) hi (x :: r) from ⟨by omega, h.2.1, h.2.2⟩) lo (hasI_iff.1 hc)
            omega
    · cases xs with
      | nil => rw [depths_nil (by omega)]; rfl
      | cons x r => have := h.1; have := h.2.1; omega
theorem openF_eq (m : Mk) (l : List (List Int)) (hl : ∀ i, Inc 0 m.d (l.getD i [])) : ∀ (r : Nat) (cuts : List Int) (most : Int), openF m l r cuts most = if begins m cuts = true then (keysG m (frees l) [] r cuts false).take most.toNat else []
  | 0, cuts, most => by
    rw [openF, keysG]
    by_cases hb : begins m cuts = true
    · rw [if_pos hb, hb, Bool.true_and]
      by_cases h0 : 0 < most
      · rw [if_pos (by simpa using h0)]
        split
        · simp
        · rw [List.take_of_length_le (by simp; omega)]
      · rw [if_neg (by simpa using h0), show most.toNat = 0 by omega, List.take_zero]
    · rw [if_neg hb, if_neg (by rw [Bool.and_eq_true]; exact fun h => hb h.1)]
  | r + 1, cuts, most => by
    rw [openF]
    by_cases hb : begins m cuts = true
    · rw [if_pos hb, hb, Bool.true_and]
      by_cases h0 : 0 < most
      · rw [if_pos (by simpa using h0)]
        have hF : ∀ d k, openF m l r (cuts ++ [d]) k = (if begins m (cuts ++ [d]) = true then keysG m (frees l) [] r (cuts ++ [d]) false else []).take k.toNat := by
          intro d k
          rw [openF_eq m l hl r (cuts ++ [d]) k]
          split
          · rfl
          · simp
        have := foldl_take (fun d => if begins m (cuts ++ [d]) = true then keysG m (frees l) [] r (cuts ++ [d]) false else []) (fun d k => openF m l r (cuts ++ [d]) k) hF most (by omega) (l.getD cuts.length []) []
        rw [List.take_nil, List.nil_append] at this
        rw [this]
        congr 1
        rw [keysG, least_f]
        have e : ∀ d, (if (mayAt m (frees l) cuts d && mayRun m cuts d) = true then keysG m (frees l) [] r (cuts ++ [d]) (false && d == 0) else []) = if hasI (l.getD cuts.length []) d = true then (if begins m (cuts ++ [d]) = true then keysG m (frees l) [] r (cuts ++ [d]) false else []) else [] := by
          intro d
          rw [keysG_may, begins_snoc, hb, Bool.true_and, Bool.false_and]
          show (if (hasI (l.getD cuts.length []) d && _) = true then _ else _) = _
          cases hasI (l.getD cuts.length []) d <;> simp
        simp only [e]
        rw [flatMap_ite (hasI (l.getD cuts.length [])), inc_filter m.d m.d.toNat 0 _ (by omega) (hl _)]
      · rw [if_neg (by simpa using h0), show most.toNat = 0 by omega, List.take_zero]
    · rw [if_neg hb, if_neg (by rw [Bool.and_eq_true]; exact fun h => hb h.1)]
/-! ### which keys there are -/
theorem keysG_pref (m : Mk) (al : Nat → Int → Bool) (fr : List Int) : ∀ (r : Nat) (key : List Int) (t : Bool) (x : List Int), x ∈ keysG m al fr r key t → x.length = key.length + r ∧ x.take key.length = key
  | 0, key, t, x, h => by
    rw [keysG] at h
    split at h
    · simp at h
    · simp at h; subst h; simp
  | r + 1, key, t, x, h => by
    rw [keysG, List.mem_flatMap] at h
    obtain ⟨d, _, h⟩ := h
    split at h
    · obtain ⟨h1, h2⟩ := keysG_pref m al fr r _ _ x h
      rw [List.length_append, List.length_cons, List.length_nil, Nat.zero_add] at h1 h2
      refine ⟨by omega, ?_⟩
      have := congrArg (List.take key.length) h2
      rw [List.take_take, Nat.min_eq_left (by omega), List.take_append_of_le_length (Nat.le_refl _), List.take_length] at this
      exact this
    · simp at h
theorem take_snoc_getD {x key : List Int} {d : Int} (h : x.take (key.length + 1) = key ++ [d]) : x.getD key.length 0 = d := by
  have h1 : (x.take (key.length + 1)).getD key.length 0 = d := by rw [h, getD_snoc]
  rw [← h1]
  simp [List.getD]
theorem take_getD_snoc {x key : List Int} (h : x.take key.length = key) (hl : key.length < x.length) : x.take (key.length + 1) = key ++ [x.getD key.length 0] := by
  rw [List.take_succ_eq_append_getElem hl, h]; simp [List.getD, List.getElem?_eq_getElem hl]
theorem mem_keysG (m : Mk) (al : Nat → Int → Bool) : ∀ (r : Nat) (key x : List Int), begins m key = true →
    (x ∈ keysG m al [] r key false ↔ (x.length = key.length + r ∧ x.take key.length = key ∧ begins m x = true ∧ m.l ≤ kinds x ∧ ∀ i, key.length ≤ i → i < x.length → 0 ≤ x.getD i 0 ∧ x.getD i 0 < m.d ∧ al i (x.getD i 0) = true))
  | 0, key, x, hb => by
    rw [keysG]
    constructor
    · intro h
      split at h
      · simp at h
      · simp at h; subst h
        exact ⟨by simp, by simp, hb, by omega, fun i h1 h2 => by omega⟩
    · rintro ⟨h1, h2, h3, h4, h5⟩
      rw [List.take_of_length_le (by omega)] at h2
      subst h2
      rw [if_neg (by omega)]; simp
  | r + 1, key, x, hb => by
    rw [keysG, List.mem_flatMap, least_f]
    constructor
    · rintro ⟨d, hd, h⟩
      have hd := mem_depths.1 hd
      by_cases hc : (mayAt m al key d && mayRun m key d) = true
      · rw [if_pos hc] at h
        rw [Bool.false_and] at h
        rw [keysG_may, Bool.and_eq_true] at hc
        have hb' : begins m (key ++ [d]) = true := by rw [begins_snoc, hb, hc.2]; rfl
        obtain ⟨h1, h2, h3, h4, h5⟩ := (mem_keysG m al r (key ++ [d]) x hb').1 h
        have hp := keysG_pref m al [] r _ _ x h
        rw [List.length_append, List.length_cons, List.length_nil, Nat.zero_add] at h1 h2 h5
        have hg := take_snoc_getD h2
        refine ⟨by omega, ?_, h3, h4, fun i hi1 hi2 => ?_⟩
        · have := congrArg (List.take key.length) h2
          rw [List.take_take, Nat.min_eq_left (by omega), List.take_append_of_le_length (Nat.le_refl _), List.take_length] at this
          exact this
        · by_cases e : i = key.length
          · subst e; rw [hg]; exact ⟨hd.1, hd.2, hc.1⟩
          · exact h5 i (by omega) hi2
      · rw [if_neg hc] at h; simp at h
    · rintro ⟨h1, h2, h3, h4, h5⟩
      have hlt : key.length < x.length := by omega
      have hk := h5 key.length (Nat.le_refl _) hlt
      refine ⟨x.getD key.length 0, mem_depths.2 ⟨hk.1, hk.2.1⟩, ?_⟩
      have ht := take_getD_snoc h2 hlt
      have hb' : begins m (key ++ [x.getD key.length 0]) = true := by rw [← ht]; exact begins_take h3 _
      have hc := hb'
      rw [begins_snoc, Bool.and_eq_true] at hc
      rw [if_pos (by rw [keysG_may, hk.2.2, hc.2]; rfl), Bool.false_and, mem_keysG m al r _ x hb']
      rw [List.length_append, List.length_cons, List.length_nil, Nat.zero_add]
      exact ⟨by omega, ht, h3, h4, fun i hi1 hi2 => h5 i (by omega) hi2⟩
theorem nodup_keysG (m : Mk) (al : Nat → Int → Bool) (fr : List Int) : ∀ (r : Nat) (key : List Int) (t : Bool), (keysG m al fr r key t).Nodup
  | 0, key, t => by rw [keysG]; split <;> simp
  | r + 1, key, t => by
    rw [keysG]
    show List.Pairwise _ _
    rw [List.pairwise_flatMap]
    constructor
    · intro d _
      split
      · exact nodup_keysG m al fr r _ _
      · exact List.Pairwise.nil
    · have hp : List.Pairwise (· < ·) (depths (least fr key t) m.d) := by
        unfold depths
        rw [List.pairwise_map]
        exact List.pairwise_lt_range.imp (fun {a b} h => by omega)
      refine hp.imp ?_
      intro a b hab x hx y hy e
      subst e
      split at hx
      · split at hy
        · have h1 := (keysG_pref m al fr r _ _ x hx).2
          have h2 := (keysG_pref m al fr r _ _ x hy).2
          rw [List.length_append, List.length_cons, List.length_nil, Nat.zero_add] at h1 h2
          have := take_snoc_getD h1; have := take_snoc_getD h2; omega
        · simp at hy
      · simp at hx
theorem keysG_congr {m : Mk} {al al' : Nat → Int → Bool} : ∀ (r : Nat) (key : List Int), (∀ ch d, ch < key.length + r → 0 ≤ d → d < m.d → al ch d = al' ch d) → keysG m al [] r key false = keysG m al' [] r key false
  | 0, key, h => by rw [keysG, keysG]
  | r + 1, key, h => by
    rw [keysG, keysG]
    apply flatMap_same
    intro d hd
    have hd := mem_depths.1 hd
    rw [least_f] at hd
    rw [keysG_may, keysG_may, h key.length d (by omega) hd.1 hd.2, Bool.false_and]
    split
    · exact keysG_congr r _ (fun ch d h1 h2 h3 => h ch d (by simp at h1; omega) h2 h3)
    · rfl
end Go.Proofs.Ytapocenhmdcfoaa
