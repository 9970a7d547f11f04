/- Plain laws: the keys in order, the next key behind one; with which keys open partial cuts stay open. No program. -/
import Derived.Test.YtapocenhmdcfoaaGreatPLongest
import Derived.Test.YtapocenhmdcfoaaGreatPOpen
namespace Go.Proofs.YtapocenhmdcfoaaGreat
open Go.RowKit
/-- all keys of a maker, in order -/
def allA : Nat → Int → Bool := fun _ _ => true
def allK (m : Mk) : List (List Int) := keysG m allA [] m.c.toNat [] false
/-- the first key with r more cuts -/
def firstK (m : Mk) (r : Nat) (cuts : List Int) : Option (List Int) := if begins m cuts = true then (keysG m allA [] r cuts false).head? else none
/-- the keys of keysFrom's begin with the first one of a depth -/
theorem keysFrom_all {m : Mk} {key : List Int} (hb : begins m key = true) (r : Nat) (d : Int) : keysFrom m allA [] r key false d = (depths d m.d).flatMap fun d => if begins m (key ++ [d]) = true then keysG m allA [] r (key ++ [d]) false else [] := by
  unfold keysFrom
  apply flatMap_same
  intro d _
  rw [keysG_may, begins_snoc, hb, Bool.false_and]
  rfl
theorem keysFrom_none {m : Mk} {key : List Int} (hb : begins m key = true) {r : Nat} {d : Int} (hd : d < m.d) (h : firstK m r (key ++ [d]) = none) : keysFrom m allA [] r key false d = keysFrom m allA [] r key false (d + 1) := by
  rw [keysFrom_all hb, keysFrom_all hb, depths_cons hd, List.flatMap_cons]
  unfold firstK at h
  split at h
  · rw [if_pos ‹_›, List.head?_eq_none_iff.1 h]; rfl
  · rw [if_neg ‹_›]; rfl
theorem keysFrom_some {m : Mk} {key : List Int} (hb : begins m key = true) {r : Nat} {d : Int} (hd : d < m.d) {x : List Int} (h : firstK m r (key ++ [d]) = some x) : (keysFrom m allA [] r key false d).head? = some x := by
  rw [keysFrom_all hb, depths_cons hd, List.flatMap_cons]
  unfold firstK at h
  split at h
  · rw [if_pos ‹_›, List.head?_append, h]; rfl
  · cases h
theorem firstK_zero {m : Mk} {key : List Int} (hb : begins m key = true) : firstK m 0 key = if kinds key < m.l then none else some key := by
  unfold firstK; rw [if_pos hb, keysG]; split <;> rfl
theorem firstK_succ {m : Mk} {key : List Int} (hb : begins m key = true) (r : Nat) : firstK m (r + 1) key = (keysFrom m allA [] r key false 0).head? := by
  unfold firstK; rw [if_pos hb, keysG_succ, least_f]
theorem firstK_no {m : Mk} {key : List Int} (hb : begins m key = false) (r : Nat) : firstK m r key = none := by
  unfold firstK; rw [if_neg (by rw [hb]; simp)]
theorem firstK_mem {m : Mk} {r : Nat} {key x : List Int} (h : firstK m r key = some x) : x ∈ keysG m allA [] r key false ∧ begins m key = true := by
  unfold firstK at h
  split at h
  · exact ⟨List.mem_of_head? h, ‹_›⟩
  · cases h
/-- the keys behind pre ++ rest that begin with pre -/
def behindK (m : Mk) : List Int → List Int → List (List Int)
  | _, [] => []
  | pre, d :: rest => behindK m (pre ++ [d]) rest ++ keysFrom m allA [] rest.length pre false (d + 1)
theorem depths_split {lo d hi : Int} (h1 : lo ≤ d) (h2 : d < hi) : depths lo hi = depths lo d ++ d :: depths (d + 1) hi := by
  obtain ⟨n, hn⟩ : ∃ n : Nat, (d - lo).toNat = n := ⟨_, rfl⟩
  induction n generalizing lo with
  | zero => obtain rfl : lo = d := by omega
            rw [depths_nil (Int.le_refl _), depths_cons h2]; rfl
  | succ n ih => rw [depths_cons (show lo < hi by omega), depths_cons (show lo < d by omega), ih (lo := lo + 1) (by omega) (by omega)]; rfl
theorem keysG_cut {m : Mk} : ∀ (rest pre : List Int), begins m pre = true → pre ++ rest ∈ keysG m allA [] rest.length pre false → ∃ A, keysG m allA [] rest.length pre false = A ++ (pre ++ rest) :: behindK m pre rest
  | [], pre, _, h => by
    rw [List.length_nil, keysG] at h ⊢
    rw [List.append_nil] at h ⊢
    split at h
    · cases h
    · rw [if_neg ‹_›]; exact ⟨[], rfl⟩
  | d :: rest, pre, hb, h => by
    rw [List.length_cons, keysG_succ, least_f, keysFrom_all hb] at h ⊢
    obtain ⟨e, he, hx⟩ := List.mem_flatMap.1 h
    have he := mem_depths.1 he
    split at hx
    · have hp := (keysG_pref m allA [] _ _ _ _ hx).2
      rw [List.length_append, List.length_cons, List.length_nil, Nat.zero_add] at hp
      have hd := take_snoc_getD hp
      rw [show (pre ++ d :: rest).getD pre.length 0 = d by simp [List.getD]] at hd
      subst hd
      rename_i hbd
      rw [show pre ++ d :: rest = (pre ++ [d]) ++ rest by simp] at hx
      obtain ⟨A, hA⟩ := keysG_cut rest (pre ++ [d]) hbd hx
      rw [depths_split he.1 he.2, List.flatMap_append, List.flatMap_cons, if_pos hbd, hA, behindK, keysFrom_all hb]
      exact ⟨(depths 0 d).flatMap (fun d => if begins m (pre ++ [d]) = true then keysG m allA [] rest.length (pre ++ [d]) false else []) ++ A, by simp [List.append_assoc]⟩
    · cases hx
theorem nodup_cut {α : Type} : ∀ {xs xs' : List α} {k : α} {ys ys' : List α}, (xs ++ k :: ys).Nodup → xs ++ k :: ys = xs' ++ k :: ys' → ys = ys'
  | [], [], k, ys, ys', _, h => by injection h
  | [], x :: xs', k, ys, ys', hn, h => by
    rw [List.nil_append, List.cons_append] at h
    injection h with h1 h2
    subst h1
    rw [List.nil_append, List.nodup_cons] at hn
    exact absurd (by rw [h2]; simp) hn.1
  | x :: xs, [], k, ys, ys', hn, h => by
    rw [List.nil_append, List.cons_append] at h
    injection h with h1 h2
    subst h1
    rw [List.cons_append, List.nodup_cons] at hn
    exact absurd (by simp) hn.1
  | x :: xs, x' :: xs', k, ys, ys', hn, h => by
    rw [List.cons_append, List.cons_append] at h
    injection h with h1 h2
    rw [List.cons_append, List.nodup_cons] at hn
    exact nodup_cut hn.2 h2
/-- the keys behind a key -/
theorem allK_behind {m : Mk} {done tl : List (List Int)} {key : List Int} (h : allK m = done ++ key :: tl) : behindK m [] key = tl := by
  have hm : key ∈ allK m := by rw [h]; simp
  have hn := nodup_keysG m allA [] m.c.toNat [] false
  have hp := (keysG_pref m allA [] _ _ _ _ hm).1
  have hl : key.length = m.c.toNat := by simpa using hp
  have hm2 : ([] : List Int) ++ key ∈ keysG m allA [] key.length [] false := by rw [hl]; exact hm
  obtain ⟨A, hA⟩ := keysG_cut key [] (begins_nil m) hm2
  rw [hl] at hA
  have e : done ++ key :: tl = A ++ key :: behindK m [] key := h.symm.trans hA
  exact (nodup_cut (by rw [← h]; exact hn) e).symm
theorem behindK_app (m : Mk) : ∀ (a pre b : List Int), ∃ more, behindK m pre (a ++ b) = behindK m (pre ++ a) b ++ more
  | [], pre, b => ⟨[], by simp⟩
  | d :: a, pre, b => by
    obtain ⟨more, h⟩ := behindK_app m a (pre ++ [d]) b
    refine ⟨more ++ keysFrom m allA [] (a ++ b).length pre false (d + 1), ?_⟩
    rw [List.cons_append, behindK, h, List.append_assoc, show pre ++ [d] ++ a = pre ++ d :: a by simp]
theorem behind_cut (m : Mk) (cuts : List Int) (i : Nat) : ∃ more, behindK m [] cuts = behindK m (cuts.take i) (cuts.drop i) ++ more := by
  obtain ⟨more, h⟩ := behindK_app m (cuts.take i) [] (cuts.drop i)
  rw [List.take_append_drop, List.nil_append] at h
  exact ⟨more, h⟩
theorem behind_step (m : Mk) (cuts : List Int) (i : Nat) (h : i < cuts.length) : behindK m (cuts.take i) (cuts.drop i) = behindK m (cuts.take (i + 1)) (cuts.drop (i + 1)) ++ keysFrom m allA [] (cuts.length - (i + 1)) (cuts.take i) false (cuts[i] + 1) := by
  rw [List.drop_eq_getElem_cons h, behindK, List.take_succ_eq_append_getElem h, List.length_drop]
theorem behind_head {m : Mk} {cuts : List Int} {i : Nat} {x : List Int} (h : (behindK m (cuts.take i) (cuts.drop i)).head? = some x) : (behindK m [] cuts).head? = some x := by
  obtain ⟨more, e⟩ := behind_cut m cuts i
  rw [e, List.head?_append, h]; rfl
theorem allK_is {m : Mk} {x : List Int} (hm : isMaker m = true) : x ∈ allK m ↔ isKey m x = true := by
  have hb := mk_bounds hm
  unfold allK
  rw [mem_keysG m allA _ [] x (begins_nil m)]
  unfold isKey
  rw [beq_iff_eq, fault_zero_iff]
  have e : begins m x = true ↔ stepsOK m.s x = true ∧ runsOK m.a x = true := by unfold begins; rw [Bool.and_eq_true]
  rw [e]
  constructor
  · rintro ⟨h1, _, h3, h4, h5⟩
    refine ⟨by simp at h1; omega, ?_, h3.1, h3.2, h4⟩
    unfold allW
    rw [List.all_eq_true]
    intro y hy
    obtain ⟨j, hj, rfl⟩ := List.getElem_of_mem hy
    have := h5 j (by simp) hj
    rw [show x.getD j 0 = x[j] by simp [List.getD, List.getElem?_eq_getElem hj]] at this
    unfold inB
    simp; omega
  · rintro ⟨h1, h2, h3, h4, h5⟩
    refine ⟨by simp; omega, by simp, ⟨h3, h4⟩, h5, fun i _ hi => ?_⟩
    have := allW_at h2 hi
    rw [show x.getD i 0 = x[i] by simp [List.getD, List.getElem?_eq_getElem hi]]
    exact ⟨this.1, by omega, rfl⟩
/-! ### staysOpen -/
def openAt1 (l : List (List Int)) (key xs : List Int) (i : Nat) : Bool := (xs.getD i 0 == key.getD i 0) || frees l i (xs.getD i 0)
def openWith (l : List (List Int)) (key xs : List Int) : Bool := (List.range xs.length).all (openAt1 l key xs)
def stays1 (t cuts : List (List Int)) (l : List (List Int)) (key : List Int) (d k : Nat) : Bool := !((((t.getD cuts.length []).getD d 0 == 1) && ((t.getD k []).getD d 0 == 0)) && openWith l key (cuts.getD k []))
def staysD (t cuts : List (List Int)) (l : List (List Int)) (key : List Int) (d : Nat) : Bool := !(((t.getD cuts.length []).getD d 0 == 0) && opensL l key) && (List.range cuts.length).all (stays1 t cuts l key d)
def staysL (t cuts : List (List Int)) (ls : List (List (List Int))) (key : List Int) : Bool := (List.range ls.length).all fun d => staysD t cuts (ls.getD d []) key d
def staysF (m : Mk) (t cuts : List (List Int)) (key : List Int) : Bool := staysL t cuts (locksF m t cuts) key
theorem keysFor_snoc (t cuts : List (List Int)) (key : List Int) (d : Nat) : keysFor t (cuts ++ [key]) d = keysFor t cuts d ++ (if oneAt d (t.getD cuts.length []) = true then [key] else []) := by
  unfold keysFor
  rw [List.length_append, List.length_cons, List.length_nil, Nat.zero_add, keysForN_succ]
  congr 1
  · unfold keysForN
    refine List.map_congr_left fun i hi => ?_
    have := List.mem_range.1 (List.mem_filter.1 hi).1
    simp [List.getD, List.getElem?_append_left this]
  · rw [show (cuts ++ [key]).getD cuts.length [] = key by simp [List.getD]]
theorem opensL_snoc {m : Mk} {ks : List (List Int)} {key x : List Int} (hx : (x.length : Int) = m.c) (hk : allW 0 (m.d - 1) x = true) :
    opensL (hullF m.c.toNat m.d.toNat (ks ++ [key])) x = openWith (hullF m.c.toNat m.d.toNat ks) key x := by
  unfold opensL openWith
  apply range_congr
  intro i hi
  have hb := allW_at hk hi
  have hc : i < m.c.toNat := by omega
  unfold opensAt openAt1 frees
  rw [getD_row (by rw [hullF_length]; exact hc), hullF_at hc, getD_row (by rw [hullF_length]; exact hc), hullF_at hc]
  rw [Bool.eq_iff_iff, Bool.or_eq_true, hasI_iff, hasI_iff, mem_hullSet, mem_hullSet, beq_iff_eq]
  have e : colI (ks ++ [key]) i = colI ks i ++ [key.getD i 0] := by simp [colI]
  rw [e, List.mem_append, List.mem_singleton]
  rw [show x.getD i 0 = x[i] by simp [List.getD, List.getElem?_eq_getElem hi]]
  constructor
  · rintro ⟨h1, h2 | h2⟩
    · exact .inr ⟨h1, h2⟩
    · exact .inl h2
  · rintro (h | h)
    · exact ⟨⟨hb.1, by omega⟩, .inr h⟩
    · exact ⟨h.1, .inl h.2⟩
theorem key_parts {m : Mk} {x : List Int} (h : isKey m x = true) : (x.length : Int) = m.c ∧ allW 0 (m.d - 1) x = true := by
  have h3 := fault_zero_iff.1 (show fault m x = 0 by simpa [isKey] using h)
  exact ⟨h3.1, h3.2.1⟩
theorem getD_snocL (cuts : List (List Int)) (key : List Int) : (cuts ++ [key]).getD cuts.length [] = key := by simp [List.getD]
theorem getD_leftL {cuts : List (List Int)} {key : List Int} {k : Nat} (h : k < cuts.length) : (cuts ++ [key]).getD k [] = cuts.getD k [] := by simp [List.getD, List.getElem?_append_left h]
/-- open partial cuts stay open with a key -/
theorem stays_open {m : Mk} {t cuts : List (List Int)} {key : List Int} (hp : PartOK m t cuts) (ho : openPart m t cuts = true) : staysF m t cuts key = openPart m t (cuts ++ [key]) := by
  rw [Bool.eq_iff_iff, openPart_iff]
  have hlk : ∀ d, d < (t.headD []).length → (locksF m t cuts).getD d [] = hullF m.c.toNat m.d.toNat (keysFor t cuts d) := fun d hd => by
    rw [getD_lock (by rw [locksF_len]; exact hd), locksF_at]
  have hlk' : ∀ d, d < (t.headD []).length → (locksF m t (cuts ++ [key])).getD d [] = hullF m.c.toNat m.d.toNat (keysFor t cuts d ++ (if oneAt d (t.getD cuts.length []) = true then [key] else [])) := fun d hd => by
    rw [getD_lock (by rw [locksF_len]; exact hd), locksF_at, keysFor_snoc]
  have hold : ∀ k d : Nat, k < cuts.length → d < (t.headD []).length → isFault t cuts (locksF m t cuts) k d = false := fun k d hk hd => by
    cases hf : isFault t cuts (locksF m t cuts) k d with
    | false => rfl
    | true => exact absurd (mem_faultsF.2 ⟨k, d, hk, hd, hf, rfl⟩) (openPart_iff.1 ho _)
  have hck : ∀ k (hk : k < cuts.length), (cuts.getD k []).length = m.c ∧ allW 0 (m.d - 1) (cuts.getD k []) = true := fun k hk => by
    rw [getD_row hk]; exact key_parts (hp.keys k hk)
  -- what a fault with the key is
  have hnew : ∀ d, d < (t.headD []).length → isFault t (cuts ++ [key]) (locksF m t (cuts ++ [key])) cuts.length d = (((t.getD cuts.length []).getD d 0 == 0) && opensL ((locksF m t cuts).getD d []) key) := fun d hd => by
    unfold isFault
    rw [getD_snocL, hlk d hd, hlk' d hd]
    by_cases h0 : (t.getD cuts.length []).getD d 0 = 0
    · rw [if_neg (by unfold oneAt; rw [h0]; simp), List.append_nil]
    · rw [show ((t.getD cuts.length []).getD d 0 == 0) = false from beq_eq_false_iff_ne.2 h0]; rfl
  have hother : ∀ k d : Nat, k < cuts.length → d < (t.headD []).length → isFault t (cuts ++ [key]) (locksF m t (cuts ++ [key])) k d = !(stays1 t cuts ((locksF m t cuts).getD d []) key d k) := fun k d hk hd => by
    unfold stays1 isFault
    rw [Bool.not_not, getD_leftL hk, hlk' d hd]
    by_cases h1 : oneAt d (t.getD cuts.length []) = true
    · rw [if_pos h1, hlk d hd, opensL_snoc (hck k hk).1 (hck k hk).2]
      rw [show ((t.getD cuts.length []).getD d 0 == 1) = true from h1, Bool.true_and]
    · rw [if_neg h1, List.append_nil]
      have := hold k d hk hd
      unfold isFault at this
      rw [hlk d hd] at this
      rw [this]
      have h1' : ((t.getD cuts.length []).getD d 0 == 1) = false := by cases hq : ((t.getD cuts.length []).getD d 0 == 1) with | false => rfl | true => exact absurd hq h1
      rw [h1']; rfl
  constructor
  · intro hs x hx
    obtain ⟨k, d, hk, hd, hf, rfl⟩ := mem_faultsF.1 hx
    unfold staysF staysL at hs
    rw [List.all_eq_true] at hs
    have hs := hs d (List.mem_range.2 (by rw [locksF_len]; exact hd))
    unfold staysD at hs
    rw [Bool.and_eq_true, List.all_eq_true] at hs
    rw [List.length_append, List.length_cons, List.length_nil, Nat.zero_add] at hk
    by_cases e : k = cuts.length
    · subst e
      rw [hnew d hd] at hf
      rw [hf] at hs; exact absurd hs.1 (by simp)
    · rw [hother k d (by omega) hd] at hf
      rw [hs.2 k (List.mem_range.2 (by omega))] at hf; cases hf
  · intro hx
    unfold staysF staysL
    rw [List.all_eq_true]
    intro d hd
    have hd := List.mem_range.1 hd
    rw [locksF_len] at hd
    unfold staysD
    rw [Bool.and_eq_true, List.all_eq_true]
    have hlen : (cuts ++ [key]).length = cuts.length + 1 := by simp
    constructor
    · cases hq : (((t.getD cuts.length []).getD d 0 == 0) && opensL ((locksF m t cuts).getD d []) key) with
      | false => rfl
      | true => exact absurd (mem_faultsF.2 ⟨cuts.length, d, by omega, hd, by rw [hnew d hd]; exact hq, rfl⟩) (hx _)
    · intro k hk
      have hk := List.mem_range.1 hk
      cases hq : stays1 t cuts ((locksF m t cuts).getD d []) key d k with
      | true => rfl
      | false => exact absurd (mem_faultsF.2 ⟨k, d, by omega, hd, by rw [hother k d hk hd, hq]; rfl, rfl⟩) (hx _)
theorem openPart_init {m : Mk} {t cuts : List (List Int)} {key : List Int} (h : openPart m t (cuts ++ [key]) = true) : openPart m t cuts = true := by
  have := openPart_down (k := cuts.length) h
  rwa [List.take_left] at this
/-! ### candidates -/
/-- the keys with which partial cuts are open -/
def candsF (m : Mk) (t cuts : List (List Int)) : List (List Int) := (allK m).filter fun k => openPart m t (cuts ++ [k])
theorem candsF_closed {m : Mk} {t cuts : List (List Int)} (h : openPart m t cuts = false) : candsF m t cuts = [] := by
  unfold candsF
  rw [List.filter_eq_nil_iff]
  intro k _ hk
  rw [openPart_init hk] at h; cases h
theorem candsF_stays {m : Mk} {t cuts : List (List Int)} (hp : PartOK m t cuts) (h : openPart m t cuts = true) : candsF m t cuts = (allK m).filter (staysF m t cuts) := by
  unfold candsF
  exact List.filter_congr fun k _ => (stays_open hp h).symm
theorem allK_len {m : Mk} (hm : isMaker m = true) : (allK m).length ≤ 262144 := by
  have hb := mk_bounds hm
  have h := keysG_len m allA [] hb.2.2.2.1 (fun k => by simp [List.getD]) m.c.toNat [] false
  have h2 : 8 ^ m.c.toNat ≤ 8 ^ 6 := Nat.pow_le_pow_right (by omega) (by omega)
  unfold allK; omega
theorem candsF_len {m : Mk} {t cuts : List (List Int)} (hm : isMaker m = true) : (candsF m t cuts).length ≤ 262144 := by
  have := List.length_filter_le (fun k => openPart m t (cuts ++ [k])) (allK m)
  have := allK_len hm
  unfold candsF; omega
/-- the program's visitor: keys found, how many -/
def visCand (p : List Int → Bool) (most : Int) (s : List (List Int) × Nat) (k : List Int) : Bool × (List (List Int) × Nat) :=
  if p k = true then (decide (((s.2 + 1 : Nat) : Int) ≠ most), (if 0 < most then s.1 ++ [k] else s.1, s.2 + 1)) else (true, s)
theorem runVis_cand_all (p : List Int → Bool) {most : Int} (h : most < 0) : ∀ (ks : List (List Int)) (s : List (List Int) × Nat), (runVis (visCand p most) s ks).2 = (s.1, s.2 + (ks.filter p).length)
  | [], s => by simp [runVis]
  | k :: ks, s => by
    rw [runVis]
    by_cases hk : p k = true
    · have e : visCand p most s k = (true, (s.1, s.2 + 1)) := by
        unfold visCand; rw [if_pos hk, if_neg (by omega), decide_eq_true (by omega)]
      rw [e, if_pos rfl, runVis_cand_all p h ks, List.filter_cons, if_pos hk, List.length_cons]
      simp; omega
    · have e : visCand p most s k = (true, s) := by unfold visCand; rw [if_neg hk]
      rw [e, if_pos rfl, runVis_cand_all p h ks, List.filter_cons, if_neg hk]
theorem runVis_cand_most (p : List Int → Bool) {most : Nat} (h : 0 < most) : ∀ (ks : List (List Int)) (s : List (List Int) × Nat), s.1.length = s.2 → s.2 < most → (runVis (visCand p most) s ks).2.1 = (s.1 ++ ks.filter p).take most
  | [], s, h1, h2 => by rw [runVis, List.filter_nil, List.append_nil, List.take_of_length_le (by omega)]
  | k :: ks, s, h1, h2 => by
    rw [runVis]
    by_cases hk : p k = true
    · by_cases hm : s.2 + 1 = most
      · have e : visCand p most s k = (false, (s.1 ++ [k], s.2 + 1)) := by
          unfold visCand; rw [if_pos hk, if_pos (by omega), decide_eq_false (by omega)]
        rw [e, if_neg (by simp), List.filter_cons, if_pos hk, show s.1 ++ k :: ks.filter p = (s.1 ++ [k]) ++ ks.filter p by simp, List.take_append_of_le_length (by simp; omega), List.take_of_length_le (by simp; omega)]
      · have e : visCand p most s k = (true, (s.1 ++ [k], s.2 + 1)) := by
          unfold visCand; rw [if_pos hk, if_pos (by omega), decide_eq_true (by omega)]
        rw [e, if_pos rfl, runVis_cand_most p h ks _ (by simp; omega) (by simp; omega), List.filter_cons, if_pos hk]
        simp
    · have e : visCand p most s k = (true, s) := by unfold visCand; rw [if_neg hk]
      rw [e, if_pos rfl, runVis_cand_most p h ks _ h1 h2, List.filter_cons, if_neg hk]
/-- the answers -/
def moreC (m : Mk) (t cuts : List (List Int)) : Int := if partC m t cuts = 0 then (if cuts.length = t.length then 5 else 0) else partC m t cuts
end Go.Proofs.YtapocenhmdcfoaaGreat
