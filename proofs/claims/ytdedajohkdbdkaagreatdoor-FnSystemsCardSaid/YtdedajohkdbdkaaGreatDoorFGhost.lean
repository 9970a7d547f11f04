/- Contracts of allowedCode, l14Code, l14Key, IsGhost. -/
import Derived.Test.YtdedajohkdbdkaaGreatDoorFCodes
import Derived.StillTailTactics
import Derived.Test.YtdedajohkdbdkaaGreatDoorFHull
import Derived.Test.YtdedajohkdbdkaaGreatDoorEach
namespace Go.Proofs.YtdedajohkdbdkaaGreatDoor
set_option linter.unusedVariables false
open Go.RowKit
theorem alloc_at {w : World} {vs : Array Value} {T b j : Nat} {v : Value} (h : b = w.heap.size) (hv : vs[j]? = some v) : (w.alloc (.cells vs T)).cell? ⟨b, j, none⟩ = some v := by
  subst h; rw [World.cell?_alloc_at (hn := rfl)]; exact hv
theorem allowedC_1 {m : Mk} {l al ks : List (List Int)} (h : isLockF m l = false) : allowedC m l al ks = 1 := by simp [allowedC, h]
theorem allowedC_2 {m : Mk} {l al ks : List (List Int)} (h : isLockF m l = true) (h2 : 300 < al.length) : allowedC m l al ks = 2 := by simp [allowedC, h]; omega
theorem allowedC_k {m : Mk} {l al ks : List (List Int)} (h : isLockF m l = true) (h2 : al.length ≤ 300) : keysC m (al ++ ks) = allowedC m l al ks := by
  simp [allowedC, keysC, h, h2, isLock_mk h]
theorem lockC_1 {m : Mk} {l : List (List Int)} (h : isLockF m l = false) : lockC m l = 1 := by simp [lockC, h]
theorem lockC_0 {m : Mk} {l : List (List Int)} (h : isLockF m l = true) : lockC m l = 0 := by simp [lockC, h]
theorem RII.one {w : World} {g c : Nat} {A : Option Addr} {xs : List Int} (hc : xs.length ≤ c) (h : RI w A xs) (hcell : w.cell? ⟨g, 0, none⟩ = some (.slice A xs.length c)) : RII w (some ⟨g, 0, none⟩) [xs] := by
  refine ⟨[.slice A xs.length c], rfl, ⟨by simp, fun _ => ⟨g, 0, rfl, fun j u hu => ?_⟩⟩, fun j hj => ?_⟩
  · match j, hu with
    | 0, hu => simp at hu; subst hu; exact hcell
  · match j, hj with
    | 0, _ => exact ⟨A, c, rfl, hc, h⟩
theorem allowedC_0 {m : Mk} {l al ks : List (List Int)} (h : allowedC m l al ks = 0) : isLockF m l = true ∧ al.length ≤ 300 ∧ areKeysF m (al ++ ks) = true := by
  unfold allowedC at h
  split at h
  · rename_i h1
    split at h
    · rename_i h2
      rw [Bool.and_eq_true, decide_eq_true_eq] at h2
      exact ⟨h1, h2.1, h2.2⟩
    · cases h
  · cases h
theorem keys_app {m : Mk} {al ks : List (List Int)} : areKeysF m (al ++ ks) = (areKeysF m al && areKeysF m ks) := List.all_append
theorem ghost_len {m : Mk} {l al : List (List Int)} {key : List Int} (h : allowedC m l al [key] = 0) : key.length ≤ l.length := by
  obtain ⟨h1, h2, h3⟩ := allowedC_0 h
  rw [keys_app, Bool.and_eq_true] at h3
  have h4 : isKey m key = true := by have := h3.2; simpa [areKeysF] using this
  have := isLock_len h1; have := isKey_len h4; omega
end Go.Proofs.YtdedajohkdbdkaaGreatDoor

/- Contracts of l14Key, IsGhost. -/
namespace Go.Proofs.YtdedajohkdbdkaaGreatDoor
set_option linter.unusedVariables false
open Go.RowKit
def isGhostR (m : Mk) (l al : List (List Int)) (key : List Int) : Bool × Int := if allowedC m l al [key] = 0 then (opensL l key && !hasL al key, 0) else (false, allowedC m l al [key])
theorem isGhost_no {m : Mk} {l al : List (List Int)} {key : List Int} (h : allowedC m l al [key] ≠ 0) : (false, allowedC m l al [key]) = isGhostR m l al key := by unfold isGhostR; rw [if_neg h]
theorem isGhost_yes {m : Mk} {l al : List (List Int)} {key : List Int} (h : allowedC m l al [key] = 0) : (opensL l key && !hasL al key, 0) = isGhostR m l al key := by unfold isGhostR; rw [if_pos h]
/-- a truth and a code -/
def ResBC (w : World) (r : Bool × Int) (e : Ending) (w' : World) : Prop := e = .returned (.tuple #[.bool r.1, .int .i64 r.2]) ∧ Below w.heap.size w w'
theorem resBC_of {w w' : World} {r : Bool × Int} {b : Bool} {c : Int} (h : (b, c) = r) (hb : Below w.heap.size w w') : ResBC w r (.returned (.tuple #[.bool b, .int .i64 c])) w' := by subst h; exact ⟨rfl, hb⟩
/-- two numbers -/
def ResNC (w : World) (r : Int × Int) (e : Ending) (w' : World) : Prop := e = .returned (.tuple #[.int .i64 r.1, .int .i64 r.2]) ∧ Below w.heap.size w w'
theorem resNC_of {w w' : World} {r : Int × Int} {b c : Int} (h : (b, c) = r) (hb : Below w.heap.size w w') : ResNC w r (.returned (.tuple #[.int .i64 b, .int .i64 c])) w' := by subst h; exact ⟨rfl, hb⟩
theorem allowedC_key {m : Mk} {l al : List (List Int)} {key : List Int} (h : allowedC m l al [] = 0) : allowedC m l al [key] = if isKey m key = true then 0 else 2 := by
  obtain ⟨h1, h2, h3⟩ := allowedC_0 h
  rw [List.append_nil] at h3
  unfold allowedC
  rw [if_pos h1, keys_app, h3]
  simp [h2, areKeysF]
theorem allowedC_keyn {m : Mk} {l al : List (List Int)} {key : List Int} (h : allowedC m l al [] ≠ 0) : allowedC m l al [key] = allowedC m l al [] := by
  unfold allowedC at *
  by_cases h1 : isLockF m l = true
  · rw [if_pos h1] at *
    rw [if_pos h1]
    rw [List.append_nil] at *
    by_cases h2 : (decide (al.length ≤ 300) && areKeysF m al) = true
    · rw [if_pos h2] at h; exact absurd rfl h
    · rw [if_neg h2, if_neg]
      intro h3
      apply h2
      rw [keys_app, ← Bool.and_assoc, Bool.and_eq_true] at h3
      exact h3.1
  · rw [if_neg h1, if_neg h1]
theorem isKey_fault {m : Mk} {xs : List Int} : (fault m xs != 0) = !isKey m xs := rfl
end Go.Proofs.YtdedajohkdbdkaaGreatDoor

/- Contracts of partCode and l16Code; isOpenPart, l16Open; the laws' functions that read false openings. -/
namespace Go.Proofs.YtdedajohkdbdkaaGreatDoor
set_option linter.unusedVariables false
open Go.RowKit
def partC (m : Mk) (t cuts : List (List Int)) : Int := if isSystem m t = true then (if (decide (cuts.length ≤ t.length) && areKeysF m cuts) = true then 0 else 2) else 1
theorem sys_ok {m : Mk} {t cuts : List (List Int)} (h : isSystem m t = true) (hl : cuts.length ≤ t.length) (hk : areKeysF m cuts = true) : PartOK m t cuts := by
  unfold isSystem at h; rw [Bool.and_eq_true, Bool.and_eq_true] at h
  have h2 := isTable_get h.1.2
  exact ⟨h.1.1, h2.1, h2.2.1, fun k hk => ⟨(h2.2.2 k hk).1, (h2.2.2 k hk).2.1, (h2.2.2 k hk).2.2.1⟩, hl, fun k hk2 => by unfold areKeysF at hk; rw [List.all_eq_true] at hk; exact hk _ (List.getElem_mem hk2)⟩
theorem partC_0 {m : Mk} {t cuts : List (List Int)} (h : partC m t cuts = 0) : PartOK m t cuts := by
  unfold partC at h
  by_cases h1 : isSystem m t = true
  · rw [if_pos h1] at h
    by_cases h2 : (decide (cuts.length ≤ t.length) && areKeysF m cuts) = true
    · rw [Bool.and_eq_true, decide_eq_true_eq] at h2
      exact sys_ok h1 h2.1 h2.2
    · rw [if_neg h2] at h; cases h
  · rw [if_neg h1] at h; cases h
theorem cutsC_ok {m : Mk} {t cuts : List (List Int)} (h : cutsC m t cuts = 0) : PartOK m t cuts := by
  obtain ⟨h1, h2, h3⟩ := cutsC_0 h
  exact sys_ok h1 (by omega) h3
/-! ### open parts -/
def openPart (m : Mk) (t cuts : List (List Int)) : Bool := (((faultsF m t cuts).length : Int) == 0)
end Go.Proofs.YtdedajohkdbdkaaGreatDoor

/- Plain laws: beginnings of open parts are open; the longest one. No program. -/
namespace Go.Proofs.YtdedajohkdbdkaaGreatDoor
open Go.RowKit
theorem opensL_sub {c n : Nat} {ks ks' : List (List Int)} {x : List Int} (hs : ∀ k ∈ ks, k ∈ ks') (h : opensL (hullF c n ks) x = true) : opensL (hullF c n ks') x = true := by
  unfold opensL at h ⊢
  rw [List.all_eq_true] at h ⊢
  intro i hi
  have h1 := h i hi
  unfold opensAt frees at h1 ⊢
  by_cases hc : i < c
  · rw [getD_row (by rw [hullF_length]; exact hc), hullF_at hc, hasI_iff, mem_hullSet] at h1 ⊢
    refine ⟨h1.1, ?_⟩
    unfold colI at h1 ⊢
    obtain ⟨k, hk, e⟩ := List.mem_map.1 h1.2
    exact List.mem_map.2 ⟨k, hs k hk, e⟩
  · have e : (hullF c n ks).getD i [] = [] := by
      simp [List.getD, List.getElem?_eq_none (show (hullF c n ks).length ≤ i by rw [hullF_length]; omega)]
    rw [e] at h1
    simp [hasI] at h1
theorem keysFor_take {t cuts : List (List Int)} {d k : Nat} {x : List Int} (h : x ∈ keysFor t (cuts.take k) d) : x ∈ keysFor t cuts d := by
  unfold keysFor keysForN at h ⊢
  obtain ⟨i, hi, rfl⟩ := List.mem_map.1 h
  obtain ⟨hi1, hi2⟩ := List.mem_filter.1 hi
  have hi3 := List.mem_range.1 hi1
  rw [List.length_take] at hi3
  refine List.mem_map.2 ⟨i, List.mem_filter.2 ⟨List.mem_range.2 (by omega), hi2⟩, ?_⟩
  simp only [List.getD, List.getElem?_take]
  rw [if_pos (by omega)]
theorem mem_faultsF {m : Mk} {t cuts : List (List Int)} {x : List Int} : x ∈ faultsF m t cuts ↔ ∃ k d : Nat, k < cuts.length ∧ d < (t.headD []).length ∧ isFault t cuts (locksF m t cuts) k d = true ∧ x = [(k : Int), (d : Int)] := by
  unfold faultsF faultsN faultRow
  simp only [List.mem_flatMap, List.mem_range, List.mem_map, List.mem_filter, locksF_len]
  constructor
  · rintro ⟨k, hk, d, ⟨hd, hf⟩, rfl⟩; exact ⟨k, d, hk, hd, hf, rfl⟩
  · rintro ⟨k, d, hk, hd, hf, rfl⟩; exact ⟨k, hk, d, ⟨hd, hf⟩, rfl⟩
theorem getD_lock {ls : List (List (List Int))} {d : Nat} (h : d < ls.length) : ls.getD d [] = ls[d] := by simp [List.getD, List.getElem?_eq_getElem h]
theorem faultsF_take {m : Mk} {t cuts : List (List Int)} {k : Nat} {x : List Int} (h : x ∈ faultsF m t (cuts.take k)) : x ∈ faultsF m t cuts := by
  obtain ⟨i, d, hi, hd, hf, rfl⟩ := mem_faultsF.1 h
  rw [List.length_take] at hi
  refine mem_faultsF.2 ⟨i, d, by omega, hd, ?_, rfl⟩
  have hd1 : d < (locksF m t (cuts.take k)).length := by rw [locksF_len]; exact hd
  have hd2 : d < (locksF m t cuts).length := by rw [locksF_len]; exact hd
  unfold isFault at hf ⊢
  rw [Bool.and_eq_true] at hf ⊢
  refine ⟨hf.1, ?_⟩
  have e : (cuts.take k).getD i [] = cuts.getD i [] := by simp only [List.getD, List.getElem?_take]; rw [if_pos (by omega)]
  have h2 := hf.2
  rw [e, getD_lock hd1, locksF_at hd1] at h2
  rw [getD_lock hd2, locksF_at hd2]
  exact opensL_sub (fun x hx => keysFor_take hx) h2
theorem openPart_iff {m : Mk} {t cuts : List (List Int)} : openPart m t cuts = true ↔ ∀ x, x ∉ faultsF m t cuts := by
  unfold openPart
  rw [beq_iff_eq, ← List.eq_nil_iff_forall_not_mem, ← List.length_eq_zero_iff]
  omega
theorem openPart_down {m : Mk} {t cuts : List (List Int)} {k : Nat} (h : openPart m t cuts = true) : openPart m t (cuts.take k) = true := by
  rw [openPart_iff] at h ⊢
  exact fun x hx => h x (faultsF_take hx)
theorem openPart_nil {m : Mk} {t cuts : List (List Int)} : openPart m t (cuts.take 0) = true := by
  rw [openPart_iff]; intro x hx
  obtain ⟨i, d, hi, _⟩ := mem_faultsF.1 hx
  simp at hi
/-- the greatest number that is not above n at which p holds -/
def longDown (p : Nat → Bool) : Nat → Nat
  | 0 => 0
  | n + 1 => if p (n + 1) = true then n + 1 else longDown p n
theorem longDown_at {p : Nat → Bool} : ∀ {n : Nat}, p n = true → longDown p n = n
  | 0, _ => rfl
  | n + 1, h => by rw [longDown, if_pos h]
theorem longDown_pred {p : Nat → Bool} (h0 : p 0 = true) : ∀ {n : Nat}, p n = false → 0 < n ∧ longDown p n = longDown p (n - 1)
  | 0, h => by rw [h0] at h; cases h
  | n + 1, h => ⟨by omega, by rw [longDown, if_neg (by rw [h]; simp)]; rfl⟩
theorem longDown_stop {p : Nat → Bool} {n : Nat} (hn : p n = true) : ∀ {k : Nat}, n ≤ k → (∀ j, n < j → j ≤ k → p j = false) → longDown p k = n
  | 0, hk, _ => by have : n = 0 := by omega
                   subst this; rfl
  | k + 1, hk, h => by
    by_cases e : n = k + 1
    · subst e; exact longDown_at hn
    · rw [longDown, if_neg (by rw [h (k + 1) (by omega) (Nat.le_refl _)]; simp)]
      exact longDown_stop hn (by omega) fun j a b => h j a (by omega)
def longF (m : Mk) (t cuts : List (List Int)) : Nat := longDown (fun k => openPart m t (cuts.take k)) cuts.length
def longR (m : Mk) (t cuts : List (List Int)) : Int × Int := if partC m t cuts = 0 then ((longF m t cuts : Int), 0) else (0, partC m t cuts)
theorem long_no {m : Mk} {t cuts : List (List Int)} (h : partC m t cuts ≠ 0) : (0, partC m t cuts) = longR m t cuts := by unfold longR; rw [if_neg h]
theorem long_yes {m : Mk} {t cuts : List (List Int)} (h : partC m t cuts = 0) : ((longF m t cuts : Int), 0) = longR m t cuts := by unfold longR; rw [if_pos h]
theorem longF_up {m : Mk} {t cuts : List (List Int)} {n : Nat} (hn : n ≤ cuts.length) (h : openPart m t (cuts.take n) = true) (he : n = cuts.length ∨ openPart m t (cuts.take (n + 1)) = false) : n = longF m t cuts := by
  unfold longF
  refine (longDown_stop (p := fun k => openPart m t (cuts.take k)) h hn fun j hj hjl => ?_).symm
  rcases he with e | e
  · omega
  · cases hq : openPart m t (cuts.take j) with
    | false => rfl
    | true =>
      have := openPart_down (k := n + 1) hq
      rw [List.take_take, Nat.min_eq_left (by omega), e] at this
      cases this
theorem PartOK.take {m : Mk} {t cuts : List (List Int)} (h : PartOK m t cuts) (k : Nat) : PartOK m t (cuts.take k) :=
  ⟨h.mak, h.t1, h.t10, h.row, by have := h.le; rw [List.length_take]; omega, fun j hj => by rw [List.getElem_take]; exact h.keys j (by rw [List.length_take] at hj; omega)⟩
end Go.Proofs.YtdedajohkdbdkaaGreatDoor

/- Plain laws: the keys in order, the next key behind one; with which keys open partial cuts stay open. No program. -/
namespace Go.Proofs.YtdedajohkdbdkaaGreatDoor
open Go.RowKit
/-- all keys of a maker, in order -/
def allA : Nat → Int → Bool := fun _ _ => true
def allK (m : Mk) : List (List Int) := keysG m allA [] m.c.toNat [] false
/-- the first key with r more cuts -/
def firstK (m : Mk) (r : Nat) (cuts : List Int) : Option (List Int) := if begins m cuts = true then (keysG m allA [] r cuts false).head? else none
/-- the keys of keysFrom's begin with the first one of a depth -/
theorem keysFrom_all {m : Mk} {key : List Int} (hb : begins m key = true) (r : Nat) (d : Int) : keysFrom m allA [] r key false d = (depths d m.d).flatMap fun d => if begins m (key ++ [d]) = true then keysG m allA [] r (key ++ [d]) false else [] := by
  unfold keysFrom
  apply flatMap_same
  intro d _
  rw [keysG_may, begins_snoc, hb, Bool.false_and]
  rfl
theorem keysFrom_none {m : Mk} {key : List Int} (hb : begins m key = true) {r : Nat} {d : Int} (hd : d < m.d) (h : firstK m r (key ++ [d]) = none) : keysFrom m allA [] r key false d = keysFrom m allA [] r key false (d + 1) := by
  rw [keysFrom_all hb, keysFrom_all hb, depths_cons hd, List.flatMap_cons]
  unfold firstK at h
  split at h
  · rw [if_pos ‹_›, List.head?_eq_none_iff.1 h]; rfl
  · rw [if_neg ‹_›]; rfl
theorem keysFrom_some {m : Mk} {key : List Int} (hb : begins m key = true) {r : Nat} {d : Int} (hd : d < m.d) {x : List Int} (h : firstK m r (key ++ [d]) = some x) : (keysFrom m allA [] r key false d).head? = some x := by
  rw [keysFrom_all hb, depths_cons hd, List.flatMap_cons]
  unfold firstK at h
  split at h
  · rw [if_pos ‹_›, List.head?_append, h]; rfl
  · cases h
theorem firstK_zero {m : Mk} {key : List Int} (hb : begins m key = true) : firstK m 0 key = if kinds key < m.l then none else some key := by
  unfold firstK; rw [if_pos hb, keysG]; split <;> rfl
theorem firstK_succ {m : Mk} {key : List Int} (hb : begins m key = true) (r : Nat) : firstK m (r + 1) key = (keysFrom m allA [] r key false 0).head? := by
  unfold firstK; rw [if_pos hb, keysG_succ, least_f]
theorem firstK_no {m : Mk} {key : List Int} (hb : begins m key = false) (r : Nat) : firstK m r key = none := by
  unfold firstK; rw [if_neg (by rw [hb]; simp)]
theorem firstK_mem {m : Mk} {r : Nat} {key x : List Int} (h : firstK m r key = some x) : x ∈ keysG m allA [] r key false ∧ begins m key = true := by
  unfold firstK at h
  split at h
  · exact ⟨List.mem_of_head? h, ‹_›⟩
  · cases h
/-- the keys behind pre ++ rest that begin with pre -/
def behindK (m : Mk) : List Int → List Int → List (List Int)
  | _, [] => []
  | pre, d :: rest => behindK m (pre ++ [d]) rest ++ keysFrom m allA [] rest.length pre false (d + 1)
theorem depths_split {lo d hi : Int} (h1 : lo ≤ d) (h2 : d < hi) : depths lo hi = depths lo d ++ d :: depths (d + 1) hi := by
  obtain ⟨n, hn⟩ : ∃ n : Nat, (d - lo).toNat = n := ⟨_, rfl⟩
  induction n generalizing lo with
  | zero => obtain rfl : lo = d := by omega
            rw [depths_nil (Int.le_refl _), depths_cons h2]; rfl
  | succ n ih => rw [depths_cons (show lo < hi by omega), depths_cons (show lo < d by omega), ih (lo := lo + 1) (by omega) (by omega)]; rfl
theorem keysG_cut {m : Mk} : ∀ (rest pre : List Int), begins m pre = true → pre ++ rest ∈ keysG m allA [] rest.length pre false → ∃ A, keysG m allA [] rest.length pre false = A ++ (pre ++ rest) :: behindK m pre rest
  | [], pre, _, h => by
    rw [List.length_nil, keysG] at h ⊢
    rw [List.append_nil] at h ⊢
    split at h
    · cases h
    · rw [if_neg ‹_›]; exact ⟨[], rfl⟩
  | d :: rest, pre, hb, h => by
    rw [List.length_cons, keysG_succ, least_f, keysFrom_all hb] at h ⊢
    obtain ⟨e, he, hx⟩ := List.mem_flatMap.1 h
    have he := mem_depths.1 he
    split at hx
    · have hp := (keysG_pref m allA [] _ _ _ _ hx).2
      rw [List.length_append, List.length_cons, List.length_nil, Nat.zero_add] at hp
      have hd := take_snoc_getD hp
      rw [show (pre ++ d :: rest).getD pre.length 0 = d by simp [List.getD]] at hd
      subst hd
      rename_i hbd
      rw [show pre ++ d :: rest = (pre ++ [d]) ++ rest by simp] at hx
      obtain ⟨A, hA⟩ := keysG_cut rest (pre ++ [d]) hbd hx
      rw [depths_split he.1 he.2, List.flatMap_append, List.flatMap_cons, if_pos hbd, hA, behindK, keysFrom_all hb]
      exact ⟨(depths 0 d).flatMap (fun d => if begins m (pre ++ [d]) = true then keysG m allA [] rest.length (pre ++ [d]) false else []) ++ A, by simp [List.append_assoc]⟩
    · cases hx
theorem nodup_cut {α : Type} : ∀ {xs xs' : List α} {k : α} {ys ys' : List α}, (xs ++ k :: ys).Nodup → xs ++ k :: ys = xs' ++ k :: ys' → ys = ys'
  | [], [], k, ys, ys', _, h => by injection h
  | [], x :: xs', k, ys, ys', hn, h => by
    rw [List.nil_append, List.cons_append] at h
    injection h with h1 h2
    subst h1
    rw [List.nil_append, List.nodup_cons] at hn
    exact absurd (by rw [h2]; simp) hn.1
  | x :: xs, [], k, ys, ys', hn, h => by
    rw [List.nil_append, List.cons_append] at h
    injection h with h1 h2
    subst h1
    rw [List.cons_append, List.nodup_cons] at hn
    exact absurd (by simp) hn.1
  | x :: xs, x' :: xs', k, ys, ys', hn, h => by
    rw [List.cons_append, List.cons_append] at h
    injection h with h1 h2
    rw [List.cons_append, List.nodup_cons] at hn
    exact nodup_cut hn.2 h2
/-- the keys behind a key -/
theorem allK_behind {m : Mk} {done tl : List (List Int)} {key : List Int} (h : allK m = done ++ key :: tl) : behindK m [] key = tl := by
  have hm : key ∈ allK m := by rw [h]; simp
  have hn := nodup_keysG m allA [] m.c.toNat [] false
  have hp := (keysG_pref m allA [] _ _ _ _ hm).1
  have hl : key.length = m.c.toNat := by simpa using hp
  have hm2 : ([] : List Int) ++ key ∈ keysG m allA [] key.length [] false := by rw [hl]; exact hm
  obtain ⟨A, hA⟩ := keysG_cut key [] (begins_nil m) hm2
  rw [hl] at hA
  have e : done ++ key :: tl = A ++ key :: behindK m [] key := h.symm.trans hA
  exact (nodup_cut (by rw [← h]; exact hn) e).symm
theorem behindK_app (m : Mk) : ∀ (a pre b : List Int), ∃ more, behindK m pre (a ++ b) = behindK m (pre ++ a) b ++ more
  | [], pre, b => ⟨[], by simp⟩
  | d :: a, pre, b => by
    obtain ⟨more, h⟩ := behindK_app m a (pre ++ [d]) b
    refine ⟨more ++ keysFrom m allA [] (a ++ b).length pre false (d + 1), ?_⟩
    rw [List.cons_append, behindK, h, List.append_assoc, show pre ++ [d] ++ a = pre ++ d :: a by simp]
theorem behind_cut (m : Mk) (cuts : List Int) (i : Nat) : ∃ more, behindK m [] cuts = behindK m (cuts.take i) (cuts.drop i) ++ more := by
  obtain ⟨more, h⟩ := behindK_app m (cuts.take i) [] (cuts.drop i)
  rw [List.take_append_drop, List.nil_append] at h
  exact ⟨more, h⟩
theorem behind_step (m : Mk) (cuts : List Int) (i : Nat) (h : i < cuts.length) : behindK m (cuts.take i) (cuts.drop i) = behindK m (cuts.take (i + 1)) (cuts.drop (i + 1)) ++ keysFrom m allA [] (cuts.length - (i + 1)) (cuts.take i) false (cuts[i] + 1) := by
  rw [List.drop_eq_getElem_cons h, behindK, List.take_succ_eq_append_getElem h, List.length_drop]
theorem behind_head {m : Mk} {cuts : List Int} {i : Nat} {x : List Int} (h : (behindK m (cuts.take i) (cuts.drop i)).head? = some x) : (behindK m [] cuts).head? = some x := by
  obtain ⟨more, e⟩ := behind_cut m cuts i
  rw [e, List.head?_append, h]; rfl
theorem allK_is {m : Mk} {x : List Int} (hm : isMaker m = true) : x ∈ allK m ↔ isKey m x = true := by
  have hb := mk_bounds hm
  unfold allK
  rw [mem_keysG m allA _ [] x (begins_nil m)]
  unfold isKey
  rw [beq_iff_eq, fault_zero_iff]
  have e : begins m x = true ↔ stepsOK m.s x = true ∧ runsOK m.a x = true := by unfold begins; rw [Bool.and_eq_true]
  rw [e]
  constructor
  · rintro ⟨h1, _, h3, h4, h5⟩
    refine ⟨by simp at h1; omega, ?_, h3.1, h3.2, h4⟩
    unfold allW
    rw [List.all_eq_true]
    intro y hy
    obtain ⟨j, hj, rfl⟩ := List.getElem_of_mem hy
    have := h5 j (by simp) hj
    rw [show x.getD j 0 = x[j] by simp [List.getD, List.getElem?_eq_getElem hj]] at this
    unfold inB
    simp; omega
  · rintro ⟨h1, h2, h3, h4, h5⟩
    refine ⟨by simp; omega, by simp, ⟨h3, h4⟩, h5, fun i _ hi => ?_⟩
    have := allW_at h2 hi
    rw [show x.getD i 0 = x[i] by simp [List.getD, List.getElem?_eq_getElem hi]]
    exact ⟨this.1, by omega, rfl⟩
/-! ### staysOpen -/
def openAt1 (l : List (List Int)) (key xs : List Int) (i : Nat) : Bool := (xs.getD i 0 == key.getD i 0) || frees l i (xs.getD i 0)
def openWith (l : List (List Int)) (key xs : List Int) : Bool := (List.range xs.length).all (openAt1 l key xs)
def stays1 (t cuts : List (List Int)) (l : List (List Int)) (key : List Int) (d k : Nat) : Bool := !((((t.getD cuts.length []).getD d 0 == 1) && ((t.getD k []).getD d 0 == 0)) && openWith l key (cuts.getD k []))
def staysD (t cuts : List (List Int)) (l : List (List Int)) (key : List Int) (d : Nat) : Bool := !(((t.getD cuts.length []).getD d 0 == 0) && opensL l key) && (List.range cuts.length).all (stays1 t cuts l key d)
def staysL (t cuts : List (List Int)) (ls : List (List (List Int))) (key : List Int) : Bool := (List.range ls.length).all fun d => staysD t cuts (ls.getD d []) key d
def staysF (m : Mk) (t cuts : List (List Int)) (key : List Int) : Bool := staysL t cuts (locksF m t cuts) key
theorem keysFor_snoc (t cuts : List (List Int)) (key : List Int) (d : Nat) : keysFor t (cuts ++ [key]) d = keysFor t cuts d ++ (if oneAt d (t.getD cuts.length []) = true then [key] else []) := by
  unfold keysFor
  rw [List.length_append, List.length_cons, List.length_nil, Nat.zero_add, keysForN_succ]
  congr 1
  · unfold keysForN
    refine List.map_congr_left fun i hi => ?_
    have := List.mem_range.1 (List.mem_filter.1 hi).1
    simp [List.getD, List.getElem?_append_left this]
  · rw [show (cuts ++ [key]).getD cuts.length [] = key by simp [List.getD]]
theorem opensL_snoc {m : Mk} {ks : List (List Int)} {key x : List Int} (hx : (x.length : Int) = m.c) (hk : allW 0 (m.d - 1) x = true) :
    opensL (hullF m.c.toNat m.d.toNat (ks ++ [key])) x = openWith (hullF m.c.toNat m.d.toNat ks) key x := by
  unfold opensL openWith
  apply range_congr
  intro i hi
  have hb := allW_at hk hi
  have hc : i < m.c.toNat := by omega
  unfold opensAt openAt1 frees
  rw [getD_row (by rw [hullF_length]; exact hc), hullF_at hc, getD_row (by rw [hullF_length]; exact hc), hullF_at hc]
  rw [Bool.eq_iff_iff, Bool.or_eq_true, hasI_iff, hasI_iff, mem_hullSet, mem_hullSet, beq_iff_eq]
  have e : colI (ks ++ [key]) i = colI ks i ++ [key.getD i 0] := by simp [colI]
  rw [e, List.mem_append, List.mem_singleton]
  rw [show x.getD i 0 = x[i] by simp [List.getD, List.getElem?_eq_getElem hi]]
  constructor
  · rintro ⟨h1, h2 | h2⟩
    · exact .inr ⟨h1, h2⟩
    · exact .inl h2
  · rintro (h | h)
    · exact ⟨⟨hb.1, by omega⟩, .inr h⟩
    · exact ⟨h.1, .inl h.2⟩
theorem key_parts {m : Mk} {x : List Int} (h : isKey m x = true) : (x.length : Int) = m.c ∧ allW 0 (m.d - 1) x = true := by
  have h3 := fault_zero_iff.1 (show fault m x = 0 by simpa [isKey] using h)
  exact ⟨h3.1, h3.2.1⟩
theorem getD_snocL (cuts : List (List Int)) (key : List Int) : (cuts ++ [key]).getD cuts.length [] = key := by simp [List.getD]
theorem getD_leftL {cuts : List (List Int)} {key : List Int} {k : Nat} (h : k < cuts.length) : (cuts ++ [key]).getD k [] = cuts.getD k [] := by simp [List.getD, List.getElem?_append_left h]
/-- open partial cuts stay open with a key -/
theorem stays_open {m : Mk} {t cuts : List (List Int)} {key : List Int} (hp : PartOK m t cuts) (ho : openPart m t cuts = true) : staysF m t cuts key = openPart m t (cuts ++ [key]) := by
  rw [Bool.eq_iff_iff, openPart_iff]
  have hlk : ∀ d, d < (t.headD []).length → (locksF m t cuts).getD d [] = hullF m.c.toNat m.d.toNat (keysFor t cuts d) := fun d hd => by
    rw [getD_lock (by rw [locksF_len]; exact hd), locksF_at]
  have hlk' : ∀ d, d < (t.headD []).length → (locksF m t (cuts ++ [key])).getD d [] = hullF m.c.toNat m.d.toNat (keysFor t cuts d ++ (if oneAt d (t.getD cuts.length []) = true then [key] else [])) := fun d hd => by
    rw [getD_lock (by rw [locksF_len]; exact hd), locksF_at, keysFor_snoc]
  have hold : ∀ k d : Nat, k < cuts.length → d < (t.headD []).length → isFault t cuts (locksF m t cuts) k d = false := fun k d hk hd => by
    cases hf : isFault t cuts (locksF m t cuts) k d with
    | false => rfl
    | true => exact absurd (mem_faultsF.2 ⟨k, d, hk, hd, hf, rfl⟩) (openPart_iff.1 ho _)
  have hck : ∀ k (hk : k < cuts.length), (cuts.getD k []).length = m.c ∧ allW 0 (m.d - 1) (cuts.getD k []) = true := fun k hk => by
    rw [getD_row hk]; exact key_parts (hp.keys k hk)
  -- what a fault with the key is
  have hnew : ∀ d, d < (t.headD []).length → isFault t (cuts ++ [key]) (locksF m t (cuts ++ [key])) cuts.length d = (((t.getD cuts.length []).getD d 0 == 0) && opensL ((locksF m t cuts).getD d []) key) := fun d hd => by
    unfold isFault
    rw [getD_snocL, hlk d hd, hlk' d hd]
    by_cases h0 : (t.getD cuts.length []).getD d 0 = 0
    · rw [if_neg (by unfold oneAt; rw [h0]; simp), List.append_nil]
    · rw [show ((t.getD cuts.length []).getD d 0 == 0) = false from beq_eq_false_iff_ne.2 h0]; rfl
  have hother : ∀ k d : Nat, k < cuts.length → d < (t.headD []).length → isFault t (cuts ++ [key]) (locksF m t (cuts ++ [key])) k d = !(stays1 t cuts ((locksF m t cuts).getD d []) key d k) := fun k d hk hd => by
    unfold stays1 isFault
    rw [Bool.not_not, getD_leftL hk, hlk' d hd]
    by_cases h1 : oneAt d (t.getD cuts.length []) = true
    · rw [if_pos h1, hlk d hd, opensL_snoc (hck k hk).1 (hck k hk).2]
      rw [show ((t.getD cuts.length []).getD d 0 == 1) = true from h1, Bool.true_and]
    · rw [if_neg h1, List.append_nil]
      have := hold k d hk hd
      unfold isFault at this
      rw [hlk d hd] at this
      rw [this]
      have h1' : ((t.getD cuts.length []).getD d 0 == 1) = false := by cases hq : ((t.getD cuts.length []).getD d 0 == 1) with | false => rfl | true => exact absurd hq h1
      rw [h1']; rfl
  constructor
  · intro hs x hx
    obtain ⟨k, d, hk, hd, hf, rfl⟩ := mem_faultsF.1 hx
    unfold staysF staysL at hs
    rw [List.all_eq_true] at hs
    have hs := hs d (List.mem_range.2 (by rw [locksF_len]; exact hd))
    unfold staysD at hs
    rw [Bool.and_eq_true, List.all_eq_true] at hs
    rw [List.length_append, List.length_cons, List.length_nil, Nat.zero_add] at hk
    by_cases e : k = cuts.length
    · subst e
      rw [hnew d hd] at hf
      rw [hf] at hs; exact absurd hs.1 (by simp)
    · rw [hother k d (by omega) hd] at hf
      rw [hs.2 k (List.mem_range.2 (by omega))] at hf; cases hf
  · intro hx
    unfold staysF staysL
    rw [List.all_eq_true]
    intro d hd
    have hd := List.mem_range.1 hd
    rw [locksF_len] at hd
    unfold staysD
    rw [Bool.and_eq_true, List.all_eq_true]
    have hlen : (cuts ++ [key]).length = cuts.length + 1 := by simp
    constructor
    · cases hq : (((t.getD cuts.length []).getD d 0 == 0) && opensL ((locksF m t cuts).getD d []) key) with
      | false => rfl
      | true => exact absurd (mem_faultsF.2 ⟨cuts.length, d, by omega, hd, by rw [hnew d hd]; exact hq, rfl⟩) (hx _)
    · intro k hk
      have hk := List.mem_range.1 hk
      cases hq : stays1 t cuts ((locksF m t cuts).getD d []) key d k with
      | true => rfl
      | false => exact absurd (mem_faultsF.2 ⟨k, d, by omega, hd, by rw [hother k d hk hd, hq]; rfl, rfl⟩) (hx _)
theorem openPart_init {m : Mk} {t cuts : List (List Int)} {key : List Int} (h : openPart m t (cuts ++ [key]) = true) : openPart m t cuts = true := by
  have := openPart_down (k := cuts.length) h
  rwa [List.take_left] at this
/-! ### candidates -/
/-- the keys with which partial cuts are open -/
def candsF (m : Mk) (t cuts : List (List Int)) : List (List Int) := (allK m).filter fun k => openPart m t (cuts ++ [k])
theorem candsF_closed {m : Mk} {t cuts : List (List Int)} (h : openPart m t cuts = false) : candsF m t cuts = [] := by
  unfold candsF
  rw [List.filter_eq_nil_iff]
  intro k _ hk
  rw [openPart_init hk] at h; cases h
theorem candsF_stays {m : Mk} {t cuts : List (List Int)} (hp : PartOK m t cuts) (h : openPart m t cuts = true) : candsF m t cuts = (allK m).filter (staysF m t cuts) := by
  unfold candsF
  exact List.filter_congr fun k _ => (stays_open hp h).symm
theorem allK_len {m : Mk} (hm : isMaker m = true) : (allK m).length ≤ 262144 := by
  have hb := mk_bounds hm
  have h := keysG_len m allA [] hb.2.2.2.1 (fun k => by simp [List.getD]) m.c.toNat [] false
  have h2 : 8 ^ m.c.toNat ≤ 8 ^ 6 := Nat.pow_le_pow_right (by omega) (by omega)
  unfold allK; omega
theorem candsF_len {m : Mk} {t cuts : List (List Int)} (hm : isMaker m = true) : (candsF m t cuts).length ≤ 262144 := by
  have := List.length_filter_le (fun k => openPart m t (cuts ++ [k])) (allK m)
  have := allK_len hm
  unfold candsF; omega
/-- the program's visitor: keys found, how many -/
def visCand (p : List Int → Bool) (most : Int) (s : List (List Int) × Nat) (k : List Int) : Bool × (List (List Int) × Nat) :=
  if p k = true then (decide (((s.2 + 1 : Nat) : Int) ≠ most), (if 0 < most then s.1 ++ [k] else s.1, s.2 + 1)) else (true, s)
theorem runVis_cand_all (p : List Int → Bool) {most : Int} (h : most < 0) : ∀ (ks : List (List Int)) (s : List (List Int) × Nat), (runVis (visCand p most) s ks).2 = (s.1, s.2 + (ks.filter p).length)
  | [], s => by simp [runVis]
  | k :: ks, s => by
    rw [runVis]
    by_cases hk : p k = true
    · have e : visCand p most s k = (true, (s.1, s.2 + 1)) := by
        unfold visCand; rw [if_pos hk, if_neg (by omega), decide_eq_true (by omega)]
      rw [e, if_pos rfl, runVis_cand_all p h ks, List.filter_cons, if_pos hk, List.length_cons]
      simp; omega
    · have e : visCand p most s k = (true, s) := by unfold visCand; rw [if_neg hk]
      rw [e, if_pos rfl, runVis_cand_all p h ks, List.filter_cons, if_neg hk]
theorem runVis_cand_most (p : List Int → Bool) {most : Nat} (h : 0 < most) : ∀ (ks : List (List Int)) (s : List (List Int) × Nat), s.1.length = s.2 → s.2 < most → (runVis (visCand p most) s ks).2.1 = (s.1 ++ ks.filter p).take most
  | [], s, h1, h2 => by rw [runVis, List.filter_nil, List.append_nil, List.take_of_length_le (by omega)]
  | k :: ks, s, h1, h2 => by
    rw [runVis]
    by_cases hk : p k = true
    · by_cases hm : s.2 + 1 = most
      · have e : visCand p most s k = (false, (s.1 ++ [k], s.2 + 1)) := by
          unfold visCand; rw [if_pos hk, if_pos (by omega), decide_eq_false (by omega)]
        rw [e, if_neg (by simp), List.filter_cons, if_pos hk, show s.1 ++ k :: ks.filter p = (s.1 ++ [k]) ++ ks.filter p by simp, List.take_append_of_le_length (by simp; omega), List.take_of_length_le (by simp; omega)]
      · have e : visCand p most s k = (true, (s.1 ++ [k], s.2 + 1)) := by
          unfold visCand; rw [if_pos hk, if_pos (by omega), decide_eq_true (by omega)]
        rw [e, if_pos rfl, runVis_cand_most p h ks _ (by simp; omega) (by simp; omega), List.filter_cons, if_pos hk]
        simp
    · have e : visCand p most s k = (true, s) := by unfold visCand; rw [if_neg hk]
      rw [e, if_pos rfl, runVis_cand_most p h ks _ h1 h2, List.filter_cons, if_neg hk]
/-- the answers -/
def moreC (m : Mk) (t cuts : List (List Int)) : Int := if partC m t cuts = 0 then (if cuts.length = t.length then 5 else 0) else partC m t cuts
end Go.Proofs.YtdedajohkdbdkaaGreatDoor

/- Contracts of opensWith, and of staysOpen's closure. -/
namespace Go.Proofs.YtdedajohkdbdkaaGreatDoor
set_option linter.unusedVariables false
open Go.RowKit
theorem openAt1_in {l : List (List Int)} {key xs : List Int} {k : Nat} (h : k < l.length) (h2 : k < xs.length) (h3 : k < key.length) : openAt1 l key xs k = ((xs[k] == key[k]) || hasI l[k] xs[k]) := by
  unfold openAt1 frees; rw [getD_row h]; simp [List.getD, List.getElem?_eq_getElem h2, List.getElem?_eq_getElem h3]
/-- what an address of n elements names is not of F -/
def NF (F : Nat → Prop) (A : Option Addr) (n : Nat) : Prop := 0 < n → ∀ b o, A = some ⟨b, o, none⟩ → ¬ F b
theorem NF.mono {F G : Nat → Prop} {A : Option Addr} {n : Nat} (h : NF F A n) (hG : ∀ g, G g → F g) : NF G A n := fun h0 b o e hg => h h0 b o e (hG b hg)
theorem RV.keepN {F : Nat → Prop} {w w' : World} {A : Option Addr} {us : List Value} (h : RV w A us) (k : KeepF F w w') (hF : NF F A us.length) : RV w' A us := by
  by_cases h0 : 0 < us.length
  · exact h.keepF k (hF h0)
  · refine ⟨h.1, fun hn => ?_⟩
    exact absurd (List.length_eq_zero_iff.1 (by omega)) hn
theorem RI.keepN {F : Nat → Prop} {w w' : World} {A : Option Addr} {xs : List Int} (h : RI w A xs) (k : KeepF F w w') (hF : NF F A xs.length) : RI w' A xs := RV.keepN h k (by rw [ints_length]; exact hF)
/-- A nest that reads as lists, none of whose blocks is of F. -/
def RIIn (F : Nat → Prop) (w : World) (A : Option Addr) (xss : List (List Int)) : Prop :=
  ∃ us : List Value, us.length = xss.length ∧ RV w A us ∧ NF F A xss.length ∧ ∀ j (hj : j < xss.length), ∃ A' c, us[j]? = some (.slice A' xss[j].length c) ∧ xss[j].length ≤ c ∧ RI w A' xss[j] ∧ NF F A' xss[j].length
theorem RIIn.rii {F : Nat → Prop} {w : World} {A : Option Addr} {xss : List (List Int)} (h : RIIn F w A xss) : RII w A xss := by
  obtain ⟨us, h1, h2, _, h4⟩ := h
  exact ⟨us, h1, h2, fun j hj => by obtain ⟨A', c, a, b, d, _⟩ := h4 j hj; exact ⟨A', c, a, b, d⟩⟩
theorem RIIn.keepF {F : Nat → Prop} {w w' : World} {A : Option Addr} {xss : List (List Int)} (h : RIIn F w A xss) (k : KeepF F w w') : RIIn F w' A xss := by
  obtain ⟨us, h1, h2, h3, h4⟩ := h
  exact ⟨us, h1, h2.keepN k (by rw [h1]; exact h3), h3, fun j hj => by obtain ⟨A', c, a, b, d, e⟩ := h4 j hj; exact ⟨A', c, a, b, d.keepN k e, e⟩⟩
theorem RIIn.mono {F G : Nat → Prop} {w : World} {A : Option Addr} {xss : List (List Int)} (h : RIIn F w A xss) (hG : ∀ g, G g → F g) : RIIn G w A xss := by
  obtain ⟨us, h1, h2, h3, h4⟩ := h
  exact ⟨us, h1, h2, h3.mono hG, fun j hj => by obtain ⟨A', c, a, b, d, e⟩ := h4 j hj; exact ⟨A', c, a, b, d, e.mono hG⟩⟩
theorem ri_block {w : World} {b o : Nat} {us : List Value} (h : RV w (some ⟨b, o, none⟩) us) (h0 : us ≠ []) : b < w.heap.size := by
  obtain ⟨b', o', e, hc⟩ := h.2 h0
  injection e with e; injection e with e1 e2 _; subst e1 e2
  cases us with
  | nil => exact absurd rfl h0
  | cons u us => exact World.block_lt_of_cell? w _ (hc 0 u rfl)
/-- the header's row k -/
theorem RIIn.row {F : Nat → Prop} {w : World} {A : Option Addr} {xss : List (List Int)} (h : RIIn F w A xss) {k : Nat} (hk : k < xss.length) :
    ∃ b o A' c, A = some ⟨b, o, none⟩ ∧ w.cell? ⟨b, o + k, none⟩ = some (.slice A' xss[k].length c) ∧ xss[k].length ≤ c ∧ RI w A' xss[k] ∧ ¬ F b ∧ b < w.heap.size ∧ NF F A' xss[k].length := by
  obtain ⟨us, h1, h2, h3, h4⟩ := h
  obtain ⟨A', c, hu, hc, hr, hn⟩ := h4 k hk
  obtain ⟨b, o, rfl, hcell⟩ := h2.at_ (k := k) (by omega)
  have hb := World.block_lt_of_cell? w _ hcell
  refine ⟨b, o, A', c, rfl, ?_, hc, hr, h3 (by omega) b o rfl, hb, hn⟩
  rw [hcell, ← hu, List.getElem?_eq_getElem]
/-- What staysOpen's closure reads: its variables (from lo to hi - 1), the locks, the row, the cuts, the table. -/
structure StMem (F : Nat → Prop) (m : Mk) (A : Option Addr) (c : Nat) (t : List (List Int)) (B : Option Addr) (d : Nat) (cuts : List (List Int)) (ls : List (List (List Int))) (row : List Int) (lo hi gA gB gC gS : Nat) (AL : Option Addr) (cL : Nat) (AR : Option Addr) (cR : Nat) (w : World) : Prop where
  cA : w.cell? ⟨gA, 0, none⟩ = some (.slice AL ls.length cL)
  cB : w.cell? ⟨gB, 0, none⟩ = some (.slice AR row.length cR)
  cC : w.cell? ⟨gC, 0, none⟩ = some (.slice B cuts.length d)
  cS : BoxC w gS 0 [.int .i64 m.c, .int .i64 m.d, .int .i64 m.s, .int .i64 m.a, .int .i64 m.l, .slice A t.length c]
  loc : OLS w lo hi (.slice AL ls.length cL) ls
  rR : RI w AR row
  nR : NF F AR row.length
  rT : RIIn F w A t
  rC : RIIn F w B cuts
  gr : lo ≤ gA ∧ gA < hi ∧ lo ≤ gB ∧ gB < hi ∧ lo ≤ gC ∧ gC < hi ∧ lo ≤ gS ∧ gS < hi
  nF : ∀ g, lo ≤ g → g < hi → ¬ F g
  top : hi ≤ w.heap.size
theorem StMem.keepF {F : Nat → Prop} {m : Mk} {A : Option Addr} {c : Nat} {t : List (List Int)} {B : Option Addr} {d : Nat} {cuts : List (List Int)} {ls : List (List (List Int))} {row : List Int} {lo hi gA gB gC gS : Nat} {AL : Option Addr} {cL : Nat} {AR : Option Addr} {cR : Nat} {w w' : World}
    (h : StMem F m A c t B d cuts ls row lo hi gA gB gC gS AL cL AR cR w) (k : KeepF F w w') : StMem F m A c t B d cuts ls row lo hi gA gB gC gS AL cL AR cR w' := by
  obtain ⟨a1, a2, b1, b2, c1, c2, s1, s2⟩ := h.gr
  have ht := h.top
  have hc : ∀ g, lo ≤ g → g < hi → ∀ i v, w.cell? ⟨g, i, none⟩ = some v → w'.cell? ⟨g, i, none⟩ = some v := fun g h1 h2 i v hv => (k.cell (p := ⟨g, i, none⟩) (by simp only; omega) (h.nF g h1 h2)).trans hv
  exact ⟨hc _ a1 a2 _ _ h.cA, hc _ b1 b2 _ _ h.cB, hc _ c1 c2 _ _ h.cC, h.cS.keep fun i v hv => hc _ s1 s2 _ _ hv, h.loc.keep fun g h1 h2 => k.block g (by omega) (h.nF g h1 h2), h.rR.keepN k h.nR, h.nR, h.rT.keepF k, h.rC.keepF k, h.gr, h.nF, Nat.le_trans ht k.size⟩
theorem StMem.mono {F G : Nat → Prop} {m : Mk} {A : Option Addr} {c : Nat} {t : List (List Int)} {B : Option Addr} {d : Nat} {cuts : List (List Int)} {ls : List (List (List Int))} {row : List Int} {lo hi gA gB gC gS : Nat} {AL : Option Addr} {cL : Nat} {AR : Option Addr} {cR : Nat} {w : World}
    (h : StMem F m A c t B d cuts ls row lo hi gA gB gC gS AL cL AR cR w) (hG : ∀ g, G g → F g) : StMem G m A c t B d cuts ls row lo hi gA gB gC gS AL cL AR cR w :=
  ⟨h.cA, h.cB, h.cC, h.cS, h.loc, h.rR, h.nR.mono hG, h.rT.mono hG, h.rC.mono hG, h.gr, fun g h1 h2 hg => h.nF g h1 h2 (hG g hg), h.top⟩
theorem getD_in' {xs : List Int} {n : Nat} (h : n < xs.length) : xs.getD n 0 = xs[n] := by simp [List.getD, List.getElem?_eq_getElem h]
theorem staysL_bad {t cuts : List (List Int)} {ls : List (List (List Int))} {key : List Int} {n : Nat} (h : n < ls.length) (hp : staysD t cuts (ls.getD n []) key n = false) : staysL t cuts ls key = false := rangeAll_bad h hp
end Go.Proofs.YtdedajohkdbdkaaGreatDoor
