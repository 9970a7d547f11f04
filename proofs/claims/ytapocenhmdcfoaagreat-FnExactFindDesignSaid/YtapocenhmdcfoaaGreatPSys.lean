/- Plain words for systems: the keys of a door, the locks, the false openings. No program. -/
import Derived.Test.YtapocenhmdcfoaaGreatPHull
import Derived.Test.YtapocenhmdcfoaaGreatFSystem
import Derived.Test.YtapocenhmdcfoaaGreatFLock
namespace Go.Proofs.YtapocenhmdcfoaaGreat
open Go.RowKit
theorem filter_one {α : Type} (p : α → Bool) (x : α) : [x].filter p = if p x = true then [x] else [] := by rw [List.filter_cons, List.filter_nil]
theorem map_ite {α β : Type} (f : α → β) (c : Prop) [Decidable c] (x : α) : (if c then [x] else []).map f = if c then [f x] else [] := by split <;> rfl
/-- of the rows i < n, those that open door d: their cuts -/
def keysForN (t cuts : List (List Int)) (d n : Nat) : List (List Int) := ((List.range n).filter fun i => oneAt d (t.getD i [])).map fun i => cuts.getD i []
def keysFor (t cuts : List (List Int)) (d : Nat) : List (List Int) := keysForN t cuts d cuts.length
theorem keysForN_succ (t cuts : List (List Int)) (d n : Nat) : keysForN t cuts d (n + 1) = keysForN t cuts d n ++ (if oneAt d (t.getD n []) = true then [cuts.getD n []] else []) := by
  unfold keysForN
  rw [List.range_succ, List.filter_append, List.map_append, filter_one, map_ite]
theorem keysForN_len (t cuts : List (List Int)) (d n : Nat) : (keysForN t cuts d n).length ≤ n := by
  unfold keysForN; rw [List.length_map]; have := List.length_filter_le (fun i => oneAt d (t.getD i [])) (List.range n); simpa using this
theorem keysFor_len (t cuts : List (List Int)) (d : Nat) : (keysFor t cuts d).length ≤ cuts.length := keysForN_len t cuts d cuts.length
theorem mem_keysFor {t cuts : List (List Int)} {d : Nat} {k : List Int} (h : k ∈ keysFor t cuts d) : k ∈ cuts := by
  unfold keysFor keysForN at h
  obtain ⟨i, hi, rfl⟩ := List.mem_map.1 h
  have := List.mem_range.1 (List.mem_filter.1 hi).1
  rw [getD_row this]; exact List.getElem_mem this
/-- of the numbers of rows those below n: their cuts -/
def pick (cuts : List (List Int)) (rl : List Int) : List (List Int) := (rl.filter fun x => decide (x < (cuts.length : Int))).map fun x => cuts.getD x.toNat []
theorem pick_succ (cuts : List (List Int)) (rl : List Int) (j : Nat) (h : j < rl.length) : pick cuts (rl.take (j + 1)) = pick cuts (rl.take j) ++ (if decide (rl[j] < (cuts.length : Int)) = true then [cuts.getD rl[j].toNat []] else []) := by
  unfold pick
  rw [List.take_succ_eq_append_getElem h, List.filter_append, List.map_append, filter_one, map_ite]
theorem pick_len (cuts : List (List Int)) (rl : List Int) : (pick cuts rl).length ≤ rl.length := by unfold pick; rw [List.length_map]; exact List.length_filter_le _ _
theorem selF_range (p : List Int → Bool) (t : List (List Int)) : ∀ k, k ≤ t.length → selF p (t.take k) = ((List.range k).filter fun i => p (t.getD i [])).map fun (i : Nat) => (i : Int)
  | 0, _ => by simp [selF]
  | k + 1, h => by
    rw [selF_succ p t k (by omega), selF_range p t k (by omega), List.range_succ, List.filter_append, List.map_append, filter_one, map_ite, getD_row (show k < t.length by omega)]
theorem range_filter_lt (p : Nat → Bool) (n : Nat) : ∀ r, (List.range (n + r)).filter (fun i => decide (i < n) && p i) = (List.range n).filter p
  | 0 => by
    refine List.filter_congr fun i hi => ?_
    have := List.mem_range.1 hi
    rw [decide_eq_true (show i < n by omega), Bool.true_and]
  | r + 1 => by
    rw [show n + (r + 1) = (n + r) + 1 by omega, List.range_succ, List.filter_append, range_filter_lt p n r, filter_one, decide_eq_false (show ¬ n + r < n by omega), Bool.false_and, if_neg (by simp), List.append_nil]
theorem pick_rowsFor {t cuts : List (List Int)} (d : Nat) (h : cuts.length ≤ t.length) : pick cuts (rowsForL t d) = keysFor t cuts d := by
  unfold rowsForL
  have e := selF_range (oneAt d) t t.length (Nat.le_refl _)
  rw [List.take_length] at e
  rw [e]
  unfold pick keysFor keysForN
  rw [List.filter_map, List.map_map, List.filter_filter]
  have h2 := range_filter_lt (fun i => oneAt d (t.getD i [])) cuts.length (t.length - cuts.length)
  rw [show cuts.length + (t.length - cuts.length) = t.length by omega] at h2
  rw [← h2]
  have e3 : ∀ i : Nat, (((fun x : Int => decide (x < (cuts.length : Int))) ∘ fun (i : Nat) => (i : Int)) i && oneAt d (t.getD i [])) = (decide (i < cuts.length) && oneAt d (t.getD i [])) := by
    intro i; simp
  rw [show (fun i : Nat => (((fun x : Int => decide (x < (cuts.length : Int))) ∘ fun (i : Nat) => (i : Int)) i && oneAt d (t.getD i []))) = fun i => (decide (i < cuts.length) && oneAt d (t.getD i [])) from funext e3]
  refine List.map_congr_left fun i _ => ?_
  simp
theorem rowsForL_nonneg {t : List (List Int)} {d : Nat} {j : Nat} (h : j < (rowsForL t d).length) : 0 ≤ (rowsForL t d)[j] := by
  have hm := List.getElem_mem h
  obtain ⟨x, _, hx⟩ := List.mem_map.1 (show (rowsForL t d)[j] ∈ (t.zipIdx.filter fun x => oneAt d x.1).map fun x => (x.2 : Int) from hm)
  omega
/-- the locks of the first n doors -/
def locksN (m : Mk) (t cuts : List (List Int)) (n : Nat) : List (List (List Int)) := (List.range n).map fun d => hullF m.c.toNat m.d.toNat (keysFor t cuts d)
def locksF (m : Mk) (t cuts : List (List Int)) : List (List (List Int)) := locksN m t cuts (t.headD []).length
theorem locksN_succ (m : Mk) (t cuts : List (List Int)) (n : Nat) : locksN m t cuts (n + 1) = locksN m t cuts n ++ [hullF m.c.toNat m.d.toNat (keysFor t cuts n)] := by
  unfold locksN; rw [List.range_succ, List.map_append]; rfl
theorem locksN_len (m : Mk) (t cuts : List (List Int)) (n : Nat) : (locksN m t cuts n).length = n := by simp [locksN]
theorem locksF_len (m : Mk) (t cuts : List (List Int)) : (locksF m t cuts).length = (t.headD []).length := locksN_len m t cuts _
theorem locksF_at {m : Mk} {t cuts : List (List Int)} {d : Nat} (h : d < (locksF m t cuts).length) : (locksF m t cuts)[d] = hullF m.c.toNat m.d.toNat (keysFor t cuts d) := by simp [locksF, locksN]
/-- a false opening -/
def isFault (t cuts : List (List Int)) (ls : List (List (List Int))) (k d : Nat) : Bool := (t.getD k []).getD d 0 == 0 && opensL (ls.getD d []) (cuts.getD k [])
def faultRow (t cuts : List (List Int)) (ls : List (List (List Int))) (k n : Nat) : List (List Int) := ((List.range n).filter (isFault t cuts ls k)).map fun (d : Nat) => [(k : Int), (d : Int)]
def faultsN (t cuts : List (List Int)) (ls : List (List (List Int))) (n : Nat) : List (List Int) := (List.range n).flatMap fun k => faultRow t cuts ls k ls.length
def faultsF (m : Mk) (t cuts : List (List Int)) : List (List Int) := faultsN t cuts (locksF m t cuts) cuts.length
theorem faultRow_succ (t cuts : List (List Int)) (ls : List (List (List Int))) (k n : Nat) : faultRow t cuts ls k (n + 1) = faultRow t cuts ls k n ++ (if isFault t cuts ls k n = true then [[(k : Int), (n : Int)]] else []) := by
  unfold faultRow
  rw [List.range_succ, List.filter_append, List.map_append, filter_one, map_ite]
theorem faultRow_len (t cuts : List (List Int)) (ls : List (List (List Int))) (k n : Nat) : (faultRow t cuts ls k n).length ≤ n := by
  unfold faultRow; rw [List.length_map]; have := List.length_filter_le (isFault t cuts ls k) (List.range n); simpa using this
theorem faultsN_succ (t cuts : List (List Int)) (ls : List (List (List Int))) (n : Nat) : faultsN t cuts ls (n + 1) = faultsN t cuts ls n ++ faultRow t cuts ls n ls.length := by
  unfold faultsN; rw [List.range_succ, List.flatMap_append]; simp
theorem faultsN_len (t cuts : List (List Int)) (ls : List (List (List Int))) : ∀ n, (faultsN t cuts ls n).length ≤ n * ls.length
  | 0 => by simp [faultsN]
  | n + 1 => by
    rw [faultsN_succ, List.length_append]
    have h1 := faultsN_len t cuts ls n
    have h2 := faultRow_len t cuts ls n ls.length
    rw [Nat.succ_mul]; omega
theorem isFault_in {t cuts : List (List Int)} {ls : List (List (List Int))} {k d : Nat} (hk : k < t.length) (hd : d < t[k].length) (hc : k < cuts.length) (hl : d < ls.length) : isFault t cuts ls k d = (t[k][d] == 0 && opensL ls[d] cuts[k]) := by
  unfold isFault
  rw [getD_row hk, getD_in hd, getD_row hc]
  rw [show ls.getD d [] = ls[d] by simp [List.getD, List.getElem?_eq_getElem hl]]
end Go.Proofs.YtapocenhmdcfoaaGreat
