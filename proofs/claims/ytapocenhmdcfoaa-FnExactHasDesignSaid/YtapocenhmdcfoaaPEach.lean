/- Plain laws: the keys whose cuts are allowed, in order; visits. No program. -/
import Derived.Test.YtapocenhmdcfoaaFFault
namespace Go.Proofs.Ytapocenhmdcfoaa
set_option linter.unusedVariables false
/-- visits in order, until a visit says no -/
def runVis {σ : Type} (vis : σ → List Int → Bool × σ) : σ → List (List Int) → Bool × σ
  | s, [] => (true, s)
  | s, k :: ks => if (vis s k).1 = true then runVis vis (vis s k).2 ks else (false, (vis s k).2)
theorem runVis_append {σ : Type} (vis : σ → List Int → Bool × σ) : ∀ (xs ys : List (List Int)) (s : σ),
    runVis vis s (xs ++ ys) = if (runVis vis s xs).1 = true then runVis vis (runVis vis s xs).2 ys else (false, (runVis vis s xs).2)
  | [], ys, s => by simp [runVis]
  | k :: ks, ys, s => by
    simp only [List.cons_append, runVis]
    by_cases h : (vis s k).1 = true
    · simp only [h, if_true]; exact runVis_append vis ks ys _
    · simp [h]
/-- may depth d follow the cuts? -/
def mayAt (m : Mk) (al : Nat → Int → Bool) (key : List Int) (d : Int) : Bool := al key.length d && (decide (key.length = 0) || decide (absI (d - key.getD (key.length - 1) 0) ≤ m.s))
def mayRun (m : Mk) (key : List Int) (d : Int) : Bool := decide ((endRun (key ++ [d]) : Int) ≤ m.a)
/-- lo, lo + 1, .., hi - 1 -/
def depths (lo hi : Int) : List Int := (List.range (hi - lo).toNat).map fun (i : Nat) => lo + (i : Int)
theorem depths_nil {lo hi : Int} (h : hi ≤ lo) : depths lo hi = [] := by simp [depths, show (hi - lo).toNat = 0 by omega]
theorem depths_cons {lo hi : Int} (h : lo < hi) : depths lo hi = lo :: depths (lo + 1) hi := by
  unfold depths
  rw [show (hi - lo).toNat = (hi - (lo + 1)).toNat + 1 by omega, List.range_succ_eq_map]
  simp only [List.map_cons, List.map_map, Int.natCast_zero, Int.add_zero]
  congr 1
  apply List.map_congr_left; intro x _; simp only [Function.comp]; omega
theorem mem_depths {lo hi x : Int} : x ∈ depths lo hi ↔ lo ≤ x ∧ x < hi := by
  simp only [depths, List.mem_map, List.mem_range]
  constructor
  · rintro ⟨i, hi, rfl⟩; omega
  · rintro ⟨h1, h2⟩; exact ⟨(x - lo).toNat, by omega, by omega⟩
def least (fr : List Int) (key : List Int) (tight : Bool) : Int := if tight = true then fr.getD key.length 0 else 0
/-- all keys with so many cuts still to come, behind some cuts -/
def keysG (m : Mk) (al : Nat → Int → Bool) (fr : List Int) : Nat → List Int → Bool → List (List Int)
  | 0, key, _ => if kinds key < m.l then [] else [key]
  | r + 1, key, tight => (depths (least fr key tight) m.d).flatMap fun d => if (mayAt m al key d && mayRun m key d) = true then keysG m al fr r (key ++ [d]) (tight && d == least fr key tight) else []
/-- those from depth d on -/
def keysFrom (m : Mk) (al : Nat → Int → Bool) (fr : List Int) (r : Nat) (key : List Int) (tight : Bool) (d : Int) : List (List Int) :=
  (depths d m.d).flatMap fun d => if (mayAt m al key d && mayRun m key d) = true then keysG m al fr r (key ++ [d]) (tight && d == least fr key tight) else []
theorem keysG_succ (m : Mk) (al : Nat → Int → Bool) (fr : List Int) (r : Nat) (key : List Int) (tight : Bool) : keysG m al fr (r + 1) key tight = keysFrom m al fr r key tight (least fr key tight) := rfl
theorem keysFrom_end (m : Mk) (al : Nat → Int → Bool) (fr : List Int) (r : Nat) (key : List Int) (tight : Bool) {d : Int} (h : m.d ≤ d) : keysFrom m al fr r key tight d = [] := by
  unfold keysFrom; rw [depths_nil h]; rfl
theorem keysFrom_skip {m : Mk} {al : Nat → Int → Bool} {fr : List Int} {r : Nat} {key : List Int} {tight : Bool} {d : Int} (h : d < m.d) (hp : (mayAt m al key d && mayRun m key d) = false) :
    keysFrom m al fr r key tight d = keysFrom m al fr r key tight (d + 1) := by
  unfold keysFrom; rw [depths_cons h, List.flatMap_cons, if_neg (by rw [hp]; simp), List.nil_append]
theorem keysFrom_take {m : Mk} {al : Nat → Int → Bool} {fr : List Int} {r : Nat} {key : List Int} {tight : Bool} {d : Int} (h : d < m.d) (hp : (mayAt m al key d && mayRun m key d) = true) :
    keysFrom m al fr r key tight d = keysG m al fr r (key ++ [d]) (tight && d == least fr key tight) ++ keysFrom m al fr r key tight (d + 1) := by
  unfold keysFrom; rw [depths_cons h, List.flatMap_cons, if_pos hp]
theorem keysG_len (m : Mk) (al : Nat → Int → Bool) (fr : List Int) (h8 : m.d ≤ 8) (hf : ∀ k, 0 ≤ fr.getD k 0) : ∀ (r : Nat) (key : List Int) (tight : Bool), (keysG m al fr r key tight).length ≤ 8 ^ r
  | 0, key, _ => by rw [keysG]; split <;> simp
  | r + 1, key, tight => by
    rw [keysG]
    have hl : 0 ≤ least fr key tight := by unfold least; split; exact hf _; omega
    have key' : ∀ (ds : List Int), ((ds.flatMap fun d => if (mayAt m al key d && mayRun m key d) = true then keysG m al fr r (key ++ [d]) (tight && d == least fr key tight) else [])).length ≤ ds.length * 8 ^ r := by
      intro ds
      induction ds with
      | nil => simp
      | cons d ds ih =>
        rw [List.flatMap_cons, List.length_append, List.length_cons, Nat.add_mul, Nat.one_mul]
        have : (if (mayAt m al key d && mayRun m key d) = true then keysG m al fr r (key ++ [d]) (tight && d == least fr key tight) else []).length ≤ 8 ^ r := by
          split
          · exact keysG_len m al fr h8 hf r _ _
          · simp
        omega
    have h := key' (depths (least fr key tight) m.d)
    have hd : (depths (least fr key tight) m.d).length ≤ 8 := by simp [depths]; omega
    have : (depths (least fr key tight) m.d).length * 8 ^ r ≤ 8 * 8 ^ r := Nat.mul_le_mul_right _ hd
    rw [Nat.pow_succ]; omega
/-! ### visits that count, that collect -/
theorem runVis_count : ∀ (ks : List (List Int)) (n : Nat), runVis (fun (s : Nat) _ => (true, s + 1)) n ks = (true, n + ks.length)
  | [], n => by simp [runVis]
  | k :: ks, n => by rw [runVis, if_pos rfl, runVis_count ks (n + 1)]; simp; omega
/-- collects, until there are most of them -/
def visColl (most : Nat) (s : List (List Int)) (k : List Int) : Bool × List (List Int) := (decide (s.length + 1 < most), s ++ [k])
theorem runVis_coll (most : Nat) : ∀ (ks s : List (List Int)), s.length < most → (runVis (visColl most) s ks).2 = (s ++ ks).take most
  | [], s, h => by rw [runVis, List.append_nil, List.take_of_length_le (by omega)]
  | k :: ks, s, h => by
    rw [runVis]
    by_cases hm : s.length + 1 < most
    · rw [if_pos (by simp [visColl, hm])]
      have := runVis_coll most ks (s ++ [k]) (by simp; omega)
      simp only [visColl]
      rw [this, List.append_assoc]; rfl
    · rw [if_neg (by simp [visColl]; omega)]
      simp only [visColl]
      rw [show s ++ k :: ks = (s ++ [k]) ++ ks by simp, List.take_append_of_le_length (by simp; omega), List.take_of_length_le (by simp; omega)]
end Go.Proofs.Ytapocenhmdcfoaa
