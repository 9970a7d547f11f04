/- Contracts of members, Compare, IndexFunc, ContainsFunc. -/
import Derived.Test.YtcdajogdpgjgjaaMem3
namespace Go.Proofs.Ytcdajogdpgjgjaa
set_option linter.unusedVariables false
open Go.RowKit
/-- the elements of a set that is told by its bits -/
def memG : Nat → Nat → Nat → List Int
  | 0, _, _ => []
  | f + 1, k, n => if n = 0 then [] else (if n % 2 = 1 then [(k : Int)] else []) ++ memG f (k + 1) (n / 2)
def membersF (n : Nat) : List Int := memG 64 0 n
theorem bits_tab : ∀ n : Fin 1024, bits BinOp.and IntKind.i64 (n.val : Int) 1 = ((n.val % 2 : Nat) : Int) := by decide +kernel
theorem bits_and {n : Nat} (h : n ≤ 1023) : bits BinOp.and IntKind.i64 (n : Int) 1 = ((n % 2 : Nat) : Int) := bits_tab ⟨n, by omega⟩
theorem memG_len : ∀ (f k n : Nat), (memG f k n).length ≤ f
  | 0, _, _ => by simp [memG]
  | f + 1, k, n => by
    have := memG_len f (k + 1) (n / 2)
    rw [memG]; split
    · simp
    · rw [List.length_append]; split <;> simp <;> omega
/-- a list of numbers in new memory, not nil -/
def ResIs (w : World) (xs : List Int) (e : Ending) (w' : World) : Prop := ∃ a c, e = .returned (.slice (some a) xs.length c) ∧ xs.length ≤ c ∧ RI w' (some a) xs ∧ OI w' w.heap.size w'.heap.size (.slice (some a) xs.length c) xs ∧ Below w.heap.size w w'
theorem resIs_own {w w' : World} {v : Value} {xs : List Int} {B : Nat} (ho : OV w' B 2 v (ints xs)) (hv : v ≠ .slice none 0 0) (hB : w.heap.size ≤ B) (hb : Below w.heap.size w w') : ResIs w xs (.returned v) w' := by
  obtain ⟨A, c, h1, h2, h3, h4, h5⟩ := resI_own ho hB hb
  injection h1 with h1
  subst h1
  cases A with
  | none =>
    exfalso
    rcases ho.2 with ⟨h, _⟩ | ⟨g, cap, cur, h, _⟩
    · exact hv h
    · injection h with h; cases h
  | some a => exact ⟨a, c, rfl, h2, h3, h4, h5⟩
set_option maxRecDepth 100000 in
set_option maxHeartbeats 1000000 in
theorem members_any (n : Nat) (w : World) (hn : n ≤ 1023) :
    Calls Try.prog 80 #[.int .i64 (n : Int)] w (ResIs w (membersF n)) := by
  go_enter Try.func80, Try.ntmps80
  go_wp2_with fail
  go_loopw [0, 3, 4] (fun s v k wr => ∃ (f i j : Nat) (acc : List Int), j ≤ 1023 ∧ f + i = 64 ∧ j * 2 ^ i ≤ 1023 ∧ s = .int .i64 j ∧ k = .int .i64 i ∧ acc.length ≤ i ∧ acc ++ memG f i j = membersF n ∧ v ≠ .slice none 0 0 ∧ OV wr w.heap.size 2 v (ints acc) ∧ Below w.heap.size w wr) (fun s _ _ _ => (intOf s).toNat)
  case atStart => exact ⟨64, 0, n, [], hn, rfl, by omega, rfl, rfl, by simp, rfl, by simp, by simpa [ints] using OV.new0 (w := w) (e := 2) (B := w.heap.size) (Nat.le_refl _), (Below.refl _ _).alloc (Nat.le_refl _) _⟩
  case round =>
    obtain ⟨f, i, j, acc, hj, hfi, hpow, rfl, rfl, hal, hacc, hnv, ho, hb⟩ := hrel
    have HNV := Lib.hid hnv; clear hnv
    have HA := Lib.hid hacc; clear hacc
    have hsz := hb.size
    by_cases hlt : 0 < j
    · have hi9 : i ≤ 9 := by
        rcases Nat.lt_or_ge 9 i with h | h
        · have : 2 ^ 10 ≤ 2 ^ i := Nat.pow_le_pow_right (by omega) h
          have : 1 * 2 ^ i ≤ j * 2 ^ i := Nat.mul_le_mul_right _ hlt
          omega
        · exact h
      obtain ⟨f, rfl⟩ : ∃ t, f = t + 1 := ⟨f - 1, by omega⟩
      have hp2 : j / 2 * 2 ^ (i + 1) ≤ 1023 := by
        have : j / 2 * 2 * 2 ^ i ≤ j * 2 ^ i := Nat.mul_le_mul_right _ (by omega)
        rw [Nat.pow_succ, Nat.mul_comm (2 ^ i) 2, ← Nat.mul_assoc]; omega
      have HP := Lib.hid hp2; clear hp2 hpow
      have HF := Lib.hid hfi; clear hfi
      have HS := Lib.hid (show memG (f + 1) i j = (if j % 2 = 1 then [(i : Int)] else []) ++ memG f (i + 1) (j / 2) by rw [memG, if_neg (by omega)])
      have i0 : (0 : Int) < (j : Int) := by omega
      have hd : (j : Int).fdiv 2 = ((j / 2 : Nat) : Int) := by rw [Int.fdiv_eq_ediv_of_nonneg _ (by omega)]; omega
      have hbt := bits_and (n := j) hj
      by_cases hodd : j % 2 = 1
      · have hq : (bits BinOp.and IntKind.i64 (j : Int) 1 == 1) = true := by rw [hbt, hodd]; rfl
        have HO := Lib.hid hodd; have HBT := Lib.hid hbt; clear hodd hbt
        go_wp2_with (at_builtin; refine wpList_app1 _ rfl _ _ _ rfl w.heap.size 2 _ 8 Try.underlying24 info_int rfl (by omega) _ _ rfl (ho.alloc _) _ _ rfl (one_cell _ _ _) rfl (by rw [ints_length]; omega) (by simp; omega) ?_; intro v' w3 ho3 hg3 hn3 hat3)
        go_roundw
        case rel => exact ⟨f, i + 1, j / 2, acc ++ [(i : Int)], by omega, by have := HF.out; omega, HP.out, rfl, by go_num, by simp; omega, by rw [← HA.out, HS.out, if_pos HO.out, List.append_assoc], hn3, by rw [ints_append]; exact ho3, (ho.alloc _).own (Nat.le_refl _) (hb.alloc (by omega) _) hg3 (by simp; omega)⟩
        case measure => simp [intOf]; omega
      · have hq : (bits BinOp.and IntKind.i64 (j : Int) 1 == 1) = false := by rw [hbt, show j % 2 = 0 by omega]; rfl
        have HO := Lib.hid hodd; have HBT := Lib.hid hbt; clear hodd hbt
        go_wp2_with fail
        go_roundw
        case rel => exact ⟨f, i + 1, j / 2, acc, by omega, by have := HF.out; omega, HP.out, rfl, by go_num, by omega, by rw [← HA.out, HS.out, if_neg HO.out, List.nil_append], HNV.out, ho, hb⟩
        case measure => simp [intOf]; omega
    · obtain rfl : j = 0 := by omega
      have HS := Lib.hid (show membersF n = acc by rw [← HA.out]; cases f <;> simp [memG])
      go_wp2_with fail
      go_ret
      exact resIs_own (by rw [HS.out]; exact ho) HNV.out (Nat.le_refl _) hb
/-! ### searches with a function -/
def findP {α : Type} (p : α → Bool) (t : List α) : Int := match t.findIdx? p with | some i => (i : Int) | none => -1
theorem findP_hit {α : Type} {p : α → Bool} {t : List α} {k : Nat} (h : k < t.length) (hk : p t[k] = true) (hn : ∀ j (hj : j < k), p (t[j]'(by omega)) = false) : findP p t = k := by
  unfold findP
  have : t.findIdx? p = some k := by
    rw [List.findIdx?_eq_some_iff_getElem]
    exact ⟨h, hk, fun j hj => by rw [hn j hj]; simp⟩
  rw [this]
theorem findP_none {α : Type} {p : α → Bool} {t : List α} (hn : ∀ j (hj : j < t.length), p t[j] = false) : findP p t = -1 := by
  unfold findP
  have : t.findIdx? p = none := by
    rw [List.findIdx?_eq_none_iff]
    intro x hx
    obtain ⟨i, hi, rfl⟩ := List.getElem_of_mem hx
    exact hn i hi
  rw [this]
theorem findP_any {α : Type} (p : α → Bool) (t : List α) : (decide (0 ≤ findP p t) : Bool) = t.any p := by
  unfold findP
  cases h : t.findIdx? p with
  | none =>
    rw [List.findIdx?_eq_none_iff] at h
    have : t.any p = false := by rw [List.any_eq_false]; intro x hx; rw [h x hx]; simp
    rw [this]; rfl
  | some i =>
    rw [List.findIdx?_eq_some_iff_getElem] at h
    obtain ⟨hi, hp, _⟩ := h
    have : t.any p = true := by rw [List.any_eq_true]; exact ⟨_, List.getElem_mem hi, hp⟩
    rw [this]; simp
/-! ### the order of lists -/
def cmpI (x y : Int) : Int := if x < y then -1 else if y < x then 1 else 0
def cmpL : List Int → List Int → Int
  | [], [] => 0
  | [], _ :: _ => -1
  | _ :: _, [] => 1
  | a :: r, b :: s => if cmpI a b = 0 then cmpL r s else cmpI a b
set_option maxHeartbeats 1000000 in
theorem compareI_any (x y : Int) (w : World) :
    Calls Try.prog 132 #[.int .i64 x, .int .i64 y] w fun e w' => e = .returned (.int .i64 (cmpI x y)) ∧ w = w' := by
  have n1 : (x != x) = false := by simp
  have n2 : (y != y) = false := by simp
  by_cases h1 : x < y
  · have HR := Lib.hid (show cmpI x y = -1 by simp [cmpI, h1])
    go_enter Try.func132, Try.ntmps132
    go_wp2
    go_ret
    exact ⟨retI HR.out.symm, rfl⟩
  · by_cases h2 : y < x
    · have HR := Lib.hid (show cmpI x y = 1 by simp [cmpI, h1, h2])
      go_enter Try.func132, Try.ntmps132
      go_wp2
      go_ret
      exact ⟨retI HR.out.symm, rfl⟩
    · have HR := Lib.hid (show cmpI x y = 0 by simp [cmpI, h1, h2])
      go_enter Try.func132, Try.ntmps132
      go_wp2
      go_ret
      exact ⟨retI HR.out.symm, rfl⟩
theorem cmpL_next {xs ys : List Int} {k : Nat} (h1 : k < xs.length) (h2 : k < ys.length) : cmpL (xs.drop k) (ys.drop k) = if cmpI xs[k] ys[k] = 0 then cmpL (xs.drop (k + 1)) (ys.drop (k + 1)) else cmpI xs[k] ys[k] := by
  rw [List.drop_eq_getElem_cons h1, List.drop_eq_getElem_cons h2, cmpL]
set_option maxHeartbeats 1000000 in
theorem sCompare_any (A B : Option Addr) (c d : Nat) (xs ys : List Int) (w : World) (h : RI w A xs) (g : RI w B ys) :
    Calls Try.prog 81 #[.slice A xs.length c, .slice B ys.length d] w fun e w' => e = .returned (.int .i64 (cmpL xs ys)) ∧ w = w' := by
  have hle := h.le
  have hge := g.le
  go_enter Try.func81, Try.ntmps81
  go_wp2_with fail
  go_loop [5, 6, 7, 8, 11] (fun _ _ _ _ i => ∃ k : Nat, k ≤ xs.length ∧ k ≤ ys.length ∧ i = .int .i64 k ∧ cmpL (xs.drop k) (ys.drop k) = cmpL xs ys) (fun _ _ _ _ i => xs.length - (intOf i).toNat)
  case atStart => exact ⟨0, by omega, by omega, rfl, rfl⟩
  case round =>
    obtain ⟨k, hk, hk2, rfl, hrel⟩ := hrel
    have HR := Lib.hid hrel; clear hrel
    by_cases hlt : k < xs.length
    · obtain ⟨b, o, rfl, hc⟩ := h.at_ hlt
      by_cases hlt2 : k < ys.length
      · obtain ⟨b2, o2, rfl, hc2⟩ := g.at_ hlt2
        have HS := Lib.hid (cmpL_next hlt hlt2)
        have t1 : ¬ ys.length ≤ k := by omega
        by_cases hz : cmpI xs[k] ys[k] = 0
        · have HO := Lib.hid (show cmpL (xs.drop (k + 1)) (ys.drop (k + 1)) = cmpL xs ys by rw [← HR.out, HS.out, if_pos hz])
          have HC := Lib.hid (compareI_any xs[k] ys[k] w)
          rw [hz] at HC
          clear hz
          go_wp2_with fail
          refine HC.out.mono ?_
          rintro e w1 ⟨rfl, rfl⟩
          go_wp2_with fail
          go_round
          case rel => exact ⟨k + 1, by omega, by omega, by go_num, HO.out⟩
          case measure => simp [intOf]; omega
        · have HO := Lib.hid (show cmpL xs ys = cmpI xs[k] ys[k] by rw [← HR.out, HS.out, if_neg hz])
          have t2 : (cmpI xs[k] ys[k] != 0) = true := by simpa using hz
          have HZ := Lib.hid hz; clear hz
          go_wp2_with fail
          refine (compareI_any _ _ _).mono ?_
          rintro e w1 ⟨rfl, rfl⟩
          go_wp2_with fail
          go_ret
          exact ⟨retI HO.out.symm, rfl⟩
      · have HO := Lib.hid (show cmpL xs ys = 1 by rw [← HR.out, show ys.drop k = [] from List.drop_eq_nil_of_le (by omega), List.drop_eq_getElem_cons hlt, cmpL])
        have t1 : ys.length ≤ k := by omega
        go_wp2_with fail
        go_ret
        exact ⟨retI HO.out.symm, rfl⟩
    · obtain rfl : k = xs.length := by omega
      by_cases hlt2 : xs.length < ys.length
      · have HO := Lib.hid (show cmpL xs ys = -1 by rw [← HR.out, List.drop_eq_getElem_cons hlt2, List.drop_length, cmpL])
        go_wp2_with fail
        go_ret
        exact ⟨retI HO.out.symm, rfl⟩
      · have HO := Lib.hid (show cmpL xs ys = 0 by rw [← HR.out, List.drop_length, show ys.drop xs.length = [] from List.drop_eq_nil_of_le (by omega), cmpL])
        go_wp2_with fail
        go_ret
        exact ⟨retI HO.out.symm, rfl⟩
/-- fewer elements, or as many and less -/
def fewer (a b : List Int) : Bool := decide (a.length < b.length) || (decide (a.length = b.length) && decide (cmpL a b < 0))
end Go.Proofs.Ytcdajogdpgjgjaa
