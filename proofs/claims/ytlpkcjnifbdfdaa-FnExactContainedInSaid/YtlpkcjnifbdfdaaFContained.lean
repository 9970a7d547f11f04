/- Contracts of ContainedIn. -/
import Derived.Test.YtlpkcjnifbdfdaaFMaster
namespace Go.Proofs.Ytlpkcjnifbdfdaa
set_option linter.unusedVariables false
open Go.RowKit
/-! ### plain words -/
def leAll (a b : List Int) : Bool := (List.range a.length).all fun k => decide (a.getD k 0 ≤ b.getD k 0)
def commonF (a b : List Int) (n : Nat) : List Int := ((List.range n).filter fun (k : Nat) => a.getD k 0 == 1 && b.getD k 0 == 1).map fun (k : Nat) => (k : Int)
def isCont (a b : List Int) : Bool := (((commonF a b a.length).length : Nat) : Int) == sumI a
theorem commonF_succ (a b : List Int) (n : Nat) : commonF a b (n + 1) = commonF a b n ++ if (a.getD n 0 == 1 && b.getD n 0 == 1) = true then [(n : Int)] else [] := by
  unfold commonF
  rw [List.range_succ, List.filter_append, List.map_append]
  cases h : (a.getD n 0 == 1 && b.getD n 0 == 1)
  · simp only [List.filter_cons, h, List.filter_nil]; simp
  · simp only [List.filter_cons, h, List.filter_nil]; simp
theorem commonF_len (a b : List Int) (n : Nat) : (commonF a b n).length ≤ n := by
  unfold commonF; rw [List.length_map]; exact Nat.le_trans (List.length_filter_le _ _) (by simp)
theorem getD_at {xs : List Int} {k : Nat} (h : k < xs.length) : xs.getD k 0 = xs[k] := by simp [List.getD, List.getElem?_eq_getElem h]
/-- the numbers of the rows that p keeps; p sees the number too -/
def selG (p : List Int × Nat → Bool) (t : List (List Int)) : List Int := (t.zipIdx.filter p).map fun x => (x.2 : Int)
theorem selG_succ (p : List Int × Nat → Bool) (t : List (List Int)) (k : Nat) (h : k < t.length) : selG p (t.take (k + 1)) = selG p (t.take k) ++ if p (t[k], k) = true then [(k : Int)] else [] := by
  have hl : (t.take k).length = k := by simp; omega
  unfold selG
  rw [List.take_succ_eq_append_getElem h, List.zipIdx_append, List.filter_append, List.map_append, hl]
  cases hp : p (t[k], k) <;> simp [hp]
theorem selG_len (p : List Int × Nat → Bool) (t : List (List Int)) : (selG p t).length ≤ t.length := by
  unfold selG
  rw [List.length_map]
  exact Nat.le_trans (List.length_filter_le _ _) (by simp)
theorem selG_congr {p q : List Int × Nat → Bool} {t : List (List Int)} (h : ∀ k (hk : k < t.length), p (t[k], k) = q (t[k], k)) : selG p t = selG q t := by
  unfold selG
  congr 1
  apply List.filter_congr
  intro x hx
  obtain ⟨a, i⟩ := x
  have hz := List.mem_zipIdx hx
  simp at hz
  obtain ⟨h1, h2⟩ := hz
  rw [h2]
  exact h i h1
theorem cnt_le : ∀ (n : Nat) (a b : Nat → Int), (∀ k, k < n → (a k = 0 ∨ a k = 1) ∧ (b k = 0 ∨ b k = 1)) →
    (((List.range n).filter fun k => a k == 1 && b k == 1).length : Int) ≤ ((List.range n).map a).sum ∧
    (((((List.range n).filter fun k => a k == 1 && b k == 1).length : Int) = ((List.range n).map a).sum) ↔ ∀ k, k < n → a k ≤ b k)
  | 0, a, b, _ => by simp
  | n + 1, a, b, h => by
    have ih := cnt_le n a b (fun k hk => h k (by omega))
    have hn := h n (by omega)
    rw [List.range_succ, List.filter_append, List.length_append, List.map_append, List.sum_append]
    have e1 : ((List.map a [n]).sum) = a n := by simp
    rw [e1]
    have e2 : ((List.filter (fun k => a k == 1 && b k == 1) [n]).length : Int) = if a n = 1 ∧ b n = 1 then 1 else 0 := by
      by_cases hc : a n = 1 ∧ b n = 1
      · rw [if_pos hc]; simp [hc.1, hc.2]
      · rw [if_neg hc]
        have : (a n == 1 && b n == 1) = false := by
          rw [Bool.eq_false_iff]; intro hh; apply hc; simpa using hh
        simp [this]
    rw [Int.natCast_add, e2]
    refine ⟨by split <;> omega, ?_⟩
    constructor
    · intro he k hk
      have hs : ((List.filter (fun k => a k == 1 && b k == 1) (List.range n)).length : Int) = ((List.range n).map a).sum := by
        have := ih.1; split at he <;> omega
      by_cases hkn : k = n
      · subst hkn; split at he <;> omega
      · exact ih.2.1 hs k (by omega)
    · intro hall
      have h1 := ih.2.2 (fun k hk => hall k (by omega))
      have h2 := hall n (by omega)
      rw [h1]
      split <;> omega
theorem foldl_sum (M : Int) (hM : 0 ≤ M) : ∀ (xs : List Int) (a : Int), 0 ≤ a → a + M * xs.length ≤ 9223372036854775807 → (∀ x ∈ xs, 0 ≤ x ∧ x ≤ M) → xs.foldl (fun a x => wrap64 (a + x)) a = a + xs.sum
  | [], a, _, _, _ => by simp
  | x :: r, a, h0, h1, h2 => by
    have hx := h2 x (by simp)
    have hmul : M * ((x :: r).length : Int) = M * (r.length : Int) + M := by simp [Int.mul_add]
    have hpos : 0 ≤ M * (r.length : Int) := Int.mul_nonneg hM (by omega)
    rw [List.foldl_cons, IntWalk.wrap64_in _ ⟨by omega, by omega⟩, foldl_sum M hM r (a + x) (by omega) (by omega) (fun y hy => h2 y (by simp [hy])), List.sum_cons]
    omega
theorem sumI_eq {M : Int} {xs : List Int} (hM : 0 ≤ M) (h : allW 0 M xs = true) (hl : M * xs.length ≤ 9223372036854775807) : sumI xs = xs.sum := by
  unfold sumI
  rw [foldl_sum M hM xs 0 (by omega) (by omega) (fun x hx => by unfold allW at h; rw [List.all_eq_true] at h; exact inB_iff'.1 (h x hx))]
  omega
theorem map_getD (xs : List Int) : (List.range xs.length).map (fun k => xs.getD k 0) = xs := by
  apply List.ext_getElem
  · simp
  · intro i h1 h2; simp [List.getD, List.getElem?_eq_getElem h2]
theorem isCont_eq {a b : List Int} (ha : allW 0 1 a = true) (hb : allW 0 1 b = true) (hl : a.length = b.length) (hn : a.length ≤ 1000) : isCont a b = leAll a b := by
  have hbit : ∀ k, k < a.length → (a.getD k 0 = 0 ∨ a.getD k 0 = 1) ∧ (b.getD k 0 = 0 ∨ b.getD k 0 = 1) := by
    intro k hk
    rw [getD_at hk, getD_at (by omega : k < b.length)]
    unfold allW at ha hb
    rw [List.all_eq_true] at ha hb
    have h1 := inB_iff'.1 (ha _ (List.getElem_mem hk))
    have h2 := inB_iff'.1 (hb _ (List.getElem_mem (by omega : k < b.length)))
    omega
  have h := (cnt_le a.length (fun k => a.getD k 0) (fun k => b.getD k 0) hbit).2
  rw [map_getD] at h
  rw [Bool.eq_iff_iff]
  simp only [isCont, commonF, List.length_map, beq_iff_eq]
  rw [sumI_eq (by omega) ha (by omega), h]
  simp [leAll]
/-- is the row another one than the key's, and contained in that? -/
def contP (q : List Int → List Int → Bool) (t : List (List Int)) (key : Int) (x : List Int × Nat) : Bool := ((x.2 : Int) != key) && q x.1 (t.getD key.toNat [])
theorem contP_at (q : List Int → List Int → Bool) (t : List (List Int)) {k kn : Nat} (hkn : kn < t.length) (r : List Int) : contP q t (kn : Int) (r, k) = (((k : Int) != (kn : Int)) && q r t[kn]) := by
  simp [contP, List.getD, List.getElem?_eq_getElem hkn]
def contIn (q : List Int → List Int → Bool) (t : List (List Int)) (key : Int) : List Int × Int :=
  if isTable t then (if inB key 0 (t.length - 1) then (selG (contP q t key) t, 0) else ([], 2)) else ([], 1)
/-! ### the walks -/
set_option maxHeartbeats 1000000 in
theorem l11In_any (A B : Option Addr) (c d : Nat) (a b : List Int) (w : World) (h : RI w A a) (g : RI w B b) (hl : a.length ≤ b.length) :
    Calls Try.prog 76 #[.slice A a.length c, .slice B b.length d] w fun e w' => e = .returned (.bool (leAll a b)) ∧ ∃ n, w' = w.drewN n := by
  have hle := h.le
  go_enter Try.func76, Try.ntmps76
  go_wp2_with fail
  go_loopw [5] (fun i wr => ∃ k n : Nat, k ≤ a.length ∧ i = .int .i64 k ∧ wr = w.drewN n ∧ ∀ j, j < k → a.getD j 0 ≤ b.getD j 0) (fun i _ => a.length - (intOf i).toNat)
  case atStart => exact ⟨0, 0, by omega, rfl, rfl, fun j hj => by omega⟩
  case round =>
    obtain ⟨k, n, hk, rfl, rfl, hrel⟩ := hrel
    have Hrel := Lib.hid hrel; clear hrel
    by_cases hlt : k < a.length
    · have hlt2 : k < b.length := by omega
      obtain ⟨p, o, rfl, hc⟩ := h.at_ hlt
      obtain ⟨p', o', rfl, hc'⟩ := g.at_ hlt2
      have i0 : (0 : Int) ≤ (k : Int) := by omega
      have i1 : (k : Int) < (a.length : Int) := by omega
      have i2 : (k : Int) < (b.length : Int) := by omega
      by_cases hp : b[k] < a[k]
      · have HF := Lib.hid (show leAll a b = false by
          unfold leAll
          refine all_false_at _ _ k (by simpa using hlt) ?_
          simp only [List.getElem_range, getD_at hlt, getD_at hlt2]; simp; omega)
        go_wp2_with fail
        go_quiet (fail)
        go_wp2_with fail
        go_ret
        exact ⟨retB HF.out.symm, by first | exact ⟨_, rfl⟩ | exact drewEx⟩
      · go_wp2_with fail
        go_quiet (fail)
        go_wp2_with fail
        go_roundw
        case rel => exact ⟨k + 1, _, by omega, by go_num, by first | rfl | exact World.drewN_drewN _ _ _, fun j hj => by
          by_cases e : j = k
          · subst e; rw [getD_at hlt, getD_at hlt2]; omega
          · exact Hrel.out j (by omega)⟩
        case measure => simp [intOf]; omega
    · obtain rfl : k = a.length := by omega
      have HF := Lib.hid (show leAll a b = true by
        unfold leAll; rw [List.all_eq_true]; intro x hx; simp; exact Hrel.out x (by simpa using hx))
      go_wp2_with fail
      go_ret
      exact ⟨retB HF.out.symm, _, rfl⟩
set_option maxHeartbeats 1000000 in
theorem l11Code_any (A : Option Addr) (c : Nat) (t : List (List Int)) (key : Int) (w : World) (h : RII w A t) :
    Calls Try.prog 75 #[.slice A t.length c, .int .i64 key] w fun e w' => e = .returned (.int .i64 (tableCode t [key])) ∧ ∃ n, w' = w.drewN n := by
  have hle := h.le
  cases h1 : isTable t with
  | false =>
    have HR := Lib.hid (show tableCode t [key] = 1 by simp [tableCode, h1])
    go_enter Try.func75, Try.ntmps75
    go_wp2_with (go_at_call 66; refine (specIsTable_any _ _ _ _ h).mono ?_; rintro e w' ⟨rfl, n, rfl⟩)
    go_ret
    exact ⟨retI HR.out.symm, _, rfl⟩
  | true =>
    cases h2 : inB key 0 (t.length - 1) with
    | false =>
      have HR := Lib.hid (show tableCode t [key] = 2 by simp [tableCode, h1, allW, h2])
      go_enter Try.func75, Try.ntmps75
      go_wp2_with (first | (go_at_call 66; refine (specIsTable_any _ _ _ _ h).mono ?_; rintro e w' ⟨rfl, n, rfl⟩) | (go_at_call 57; refine (l01In_any _ _ _ _).mono ?_; rintro e w' ⟨rfl, rfl⟩))
      go_ret
      exact ⟨retI HR.out.symm, _, rfl⟩
    | true =>
      have HR := Lib.hid (show tableCode t [key] = 0 by simp [tableCode, h1, allW, h2])
      go_enter Try.func75, Try.ntmps75
      go_wp2_with (first | (go_at_call 66; refine (specIsTable_any _ _ _ _ h).mono ?_; rintro e w' ⟨rfl, n, rfl⟩) | (go_at_call 57; refine (l01In_any _ _ _ _).mono ?_; rintro e w' ⟨rfl, rfl⟩))
      go_ret
      exact ⟨retI HR.out.symm, _, rfl⟩
set_option maxHeartbeats 2000000 in
theorem inCommon_any (A B : Option Addr) (c d : Nat) (a b : List Int) (w : World) (h : RI w A a) (g : RI w B b) (hl : a.length ≤ b.length) (hn : a.length ≤ 1073741824) :
    Calls Try.prog 102 #[.slice A a.length c, .slice B b.length d] w (ResI w (commonF a b a.length)) := by
  have HB := Lib.hid (Below.refl w.heap.size w)
  go_enter Try.func102, Try.ntmps102
  go_wp2_with fail
  go_loopw [5, 10] (fun v i wr => ∃ k : Nat, k ≤ a.length ∧ i = .int .i64 k ∧ OV wr w.heap.size 2 v (ints (commonF a b k)) ∧ Below w.heap.size w wr) (fun _ i _ => a.length - (intOf i).toNat)
  case atStart => exact ⟨0, by omega, rfl, OV.new0 (w := w) (Nat.le_refl _), HB.out.alloc (Nat.le_refl _) _⟩
  case round =>
    obtain ⟨k, hk, rfl, ho, hb⟩ := hrel
    have hsz := hb.size
    by_cases hlt : k < a.length
    · have hlt2 : k < b.length := by omega
      obtain ⟨p, o, rfl, hc⟩ := (h.below hb).at_ hlt
      obtain ⟨p', o', rfl, hc'⟩ := (g.below hb).at_ hlt2
      have hs := Lib.hid (commonF_succ a b k)
      have HL := Lib.hid (commonF_len a b k)
      have G1 := Lib.hid (getD_at hlt); have G2 := Lib.hid (getD_at hlt2)
      cases hp : (a[k] == (1 : Int)) with
      | false =>
        go_wp2_with fail
        go_roundw
        case rel => exact ⟨k + 1, by omega, by go_num, by rw [hs.out, G1.out, hp]; simpa using ho, hb⟩
        case measure => simp [intOf]; omega
      | true =>
        cases hp2 : (b[k] == (1 : Int)) with
        | false =>
          go_wp2_with fail
          go_roundw
          case rel => exact ⟨k + 1, by omega, by go_num, by rw [hs.out, G2.out, hp2]; simpa using ho, hb⟩
          case measure => simp [intOf]; omega
        | true =>
          go_wp2_with (at_builtin; refine wpList_app1 _ rfl _ _ _ rfl w.heap.size 2 _ 8 Try.underlying22 info_int rfl (by omega) _ _ rfl (ho.alloc _) _ _ rfl (one_cell _ _ _) rfl (by rw [ints_length]; have := HL.out; omega) (by simp; omega) ?_; intro v' w3 ho3 hg3 hn3 hat3)
          go_roundw
          case rel => exact ⟨k + 1, by omega, by go_num, by rw [hs.out, G1.out, G2.out, hp, hp2, ints_append]; exact ho3, (ho.alloc _).own (Nat.le_refl _) (hb.alloc (by omega) _) hg3 (by simp; omega)⟩
          case measure => simp [intOf]; omega
    · obtain rfl : k = a.length := by omega
      go_wp2_with fail
      go_ret
      exact resI_own ho (Nat.le_refl _) hb
set_option maxHeartbeats 1000000 in
theorem isCont_any (A B : Option Addr) (c d : Nat) (a b : List Int) (w : World) (h : RI w A a) (g : RI w B b) (hl : a.length ≤ b.length) (hn : a.length ≤ 1073741824) :
    Calls Try.prog 77 #[.slice A a.length c, .slice B b.length d] w fun e w' => e = .returned (.bool (isCont a b)) ∧ Below w.heap.size w w' := by
  have HR := Lib.hid (show ((((commonF a b a.length).length : Nat) : Int) == sumI a) = isCont a b from rfl)
  go_enter Try.func77, Try.ntmps77
  go_wp2_with fail
  refine (inCommon_any A B c d a b w h g hl hn).mono ?_
  rintro e w1 ⟨A1, c1, rfl, hc1, hr1, ho1, hb1⟩
  go_wp2_with fail
  refine (sum_any A c a w1 (h.below hb1)).mono ?_
  rintro e w2 ⟨rfl, rfl⟩
  go_wp2_with fail
  go_ret
  exact ⟨retB HR.out, hb1⟩
end Go.Proofs.Ytlpkcjnifbdfdaa
