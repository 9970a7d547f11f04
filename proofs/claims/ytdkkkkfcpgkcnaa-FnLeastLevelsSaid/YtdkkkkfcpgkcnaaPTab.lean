/- Contracts of ContainedIn. -/
import Derived.Test.YtdkkkkfcpgkcnaaFTable
import Derived.Test.YtdkkkkfcpgkcnaaDr
namespace Go.Proofs.Ytdkkkkfcpgkcnaa
set_option linter.unusedVariables false
open Go.RowKit
/-! ### plain words -/
def leAll (a b : List Int) : Bool := (List.range a.length).all fun k => decide (a.getD k 0 ≤ b.getD k 0)
def commonF (a b : List Int) (n : Nat) : List Int := ((List.range n).filter fun (k : Nat) => a.getD k 0 == 1 && b.getD k 0 == 1).map fun (k : Nat) => (k : Int)
def isCont (a b : List Int) : Bool := (((commonF a b a.length).length : Nat) : Int) == sumI a
theorem commonF_succ (a b : List Int) (n : Nat) : commonF a b (n + 1) = commonF a b n ++ if (a.getD n 0 == 1 && b.getD n 0 == 1) = true then [(n : Int)] else [] := by
  unfold commonF
  rw [List.range_succ, List.filter_append, List.map_append]
  cases h : (a.getD n 0 == 1 && b.getD n 0 == 1)
  · simp only [List.filter_cons, h, List.filter_nil]; simp
  · simp only [List.filter_cons, h, List.filter_nil]; simp
theorem commonF_len (a b : List Int) (n : Nat) : (commonF a b n).length ≤ n := by
  unfold commonF; rw [List.length_map]; exact Nat.le_trans (List.length_filter_le _ _) (by simp)
theorem getD_at {xs : List Int} {k : Nat} (h : k < xs.length) : xs.getD k 0 = xs[k] := by simp [List.getD, List.getElem?_eq_getElem h]
/-- the numbers of the rows that p keeps; p sees the number too -/
def selG (p : List Int × Nat → Bool) (t : List (List Int)) : List Int := (t.zipIdx.filter p).map fun x => (x.2 : Int)
theorem selG_succ (p : List Int × Nat → Bool) (t : List (List Int)) (k : Nat) (h : k < t.length) : selG p (t.take (k + 1)) = selG p (t.take k) ++ if p (t[k], k) = true then [(k : Int)] else [] := by
  have hl : (t.take k).length = k := by simp; omega
  unfold selG
  rw [List.take_succ_eq_append_getElem h, List.zipIdx_append, List.filter_append, List.map_append, hl]
  cases hp : p (t[k], k) <;> simp [hp]
theorem selG_len (p : List Int × Nat → Bool) (t : List (List Int)) : (selG p t).length ≤ t.length := by
  unfold selG
  rw [List.length_map]
  exact Nat.le_trans (List.length_filter_le _ _) (by simp)
theorem selG_congr {p q : List Int × Nat → Bool} {t : List (List Int)} (h : ∀ k (hk : k < t.length), p (t[k], k) = q (t[k], k)) : selG p t = selG q t := by
  unfold selG
  congr 1
  apply List.filter_congr
  intro x hx
  obtain ⟨a, i⟩ := x
  have hz := List.mem_zipIdx hx
  simp at hz
  obtain ⟨h1, h2⟩ := hz
  rw [h2]
  exact h i h1
theorem cnt_le : ∀ (n : Nat) (a b : Nat → Int), (∀ k, k < n → (a k = 0 ∨ a k = 1) ∧ (b k = 0 ∨ b k = 1)) →
    (((List.range n).filter fun k => a k == 1 && b k == 1).length : Int) ≤ ((List.range n).map a).sum ∧
    (((((List.range n).filter fun k => a k == 1 && b k == 1).length : Int) = ((List.range n).map a).sum) ↔ ∀ k, k < n → a k ≤ b k)
  | 0, a, b, _ => by simp
  | n + 1, a, b, h => by
    have ih := cnt_le n a b (fun k hk => h k (by omega))
    have hn := h n (by omega)
    rw [List.range_succ, List.filter_append, List.length_append, List.map_append, List.sum_append]
    have e1 : ((List.map a [n]).sum) = a n := by simp
    rw [e1]
    have e2 : ((List.filter (fun k => a k == 1 && b k == 1) [n]).length : Int) = if a n = 1 ∧ b n = 1 then 1 else 0 := by
      by_cases hc : a n = 1 ∧ b n = 1
      · rw [if_pos hc]; simp [hc.1, hc.2]
      · rw [if_neg hc]
        have : (a n == 1 && b n == 1) = false := by
          rw [Bool.eq_false_iff]; intro hh; apply hc; simpa using hh
        simp [this]
    rw [Int.natCast_add, e2]
    refine ⟨by split <;> omega, ?_⟩
    constructor
    · intro he k hk
      have hs : ((List.filter (fun k => a k == 1 && b k == 1) (List.range n)).length : Int) = ((List.range n).map a).sum := by
        have := ih.1; split at he <;> omega
      by_cases hkn : k = n
      · subst hkn; split at he <;> omega
      · exact ih.2.1 hs k (by omega)
    · intro hall
      have h1 := ih.2.2 (fun k hk => hall k (by omega))
      have h2 := hall n (by omega)
      rw [h1]
      split <;> omega
theorem foldl_sum (M : Int) (hM : 0 ≤ M) : ∀ (xs : List Int) (a : Int), 0 ≤ a → a + M * xs.length ≤ 9223372036854775807 → (∀ x ∈ xs, 0 ≤ x ∧ x ≤ M) → xs.foldl (fun a x => wrap64 (a + x)) a = a + xs.sum
  | [], a, _, _, _ => by simp
  | x :: r, a, h0, h1, h2 => by
    have hx := h2 x (by simp)
    have hmul : M * ((x :: r).length : Int) = M * (r.length : Int) + M := by simp [Int.mul_add]
    have hpos : 0 ≤ M * (r.length : Int) := Int.mul_nonneg hM (by omega)
    rw [List.foldl_cons, IntWalk.wrap64_in _ ⟨by omega, by omega⟩, foldl_sum M hM r (a + x) (by omega) (by omega) (fun y hy => h2 y (by simp [hy])), List.sum_cons]
    omega
theorem sumI_eq {M : Int} {xs : List Int} (hM : 0 ≤ M) (h : allW 0 M xs = true) (hl : M * xs.length ≤ 9223372036854775807) : sumI xs = xs.sum := by
  unfold sumI
  rw [foldl_sum M hM xs 0 (by omega) (by omega) (fun x hx => by unfold allW at h; rw [List.all_eq_true] at h; exact inB_iff'.1 (h x hx))]
  omega
theorem map_getD (xs : List Int) : (List.range xs.length).map (fun k => xs.getD k 0) = xs := by
  apply List.ext_getElem
  · simp
  · intro i h1 h2; simp [List.getD, List.getElem?_eq_getElem h2]
theorem isCont_eq {a b : List Int} (ha : allW 0 1 a = true) (hb : allW 0 1 b = true) (hl : a.length = b.length) (hn : a.length ≤ 1000) : isCont a b = leAll a b := by
  have hbit : ∀ k, k < a.length → (a.getD k 0 = 0 ∨ a.getD k 0 = 1) ∧ (b.getD k 0 = 0 ∨ b.getD k 0 = 1) := by
    intro k hk
    rw [getD_at hk, getD_at (by omega : k < b.length)]
    unfold allW at ha hb
    rw [List.all_eq_true] at ha hb
    have h1 := inB_iff'.1 (ha _ (List.getElem_mem hk))
    have h2 := inB_iff'.1 (hb _ (List.getElem_mem (by omega : k < b.length)))
    omega
  have h := (cnt_le a.length (fun k => a.getD k 0) (fun k => b.getD k 0) hbit).2
  rw [map_getD] at h
  rw [Bool.eq_iff_iff]
  simp only [isCont, commonF, List.length_map, beq_iff_eq]
  rw [sumI_eq (by omega) ha (by omega), h]
  simp [leAll]
/-- is the row another one than the key's, and contained in that? -/
def contP (q : List Int → List Int → Bool) (t : List (List Int)) (key : Int) (x : List Int × Nat) : Bool := ((x.2 : Int) != key) && q x.1 (t.getD key.toNat [])
theorem contP_at (q : List Int → List Int → Bool) (t : List (List Int)) {k kn : Nat} (hkn : kn < t.length) (r : List Int) : contP q t (kn : Int) (r, k) = (((k : Int) != (kn : Int)) && q r t[kn]) := by
  simp [contP, List.getD, List.getElem?_eq_getElem hkn]
def contIn (q : List Int → List Int → Bool) (t : List (List Int)) (key : Int) : List Int × Int :=
  if isTable t then (if inB key 0 (t.length - 1) then (selG (contP q t key) t, 0) else ([], 2)) else ([], 1)
/-! ### the walks -/
set_option maxHeartbeats 1000000 in
theorem l11In_any (A B : Option Addr) (c d : Nat) (a b : List Int) (w : World) (h : RI w A a) (g : RI w B b) (hl : a.length ≤ b.length) :
    Calls Try.prog 97 #[.slice A a.length c, .slice B b.length d] w fun e w' => e = .returned (.bool (leAll a b)) ∧ ∃ n, w' = w.drewN n := by
  have hle := h.le
  go_enter Try.func97, Try.ntmps97
  go_wp2_with fail
  go_loopw [5] (fun i wr => ∃ k n : Nat, k ≤ a.length ∧ i = .int .i64 k ∧ wr = w.drewN n ∧ ∀ j, j < k → a.getD j 0 ≤ b.getD j 0) (fun i _ => a.length - (intOf i).toNat)
  case atStart => exact ⟨0, 0, by omega, rfl, rfl, fun j hj => by omega⟩
  case round =>
    obtain ⟨k, n, hk, rfl, rfl, hrel⟩ := hrel
    have Hrel := Lib.hid hrel; clear hrel
    by_cases hlt : k < a.length
    · have hlt2 : k < b.length := by omega
      obtain ⟨p, o, rfl, hc⟩ := h.at_ hlt
      obtain ⟨p', o', rfl, hc'⟩ := g.at_ hlt2
      have i0 : (0 : Int) ≤ (k : Int) := by omega
      have i1 : (k : Int) < (a.length : Int) := by omega
      have i2 : (k : Int) < (b.length : Int) := by omega
      by_cases hp : b[k] < a[k]
      · have HF := Lib.hid (show leAll a b = false by
          unfold leAll
          refine all_false_at _ _ k (by simpa using hlt) ?_
          simp only [List.getElem_range, getD_at hlt, getD_at hlt2]; simp; omega)
        go_wp2_with fail
        go_quiet (fail)
        go_wp2_with fail
        go_ret
        exact ⟨retB HF.out.symm, by first | exact ⟨_, rfl⟩ | exact drewEx⟩
      · go_wp2_with fail
        go_quiet (fail)
        go_wp2_with fail
        go_roundw
        case rel => exact ⟨k + 1, _, by omega, by go_num, by first | rfl | exact World.drewN_drewN _ _ _, fun j hj => by
          by_cases e : j = k
          · subst e; rw [getD_at hlt, getD_at hlt2]; omega
          · exact Hrel.out j (by omega)⟩
        case measure => simp [intOf]; omega
    · obtain rfl : k = a.length := by omega
      have HF := Lib.hid (show leAll a b = true by
        unfold leAll; rw [List.all_eq_true]; intro x hx; simp; exact Hrel.out x (by simpa using hx))
      go_wp2_with fail
      go_ret
      exact ⟨retB HF.out.symm, _, rfl⟩
set_option maxHeartbeats 1000000 in
theorem l11Code_any (A : Option Addr) (c : Nat) (t : List (List Int)) (key : Int) (w : World) (h : RII w A t) :
    Calls Try.prog 100 #[.slice A t.length c, .int .i64 key] w fun e w' => e = .returned (.int .i64 (tableCode t [key])) ∧ ∃ n, w' = w.drewN n := by
  have hle := h.le
  cases h1 : isTable t with
  | false =>
    have HR := Lib.hid (show tableCode t [key] = 1 by simp [tableCode, h1])
    go_enter Try.func100, Try.ntmps100
    go_wp2_with (go_at_call 96; refine (specIsTable_any _ _ _ _ h).mono ?_; rintro e w' ⟨rfl, n, rfl⟩)
    go_ret
    exact ⟨retI HR.out.symm, _, rfl⟩
  | true =>
    cases h2 : inB key 0 (t.length - 1) with
    | false =>
      have HR := Lib.hid (show tableCode t [key] = 2 by simp [tableCode, h1, allW, h2])
      go_enter Try.func100, Try.ntmps100
      go_wp2_with (first | (go_at_call 96; refine (specIsTable_any _ _ _ _ h).mono ?_; rintro e w' ⟨rfl, n, rfl⟩) | (go_at_call 122; refine (l01In_any _ _ _ _).mono ?_; rintro e w' ⟨rfl, rfl⟩))
      go_ret
      exact ⟨retI HR.out.symm, _, rfl⟩
    | true =>
      have HR := Lib.hid (show tableCode t [key] = 0 by simp [tableCode, h1, allW, h2])
      go_enter Try.func100, Try.ntmps100
      go_wp2_with (first | (go_at_call 96; refine (specIsTable_any _ _ _ _ h).mono ?_; rintro e w' ⟨rfl, n, rfl⟩) | (go_at_call 122; refine (l01In_any _ _ _ _).mono ?_; rintro e w' ⟨rfl, rfl⟩))
      go_ret
      exact ⟨retI HR.out.symm, _, rfl⟩
set_option maxHeartbeats 2000000 in
theorem inCommon_any (A B : Option Addr) (c d : Nat) (a b : List Int) (w : World) (h : RI w A a) (g : RI w B b) (hl : a.length ≤ b.length) (hn : a.length ≤ 1073741824) :
    Calls Try.prog 95 #[.slice A a.length c, .slice B b.length d] w (ResI w (commonF a b a.length)) := by
  have HB := Lib.hid (Below.refl w.heap.size w)
  go_enter Try.func95, Try.ntmps95
  go_wp2_with fail
  go_loopw [5, 10] (fun v i wr => ∃ k : Nat, k ≤ a.length ∧ i = .int .i64 k ∧ OV wr w.heap.size 2 v (ints (commonF a b k)) ∧ Below w.heap.size w wr) (fun _ i _ => a.length - (intOf i).toNat)
  case atStart => exact ⟨0, by omega, rfl, OV.new0 (w := w) (Nat.le_refl _), HB.out.alloc (Nat.le_refl _) _⟩
  case round =>
    obtain ⟨k, hk, rfl, ho, hb⟩ := hrel
    have hsz := hb.size
    by_cases hlt : k < a.length
    · have hlt2 : k < b.length := by omega
      obtain ⟨p, o, rfl, hc⟩ := (h.below hb).at_ hlt
      obtain ⟨p', o', rfl, hc'⟩ := (g.below hb).at_ hlt2
      have hs := Lib.hid (commonF_succ a b k)
      have HL := Lib.hid (commonF_len a b k)
      have G1 := Lib.hid (getD_at hlt); have G2 := Lib.hid (getD_at hlt2)
      cases hp : (a[k] == (1 : Int)) with
      | false =>
        go_wp2_with fail
        go_roundw
        case rel => exact ⟨k + 1, by omega, by go_num, by rw [hs.out, G1.out, hp]; simpa using ho, hb⟩
        case measure => simp [intOf]; omega
      | true =>
        cases hp2 : (b[k] == (1 : Int)) with
        | false =>
          go_wp2_with fail
          go_roundw
          case rel => exact ⟨k + 1, by omega, by go_num, by rw [hs.out, G2.out, hp2]; simpa using ho, hb⟩
          case measure => simp [intOf]; omega
        | true =>
          go_wp2_with (at_builtin; refine wpList_app1 _ rfl _ _ _ rfl w.heap.size 2 _ 8 Try.underlying30 info_int rfl (by omega) _ _ rfl (ho.alloc _) _ _ rfl (one_cell _ _ _) rfl (by rw [ints_length]; have := HL.out; omega) (by simp; omega) ?_; intro v' w3 ho3 hg3 hn3 hat3)
          go_roundw
          case rel => exact ⟨k + 1, by omega, by go_num, by rw [hs.out, G1.out, G2.out, hp, hp2, ints_append]; exact ho3, (ho.alloc _).own (Nat.le_refl _) (hb.alloc (by omega) _) hg3 (by simp; omega)⟩
          case measure => simp [intOf]; omega
    · obtain rfl : k = a.length := by omega
      go_wp2_with fail
      go_ret
      exact resI_own ho (Nat.le_refl _) hb
set_option maxHeartbeats 1000000 in
theorem isCont_any (A B : Option Addr) (c d : Nat) (a b : List Int) (w : World) (h : RI w A a) (g : RI w B b) (hl : a.length ≤ b.length) (hn : a.length ≤ 1073741824) :
    Calls Try.prog 94 #[.slice A a.length c, .slice B b.length d] w fun e w' => e = .returned (.bool (isCont a b)) ∧ Below w.heap.size w w' := by
  have HR := Lib.hid (show ((((commonF a b a.length).length : Nat) : Int) == sumI a) = isCont a b from rfl)
  go_enter Try.func94, Try.ntmps94
  go_wp2_with fail
  refine (inCommon_any A B c d a b w h g hl hn).mono ?_
  rintro e w1 ⟨A1, c1, rfl, hc1, hr1, ho1, hb1⟩
  go_wp2_with fail
  refine (sum_any A c a w1 (h.below hb1)).mono ?_
  rintro e w2 ⟨rfl, rfl⟩
  go_wp2_with fail
  go_ret
  exact ⟨retB HR.out, hb1⟩
end Go.Proofs.Ytdkkkkfcpgkcnaa

/- Contracts of ContainedIn. -/
namespace Go.Proofs.Ytdkkkkfcpgkcnaa
set_option linter.unusedVariables false
open Go.RowKit
theorem contIn_eq (t : List (List Int)) (key : Int) : contIn isCont t key = contIn leAll t key := by
  unfold contIn
  split
  · rename_i h1
    split
    · rename_i h2
      have hT := isTable_get h1
      have hk := inB_iff'.1 h2
      congr 1
      refine selG_congr fun k hk2 => ?_
      have hkk : key.toNat < t.length := by omega
      have e : t.getD key.toNat [] = t[key.toNat] := by simp [List.getD, List.getElem?_eq_getElem hkk]
      have g1 := hT.2.2 k hk2
      have g2 := hT.2.2 key.toNat hkk
      simp only [contP, e]
      rw [isCont_eq g1.2.2.2 g2.2.2.2 (by omega) (by omega)]
    · rfl
  · rfl
theorem contIn_1 {q : List Int → List Int → Bool} {t : List (List Int)} {key : Int} (h : tableCode t [key] = 1) : ([], 1) = contIn q t key := by
  unfold tableCode at h; unfold contIn
  split at h
  · split at h <;> omega
  · rename_i h1; rw [if_neg h1]
theorem contIn_2 {q : List Int → List Int → Bool} {t : List (List Int)} {key : Int} (h : tableCode t [key] = 2) : ([], 2) = contIn q t key := by
  unfold tableCode at h; unfold contIn
  split at h
  · rename_i h1
    split at h
    · omega
    · rename_i h2; rw [if_pos h1, if_neg (by simpa [allW] using h2)]
  · omega
theorem contIn_0 {q : List Int → List Int → Bool} {t : List (List Int)} {key : Int} (h : tableCode t [key] = 0) :
    isTable t = true ∧ 0 ≤ key ∧ key < t.length ∧ (selG (contP q t key) t, 0) = contIn q t key := by
  unfold tableCode at h; unfold contIn
  split at h
  · rename_i h1
    split at h
    · rename_i h2
      have h3 : inB key 0 (t.length - 1) = true := by simpa [allW] using h2
      have := inB_iff'.1 h3
      exact ⟨h1, by omega, by omega, by rw [if_pos h1, if_pos h3]⟩
    · omega
  · omega
theorem tableCode_cases (t : List (List Int)) (ks : List Int) : tableCode t ks = 0 ∨ tableCode t ks = 1 ∨ tableCode t ks = 2 := by
  unfold tableCode; split <;> (try split) <;> omega
set_option maxRecDepth 100000 in
set_option maxHeartbeats 2000000 in
theorem specContIn_any (A : Option Addr) (c : Nat) (t : List (List Int)) (key : Int) (w : World) (h : RII w A t) (hw : (Lit.int .i64 key).wf = true) :
    Calls Try.prog 26 #[.slice A t.length c, .int .i64 key] w (ResIC w (contIn leAll t key)) := by
  have HB := Lib.hid (Below.refl w.heap.size w)
  rcases tableCode_cases t [key] with hc | hc | hc
  rotate_left
  · have HR := Lib.hid (contIn_1 (q := leAll) hc)
    go_enter Try.func26, Try.ntmps26
    go_wp2_with (go_at_call 100; refine (l11Code_any _ _ _ _ _ h).mono ?_; rintro e w1 ⟨rfl, n1, rfl⟩)
    go_ret2
    exact resIC_nil HR.out (belowD HB.out _)
  · have HR := Lib.hid (contIn_2 (q := leAll) hc)
    go_enter Try.func26, Try.ntmps26
    go_wp2_with (go_at_call 100; refine (l11Code_any _ _ _ _ _ h).mono ?_; rintro e w1 ⟨rfl, n1, rfl⟩)
    go_ret2
    exact resIC_nil HR.out (belowD HB.out _)
  · obtain ⟨h1, hk0, hk1, hR⟩ := contIn_0 (q := leAll) hc
    have HR := Lib.hid hR; clear hR
    have hT := isTable_get h1
    have hT1 := hT.1; have hT2 := hT.2.1
    have HT := Lib.hid hT.2.2
    obtain ⟨kn, rfl⟩ := Int.eq_ofNat_of_zero_le hk0
    have hkn : kn < t.length := by omega
    clear hT h1
    go_enter Try.func26, Try.ntmps26
    go_wp2_with (go_at_call 100; refine (l11Code_any _ _ _ _ _ h).mono ?_; rintro e w1 ⟨rfl, n1, rfl⟩)
    go_loopw [7, 8] (fun v i wr => ∃ k : Nat, k ≤ t.length ∧ i = .int .i64 k ∧ OV wr w.heap.size 2 v (ints (selG (contP leAll t (kn : Int)) (t.take k))) ∧ Below w.heap.size w wr)
      (fun _ i _ => t.length - (intOf i).toNat)
    case atStart => exact ⟨0, by omega, rfl, OV.new0 (w := w.drewN n1) (Nat.le_refl _), (belowD HB.out n1).alloc (Nat.le_refl _) _⟩
    case round =>
      obtain ⟨k, hk, rfl, ho, hb⟩ := hrel
      have hsz := hb.size
      by_cases hlt : k < t.length
      · obtain ⟨b, o, A1, c1, A2, c2, rfl, hcc1, hl1, hr1, hcc2, hl2, hr2⟩ := (h.below hb).at2 hlt hkn
        have hs := Lib.hid (selG_succ (contP leAll t (kn : Int)) t k hlt)
        have HL := Lib.hid (selG_len (contP leAll t (kn : Int)) (t.take k))
        have e := contP_at leAll t (k := k) hkn t[k]
        have hlen : t[k].length ≤ t[kn].length := by have g1 := HT.out k hlt; have g2 := HT.out kn hkn; omega
        have E := Lib.hid e; clear e
        have i0 : (0 : Int) ≤ (k : Int) := by omega
        have i1 : (k : Int) < (t.length : Int) := by omega
        have i2 : (0 : Int) ≤ (kn : Int) := by omega
        have i3 : (kn : Int) < (t.length : Int) := by omega
        have HO := Lib.hid ho; have HBB := Lib.hid hb
        by_cases hkk : k = kn
        · have hne : ((k : Int) != (kn : Int)) = false := by simp [hkk]
          have Hk := Lib.hid hkk; clear hkk
          go_wp2_with fail
          go_quiet (fail)
          go_wp2_with fail
          go_roundw
          case rel => exact ⟨k + 1, by omega, by go_num, by rw [hs.out, E.out, hne]; simpa using HO.out.drewN _, by first | exact belowD HBB.out _ | exact HBB.out⟩
          case measure => simp [intOf]; omega
        · have hne : ((k : Int) != (kn : Int)) = true := by simp; omega
          have Hk := Lib.hid hkk; clear hkk
          cases hp : leAll t[k] t[kn] with
          | false =>
            go_wp2_with fail
            go_quiet ((go_at_call 97; first | exact quietQA (l11In_any _ _ _ _ _ _ _ (hr1.drewN _) (hr2.drewN _) hlen) | exact quietQ (l11In_any _ _ _ _ _ _ _ (hr1.drewN _) (hr2.drewN _) hlen)))
            go_wp2_with fail
            go_roundw
            case rel => exact ⟨k + 1, by omega, by go_num, by rw [hs.out, E.out, hne, hp]; simpa using HO.out.drewN _, by first | exact belowD HBB.out _ | exact HBB.out⟩
            case measure => simp [intOf]; omega
          | true =>
            go_wp2_with fail
            go_quiet ((go_at_call 97; first | exact quietQA (l11In_any _ _ _ _ _ _ _ (hr1.drewN _) (hr2.drewN _) hlen) | exact quietQ (l11In_any _ _ _ _ _ _ _ (hr1.drewN _) (hr2.drewN _) hlen)))
            go_wp2_with (at_builtin; refine wpList_app1 _ rfl _ _ _ rfl w.heap.size 2 _ 8 Try.underlying30 info_int rfl (by omega) _ _ rfl ((HO.out.drewN _).alloc _) _ _ rfl (one_cell _ _ _) rfl (by rw [ints_length]; have := HL.out; simp at this; omega) (by simp; omega) ?_; intro v' w3 ho3 hg3 hn3 hat3)
            go_roundw
            case rel => exact ⟨k + 1, by omega, by go_num, by rw [hs.out, E.out, hne, hp, ints_append]; exact ho3, ((HO.out.drewN _).alloc _).own (Nat.le_refl _) ((belowD HBB.out _).alloc (by simp; omega) _) hg3 (by simp; omega)⟩
            case measure => simp [intOf]; omega
      · obtain rfl : k = t.length := by omega
        rw [List.take_length] at ho
        go_wp2_with fail
        go_ret2
        exact resIC_own HR.out ho (Nat.le_refl _) hb
set_option maxRecDepth 100000 in
set_option maxHeartbeats 2000000 in
theorem implContIn_any (A : Option Addr) (c : Nat) (t : List (List Int)) (key : Int) (w : World) (h : RII w A t) (hw : (Lit.int .i64 key).wf = true) :
    Calls Try.prog 23 #[.slice A t.length c, .int .i64 key] w (ResIC w (contIn leAll t key)) := by
  rw [← contIn_eq]
  have HB := Lib.hid ((Below.refl w.heap.size w).alloc (Nat.le_refl _) (.cells #[.int .i64 key] 2))
  have hkey : RI (w.alloc (.cells #[.int .i64 key] 2)) (some ⟨w.heap.size, 0, none⟩) [key] := RV.one _ _ _
  have CT := tableCode_any A (some ⟨w.heap.size, 0, none⟩) c 1 t [key] _ (h.alloc (.cells #[.int .i64 key] 2)) hkey
  simp only [List.length_singleton] at CT
  have HCT := Lib.hid CT; clear CT
  rcases tableCode_cases t [key] with hc | hc | hc
  rotate_left
  · have HR := Lib.hid (contIn_1 (q := isCont) hc)
    go_enter Try.func23, Try.ntmps23
    go_wp2_with (go_at_call 93; refine HCT.out.mono ?_; rintro e w1 ⟨rfl, rfl⟩)
    go_ret2
    exact resIC_nil HR.out HB.out
  · have HR := Lib.hid (contIn_2 (q := isCont) hc)
    go_enter Try.func23, Try.ntmps23
    go_wp2_with (go_at_call 93; refine HCT.out.mono ?_; rintro e w1 ⟨rfl, rfl⟩)
    go_ret2
    exact resIC_nil HR.out HB.out
  · obtain ⟨h1, hk0, hk1, hR⟩ := contIn_0 (q := isCont) hc
    have HR := Lib.hid hR; clear hR
    have hT := isTable_get h1
    have hT1 := hT.1; have hT2 := hT.2.1
    have HT := Lib.hid hT.2.2
    obtain ⟨kn, rfl⟩ := Int.eq_ofNat_of_zero_le hk0
    have hkn : kn < t.length := by omega
    clear hT h1
    go_enter Try.func23, Try.ntmps23
    go_wp2_with (go_at_call 93; refine HCT.out.mono ?_; rintro e w1 ⟨rfl, rfl⟩)
    go_loopw [7, 20] (fun v i wr => ∃ k : Nat, k ≤ t.length ∧ i = .int .i64 k ∧ OV wr w.heap.size 2 v (ints (selG (contP isCont t (kn : Int)) (t.take k))) ∧ Below w.heap.size w wr)
      (fun _ i _ => t.length - (intOf i).toNat)
    case atStart => exact ⟨0, by omega, rfl, by simpa [ints, selG] using OV.new0 (e := 2) (B := w.heap.size) (w := w.alloc (.cells #[.int .i64 (kn : Int)] 2)) (by simp), HB.out.alloc (by simp) _⟩
    case round =>
      obtain ⟨k, hk, rfl, ho, hb⟩ := hrel
      have hsz := hb.size
      by_cases hlt : k < t.length
      · obtain ⟨b, o, A1, c1, A2, c2, rfl, hcc1, hl1, hr1, hcc2, hl2, hr2⟩ := (h.below hb).at2 hlt hkn
        have hs := Lib.hid (selG_succ (contP isCont t (kn : Int)) t k hlt)
        have HL := Lib.hid (selG_len (contP isCont t (kn : Int)) (t.take k))
        have e := contP_at isCont t (k := k) hkn t[k]
        have hlen : t[k].length ≤ t[kn].length := by have g1 := HT.out k hlt; have g2 := HT.out kn hkn; omega
        have hlen2 : t[k].length ≤ 1073741824 := by have g1 := HT.out k hlt; omega
        have E := Lib.hid e; clear e
        have i2 : (0 : Int) ≤ (kn : Int) := by omega
        have i3 : (kn : Int) < (t.length : Int) := by omega
        have HO := Lib.hid ho; have HBB := Lib.hid hb
        by_cases hkk : k = kn
        · have hne : ((k : Int) != (kn : Int)) = false := by simp [hkk]
          have Hk := Lib.hid hkk; clear hkk
          go_wp2_with fail
          go_roundw
          case rel => exact ⟨k + 1, by omega, by go_num, by rw [hs.out, E.out, hne]; simpa using HO.out, HBB.out⟩
          case measure => simp [intOf]; omega
        · have hne : ((k : Int) != (kn : Int)) = true := by simp; omega
          have Hk := Lib.hid hkk; clear hkk
          cases hp : isCont t[k] t[kn] with
          | false =>
            go_wp2_with fail
            refine (isCont_any _ _ _ _ _ _ _ hr1 hr2 hlen hlen2).mono ?_
            rintro e w2 ⟨rfl, hb2⟩
            go_wp2_with fail
            go_roundw
            case rel => exact ⟨k + 1, by omega, by go_num, by rw [hs.out, E.out, hne, hp]; simpa using HO.out.below' hb2, HBB.out.trans (hb2.mono HBB.out.size)⟩
            case measure => simp [intOf]; omega
          | true =>
            go_wp2_with fail
            refine (isCont_any _ _ _ _ _ _ _ hr1 hr2 hlen hlen2).mono ?_
            rintro e w2 ⟨rfl, hb2⟩
            have HO2 := Lib.hid (HO.out.below' hb2)
            have HB2 := Lib.hid (HBB.out.trans (hb2.mono HBB.out.size))
            have hs2 := HB2.out.size
            go_wp2_with (at_builtin; refine wpList_app1 _ rfl _ _ _ rfl w.heap.size 2 _ 8 Try.underlying30 info_int rfl (by omega) _ _ rfl (HO2.out.alloc _) _ _ rfl (one_cell _ _ _) rfl (by rw [ints_length]; have := HL.out; simp at this; omega) (by simp; omega) ?_; intro v' w3 ho3 hg3 hn3 hat3)
            go_roundw
            case rel => exact ⟨k + 1, by omega, by go_num, by rw [hs.out, E.out, hne, hp, ints_append]; exact ho3, (HO2.out.alloc _).own (Nat.le_refl _) (HB2.out.alloc (by omega) _) hg3 (by simp; omega)⟩
            case measure => simp [intOf]; omega
      · obtain rfl : k = t.length := by omega
        rw [List.take_length] at ho
        go_wp2_with fail
        go_ret2
        exact resIC_own HR.out ho (Nat.le_refl _) hb
end Go.Proofs.Ytdkkkkfcpgkcnaa

/- Plain words: hierarchical tables, common doors, counts of doors, turned tables; the laws of FnHierarchies and FnTables. -/
namespace Go.Proofs.Ytdkkkkfcpgkcnaa
set_option linter.unusedVariables false
def hierPair (a b : List Int) : Bool := leAll a b || leAll b a || decide ((commonF a b a.length).length = 0)
def hierF (t : List (List Int)) : Bool := (List.range t.length).all fun i => (List.range i).all fun k => hierPair (t.getD i []) (t.getD k [])
def hierR (t : List (List Int)) : Bool × Int := if isTable t = true then (hierF t, 0) else (false, 1)
def codeR (t : List (List Int)) (ks : List Int) : Int := tableCode t ks
def commonAt (t : List (List Int)) (a b : Int) : List Int := commonF (t.getD a.toNat []) (t.getD b.toNat []) (t.getD a.toNat []).length
def commonR (t : List (List Int)) (a b : Int) : List Int × Int := if tableCode t [a, b] = 0 then (commonAt t a b, 0) else ([], tableCode t [a, b])
def doorsR (t : List (List Int)) (key : Int) : Int × Int := if tableCode t [key] = 0 then (sumI (t.getD key.toNat []), 0) else (0, tableCode t [key])
def turnF (t : List (List Int)) : List (List Int) := (List.range (t.headD []).length).map fun k => t.map fun r => r.getD k 0
def turnR (t : List (List Int)) : List (List Int) × Int := if isTable t = true then (turnF t, 0) else ([], 1)
theorem tableCode_0 {t : List (List Int)} {ks : List Int} : tableCode t ks = 0 ↔ isTable t = true ∧ ∀ k ∈ ks, 0 ≤ k ∧ k < t.length := by
  unfold tableCode
  by_cases h : isTable t = true
  · rw [if_pos h]
    by_cases h2 : allW 0 (t.length - 1) ks = true
    · rw [if_pos h2]
      simp only [h, true_and, true_iff]
      intro k hk
      unfold allW at h2; rw [List.all_eq_true] at h2
      have := inB_iff'.1 (h2 k hk); omega
    · rw [if_neg h2]
      simp only [h, true_and]
      constructor
      · intro h3; omega
      · intro h3; exfalso; apply h2
        unfold allW; rw [List.all_eq_true]
        intro k hk; have := h3 k hk; exact inB_iff'.2 (by omega)
  · rw [if_neg h]; simp [h]
theorem tab_getD {t : List (List Int)} {k : Nat} (h : k < t.length) : t.getD k [] = t[k] := by simp [List.getD, List.getElem?_eq_getElem h]
theorem table_row {t : List (List Int)} (h : isTable t = true) {k : Nat} (hk : k < t.length) : (t.getD k []).length = (t.headD []).length ∧ allW 0 1 (t.getD k []) = true ∧ (t.getD k []).length ≤ 12 ∧ 1 ≤ (t.getD k []).length := by
  have := (isTable_get h).2.2 k hk
  rw [tab_getD hk]
  exact ⟨this.1, this.2.2.2, this.2.2.1, this.2.1⟩
theorem commonF_comm (a b : List Int) (n : Nat) : commonF a b n = commonF b a n := by
  unfold commonF
  congr 2
  funext k
  exact Bool.and_comm _ _
theorem tableCode_swap (t : List (List Int)) (a b : Int) : tableCode t [a, b] = tableCode t [b, a] := by
  unfold tableCode
  by_cases h : isTable t = true
  · rw [if_pos h, if_pos h]
    have : allW 0 (t.length - 1) [a, b] = allW 0 (t.length - 1) [b, a] := by simp [allW, Bool.and_comm]
    rw [this]
  · rw [if_neg h, if_neg h]
/-- common doors: the other way round the same -/
theorem commonR_comm {t : List (List Int)} {a b : Int} (h : (commonR t a b).2 = 0) : commonR t b a = commonR t a b := by
  unfold commonR at *
  by_cases hc : tableCode t [a, b] = 0
  · rw [if_pos hc, if_pos (by rw [tableCode_swap]; exact hc)]
    obtain ⟨h1, h2⟩ := tableCode_0.1 hc
    have ha := h2 a (by simp); have hb := h2 b (by simp)
    have r1 := table_row h1 (k := a.toNat) (by omega)
    have r2 := table_row h1 (k := b.toNat) (by omega)
    simp only [commonAt]
    rw [commonF_comm, r1.1, r2.1]
  · rw [if_neg hc] at h; exact absurd h hc
theorem selG_mem {p : List Int × Nat → Bool} {t : List (List Int)} {x : Int} : x ∈ selG p t ↔ ∃ k : Nat, x = k ∧ k < t.length ∧ p (t.getD k [], k) = true := by
  unfold selG
  simp only [List.mem_map, List.mem_filter, Prod.exists]
  constructor
  · rintro ⟨r, k, ⟨hm, hp⟩, rfl⟩
    have hz := List.mem_zipIdx hm
    simp at hz
    refine ⟨k, rfl, hz.1, ?_⟩
    rw [tab_getD hz.1, ← hz.2]; exact hp
  · rintro ⟨k, rfl, hk, hp⟩
    refine ⟨t.getD k [], k, ⟨?_, hp⟩, rfl⟩
    rw [tab_getD hk]
    rw [List.mk_mem_zipIdx_iff_getElem?]
    exact List.getElem?_eq_getElem hk
theorem contIn_mem {t : List (List Int)} {key : Int} (h : (contIn leAll t key).2 = 0) {k : Nat} (hk : k < t.length) (hne : (k : Int) ≠ key) (hl : leAll (t.getD k []) (t.getD key.toNat []) = true) : hasI (contIn leAll t key).1 (k : Int) = true := by
  unfold contIn at *
  split at h
  · rename_i h1
    rw [if_pos h1]
    split at h
    · rename_i h2
      rw [if_pos h2]
      simp only [hasI, List.contains_iff_mem]
      refine selG_mem.2 ⟨k, rfl, hk, ?_⟩
      simp only [contP, hl, Bool.and_true]
      simpa using hne
    · simp at h
  · simp at h
theorem contIn_ok {t : List (List Int)} {key : Int} (h1 : isTable t = true) (h0 : 0 ≤ key) (h2 : key < t.length) : (contIn leAll t key).2 = 0 := by
  unfold contIn
  rw [if_pos h1, if_pos (inB_iff'.2 (by omega))]
theorem commonR_ok {t : List (List Int)} {a b : Int} (h1 : isTable t = true) (h0 : 0 ≤ a) (h2 : a < t.length) (h3 : 0 ≤ b) (h4 : b < t.length) : commonR t a b = (commonAt t a b, 0) := by
  unfold commonR
  rw [if_pos (tableCode_0.2 ⟨h1, fun k hk => by simp at hk; rcases hk with rfl | rfl <;> omega⟩)]
/-- the law of hierarchies: what hierR calls hierarchical is so -/
theorem hier_law {t : List (List Int)} (h : hierR t = (true, 0)) {i k : Nat} (hi : i < t.length) (hk : k < i) :
    (contIn leAll t (i : Int)).2 = 0 ∧ (contIn leAll t (k : Int)).2 = 0 ∧ (commonR t (i : Int) (k : Int)).2 = 0 ∧
    (0 < (commonR t (i : Int) (k : Int)).1.length → hasI (contIn leAll t (i : Int)).1 (k : Int) = false → hasI (contIn leAll t (k : Int)).1 (i : Int) = true) := by
  unfold hierR at h
  split at h
  · rename_i h1
    simp only [Prod.mk.injEq, and_true] at h
    have oki := contIn_ok (key := (i : Int)) h1 (by omega) (by omega)
    have okk := contIn_ok (key := (k : Int)) h1 (by omega) (by omega)
    have okc := commonR_ok (a := (i : Int)) (b := (k : Int)) h1 (by omega) (by omega) (by omega) (by omega)
    refine ⟨oki, okk, by rw [okc], fun hl hn => ?_⟩
    have hp : hierPair (t.getD i []) (t.getD k []) = true := by
      unfold hierF at h
      rw [List.all_eq_true] at h
      have := h i (by simp; exact hi)
      rw [List.all_eq_true] at this
      exact this k (by simp; exact hk)
    rw [okc] at hl
    simp only [commonAt, Int.toNat_natCast] at hl
    simp only [hierPair, Bool.or_eq_true, decide_eq_true_eq] at hp
    rcases hp with (hp | hp) | hp
    · exact contIn_mem okk hi (by omega) (by simpa using hp)
    · have := contIn_mem oki (k := k) (by omega) (by omega) (by simpa using hp)
      rw [this] at hn; cases hn
    · omega
  · simp at h
theorem turnF_len (t : List (List Int)) : (turnF t).length = (t.headD []).length := by simp [turnF]
theorem turnF_get {t : List (List Int)} {k : Nat} (hk : k < (t.headD []).length) : (turnF t).getD k [] = t.map fun r => r.getD k 0 := by
  unfold turnF
  rw [tab_getD (by simp only [List.length_map, List.length_range]; exact hk)]
  simp
/-- a table turned twice -/
theorem turn_twice {x : List (List Int)} (h : (turnR x).2 = 0) (hu : isTable (turnR x).1 = true) : turnR (turnR x).1 = (x, 0) := by
  unfold turnR at *
  split at h
  · rename_i h1
    rw [if_pos h1] at hu ⊢
    rw [if_pos hu]
    simp only [Prod.mk.injEq, and_true]
    have hx := isTable_get h1
    have hc : 1 ≤ (x.headD []).length := by have := table_row h1 (k := 0) (by omega); rw [← this.1]; exact this.2.2.2
    have hh : ((turnF x).headD []).length = x.length := by
      have : (turnF x).headD [] = (turnF x).getD 0 [] := by cases turnF x <;> rfl
      rw [this, turnF_get (by omega)]; simp
    refine List.ext_getElem (by rw [turnF_len, hh]) fun i h2 h3 => ?_
    have e : (turnF (turnF x))[i] = (turnF (turnF x)).getD i [] := (tab_getD h2).symm
    rw [e, turnF_get (by rw [hh]; exact h3)]
    have hr := table_row h1 h3
    rw [tab_getD h3] at hr
    refine List.ext_getElem (by rw [List.length_map, turnF_len, hr.1]) fun j h4 h5 => ?_
    rw [List.getElem_map]
    have e2 : (turnF x)[j]'(by simpa using h4) = (turnF x).getD j [] := (tab_getD _).symm
    rw [e2, turnF_get (by rw [← hr.1]; exact h5)]
    simp [List.getD, List.getElem?_eq_getElem h3, List.getElem?_eq_getElem h5]
  · simp at h
/-- the law of contained rows: contained rows open no more doors, and all of them in common -/
theorem cont_law {t : List (List Int)} {key : Int} (h : (contIn leAll t key).2 = 0) {x : Int} (hx : x ∈ (contIn leAll t key).1) :
    (doorsR t x).2 = 0 ∧ (doorsR t key).2 = 0 ∧ (commonR t x key).2 = 0 ∧ (doorsR t x).1 ≤ (doorsR t key).1 ∧ (((commonR t x key).1.length : Nat) : Int) = (doorsR t x).1 := by
  unfold contIn at h hx
  split at h
  · rename_i h1
    rw [if_pos h1] at hx
    split at h
    · rename_i h2
      rw [if_pos h2] at hx
      have hk := inB_iff'.1 h2
      obtain ⟨k, rfl, hkl, hp⟩ := selG_mem.1 hx
      simp only [contP, Bool.and_eq_true] at hp
      have hle := hp.2
      have c1 : tableCode t [(k : Int)] = 0 := tableCode_0.2 ⟨h1, fun z hz => by simp at hz; subst hz; omega⟩
      have c2 : tableCode t [key] = 0 := tableCode_0.2 ⟨h1, fun z hz => by simp at hz; subst hz; omega⟩
      have rk := table_row h1 hkl
      have rK := table_row h1 (k := key.toNat) (by omega)
      rw [commonR_ok h1 (by omega) (by omega) (by omega) (by omega)]
      unfold doorsR
      rw [if_pos c1, if_pos c2]
      simp only [Int.toNat_natCast, commonAt, true_and]
      have ic := isCont_eq (a := t.getD k []) (b := t.getD key.toNat []) rk.2.1 rK.2.1 (by rw [rk.1, rK.1]) (by omega)
      rw [hle] at ic
      simp only [isCont, beq_iff_eq] at ic
      refine ⟨?_, ic⟩
      rw [← ic]
      have c4 := cnt_le (t.getD k []).length (fun j => (t.getD key.toNat []).getD j 0) (fun j => (t.getD k []).getD j 0)
      have bits : ∀ (r : List Int), allW 0 1 r = true → ∀ j, j < r.length → r.getD j 0 = 0 ∨ r.getD j 0 = 1 := by
        intro r hr j hj
        unfold allW at hr; rw [List.all_eq_true] at hr
        have := inB_iff'.1 (hr (r.getD j 0) (by rw [getD_at hj]; exact List.getElem_mem hj))
        omega
      have d4 := (c4 fun j hj => ⟨bits _ rK.2.1 j (by rw [rK.1, ← rk.1]; exact hj), bits _ rk.2.1 j hj⟩).1
      have hll : (t.getD k []).length = (t.getD key.toNat []).length := by rw [rk.1, rK.1]
      rw [sumI_eq (M := 1) (by omega) rK.2.1 (by omega)]
      rw [commonF_comm]
      have e1 : (t.getD key.toNat []).sum = ((List.range (t.getD k []).length).map fun j => (t.getD key.toNat []).getD j 0).sum := by rw [hll, map_getD]
      rw [e1]
      unfold commonF
      rw [List.length_map]
      exact d4
    · simp at h
  · simp at h
end Go.Proofs.Ytdkkkkfcpgkcnaa

/- Contracts of IsHierarchical, DoorsInCommon, CountDoors, TurnTable. -/
namespace Go.Proofs.Ytdkkkkfcpgkcnaa
set_option linter.unusedVariables false
open Go.RowKit
set_option maxRecDepth 100000 in
set_option maxHeartbeats 2000000 in
theorem l11Common_any (A B : Option Addr) (c d : Nat) (a b : List Int) (w : World) (h : RI w A a) (g : RI w B b) (hl : a.length ≤ b.length) (hn : a.length ≤ 1073741824) :
    Calls Try.prog 98 #[.slice A a.length c, .slice B b.length d] w (ResI w (commonF a b a.length)) := by
  have HB := Lib.hid (Below.refl w.heap.size w)
  go_enter Try.func98, Try.ntmps98
  go_wp2_with fail
  go_loopw [5, 6] (fun v i wr => ∃ k : Nat, k ≤ a.length ∧ i = .int .i64 k ∧ OV wr w.heap.size 2 v (ints (commonF a b k)) ∧ Below w.heap.size w wr) (fun _ i _ => a.length - (intOf i).toNat)
  case atStart => exact ⟨0, by omega, rfl, OV.new0 (w := w) (Nat.le_refl _), HB.out.alloc (Nat.le_refl _) _⟩
  case round =>
    obtain ⟨k, hk, rfl, ho, hb⟩ := hrel
    have hsz := hb.size
    by_cases hlt : k < a.length
    · have hlt2 : k < b.length := by omega
      obtain ⟨p, o, rfl, hc⟩ := (h.below hb).at_ hlt
      obtain ⟨p', o', rfl, hc'⟩ := (g.below hb).at_ hlt2
      have i0 : (0 : Int) ≤ (k : Int) := by omega
      have i1 : (k : Int) < (a.length : Int) := by omega
      have i2 : (k : Int) < (b.length : Int) := by omega
      have hs := Lib.hid (commonF_succ a b k)
      have HL := Lib.hid (commonF_len a b k)
      have G1 := Lib.hid (getD_at hlt); have G2 := Lib.hid (getD_at hlt2)
      cases hp : (a[k] == (1 : Int)) with
      | false =>
        go_wp2_with fail
        go_roundw
        case rel => exact ⟨k + 1, by omega, by go_num, by rw [hs.out, G1.out, hp]; simpa using ho, hb⟩
        case measure => simp [intOf]; omega
      | true =>
        cases hp2 : (b[k] == (1 : Int)) with
        | false =>
          go_wp2_with fail
          go_roundw
          case rel => exact ⟨k + 1, by omega, by go_num, by rw [hs.out, G2.out, hp2]; simpa using ho, hb⟩
          case measure => simp [intOf]; omega
        | true =>
          go_wp2_with (at_builtin; refine wpList_app1 _ rfl _ _ _ rfl w.heap.size 2 _ 8 Try.underlying30 info_int rfl (by omega) _ _ rfl (ho.alloc _) _ _ rfl (one_cell _ _ _) rfl (by rw [ints_length]; have := HL.out; omega) (by simp; omega) ?_; intro v' w3 ho3 hg3 hn3 hat3)
          go_roundw
          case rel => exact ⟨k + 1, by omega, by go_num, by rw [hs.out, G1.out, G2.out, hp, hp2, ints_append]; exact ho3, (ho.alloc _).own (Nat.le_refl _) (hb.alloc (by omega) _) hg3 (by simp; omega)⟩
          case measure => simp [intOf]; omega
    · obtain rfl : k = a.length := by omega
      go_wp2_with fail
      go_ret
      exact resI_own ho (Nat.le_refl _) hb
theorem tableCode_ne {t : List (List Int)} {ks : List Int} (h : ¬ tableCode t ks = 0) : (tableCode t ks != 0) = true := by simpa using h
theorem doorsR_no {t : List (List Int)} {key : Int} (h : ¬ tableCode t [key] = 0) : doorsR t key = (0, tableCode t [key]) := by unfold doorsR; rw [if_neg h]
theorem doorsR_yes {t : List (List Int)} {k : Nat} (hk : k < t.length) (h : tableCode t [(k : Int)] = 0) : doorsR t (k : Int) = (sumI t[k], 0) := by
  unfold doorsR; rw [if_pos h]; simp only [Int.toNat_natCast]; rw [tab_getD hk]
theorem commonR_no {t : List (List Int)} {a b : Int} (h : ¬ tableCode t [a, b] = 0) : commonR t a b = ([], tableCode t [a, b]) := by unfold commonR; rw [if_neg h]
theorem commonR_yes {t : List (List Int)} {a b : Nat} (ha : a < t.length) (hb : b < t.length) (h : tableCode t [(a : Int), (b : Int)] = 0) : commonR t (a : Int) (b : Int) = (commonF t[a] t[b] t[a].length, 0) := by
  unfold commonR commonAt; rw [if_pos h]; simp only [Int.toNat_natCast]; rw [tab_getD ha, tab_getD hb]
theorem resIC_yes {w w' : World} {r : List Int × Int} {xs : List Int} {A : Option Addr} {c : Nat} (h : r = (xs, 0)) (hc : xs.length ≤ c) (hr : RI w' A xs) (ho : OI w' w.heap.size w'.heap.size (.slice A xs.length c) xs) (hb : Below w.heap.size w w') :
    ResIC w r (.returned (.tuple #[.slice A xs.length c, .int .i64 0])) w' := by
  subst h; exact ⟨A, c, rfl, hc, hr, ho, hb⟩
set_option maxRecDepth 100000 in
set_option maxHeartbeats 2000000 in
theorem specDoors_any (A : Option Addr) (c : Nat) (t : List (List Int)) (key : Int) (w : World) (h : RII w A t) (hw : (Lit.int .i64 key).wf = true) :
    Calls Try.prog 21 #[.slice A t.length c, .int .i64 key] w (ResNC w (doorsR t key)) := by
  have HB := Lib.hid (Below.refl w.heap.size w)
  have hle := h.le
  have HE := Lib.hid (l11Code_any A c t key w h)
  by_cases hc : tableCode t [key] = 0
  · obtain ⟨h1, hk⟩ := tableCode_0.1 hc
    have hk' := hk key (by simp)
    obtain ⟨kn, rfl⟩ := Int.eq_ofNat_of_zero_le hk'.1
    have hkn : kn < t.length := by omega
    have HR := Lib.hid (doorsR_yes hkn hc)
    rw [hc] at HE
    clear hc hk hk' h1
    go_enter Try.func21, Try.ntmps21
    go_wp2_with fail
    refine HE.out.mono ?_
    rintro e w1 ⟨rfl, n1, rfl⟩
    obtain ⟨b, o, A', c', rfl, hcell, hl, hr⟩ := (h.drewN n1).at_ hkn
    have i0 : (0 : Int) ≤ (kn : Int) := by omega
    have i1 : (kn : Int) < (t.length : Int) := by omega
    have ES := Lib.hid (l01Sum_any A' c' t[kn] (w.drewN n1) hr)
    go_wp2_with fail
    refine ES.out.mono ?_
    rintro e w2 ⟨rfl, rfl⟩
    go_wp2_with fail
    go_ret2
    rw [HR.out]
    exact ⟨rfl, belowD HB.out _⟩
  · have HR := Lib.hid (doorsR_no hc)
    have hne := tableCode_ne hc
    obtain ⟨k, hk⟩ : ∃ k, k = tableCode t [key] := ⟨_, rfl⟩
    rw [← hk] at HE HR hne
    clear hc hk
    go_enter Try.func21, Try.ntmps21
    go_wp2_with fail
    refine HE.out.mono ?_
    rintro e w1 ⟨rfl, n1, rfl⟩
    go_wp2_with fail
    go_ret2
    rw [HR.out]
    exact ⟨rfl, belowD HB.out _⟩
set_option maxRecDepth 100000 in
set_option maxHeartbeats 2000000 in
theorem implDoors_any (A : Option Addr) (c : Nat) (t : List (List Int)) (key : Int) (w : World) (h : RII w A t) (hw : (Lit.int .i64 key).wf = true) :
    Calls Try.prog 20 #[.slice A t.length c, .int .i64 key] w (ResNC w (doorsR t key)) := by
  have B1 := (Below.refl w.heap.size w).alloc (Nat.le_refl _) (.cells #[.int .i64 key] 2)
  have hle := h.le
  have HE := Lib.hid (tableCode_any A (some ⟨w.heap.size, 0, none⟩) c 1 t [key] (w.alloc (.cells #[.int .i64 key] 2)) (h.below B1) (show RI (w.alloc (.cells #[.int .i64 key] 2)) (some ⟨w.heap.size, 0, none⟩) [key] from RV.one _ _ _))
  by_cases hc : tableCode t [key] = 0
  · obtain ⟨h1, hk⟩ := tableCode_0.1 hc
    have hk' := hk key (by simp)
    obtain ⟨kn, rfl⟩ := Int.eq_ofNat_of_zero_le hk'.1
    have hkn : kn < t.length := by omega
    have HR := Lib.hid (doorsR_yes hkn hc)
    rw [hc] at HE
    clear hc hk hk' h1
    obtain ⟨b, o, A', c', rfl, hcell, hl, hr⟩ := (h.below B1).at_ hkn
    have i0 : (0 : Int) ≤ (kn : Int) := by omega
    have i1 : (kn : Int) < (t.length : Int) := by omega
    have ES := Lib.hid (sum_any A' c' t[kn] _ hr)
    go_enter Try.func20, Try.ntmps20
    go_wp2_with fail
    refine HE.out.mono ?_
    rintro e w1 ⟨rfl, rfl⟩
    go_wp2_with fail
    refine ES.out.mono ?_
    rintro e w2 ⟨rfl, rfl⟩
    go_wp2_with fail
    go_ret2
    rw [HR.out]
    exact ⟨rfl, B1⟩
  · have HR := Lib.hid (doorsR_no hc)
    have hne := tableCode_ne hc
    obtain ⟨k, hk⟩ : ∃ k, k = tableCode t [key] := ⟨_, rfl⟩
    rw [← hk] at HE HR hne
    clear hc hk
    go_enter Try.func20, Try.ntmps20
    go_wp2_with fail
    refine HE.out.mono ?_
    rintro e w1 ⟨rfl, rfl⟩
    go_wp2_with fail
    go_ret2
    rw [HR.out]
    exact ⟨rfl, B1⟩
set_option maxRecDepth 100000 in
set_option maxHeartbeats 2000000 in
theorem specCommon_any (A : Option Addr) (c : Nat) (t : List (List Int)) (a b : Int) (w : World) (h : RII w A t) (hwa : (Lit.int .i64 a).wf = true) (hwb : (Lit.int .i64 b).wf = true) :
    Calls Try.prog 18 #[.slice A t.length c, .int .i64 a, .int .i64 b] w (ResIC w (commonR t a b)) := by
  have HB := Lib.hid (Below.refl w.heap.size w)
  have hle := h.le
  have HE := Lib.hid (l11Code_any A c t a w h)
  by_cases ha : tableCode t [a] = 0
  · rw [ha] at HE
    by_cases hb : tableCode t [b] = 0
    · obtain ⟨h1, hka⟩ := tableCode_0.1 ha
      obtain ⟨_, hkb⟩ := tableCode_0.1 hb
      have hka' := hka a (by simp)
      have hkb' := hkb b (by simp)
      obtain ⟨an, rfl⟩ := Int.eq_ofNat_of_zero_le hka'.1
      obtain ⟨bn, rfl⟩ := Int.eq_ofNat_of_zero_le hkb'.1
      have han : an < t.length := by omega
      have hbn : bn < t.length := by omega
      have HR := Lib.hid (commonR_yes han hbn (tableCode_0.2 ⟨h1, fun k hk => by simp at hk; rcases hk with rfl | rfl <;> omega⟩))
      have hT := isTable_get h1
      have hlen : t[an].length ≤ t[bn].length := by rw [(hT.2.2 an han).1, (hT.2.2 bn hbn).1]; exact Nat.le_refl _
      have hlen2 : t[an].length ≤ 12 := (hT.2.2 an han).2.2.1
      have HE2 := Lib.hid (fun n => l11Code_any A c t (bn : Int) (w.drewN n) (h.drewN n))
      rw [hb] at HE2
      clear ha hb hka hka' hkb hkb' h1 hT
      have i0 : (0 : Int) ≤ (an : Int) := by omega
      have i1 : (an : Int) < (t.length : Int) := by omega
      have i2 : (0 : Int) ≤ (bn : Int) := by omega
      have i3 : (bn : Int) < (t.length : Int) := by omega
      obtain ⟨b', o', A1, c1, A2, c2, rfl, hc1, hcc1, hr1, hc2, hcc2, hr2⟩ := h.at2 han hbn
      have hbk := World.block_lt_of_cell? w _ hc1
      simp only at hbk
      have KS := Lib.hid (show ∀ W : World, Below w.heap.size w W → (W.cell? ⟨b', o' + an, none⟩ = some (.slice A1 t[an].length c1) ∧ W.cell? ⟨b', o' + bn, none⟩ = some (.slice A2 t[bn].length c2)) from fun W hW => ⟨cell_in hW hbk hc1, cell_in hW hbk hc2⟩)
      have HL := Lib.hid (And.intro hlen hlen2); clear hlen hlen2
      clear hc1 hc2
      go_enter Try.func18, Try.ntmps18
      go_wp2_with fail
      refine HE.out.mono ?_
      rintro e w1 ⟨rfl, n1, rfl⟩
      go_wp2_with fail
      refine (HE2.out n1).mono ?_
      rintro e w1 ⟨rfl, n2, rfl⟩
      rw [World.drewN_drewN]
      obtain ⟨w1, hw1⟩ : ∃ w1, w1 = w.drewN (n1 + n2) := ⟨_, rfl⟩
      have hb1 : Below w.heap.size w w1 := by rw [hw1]; exact belowD HB.out _
      have hs1 : w1.heap.size = w.heap.size := by rw [hw1]; rfl
      rw [← hw1]
      clear hw1
      obtain ⟨k1, k2⟩ := KS.out w1 hb1
      have E5 := Lib.hid (fun W (hW : Below w1.heap.size w1 W) => l11Common_any A1 A2 c1 c2 t[an] t[bn] W (hr1.below (hb1.trans (hW.mono (by omega)))) (hr2.below (hb1.trans (hW.mono (by omega)))) HL.out.1 (by have := HL.out.2; omega))
      have KT := Lib.hid (fun W (hW : Below w1.heap.size w1 W) => KS.out W (hb1.trans (hW.mono (by omega))))
      clear hs1
      go_wp2_with fail
      go_region_held3 (fun w' => w'.cell? ⟨b', o' + an, none⟩ = some (.slice A1 t[an].length c1) ∧ w'.cell? ⟨b', o' + bn, none⟩ = some (.slice A2 t[bn].length c2)) (first | (refine KT.out _ ?_; first | assumption | exact belowDrew0 _))
        (first | (go_at_call 98; refine (E5.out _ (belowDrew0 _)).mono ?_; rintro e w2 ⟨A3, c3, rfl, hc3, hr3, ho3, b2⟩; have ho3 := ho3.wide (B' := w1.heap.size) (by simp) (Nat.le_refl _); have b2 := belowDrew b2))
      go_wp2_with fail
      go_ret2
      exact resIC_yes HR.out hc3 hr3 (ho3.wide (by have := hb1.size; omega) (Nat.le_refl _)) (hb1.trans (b2.mono hb1.size))
    · have HR := Lib.hid (show commonR t a b = ([], tableCode t [b]) by
        obtain ⟨h1, hka⟩ := tableCode_0.1 ha
        have hn : ¬ tableCode t [a, b] = 0 := fun h => hb (tableCode_0.2 ⟨h1, fun k hk => (tableCode_0.1 h).2 k (by simp at hk; simp [hk])⟩)
        rw [commonR_no hn]
        have hka' := hka a (by simp)
        have : tableCode t [a, b] = tableCode t [b] := by
          have hia : inB a 0 (t.length - 1) = true := inB_iff'.2 (by omega)
          unfold tableCode; simp [allW, hia]
        rw [this])
      have hne := tableCode_ne hb
      have HE2 := Lib.hid (fun n => l11Code_any A c t b (w.drewN n) (h.drewN n))
      obtain ⟨k, hk⟩ : ∃ k, k = tableCode t [b] := ⟨_, rfl⟩
      rw [← hk] at HE2 HR hne
      clear ha hb hk
      go_enter Try.func18, Try.ntmps18
      go_wp2_with fail
      refine HE.out.mono ?_
      rintro e w1 ⟨rfl, n1, rfl⟩
      go_wp2_with fail
      refine (HE2.out n1).mono ?_
      rintro e w1 ⟨rfl, n2, rfl⟩
      go_wp2_with fail
      go_ret2
      exact resIC_nil HR.out.symm (belowD HB.out _)
  · have HR := Lib.hid (show commonR t a b = ([], tableCode t [a]) by
      have hn : ¬ tableCode t [a, b] = 0 := fun h => ha (tableCode_0.2 ⟨(tableCode_0.1 h).1, fun k hk => (tableCode_0.1 h).2 k (by simp at hk; simp [hk])⟩)
      rw [commonR_no hn]
      have : tableCode t [a, b] = tableCode t [a] := by
        unfold tableCode at ha ⊢
        by_cases h1 : isTable t = true
        · rw [if_pos h1] at ha ⊢
          rw [if_pos h1]
          by_cases h2 : allW 0 (t.length - 1) [a] = true
          · rw [if_pos h2] at ha; omega
          · rw [if_neg h2, if_neg (fun h3 => h2 (by simp [allW] at h3 ⊢; exact h3.1))]
        · rw [if_neg h1, if_neg h1]
      rw [this])
    have hne := tableCode_ne ha
    have hnz : (tableCode t [a] == 0) = false := by simpa using ha
    obtain ⟨k, hk⟩ : ∃ k, k = tableCode t [a] := ⟨_, rfl⟩
    rw [← hk] at HE HR hne hnz
    clear ha hk
    go_enter Try.func18, Try.ntmps18
    go_wp2_with fail
    refine HE.out.mono ?_
    rintro e w1 ⟨rfl, n1, rfl⟩
    go_wp2_with fail
    go_ret2
    exact resIC_nil HR.out.symm (belowD HB.out _)
theorem ri_two (w : World) (a b : Int) : RI (w.alloc (.cells #[.int .i64 a, .int .i64 b] 2)) (some ⟨w.heap.size, 0, none⟩) [a, b] := by
  refine ⟨by simp [ints], fun _ => ⟨w.heap.size, 0, rfl, fun j u hu => ?_⟩⟩
  match j, hu with
  | 0, hu => simp [ints] at hu; subst hu; simp
  | 1, hu => simp [ints] at hu; subst hu; simp
  | j + 2, hu => simp [ints] at hu
set_option maxRecDepth 100000 in
set_option maxHeartbeats 2000000 in
theorem implCommon_any (A : Option Addr) (c : Nat) (t : List (List Int)) (a b : Int) (w : World) (h : RII w A t) (hwa : (Lit.int .i64 a).wf = true) (hwb : (Lit.int .i64 b).wf = true) :
    Calls Try.prog 17 #[.slice A t.length c, .int .i64 a, .int .i64 b] w (ResIC w (commonR t a b)) := by
  have hle := h.le
  obtain ⟨w1, hw1⟩ : ∃ w1, w1 = w.alloc (.cells #[.int .i64 a, .int .i64 b] 2) := ⟨_, rfl⟩
  have B1 : Below w.heap.size w w1 := by rw [hw1]; exact (Below.refl w.heap.size w).alloc (Nat.le_refl _) _
  have HE := Lib.hid (tableCode_any A (some ⟨w.heap.size, 0, none⟩) c 2 t [a, b] w1 (h.below B1) (by rw [hw1]; exact ri_two w a b))
  by_cases hc : tableCode t [a, b] = 0
  · obtain ⟨h1, hk⟩ := tableCode_0.1 hc
    have hka' := hk a (by simp)
    have hkb' := hk b (by simp)
    obtain ⟨an, rfl⟩ := Int.eq_ofNat_of_zero_le hka'.1
    obtain ⟨bn, rfl⟩ := Int.eq_ofNat_of_zero_le hkb'.1
    have han : an < t.length := by omega
    have hbn : bn < t.length := by omega
    have HR := Lib.hid (commonR_yes han hbn hc)
    rw [hc] at HE
    have hT := isTable_get h1
    have hlen : t[an].length ≤ t[bn].length := by rw [(hT.2.2 an han).1, (hT.2.2 bn hbn).1]; exact Nat.le_refl _
    have hlen2 : t[an].length ≤ 12 := (hT.2.2 an han).2.2.1
    have HL := Lib.hid (And.intro hlen hlen2); clear hlen hlen2
    clear hc hk hka' hkb' h1 hT
    have i0 : (0 : Int) ≤ (an : Int) := by omega
    have i1 : (an : Int) < (t.length : Int) := by omega
    have i2 : (0 : Int) ≤ (bn : Int) := by omega
    have i3 : (bn : Int) < (t.length : Int) := by omega
    obtain ⟨b', o', A1, c1, A2, c2, rfl, hc1, hcc1, hr1, hc2, hcc2, hr2⟩ := (h.below B1).at2 han hbn
    have hbk := World.block_lt_of_cell? w1 _ hc1
    simp only at hbk
    have KS := Lib.hid (show ∀ W : World, Below w1.heap.size w1 W → (W.cell? ⟨b', o' + an, none⟩ = some (.slice A1 t[an].length c1) ∧ W.cell? ⟨b', o' + bn, none⟩ = some (.slice A2 t[bn].length c2)) from fun W hW => ⟨cell_in hW hbk hc1, cell_in hW hbk hc2⟩)
    have E5 := Lib.hid (fun W (hW : Below w1.heap.size w1 W) => inCommon_any A1 A2 c1 c2 t[an] t[bn] W (hr1.below hW) (hr2.below hW) HL.out.1 (by have := HL.out.2; omega))
    go_enter Try.func17, Try.ntmps17
    go_wp2_with fail
    rw [← hw1]
    clear hw1
    refine HE.out.mono ?_
    rintro e w2 ⟨rfl, rfl⟩
    go_wp2_with fail
    go_region_held3 (fun w' => w'.cell? ⟨b', o' + an, none⟩ = some (.slice A1 t[an].length c1) ∧ w'.cell? ⟨b', o' + bn, none⟩ = some (.slice A2 t[bn].length c2)) (first | (refine KS.out _ ?_; first | assumption | exact belowDrew0 _))
      (first | (go_at_call 95; refine (E5.out _ (belowDrew0 _)).mono ?_; rintro e w2 ⟨A3, c3, rfl, hc3, hr3, ho3, b2⟩; have ho3 := ho3.wide (B' := w1.heap.size) (by simp) (Nat.le_refl _); have b2 := belowDrew b2))
    go_wp2_with fail
    go_ret2
    exact resIC_yes HR.out hc3 hr3 (ho3.wide B1.size (Nat.le_refl _)) (B1.trans (b2.mono B1.size))
  · have HR := Lib.hid (commonR_no hc)
    have hne := tableCode_ne hc
    obtain ⟨k, hk⟩ : ∃ k, k = tableCode t [a, b] := ⟨_, rfl⟩
    rw [← hk] at HE HR hne
    clear hc hk
    go_enter Try.func17, Try.ntmps17
    go_wp2_with fail
    rw [← hw1]
    clear hw1
    refine HE.out.mono ?_
    rintro e w2 ⟨rfl, rfl⟩
    go_wp2_with fail
    go_ret2
    exact resIC_nil HR.out.symm B1
def turnN (t : List (List Int)) (n : Nat) : List (List Int) := (List.range n).map fun k => t.map fun r => r.getD k 0
theorem turnN_len (t : List (List Int)) (n : Nat) : (turnN t n).length = n := by simp [turnN]
theorem turnN_succ (t : List (List Int)) (n : Nat) : turnN t (n + 1) = turnN t n ++ [t.map fun r => r.getD n 0] := by simp [turnN, List.range_succ]
theorem turnR_yes {t : List (List Int)} (h : isTable t = true) : turnR t = (turnN t (t.headD []).length, 0) := by unfold turnR; rw [if_pos h]; rfl
theorem turnR_no {t : List (List Int)} (h : isTable t = false) : turnR t = ([], 1) := by unfold turnR; rw [if_neg (by rw [h]; simp)]
theorem colT_succ (t : List (List Int)) (k : Nat) {n : Nat} (hn : n < t.length) : (t.take (n + 1)).map (fun r => r.getD k 0) = (t.take n).map (fun r => r.getD k 0) ++ [t[n].getD k 0] := by
  rw [List.take_succ_eq_append_getElem hn, List.map_append]; rfl
set_option maxRecDepth 100000 in
set_option maxHeartbeats 4000000 in
theorem specTurn_any (A : Option Addr) (c : Nat) (t : List (List Int)) (w : World) (h : RII w A t) :
    Calls Try.prog 29 #[.slice A t.length c] w (ResIIC w (turnR t)) := by
  have HB := Lib.hid (Below.refl w.heap.size w)
  have hle := h.le
  have HE := Lib.hid (specIsTable_any A c t w h)
  cases ht : isTable t with
  | false =>
    have HR := Lib.hid (turnR_no ht)
    rw [ht] at HE
    clear ht
    go_enter Try.func29, Try.ntmps29
    go_wp2_with fail
    refine HE.out.mono ?_
    rintro e w1 ⟨rfl, n1, rfl⟩
    go_wp2_with fail
    go_ret2
    exact resIIC_nil HR.out.symm (belowD HB.out _)
  | true =>
    have HR := Lib.hid (turnR_yes ht)
    rw [ht] at HE
    have hT := isTable_get ht
    have hT1 := hT.1; have hT2 := hT.2.1
    have HT := Lib.hid hT.2.2
    have h00 : 0 < t.length := by omega
    obtain ⟨cn, hcn⟩ : ∃ cn, cn = (t.headD []).length := ⟨_, rfl⟩
    have HH := Lib.hid (show t[0].length = cn by rw [hcn]; exact (hT.2.2 0 h00).1)
    have hcn12 : cn ≤ 12 := by have := (hT.2.2 0 h00).2.2.1; have := HH.out; omega
    have HTL := Lib.hid (show ∀ k (hk : k < t.length), t[k].length = cn from fun k hk => by rw [hcn]; exact (hT.2.2 k hk).1)
    have htne : t ≠ [] := by rintro rfl; simp at h00
    rw [← hcn] at HR
    clear ht hT hcn
    go_enter Try.func29, Try.ntmps29
    go_wp2_with fail
    refine HE.out.mono ?_
    rintro e w1 ⟨rfl, n1, rfl⟩
    obtain ⟨w1, hw1⟩ : ∃ w1, w1 = w.drewN n1 := ⟨_, rfl⟩
    have HB1 := Lib.hid (show Below w.heap.size w w1 by rw [hw1]; exact belowD HB.out _)
    have hs1 : w.heap.size ≤ w1.heap.size := HB1.out.size
    rw [← hw1]
    clear hw1
    go_wp2_with fail
    go_loopw [4, 5, 6, 7] (fun v i _ _ wr => ∃ k : Nat, i = .int .i64 k ∧ k ≤ cn ∧ OII wr w1.heap.size wr.heap.size v (turnN t k) ∧ Below w1.heap.size w1 wr) (fun _ i _ _ _ => cn - (intOf i).toNat)
    case atStart => exact ⟨0, rfl, by omega, by simpa [turnN] using OII.new0 (w := w1) (B := w1.heap.size) (Nat.le_refl _), (Below.refl _ _).alloc (Nat.le_refl _) _⟩
    case round =>
      obtain ⟨k, rfl, hk, hO, hb⟩ := hrel
      have HO := Lib.hid hO
      obtain ⟨wo, rfl⟩ : ∃ wo : World, wo = wr := ⟨_, rfl⟩
      have hso := hb.size
      have Bo := HB1.out.trans (hb.mono hs1)
      obtain ⟨bT, oT, A0, c0, rfl, hc0, hcc0, hr0⟩ := (h.below Bo).at_ h00
      simp only [Nat.add_zero] at hc0
      rw [HH.out] at hc0
      have i0 : (0 : Int) < (t.length : Int) := by omega
      clear hO hr0
      by_cases hlt : k < cn
      · go_wp2_with fail
        clear hc0
        go_loopw [6, 7] (fun u j wx => ∃ n : Nat, j = .int .i64 n ∧ n ≤ t.length ∧ OV wx wo.heap.size 2 u (ints ((t.take n).map fun r => r.getD k 0)) ∧ Below wo.heap.size wo wx) (fun _ j _ => t.length - (intOf j).toNat)
        case atStart => exact ⟨0, rfl, by omega, by simpa [ints] using OV.new0 (w := wo) (B := wo.heap.size) (e := 2) (Nat.le_refl _), (Below.refl _ _).alloc (Nat.le_refl _) _⟩
        case round =>
          obtain ⟨n, rfl, hn, ho2, hbx⟩ := hrel
          have hsx := hbx.size
          have Bx := Bo.trans (hbx.mono Bo.size)
          by_cases hlt2 : n < t.length
          · obtain ⟨b', o', A1, c1, e, hc1, hcc1, hr1⟩ := (h.below Bx).at_ hlt2
            injection e with e; injection e with e1 e2; subst e1 e2
            have hl := HTL.out n hlt2
            obtain ⟨b2, o2, rfl, hc2⟩ := hr1.at_ (k := k) (by omega)
            rw [hl] at hc1
            have HS := Lib.hid (colT_succ t k hlt2)
            have HG := Lib.hid (getD_at (show k < t[n].length by omega))
            obtain ⟨y, hy⟩ : ∃ y, y = t[n][k]'(by omega) := ⟨_, rfl⟩
            rw [← hy] at hc2 HG
            have j0 : (0 : Int) ≤ (k : Int) := by omega
            have j1 : (k : Int) < (cn : Int) := by omega
            have j2 : (0 : Int) ≤ (n : Int) := by omega
            have j3 : (n : Int) < (t.length : Int) := by omega
            have hxl : ((t.take n).map fun r => r.getD k 0).length ≤ 10 := by simp; omega
            clear hy hl hr1 hcc1
            go_wp2_with (at_builtin; refine wpList_app1 _ rfl _ _ _ rfl wo.heap.size 2 _ 8 Try.underlying30 info_int rfl (by omega) _ _ rfl (ho2.alloc _) _ _ rfl (one_cell _ _ _) rfl (by rw [ints_length]; omega) (by simp; omega) ?_; intro v' w4 ho4 hg4 hn4 hat4)
            go_roundw
            case rel => exact ⟨n + 1, by go_num, by omega, by rw [HS.out, HG.out, ints_append]; exact ho4, (hbx.alloc (by omega) _).grown hg4 (by simp; omega) (fun g hg => (ho2.lt g hg).1)⟩
            case measure => simp [intOf]; omega
          · obtain rfl : n = t.length := by omega
            rw [List.take_length] at ho2
            have HS := Lib.hid (turnN_succ t k)
            obtain ⟨zs, hzs⟩ : ∃ zs, zs = t.map fun r => r.getD k 0 := ⟨_, rfl⟩
            rw [← hzs] at ho2 HS
            have HZL := Lib.hid (show zs.length ≤ 10 by rw [hzs]; simp; omega)
            obtain ⟨A7, c7, rfl, hc7, hr7⟩ := ho2.toOR.readsI
            have HO7 := Lib.hid ho2
            obtain ⟨us, k1, k2, k3, k4⟩ := HO.out.below hbx
            have HK := Lib.hid (And.intro k3 k4); have HK1 := Lib.hid k1
            have hus : us.length ≤ 12 := by rw [k1, turnN_len]; omega
            clear k1 k3 k4 hzs ho2 hr7
            go_wp2_with (at_builtin; refine wpList_app1 _ rfl _ _ _ rfl w1.heap.size 30 _ 24 Try.underlying24 info_sl rfl (by omega) _ us rfl (k2.1.alloc _) _ _ rfl (one_cell _ _ _) rfl (by omega) (by simp; omega) ?_; intro v' w5 ho5 hg5 hn5 hat5)
            have HN := Lib.hid (OII.push1 (ys := zs) HK1.out k2 HK.out.1 HK.out.2 HO7.out hso hsx ho5 hg5)
            have HB5 := Lib.hid (((hb.trans (hbx.mono hso)).alloc (by omega) (.cells #[.slice A7 zs.length c7] 30)).grown hg5 (by simp; omega) (fun g hg => (k2.1.lt g hg).1))
            clear ho5 hg5 hn5 hat5
            go_roundw
            case rel => exact ⟨k + 1, by go_num, by omega, by rw [HS.out]; exact HN.out, HB5.out⟩
            case measure => simp [intOf]; omega
      · obtain rfl : k = cn := by omega
        obtain ⟨A9, c9, hv9, hc9, hr9⟩ := HO.out.reads
        rw [turnN_len] at hv9 hc9
        subst hv9
        go_wp2_with fail
        go_ret2
        exact resIIC_own (by rw [HR.out]) HO.out hs1 (Nat.le_refl _) Bo
set_option maxRecDepth 100000 in
set_option maxHeartbeats 4000000 in
theorem implTurn_any (A : Option Addr) (c : Nat) (t : List (List Int)) (w : World) (h : RII w A t) :
    Calls Try.prog 28 #[.slice A t.length c] w (ResIIC w (turnR t)) := by
  have HB := Lib.hid (Below.refl w.heap.size w)
  have hle := h.le
  have HE0 := tableCode_any A none c 0 t [] w h RI.nil
  simp only [List.length_nil] at HE0
  have HE := Lib.hid HE0; clear HE0
  have hT0 : isTable t = false → tableCode t [] = 1 := fun h => by unfold tableCode; rw [if_neg (by rw [h]; simp)]
  have hT1' : isTable t = true → tableCode t [] = 0 := fun h => by unfold tableCode; rw [if_pos h]; simp [allW]
  cases ht : isTable t with
  | false =>
    have HR := Lib.hid (turnR_no ht)
    rw [hT0 ht] at HE
    clear ht hT0 hT1'
    go_enter Try.func28, Try.ntmps28
    go_wp2_with fail
    refine HE.out.mono ?_
    rintro e w1 ⟨rfl, rfl⟩
    go_wp2_with fail
    go_ret2
    exact resIIC_nil HR.out.symm HB.out
  | true =>
    have HR := Lib.hid (turnR_yes ht)
    rw [hT1' ht] at HE
    clear hT0 hT1'
    have hT := isTable_get ht
    have hT1 := hT.1; have hT2 := hT.2.1
    have HT := Lib.hid hT.2.2
    have h00 : 0 < t.length := by omega
    obtain ⟨cn, hcn⟩ : ∃ cn, cn = (t.headD []).length := ⟨_, rfl⟩
    have HH := Lib.hid (show t[0].length = cn by rw [hcn]; exact (hT.2.2 0 h00).1)
    have hcn12 : cn ≤ 12 := by have := (hT.2.2 0 h00).2.2.1; have := HH.out; omega
    have HTL := Lib.hid (show ∀ k (hk : k < t.length), t[k].length = cn from fun k hk => by rw [hcn]; exact (hT.2.2 k hk).1)
    have htne : t ≠ [] := by rintro rfl; simp at h00
    rw [← hcn] at HR
    clear ht hT hcn
    go_enter Try.func28, Try.ntmps28
    go_wp2_with fail
    refine HE.out.mono ?_
    rintro e w1 ⟨rfl, rfl⟩
    obtain ⟨w1, hw1⟩ : ∃ w1, w1 = w := ⟨_, rfl⟩
    have HB1 := Lib.hid (show Below w.heap.size w w1 by rw [hw1]; exact HB.out)
    have hs1 : w.heap.size ≤ w1.heap.size := HB1.out.size
    rw [← hw1]
    have hh1 := h.below HB1.out
    obtain ⟨bT, oT, A0, c0, e0, hc0, hcc0, hr0⟩ := hh1.at_ h00
    subst e0
    simp only [Nat.add_zero] at hc0
    rw [HH.out] at hc0
    have i0 : (0 : Int) < (t.length : Int) := by omega
    have hbw : bT < w1.heap.size := World.block_lt_of_cell? w1 _ hc0
    clear hr0 hh1 hw1
    go_wp2_with fail
    clear hc0
    go_loopw [5, 6, 7, 9, 20] (fun v _ _ _ i wr => ∃ k : Nat, i = .int .i64 k ∧ k ≤ cn ∧ OII wr w1.heap.size wr.heap.size v (turnN t k) ∧ Below w1.heap.size w1 wr) (fun _ _ _ _ i _ => cn - (intOf i).toNat)
    case atStart => exact ⟨0, rfl, by omega, by simpa [turnN] using OII.new0 (w := w1) (B := w1.heap.size) (Nat.le_refl _), (Below.refl _ _).alloc (Nat.le_refl _) _⟩
    case round =>
      obtain ⟨k, rfl, hk, hO, hb⟩ := hrel
      have HO := Lib.hid hO
      obtain ⟨wo, rfl⟩ : ∃ wo : World, wo = wr := ⟨_, rfl⟩
      have hso := hb.size
      have Bo := HB1.out.trans (hb.mono hs1)
      clear hO
      by_cases hlt : k < cn
      · go_wp2_with fail
        go_loopw [7, 9, 26] (fun u _ j wx => ∃ n : Nat, j = .int .i64 n ∧ n ≤ t.length ∧ OV wx wo.heap.size 2 u (ints ((t.take n).map fun r => r.getD k 0)) ∧ Below wo.heap.size wo wx) (fun _ _ j _ => t.length - (intOf j).toNat)
        case atStart => exact ⟨0, rfl, by omega, by simpa [ints] using OV.new0 (w := wo) (B := wo.heap.size) (e := 2) (Nat.le_refl _), (Below.refl _ _).alloc (Nat.le_refl _) _⟩
        case round =>
          obtain ⟨n, rfl, hn, ho2, hbx⟩ := hrel
          have hsx := hbx.size
          have Bx := Bo.trans (hbx.mono Bo.size)
          by_cases hlt2 : n < t.length
          · obtain ⟨b', o', A1, c1, e, hc1, hcc1, hr1⟩ := (h.below Bx).at_ hlt2
            injection e with e; injection e with e1 e2; subst e1 e2
            have hl := HTL.out n hlt2
            obtain ⟨b2, o2, rfl, hc2⟩ := hr1.at_ (k := k) (by omega)
            rw [hl] at hc1
            have HS := Lib.hid (colT_succ t k hlt2)
            have HG := Lib.hid (getD_at (show k < t[n].length by omega))
            obtain ⟨y, hy⟩ : ∃ y, y = t[n][k]'(by omega) := ⟨_, rfl⟩
            rw [← hy] at hc2 HG
            have j0 : (0 : Int) ≤ (k : Int) := by omega
            have j1 : (k : Int) < (cn : Int) := by omega
            have j2 : (0 : Int) ≤ (n : Int) := by omega
            have j3 : (n : Int) < (t.length : Int) := by omega
            have hxl : ((t.take n).map fun r => r.getD k 0).length ≤ 10 := by simp; omega
            clear hy hl hr1 hcc1
            go_wp2_with (at_builtin; refine wpList_app1 _ rfl _ _ _ rfl wo.heap.size 2 _ 8 Try.underlying30 info_int rfl (by omega) _ _ rfl (ho2.alloc _) _ _ rfl (one_cell _ _ _) rfl (by rw [ints_length]; omega) (by simp; omega) ?_; intro v' w4 ho4 hg4 hn4 hat4)
            go_roundw
            case rel => exact ⟨n + 1, by go_num, by omega, by rw [HS.out, HG.out, ints_append]; exact ho4, (hbx.alloc (by omega) _).grown hg4 (by simp; omega) (fun g hg => (ho2.lt g hg).1)⟩
            case measure => simp [intOf]; omega
          · obtain rfl : n = t.length := by omega
            rw [List.take_length] at ho2
            have HS := Lib.hid (turnN_succ t k)
            obtain ⟨zs, hzs⟩ : ∃ zs, zs = t.map fun r => r.getD k 0 := ⟨_, rfl⟩
            rw [← hzs] at ho2 HS
            have HZL := Lib.hid (show zs.length ≤ 10 by rw [hzs]; simp; omega)
            obtain ⟨A7, c7, rfl, hc7, hr7⟩ := ho2.toOR.readsI
            have HO7 := Lib.hid ho2
            obtain ⟨us, k1, k2, k3, k4⟩ := HO.out.below hbx
            have HK := Lib.hid (And.intro k3 k4); have HK1 := Lib.hid k1
            have hus : us.length ≤ 12 := by rw [k1, turnN_len]; omega
            clear k1 k3 k4 hzs ho2 hr7
            go_wp2_with (at_builtin; refine wpList_app1 _ rfl _ _ _ rfl w1.heap.size 30 _ 24 Try.underlying24 info_sl rfl (by omega) _ us rfl (k2.1.alloc _) _ _ rfl (one_cell _ _ _) rfl (by omega) (by simp; omega) ?_; intro v' w5 ho5 hg5 hn5 hat5)
            have HN := Lib.hid (OII.push1 (ys := zs) HK1.out k2 HK.out.1 HK.out.2 HO7.out hso hsx ho5 hg5)
            have HB5 := Lib.hid (((hb.trans (hbx.mono hso)).alloc (by omega) (.cells #[.slice A7 zs.length c7] 30)).grown hg5 (by simp; omega) (fun g hg => (k2.1.lt g hg).1))
            clear ho5 hg5 hn5 hat5
            go_roundw
            case rel => exact ⟨k + 1, by go_num, by omega, by rw [HS.out]; exact HN.out, HB5.out⟩
            case measure => simp [intOf]; omega
      · obtain rfl : k = cn := by omega
        obtain ⟨A9, c9, hv9, hc9, hr9⟩ := HO.out.reads
        rw [turnN_len] at hv9 hc9
        subst hv9
        go_wp2_with fail
        go_ret2
        exact resIIC_own (by rw [HR.out]) HO.out hs1 (Nat.le_refl _) Bo
end Go.Proofs.Ytdkkkkfcpgkcnaa
