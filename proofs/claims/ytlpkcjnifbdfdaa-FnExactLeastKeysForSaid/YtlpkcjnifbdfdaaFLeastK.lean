/- Contracts of l11Open, LeastKeysFor. -/
import Derived.Test.YtlpkcjnifbdfdaaFChoices
import Derived.Test.YtlpkcjnifbdfdaaFTable
import Derived.Test.YtlpkcjnifbdfdaaFProg
import Derived.BigQuiet
namespace Go.Proofs.Ytlpkcjnifbdfdaa
set_option linter.unusedVariables false
open Go.RowKit
def oneIn (t : List (List Int)) (d k : Int) : Bool := (t.getD k.toNat []).getD d.toNat 0 == 1
def openAll (t : List (List Int)) (doors keys : List Int) : Bool := doors.all fun d => keys.any (oneIn t d)
def leastKeys (t : List (List Int)) (doors : List Int) : List Int × Int :=
  if isTable t = true then (if isRising (t.headD []).length doors = true then (match (allChoices t.length).find? (openAll t doors) with | some l => (l, 0) | none => ([], 4)) else ([], 2)) else ([], 1)
theorem lk_1 {t : List (List Int)} {ds : List Int} (h : isTable t = false) : ([], 1) = leastKeys t ds := by simp [leastKeys, h]
theorem lk_2 {t : List (List Int)} {ds : List Int} (h : isTable t = true) (h2 : isRising (t.headD []).length ds = false) : ([], 2) = leastKeys t ds := by unfold leastKeys; rw [if_pos h, if_neg (by rw [h2]; simp)]
theorem lk_4 {t : List (List Int)} {ds : List Int} (h : isTable t = true) (h2 : isRising (t.headD []).length ds = true) (h3 : (allChoices t.length).find? (openAll t ds) = none) : ([], 4) = leastKeys t ds := by simp only [leastKeys, h, h2, h3, if_true]
theorem lk_0 {t : List (List Int)} {ds l : List Int} (h : isTable t = true) (h2 : isRising (t.headD []).length ds = true) (h3 : (allChoices t.length).find? (openAll t ds) = some l) : (l, 0) = leastKeys t ds := by simp only [leastKeys, h, h2, h3, if_true]
theorem oneIn_at {t : List (List Int)} {k d : Nat} (hk : k < t.length) (hd : d < t[k].length) : oneIn t (d : Int) (k : Int) = (t[k][d] == 1) := by
  simp [oneIn, List.getD, List.getElem?_eq_getElem hk, List.getElem?_eq_getElem hd]
theorem rising_in {n : Int} {xs : List Int} (h : isRising n xs = true) {k : Nat} (hk : k < xs.length) : 0 ≤ xs[k] ∧ xs[k] < n := by
  unfold isRising at h
  rw [List.all_eq_true] at h
  have := h k (List.mem_range.2 hk)
  simp only [risesAt, Bool.and_eq_true, decide_eq_true_eq, List.getD, List.getElem?_eq_getElem hk, Option.getD_some] at this
  exact ⟨this.1, this.2.1⟩
theorem any_take_succ {α : Type} (p : α → Bool) (xs : List α) (k : Nat) (h : k < xs.length) : (xs.take (k + 1)).any p = ((xs.take k).any p || p xs[k]) := by
  rw [List.take_succ_eq_append_getElem h, List.any_append]; simp
set_option maxRecDepth 100000 in
set_option maxHeartbeats 4000000 in
theorem l11Open_any (A B D : Option Addr) (c d e : Nat) (t : List (List Int)) (keys doors : List Int) (w : World) (h : RII w A t) (g : RI w B keys) (p : RI w D doors)
    (hk : ∀ k (hk : k < keys.length), 0 ≤ keys[k] ∧ keys[k] < t.length) (hd : ∀ k (hk : k < doors.length), 0 ≤ doors[k] ∧ ∀ j (hj : j < t.length), doors[k] < t[j].length) :
    Calls Try.prog 89 #[.slice A t.length c, .slice B keys.length d, .slice D doors.length e] w fun e w' => e = .returned (.bool (openAll t doors keys)) ∧ ∃ n, w' = w.drewN n := by
  have hle := p.le
  have hke := g.le
  have HK := Lib.hid hk; have HD := Lib.hid hd; clear hk hd
  go_enter Try.func89, Try.ntmps89
  go_wp2_with fail
  go_loopw [7, 8, 9] (fun i _ _ wr => ∃ k n : Nat, k ≤ doors.length ∧ i = .int .i64 k ∧ wr = w.drewN n ∧ (doors.take k).all (fun d => keys.any (oneIn t d)) = true) (fun i _ _ _ => doors.length - (intOf i).toNat)
  case atStart => exact ⟨0, 0, by omega, rfl, rfl, rfl⟩
  case round =>
    obtain ⟨k, n, hk, rfl, rfl, hrel⟩ := hrel
    have Hrel := Lib.hid hrel; clear hrel
    by_cases hlt : k < doors.length
    · obtain ⟨bD, oD, rfl, hcD⟩ := p.at_ hlt
      have i0 : (0 : Int) ≤ (k : Int) := by omega
      have i1 : (k : Int) < (doors.length : Int) := by omega
      have HAS := Lib.hid (take_succ_all (fun d => keys.any (oneIn t d)) doors k hlt)
      have HBad := Lib.hid (all_false_at (fun d => keys.any (oneIn t d)) doors k hlt)
      obtain ⟨dn, hdn⟩ := Int.eq_ofNat_of_zero_le (HD.out k hlt).1
      have HDj := Lib.hid (show ∀ j (hj : j < t.length), dn < t[j].length from fun j hj => by have := (HD.out k hlt).2 j hj; omega)
      rw [hdn] at hcD HAS HBad
      have HDN := Lib.hid hdn; clear hdn
      go_wp2_with fail
      go_loopw [8, 9] (fun x i wx => ∃ j m : Nat, j ≤ keys.length ∧ i = .int .i64 j ∧ x = .bool ((keys.take j).any (oneIn t (dn : Int))) ∧ wx = w.drewN m) (fun _ i _ => keys.length - (intOf i).toNat)
      case atStart => exact ⟨0, _, by omega, rfl, rfl, rfl⟩
      case round =>
        obtain ⟨j, m, hj, rfl, rfl, rfl⟩ := hrel
        by_cases hjl : j < keys.length
        · have HS := Lib.hid (any_take_succ (oneIn t (dn : Int)) keys j hjl)
          cases hop : (keys.take j).any (oneIn t (dn : Int)) with
          | true =>
            have HO := Lib.hid hop; clear hop
            go_wp2_with fail
            go_quiet (fail)
            go_wp2_with fail
            go_roundw
            case rel => exact ⟨j + 1, _, by omega, by go_num, by rw [HS.out, HO.out]; rfl, by first | rfl | exact World.drewN_drewN _ _ _⟩
            case measure => simp [intOf]; omega
          | false =>
            have HO := Lib.hid hop; clear hop
            obtain ⟨bB, oB, rfl, hcB⟩ := g.at_ hjl
            have hkj := HK.out j hjl
            obtain ⟨kn, hkn⟩ := Int.eq_ofNat_of_zero_le hkj.1
            have hknl : kn < t.length := by omega
            obtain ⟨bA, oA, A2, c2, rfl, hcA, hcc, hr2⟩ := h.at_ hknl
            have hdl := HDj.out kn hknl
            obtain ⟨b3, o3, rfl, hc3⟩ := hr2.at_ hdl
            have HP := Lib.hid (show oneIn t (dn : Int) keys[j] = (t[kn][dn] == 1) by rw [hkn]; exact oneIn_at hknl hdl)
            rw [hkn] at hcB
            have HKN := Lib.hid hkn; clear hkn hkj
            have l2 := hr2.le
            have lt' := h.le
            have j0 : (0 : Int) ≤ (j : Int) := by omega
            have j1 : (j : Int) < (keys.length : Int) := by omega
            have j2 : (0 : Int) ≤ (kn : Int) := by omega
            have j3 : (kn : Int) < (t.length : Int) := by omega
            have j4 : (0 : Int) ≤ (dn : Int) := by omega
            have j5 : (dn : Int) < (t[kn].length : Int) := by omega
            go_wp2_with fail
            go_quiet (fail)
            go_wp2_with fail
            go_roundw
            case rel => exact ⟨j + 1, _, by omega, by go_num, by rw [HS.out, HO.out, HP.out]; rfl, by first | rfl | exact World.drewN_drewN _ _ _⟩
            case measure => simp [intOf]; omega
        · obtain rfl : j = keys.length := by omega
          rw [List.take_length]
          cases hop : keys.any (oneIn t (dn : Int)) with
          | true =>
            have HO := Lib.hid (show (doors.take (k + 1)).all (fun d => keys.any (oneIn t d)) = true by rw [HAS.out, Hrel.out, hop]; rfl)
            go_wp2_with fail
            go_roundw
            case rel => exact ⟨k + 1, _, by omega, by go_num, by first | rfl | exact World.drewN_drewN _ _ _, HO.out⟩
            case measure => simp [intOf]; omega
          | false =>
            have HR := Lib.hid (show openAll t doors keys = false from HBad.out hop)
            go_wp2_with fail
            go_ret
            exact ⟨retB HR.out.symm, by first | exact ⟨_, rfl⟩ | exact drewEx⟩
    · obtain rfl : k = doors.length := by omega
      have HR := Lib.hid (show openAll t doors keys = true by have := Hrel.out; rwa [List.take_length] at this)
      go_wp2_with fail
      go_ret
      exact ⟨retB HR.out.symm, _, rfl⟩
def allUpto (n k : Nat) : List (List Int) := (List.range k).flatMap fun k => choices k n
theorem allUpto_succ (n k : Nat) : allUpto n (k + 1) = allUpto n k ++ choices k n := by simp [allUpto, List.range_succ]
theorem find_next {ok : List Int → Bool} {n k : Nat} (h1 : (allUpto n k).find? ok = none) (h2 : (choices k n).find? ok = none) : (allUpto n (k + 1)).find? ok = none := by
  rw [allUpto_succ, List.find?_append, h1, h2]; rfl
theorem find_take {ok : List Int → Bool} {xs : List (List Int)} {i : Nat} (h : i < xs.length) (h1 : (xs.take i).find? ok = none) (h2 : ok xs[i] = false) : (xs.take (i + 1)).find? ok = none := by
  rw [List.take_succ_eq_append_getElem h, List.find?_append, h1]; simp [h2]
theorem find_hit {ok : List Int → Bool} {n k i : Nat} (hk : k ≤ n) (h1 : (allUpto n k).find? ok = none) (hi : i < (choices k n).length) (h2 : ((choices k n).take i).find? ok = none) (h3 : ok (choices k n)[i] = true) :
    (allChoices n).find? ok = some (choices k n)[i] := by
  have e : allChoices n = allUpto n k ++ (choices k n ++ ((List.range (n - k)).map (· + (k + 1))).flatMap fun k => choices k n) := by
    unfold allChoices allUpto
    rw [show n + 1 = k + (1 + (n - k)) by omega, List.range_add, List.flatMap_append]
    congr 1
    rw [Nat.add_comm 1 (n - k), List.range_succ_eq_map]
    simp only [List.map_cons, List.map_map, List.flatMap_cons, Nat.add_zero]
    congr 2
    apply List.map_congr_left; intro x _; simp only [Function.comp]; omega
  have e2 : choices k n = (choices k n).take i ++ ((choices k n)[i] :: (choices k n).drop (i + 1)) := by
    conv => lhs; rw [← List.take_append_drop i (choices k n), List.drop_eq_getElem_cons hi]
  rw [e, List.find?_append, h1, Option.none_or, List.find?_append]
  have : (choices k n).find? ok = some (choices k n)[i] := by
    conv => lhs; rw [e2]
    rw [List.find?_append, h2, Option.none_or, List.find?_cons_of_pos h3]
  rw [this]; rfl
theorem choice_in {n k : Nat} {l : List Int} (h : l ∈ choices k n) : ∀ j (hj : j < l.length), 0 ≤ l[j] ∧ l[j] < n := by
  have hin : ∀ (l : List Int) (lo : Int), Inc lo n l → 0 ≤ lo → ∀ i (hi : i < l.length), 0 ≤ l[i] ∧ l[i] < n := by
    intro l
    induction l with
    | nil => intro _ _ _ i hi; simp at hi
    | cons x r ih =>
      intro lo h h0 i hi
      cases i with
      | zero => have := h.1; have := h.2.1; simp; omega
      | succ i => simpa using ih _ h.2.2 (by have := h.1; omega) i (by simpa using hi)
  exact hin l 0 ((mem_choices k n l).1 h).2 (by omega)
set_option maxRecDepth 100000 in
set_option maxHeartbeats 8000000 in
theorem specLeastKeys_any (A : Option Addr) (c : Nat) (t : List (List Int)) (D : Option Addr) (ce : Nat) (ds : List Int) (w : World) (h : RII w A t) (p : RI w D ds) :
    Calls Try.prog 50 #[.slice A t.length c, .slice D ds.length ce] w (RdIC w (leastKeys t ds)) := by
  cases h1 : isTable t with
  | false =>
    have HR := Lib.hid (lk_1 (ds := ds) h1)
    go_enter Try.func50, Try.ntmps50
    go_wp2_with fail
    refine (specIsTable_any _ _ _ _ h).mono ?_
    rw [h1]
    rintro e w1 ⟨rfl, n1, rfl⟩
    go_wp2_with fail
    go_ret2
    exact rdIC_nil HR.out (belowD (Below.refl _ _) n1)
  | true =>
  have hT := isTable_get h1
  have hT1 := hT.1; have hT2 := hT.2.1
  have h0 : 0 < t.length := by omega
  have HT := Lib.hid hT.2.2
  have hd0 := headD_len h0
  clear hT
  cases h2 : isRising (t.headD []).length ds with
  | false =>
    have HR := Lib.hid (lk_2 h1 h2)
    rw [hd0] at h2
    clear hd0
    go_enter Try.func50, Try.ntmps50
    go_wp2_with fail
    refine (specIsTable_any _ _ _ _ h).mono ?_
    rw [h1]
    rintro e w1 ⟨rfl, n1, rfl⟩
    obtain ⟨b, o, A2, c2, rfl, hc, hcc, hr⟩ := h.at_ h0
    simp only [Nat.add_zero] at hc
    go_wp2_with fail
    refine (l01Rises_any D ce ds _ _ (p.drewN n1)).mono ?_
    rw [h2]
    rintro e w2 ⟨rfl, n2, rfl⟩
    go_wp2_with fail
    go_ret2
    exact rdIC_nil HR.out (belowD (Below.refl _ _) _)
  | true =>
    have H4 := Lib.hid (lk_4 (ds := ds) h1 h2); have HZ := Lib.hid (fun l => lk_0 (ds := ds) (l := l) h1 h2)
    rw [hd0] at h2
    have HDs := Lib.hid (show ∀ k (hk : k < ds.length), 0 ≤ ds[k] ∧ ∀ j (hj : j < t.length), ds[k] < t[j].length from fun k hk => by
      have h3 := rising_in h2 hk
      exact ⟨h3.1, fun j hj => by rw [(HT.out j hj).1, hd0]; exact h3.2⟩)
    clear hd0
    go_enter Try.func50, Try.ntmps50
    go_wp2_with fail
    refine (specIsTable_any _ _ _ _ h).mono ?_
    rw [h1]
    rintro e w1 ⟨rfl, n1, rfl⟩
    obtain ⟨b, o, A2, c2, rfl, hc, hcc, hr⟩ := h.at_ h0
    simp only [Nat.add_zero] at hc
    go_wp2_with fail
    refine (l01Rises_any D ce ds _ _ (p.drewN n1)).mono ?_
    rw [h2]
    rintro e w2 ⟨rfl, n2, rfl⟩
    have H2 := Lib.hid h2; have H1 := Lib.hid h1; clear h1 h2
    have B2 : Below w.heap.size w ((w.drewN n1).drewN n2) := belowD (belowD (Below.refl _ _) n1) n2
    go_wp2_with fail
    go_loopw [6, 7, 8] (fun k _ _ wr => ∃ kk : Nat, k = .int .i64 kk ∧ kk ≤ t.length + 1 ∧ (allUpto t.length kk).find? (openAll t ds) = none ∧ Below w.heap.size w wr) (fun k _ _ _ => t.length + 1 - (intOf k).toNat)
    case atStart => exact ⟨0, rfl, by omega, rfl, by first | exact B2 | exact belowD (Below.refl _ _) _⟩
    case round =>
      obtain ⟨kk, rfl, hkk, hf, hb⟩ := hrel
      have HF := Lib.hid hf; clear hf
      by_cases hlt : kk ≤ t.length
      · obtain ⟨wo, rfl⟩ : ∃ wo : World, wo = wr := ⟨_, rfl⟩
        go_wp2_with fail
        refine (l11Choices_go kk t.length _ _ _ rfl rfl hT2 (by omega)).mono ?_
        rintro e w3 ⟨A3, c3, rfl, hc3, r3, o3, b3⟩
        clear o3
        have B3 := hb.trans (b3.mono hb.size)
        have HCM := Lib.hid (fun i (hi : i < (choices kk t.length).length) => choice_in (List.getElem_mem hi))
        have HHit := Lib.hid (fun i hi h2 h3 => find_hit (ok := openAll t ds) (i := i) hlt HF.out hi h2 h3)
        have HNext := Lib.hid (find_next (ok := openAll t ds) HF.out)
        generalize hR : choices kk t.length = R at *
        have HRR := Lib.hid hR; clear hR
        have hl3 := r3.le
        go_wp2_with fail
        go_loopw [8] (fun i wx => ∃ j n : Nat, i = .int .i64 j ∧ j ≤ R.length ∧ (R.take j).find? (openAll t ds) = none ∧ wx = w3.drewN n) (fun i _ => R.length - (intOf i).toNat)
        case atStart => exact ⟨0, 0, rfl, by omega, rfl, rfl⟩
        case round =>
          obtain ⟨j, n, rfl, hj, hfj, rfl⟩ := hrel
          have HFJ := Lib.hid hfj; clear hfj
          by_cases hjl : j < R.length
          · obtain ⟨b4, o4, A4, c4, rfl, hc4, hcc4, hr4⟩ := r3.at_ hjl
            have HC := Lib.hid (l11Open_any (some ⟨b, o, none⟩) A4 D c c4 ce t R[j] ds (w3.drewN n) ((h.below B3).drewN n) (hr4.drewN n) ((p.below B3).drewN n) (HCM.out j hjl) HDs.out)
            cases hop : openAll t ds R[j] with
            | true =>
              have HE := Lib.hid (HZ.out _ (HHit.out j hjl HFJ.out hop))
              rw [hop] at HC
              clear hop
              go_wp2_with fail
              refine HC.out.mono ?_
              rintro e w5 ⟨rfl, n5, rfl⟩
              go_wp2_with fail
              go_ret2
              exact rdIC_of HE.out hcc4 (hr4.drewN _) (belowD B3 _)
            | false =>
              have HE := Lib.hid (find_take hjl HFJ.out hop)
              rw [hop] at HC
              clear hop
              go_wp2_with fail
              refine HC.out.mono ?_
              rintro e w5 ⟨rfl, n5, rfl⟩
              go_wp2_with fail
              go_roundw
              case rel => exact ⟨j + 1, _, by go_num, by omega, HE.out, rfl⟩
              case measure => simp [intOf]; omega
          · obtain rfl : j = R.length := by omega
            have HE := Lib.hid (HNext.out (by have := HFJ.out; rwa [List.take_length] at this))
            go_wp2_with fail
            go_roundw
            case rel => exact ⟨kk + 1, by go_num, by omega, HE.out, belowD B3 n⟩
            case measure => simp [intOf]; omega
      · obtain rfl : kk = t.length + 1 := by omega
        have HE := Lib.hid (H4.out HF.out)
        go_wp2_with fail
        go_ret2
        exact rdIC_nil HE.out hb
end Go.Proofs.Ytlpkcjnifbdfdaa
