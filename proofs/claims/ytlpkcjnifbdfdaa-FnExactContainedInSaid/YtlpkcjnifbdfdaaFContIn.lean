/- Contracts of ContainedIn. -/
import Derived.Test.YtlpkcjnifbdfdaaFContained
namespace Go.Proofs.Ytlpkcjnifbdfdaa
set_option linter.unusedVariables false
open Go.RowKit
theorem contIn_eq (t : List (List Int)) (key : Int) : contIn isCont t key = contIn leAll t key := by
  unfold contIn
  split
  · rename_i h1
    split
    · rename_i h2
      have hT := isTable_get h1
      have hk := inB_iff'.1 h2
      congr 1
      refine selG_congr fun k hk2 => ?_
      have hkk : key.toNat < t.length := by omega
      have e : t.getD key.toNat [] = t[key.toNat] := by simp [List.getD, List.getElem?_eq_getElem hkk]
      have g1 := hT.2.2 k hk2
      have g2 := hT.2.2 key.toNat hkk
      simp only [contP, e]
      rw [isCont_eq g1.2.2.2 g2.2.2.2 (by omega) (by omega)]
    · rfl
  · rfl
theorem contIn_1 {q : List Int → List Int → Bool} {t : List (List Int)} {key : Int} (h : tableCode t [key] = 1) : ([], 1) = contIn q t key := by
  unfold tableCode at h; unfold contIn
  split at h
  · split at h <;> omega
  · rename_i h1; rw [if_neg h1]
theorem contIn_2 {q : List Int → List Int → Bool} {t : List (List Int)} {key : Int} (h : tableCode t [key] = 2) : ([], 2) = contIn q t key := by
  unfold tableCode at h; unfold contIn
  split at h
  · rename_i h1
    split at h
    · omega
    · rename_i h2; rw [if_pos h1, if_neg (by simpa [allW] using h2)]
  · omega
theorem contIn_0 {q : List Int → List Int → Bool} {t : List (List Int)} {key : Int} (h : tableCode t [key] = 0) :
    isTable t = true ∧ 0 ≤ key ∧ key < t.length ∧ (selG (contP q t key) t, 0) = contIn q t key := by
  unfold tableCode at h; unfold contIn
  split at h
  · rename_i h1
    split at h
    · rename_i h2
      have h3 : inB key 0 (t.length - 1) = true := by simpa [allW] using h2
      have := inB_iff'.1 h3
      exact ⟨h1, by omega, by omega, by rw [if_pos h1, if_pos h3]⟩
    · omega
  · omega
theorem tableCode_cases (t : List (List Int)) (ks : List Int) : tableCode t ks = 0 ∨ tableCode t ks = 1 ∨ tableCode t ks = 2 := by
  unfold tableCode; split <;> (try split) <;> omega
set_option maxRecDepth 100000 in
set_option maxHeartbeats 2000000 in
theorem specContIn_any (A : Option Addr) (c : Nat) (t : List (List Int)) (key : Int) (w : World) (h : RII w A t) (hw : (Lit.int .i64 key).wf = true) :
    Calls Try.prog 39 #[.slice A t.length c, .int .i64 key] w (ResIC w (contIn leAll t key)) := by
  have HB := Lib.hid (Below.refl w.heap.size w)
  rcases tableCode_cases t [key] with hc | hc | hc
  rotate_left
  · have HR := Lib.hid (contIn_1 (q := leAll) hc)
    go_enter Try.func39, Try.ntmps39
    go_wp2_with (go_at_call 75; refine (l11Code_any _ _ _ _ _ h).mono ?_; rintro e w1 ⟨rfl, n1, rfl⟩)
    go_ret2
    exact resIC_nil HR.out (belowD HB.out _)
  · have HR := Lib.hid (contIn_2 (q := leAll) hc)
    go_enter Try.func39, Try.ntmps39
    go_wp2_with (go_at_call 75; refine (l11Code_any _ _ _ _ _ h).mono ?_; rintro e w1 ⟨rfl, n1, rfl⟩)
    go_ret2
    exact resIC_nil HR.out (belowD HB.out _)
  · obtain ⟨h1, hk0, hk1, hR⟩ := contIn_0 (q := leAll) hc
    have HR := Lib.hid hR; clear hR
    have hT := isTable_get h1
    have hT1 := hT.1; have hT2 := hT.2.1
    have HT := Lib.hid hT.2.2
    obtain ⟨kn, rfl⟩ := Int.eq_ofNat_of_zero_le hk0
    have hkn : kn < t.length := by omega
    clear hT h1
    go_enter Try.func39, Try.ntmps39
    go_wp2_with (go_at_call 75; refine (l11Code_any _ _ _ _ _ h).mono ?_; rintro e w1 ⟨rfl, n1, rfl⟩)
    go_loopw [7, 8] (fun v i wr => ∃ k : Nat, k ≤ t.length ∧ i = .int .i64 k ∧ OV wr w.heap.size 2 v (ints (selG (contP leAll t (kn : Int)) (t.take k))) ∧ Below w.heap.size w wr)
      (fun _ i _ => t.length - (intOf i).toNat)
    case atStart => exact ⟨0, by omega, rfl, OV.new0 (w := w.drewN n1) (Nat.le_refl _), (belowD HB.out n1).alloc (Nat.le_refl _) _⟩
    case round =>
      obtain ⟨k, hk, rfl, ho, hb⟩ := hrel
      have hsz := hb.size
      by_cases hlt : k < t.length
      · obtain ⟨b, o, A1, c1, A2, c2, rfl, hcc1, hl1, hr1, hcc2, hl2, hr2⟩ := (h.below hb).at2 hlt hkn
        have hs := Lib.hid (selG_succ (contP leAll t (kn : Int)) t k hlt)
        have HL := Lib.hid (selG_len (contP leAll t (kn : Int)) (t.take k))
        have e := contP_at leAll t (k := k) hkn t[k]
        have hlen : t[k].length ≤ t[kn].length := by have g1 := HT.out k hlt; have g2 := HT.out kn hkn; omega
        have E := Lib.hid e; clear e
        have i0 : (0 : Int) ≤ (k : Int) := by omega
        have i1 : (k : Int) < (t.length : Int) := by omega
        have i2 : (0 : Int) ≤ (kn : Int) := by omega
        have i3 : (kn : Int) < (t.length : Int) := by omega
        have HO := Lib.hid ho; have HBB := Lib.hid hb
        by_cases hkk : k = kn
        · have hne : ((k : Int) != (kn : Int)) = false := by simp [hkk]
          have Hk := Lib.hid hkk; clear hkk
          go_wp2_with fail
          go_quiet (fail)
          go_wp2_with fail
          go_roundw
          case rel => exact ⟨k + 1, by omega, by go_num, by rw [hs.out, E.out, hne]; simpa using HO.out.drewN _, by first | exact belowD HBB.out _ | exact HBB.out⟩
          case measure => simp [intOf]; omega
        · have hne : ((k : Int) != (kn : Int)) = true := by simp; omega
          have Hk := Lib.hid hkk; clear hkk
          cases hp : leAll t[k] t[kn] with
          | false =>
            go_wp2_with fail
            go_quiet ((go_at_call 76; first | exact quietQA (l11In_any _ _ _ _ _ _ _ (hr1.drewN _) (hr2.drewN _) hlen) | exact quietQ (l11In_any _ _ _ _ _ _ _ (hr1.drewN _) (hr2.drewN _) hlen)))
            go_wp2_with fail
            go_roundw
            case rel => exact ⟨k + 1, by omega, by go_num, by rw [hs.out, E.out, hne, hp]; simpa using HO.out.drewN _, by first | exact belowD HBB.out _ | exact HBB.out⟩
            case measure => simp [intOf]; omega
          | true =>
            go_wp2_with fail
            go_quiet ((go_at_call 76; first | exact quietQA (l11In_any _ _ _ _ _ _ _ (hr1.drewN _) (hr2.drewN _) hlen) | exact quietQ (l11In_any _ _ _ _ _ _ _ (hr1.drewN _) (hr2.drewN _) hlen)))
            go_wp2_with (at_builtin; refine wpList_app1 _ rfl _ _ _ rfl w.heap.size 2 _ 8 Try.underlying22 info_int rfl (by omega) _ _ rfl ((HO.out.drewN _).alloc _) _ _ rfl (one_cell _ _ _) rfl (by rw [ints_length]; have := HL.out; simp at this; omega) (by simp; omega) ?_; intro v' w3 ho3 hg3 hn3 hat3)
            go_roundw
            case rel => exact ⟨k + 1, by omega, by go_num, by rw [hs.out, E.out, hne, hp, ints_append]; exact ho3, ((HO.out.drewN _).alloc _).own (Nat.le_refl _) ((belowD HBB.out _).alloc (by simp; omega) _) hg3 (by simp; omega)⟩
            case measure => simp [intOf]; omega
      · obtain rfl : k = t.length := by omega
        rw [List.take_length] at ho
        go_wp2_with fail
        go_ret2
        exact resIC_own HR.out ho (Nat.le_refl _) hb
set_option maxRecDepth 100000 in
set_option maxHeartbeats 2000000 in
theorem implContIn_any (A : Option Addr) (c : Nat) (t : List (List Int)) (key : Int) (w : World) (h : RII w A t) (hw : (Lit.int .i64 key).wf = true) :
    Calls Try.prog 40 #[.slice A t.length c, .int .i64 key] w (ResIC w (contIn leAll t key)) := by
  rw [← contIn_eq]
  have HB := Lib.hid ((Below.refl w.heap.size w).alloc (Nat.le_refl _) (.cells #[.int .i64 key] 2))
  have hkey : RI (w.alloc (.cells #[.int .i64 key] 2)) (some ⟨w.heap.size, 0, none⟩) [key] := RV.one _ _ _
  have CT := tableCode_any A (some ⟨w.heap.size, 0, none⟩) c 1 t [key] _ (h.alloc (.cells #[.int .i64 key] 2)) hkey
  simp only [List.length_singleton] at CT
  have HCT := Lib.hid CT; clear CT
  rcases tableCode_cases t [key] with hc | hc | hc
  rotate_left
  · have HR := Lib.hid (contIn_1 (q := isCont) hc)
    go_enter Try.func40, Try.ntmps40
    go_wp2_with (go_at_call 68; refine HCT.out.mono ?_; rintro e w1 ⟨rfl, rfl⟩)
    go_ret2
    exact resIC_nil HR.out HB.out
  · have HR := Lib.hid (contIn_2 (q := isCont) hc)
    go_enter Try.func40, Try.ntmps40
    go_wp2_with (go_at_call 68; refine HCT.out.mono ?_; rintro e w1 ⟨rfl, rfl⟩)
    go_ret2
    exact resIC_nil HR.out HB.out
  · obtain ⟨h1, hk0, hk1, hR⟩ := contIn_0 (q := isCont) hc
    have HR := Lib.hid hR; clear hR
    have hT := isTable_get h1
    have hT1 := hT.1; have hT2 := hT.2.1
    have HT := Lib.hid hT.2.2
    obtain ⟨kn, rfl⟩ := Int.eq_ofNat_of_zero_le hk0
    have hkn : kn < t.length := by omega
    clear hT h1
    go_enter Try.func40, Try.ntmps40
    go_wp2_with (go_at_call 68; refine HCT.out.mono ?_; rintro e w1 ⟨rfl, rfl⟩)
    go_loopw [7, 20] (fun v i wr => ∃ k : Nat, k ≤ t.length ∧ i = .int .i64 k ∧ OV wr w.heap.size 2 v (ints (selG (contP isCont t (kn : Int)) (t.take k))) ∧ Below w.heap.size w wr)
      (fun _ i _ => t.length - (intOf i).toNat)
    case atStart => exact ⟨0, by omega, rfl, by simpa [ints, selG] using OV.new0 (e := 2) (B := w.heap.size) (w := w.alloc (.cells #[.int .i64 (kn : Int)] 2)) (by simp), HB.out.alloc (by simp) _⟩
    case round =>
      obtain ⟨k, hk, rfl, ho, hb⟩ := hrel
      have hsz := hb.size
      by_cases hlt : k < t.length
      · obtain ⟨b, o, A1, c1, A2, c2, rfl, hcc1, hl1, hr1, hcc2, hl2, hr2⟩ := (h.below hb).at2 hlt hkn
        have hs := Lib.hid (selG_succ (contP isCont t (kn : Int)) t k hlt)
        have HL := Lib.hid (selG_len (contP isCont t (kn : Int)) (t.take k))
        have e := contP_at isCont t (k := k) hkn t[k]
        have hlen : t[k].length ≤ t[kn].length := by have g1 := HT.out k hlt; have g2 := HT.out kn hkn; omega
        have hlen2 : t[k].length ≤ 1073741824 := by have g1 := HT.out k hlt; omega
        have E := Lib.hid e; clear e
        have i2 : (0 : Int) ≤ (kn : Int) := by omega
        have i3 : (kn : Int) < (t.length : Int) := by omega
        have HO := Lib.hid ho; have HBB := Lib.hid hb
        by_cases hkk : k = kn
        · have hne : ((k : Int) != (kn : Int)) = false := by simp [hkk]
          have Hk := Lib.hid hkk; clear hkk
          go_wp2_with fail
          go_roundw
          case rel => exact ⟨k + 1, by omega, by go_num, by rw [hs.out, E.out, hne]; simpa using HO.out, HBB.out⟩
          case measure => simp [intOf]; omega
        · have hne : ((k : Int) != (kn : Int)) = true := by simp; omega
          have Hk := Lib.hid hkk; clear hkk
          cases hp : isCont t[k] t[kn] with
          | false =>
            go_wp2_with fail
            refine (isCont_any _ _ _ _ _ _ _ hr1 hr2 hlen hlen2).mono ?_
            rintro e w2 ⟨rfl, hb2⟩
            go_wp2_with fail
            go_roundw
            case rel => exact ⟨k + 1, by omega, by go_num, by rw [hs.out, E.out, hne, hp]; simpa using HO.out.below' hb2, HBB.out.trans (hb2.mono HBB.out.size)⟩
            case measure => simp [intOf]; omega
          | true =>
            go_wp2_with fail
            refine (isCont_any _ _ _ _ _ _ _ hr1 hr2 hlen hlen2).mono ?_
            rintro e w2 ⟨rfl, hb2⟩
            have HO2 := Lib.hid (HO.out.below' hb2)
            have HB2 := Lib.hid (HBB.out.trans (hb2.mono HBB.out.size))
            have hs2 := HB2.out.size
            go_wp2_with (at_builtin; refine wpList_app1 _ rfl _ _ _ rfl w.heap.size 2 _ 8 Try.underlying22 info_int rfl (by omega) _ _ rfl (HO2.out.alloc _) _ _ rfl (one_cell _ _ _) rfl (by rw [ints_length]; have := HL.out; simp at this; omega) (by simp; omega) ?_; intro v' w3 ho3 hg3 hn3 hat3)
            go_roundw
            case rel => exact ⟨k + 1, by omega, by go_num, by rw [hs.out, E.out, hne, hp, ints_append]; exact ho3, (HO2.out.alloc _).own (Nat.le_refl _) (HB2.out.alloc (by omega) _) hg3 (by simp; omega)⟩
            case measure => simp [intOf]; omega
      · obtain rfl : k = t.length := by omega
        rw [List.take_length] at ho
        go_wp2_with fail
        go_ret2
        exact resIC_own HR.out ho (Nat.le_refl _) hb
end Go.Proofs.Ytlpkcjnifbdfdaa
