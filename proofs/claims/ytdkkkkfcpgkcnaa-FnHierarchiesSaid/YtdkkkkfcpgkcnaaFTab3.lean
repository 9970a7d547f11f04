/- Contracts of IsHierarchical. -/
import Derived.Test.YtdkkkkfcpgkcnaaPTab
namespace Go.Proofs.Ytdkkkkfcpgkcnaa
set_option linter.unusedVariables false
open Go.RowKit
theorem leAll_refl (a : List Int) : leAll a a = true := by unfold leAll; rw [List.all_eq_true]; intro k _; simp
theorem hierPair_comm {a b : List Int} (h : a.length = b.length) : hierPair a b = hierPair b a := by
  unfold hierPair; rw [commonF_comm, h, Bool.or_comm (leAll a b)]
theorem hierF_bad {t : List (List Int)} (ht : isTable t = true) {i k : Nat} (hi : i < t.length) (hk : k < t.length) (h : hierPair t[i] t[k] = false) : hierF t = false := by
  have hT := isTable_get ht
  have low : ∀ i k (hi : i < t.length) (hk : k < i), hierPair t[i] t[k] = false → hierF t = false := by
    intro i k hi hk h
    unfold hierF
    refine rangeAll_bad hi (rangeAll_bad hk ?_)
    rw [tab_getD hi, tab_getD (show k < t.length by omega)]; exact h
  rcases Nat.lt_trichotomy k i with h1 | h1 | h1
  · exact low i k hi h1 h
  · subst h1; rw [hierPair, leAll_refl] at h; simp at h
  · refine low k i hk h1 ?_
    rw [hierPair_comm (by rw [(hT.2.2 k hk).1, (hT.2.2 i hi).1])]; exact h
theorem hierF_all {t : List (List Int)} (h : ∀ i k (hi : i < t.length) (hk : k < t.length), k < i → hierPair t[i] t[k] = true) : hierF t = true := by
  unfold hierF
  rw [List.all_eq_true]; intro i hi
  rw [List.all_eq_true]; intro k hk
  simp at hi hk
  rw [tab_getD hi, tab_getD (show k < t.length by omega)]
  exact h i k hi (by omega) hk
theorem hierR_no {t : List (List Int)} (h : isTable t = false) : hierR t = (false, 1) := by unfold hierR; rw [if_neg (by rw [h]; simp)]
theorem hierR_yes {t : List (List Int)} (h : isTable t = true) {b : Bool} (hb : hierF t = b) : hierR t = (b, 0) := by unfold hierR; rw [if_pos h, hb]
theorem hp_1 {a b : List Int} (h : leAll a b = true) : hierPair a b = true := by unfold hierPair; rw [h]; rfl
theorem hp_2 {a b : List Int} (h : leAll b a = true) : hierPair a b = true := by unfold hierPair; rw [h]; simp
theorem hp_3 {a b : List Int} (h1 : leAll a b = false) (h2 : leAll b a = false) : hierPair a b = decide ((commonF a b a.length).length = 0) := by unfold hierPair; rw [h1, h2]; rfl
set_option maxRecDepth 100000 in
set_option maxHeartbeats 4000000 in
theorem implHier_any (A : Option Addr) (c : Nat) (t : List (List Int)) (w : World) (h : RII w A t) :
    Calls Try.prog 14 #[.slice A t.length c] w (ResBC w (hierR t)) := by
  have HB := Lib.hid (Below.refl w.heap.size w)
  have hle := h.le
  have HE0 := tableCode_any A none c 0 t [] w h RI.nil
  simp only [List.length_nil] at HE0
  have HE := Lib.hid HE0; clear HE0
  have hT0 : isTable t = false → tableCode t [] = 1 := fun h => by unfold tableCode; rw [if_neg (by rw [h]; simp)]
  have hT1' : isTable t = true → tableCode t [] = 0 := fun h => by unfold tableCode; rw [if_pos h]; simp [allW]
  cases ht : isTable t with
  | false =>
    have HR := Lib.hid (hierR_no ht)
    rw [hT0 ht] at HE
    clear ht hT0 hT1'
    go_enter Try.func14, Try.ntmps14
    go_wp2_with fail
    refine HE.out.mono ?_
    rintro e w1 ⟨rfl, rfl⟩
    go_wp2_with fail
    go_ret2
    rw [HR.out]
    exact ⟨rfl, HB.out⟩
  | true =>
    rw [hT1' ht] at HE
    clear hT0 hT1'
    have HTT := Lib.hid ht
    have hT := isTable_get ht
    have HTL := Lib.hid (show ∀ i k (hi : i < t.length) (hk : k < t.length), t[i].length = t[k].length ∧ t[i].length ≤ 12 ∧ allW 0 1 t[i] = true ∧ allW 0 1 t[k] = true from fun i k hi hk => ⟨by rw [(hT.2.2 i hi).1, (hT.2.2 k hk).1], (hT.2.2 i hi).2.2.1, (hT.2.2 i hi).2.2.2, (hT.2.2 k hk).2.2.2⟩)
    have hT2 := hT.2.1
    clear ht hT
    go_enter Try.func14, Try.ntmps14
    go_wp2_with fail
    refine HE.out.mono ?_
    rintro e w1 ⟨rfl, rfl⟩
    go_wp2_with fail
    go_loopw [6, 8, 16, 22] (fun _ _ i _ wr => ∃ k : Nat, i = .int .i64 k ∧ k ≤ t.length ∧ Hid (∀ i' k' (hi : i' < t.length) (hk : k' < t.length), i' < k → hierPair t[i'] t[k'] = true) ∧ Below w.heap.size w wr) (fun _ _ i _ _ => t.length - (intOf i).toNat)
    case atStart => exact ⟨0, rfl, by omega, Lib.hid (fun i' k' _ _ h => by omega), HB.out⟩
    case round =>
      obtain ⟨i, rfl, hi, HA, hb⟩ := hrel
      obtain ⟨wo, rfl⟩ : ∃ wo : World, wo = wr := ⟨_, rfl⟩
      by_cases hlt : i < t.length
      · obtain ⟨bT, oT, A1, c1, rfl, hc1, hcc1, hr1⟩ := (h.below hb).at_ hlt
        have i0 : (0 : Int) ≤ (i : Int) := by omega
        have HR1 := Lib.hid hr1
        obtain ⟨a, ha⟩ : ∃ a, a = t[i] := ⟨_, rfl⟩
        rw [← ha] at hc1 hcc1 HR1
        have HAE := Lib.hid ha
        clear ha hr1
        go_wp2_with fail
        clear hc1
        go_loopw [8, 22] (fun _ j wx => ∃ k : Nat, j = .int .i64 k ∧ k ≤ t.length ∧ Hid (∀ k' (hk : k' < t.length), k' < k → hierPair t[i] t[k'] = true) ∧ Below wo.heap.size wo wx) (fun _ j _ => t.length - (intOf j).toNat)
        case atStart => exact ⟨0, rfl, by omega, Lib.hid (fun k' _ h => by omega), Below.refl _ _⟩
        case round =>
          obtain ⟨k, rfl, hk, HK, hbx⟩ := hrel
          have hsx := hbx.size
          have Bx := hb.trans (hbx.mono hb.size)
          by_cases hlt2 : k < t.length
          · obtain ⟨b', o', A2, c2, e, hc2, hcc2, hr2⟩ := (h.below Bx).at_ hlt2
            injection e with e; injection e with e1 e2; subst e1 e2
            have HL := Lib.hid (HTL.out i k hlt hlt2)
            have HP := Lib.hid (show ∀ hp : hierPair t[i] t[k] = true, Hid (∀ k' (hk : k' < t.length), k' < k + 1 → hierPair t[i] t[k'] = true) from fun hp => Lib.hid (fun k' hk' h => by
              rcases Nat.lt_or_ge k' k with h1 | h1
              · exact HK.out k' hk' h1
              · have : k' = k := by omega
                subst this; exact hp))
            have HF := Lib.hid (show ∀ hp : hierPair t[i] t[k] = false, hierR t = (false, 0) from fun hp => hierR_yes HTT.out (hierF_bad HTT.out hlt hlt2 hp))
            obtain ⟨b, hbk⟩ : ∃ b, b = t[k] := ⟨_, rfl⟩
            rw [← hbk] at hc2 hcc2 hr2 HL HP HF
            rw [← HAE.out] at HL HP HF
            have E1 := isCont_any A1 A2 c1 c2 a b wr (HR1.out.below hbx) hr2 (by rw [HL.out.1]; exact Nat.le_refl _) (by have := HL.out.2.1; omega)
            have E2 := fun W (hW : Below wr.heap.size wr W) => isCont_any A2 A1 c2 c1 b a W (hr2.below hW) (HR1.out.below (hbx.trans (hW.mono hsx))) (by rw [HL.out.1]; exact Nat.le_refl _) (by have := HL.out.2.1; have := HL.out.1; omega)
            have HE3 := Lib.hid (fun W (hW : Below wr.heap.size wr W) => inCommon_any A1 A2 c1 c2 a b W (HR1.out.below (hbx.trans (hW.mono hsx))) (hr2.below hW) (by rw [HL.out.1]; exact Nat.le_refl _) (by have := HL.out.2.1; omega))
            rw [isCont_eq HL.out.2.2.1 HL.out.2.2.2 HL.out.1 (by have := HL.out.2.1; omega)] at E1
            rw [isCont_eq HL.out.2.2.2 HL.out.2.2.1 HL.out.1.symm (by have := HL.out.2.1; have := HL.out.1; omega)] at E2
            have HE1 := Lib.hid E1; have HE2 := Lib.hid E2
            clear E1 E2 hr2 hbk
            cases hl1 : leAll a b with
            | true =>
              rw [hl1] at HE1
              have HX := HP.out (hp_1 hl1)
              clear hl1
              go_wp2_with fail
              refine HE1.out.mono ?_
              rintro e w2 ⟨rfl, hb2⟩
              go_wp2_with fail
              go_roundw
              case rel => exact ⟨k + 1, by go_num, by omega, by rw [← HAE.out]; exact HX, hbx.trans (hb2.mono hsx)⟩
              case measure => simp [intOf]; omega
            | false =>
              rw [hl1] at HE1
              cases hl2 : leAll b a with
              | true =>
                rw [hl2] at HE2
                have HX := HP.out (hp_2 hl2)
                clear hl1 hl2
                go_wp2_with fail
                refine HE1.out.mono ?_
                rintro e w2 ⟨rfl, hb2⟩
                go_wp2_with fail
                refine (HE2.out w2 hb2).mono ?_
                rintro e w3 ⟨rfl, hb3⟩
                go_wp2_with fail
                go_roundw
                case rel => exact ⟨k + 1, by go_num, by omega, by rw [← HAE.out]; exact HX, hbx.trans ((hb2.trans (hb3.mono hb2.size)).mono hsx)⟩
                case measure => simp [intOf]; omega
              | false =>
                rw [hl2] at HE2
                have hp3 := hp_3 hl1 hl2
                obtain ⟨cm, hcm⟩ : ∃ cm, cm = commonF a b a.length := ⟨_, rfl⟩
                rw [← hcm] at hp3 HE3
                clear hl1 hl2 hcm
                by_cases hz : 0 < cm.length
                · have hzz : (0 : Int) < (cm.length : Int) := by omega
                  have HX := Lib.hid (HF.out (by rw [hp3]; exact decide_eq_false (by omega)))
                  have hcne : cm ≠ [] := by rintro rfl; simp at hz
                  clear hp3
                  go_wp2_with fail
                  refine HE1.out.mono ?_
                  rintro e w2 ⟨rfl, hb2⟩
                  go_wp2_with fail
                  refine (HE2.out w2 hb2).mono ?_
                  rintro e w3 ⟨rfl, hb3⟩
                  have hb23 := hb2.trans (hb3.mono hb2.size)
                  go_wp2_with fail
                  refine (HE3.out w3 hb23).mono ?_
                  rintro e w4 ⟨A4, c4, rfl, hc4, hr4, ho4, hb4⟩
                  go_wp2_with fail
                  go_ret2
                  rw [HX.out]
                  exact ⟨rfl, Bx.trans ((hb23.trans (hb4.mono hb23.size)).mono Bx.size)⟩
                · have hzz : decide ((0 : Int) < (cm.length : Int)) = false := decide_eq_false (by omega)
                  have HX := HP.out (by rw [hp3]; exact decide_eq_true (by omega))
                  have hcn : cm = [] := List.length_eq_zero_iff.1 (by omega)
                  subst hcn
                  clear hp3
                  go_wp2_with fail
                  refine HE1.out.mono ?_
                  rintro e w2 ⟨rfl, hb2⟩
                  go_wp2_with fail
                  refine (HE2.out w2 hb2).mono ?_
                  rintro e w3 ⟨rfl, hb3⟩
                  have hb23 := hb2.trans (hb3.mono hb2.size)
                  go_wp2_with fail
                  refine (HE3.out w3 hb23).mono ?_
                  rintro e w4 ⟨A4, c4, rfl, hc4, hr4, ho4, hb4⟩
                  go_wp2_with fail
                  go_roundw
                  case rel => exact ⟨k + 1, by go_num, by omega, by rw [← HAE.out]; exact HX, hbx.trans ((hb23.trans (hb4.mono hb23.size)).mono hsx)⟩
                  case measure => simp [intOf]; omega
          · obtain rfl : k = t.length := by omega
            go_wp2_with fail
            go_roundw
            case rel => exact ⟨i + 1, by go_num, by omega, Lib.hid (fun i' k' hi' hk' hlt' => by
              rcases Nat.lt_or_ge i' i with h1 | h1
              · exact HA.out i' k' hi' hk' h1
              · have : i' = i := by omega
                subst this; exact HK.out k' hk' hk'), Bx⟩
            case measure => simp [intOf]; omega
      · obtain rfl : i = t.length := by omega
        have HR := Lib.hid (hierR_yes HTT.out (hierF_all fun i k hi hk _ => HA.out i k hi hk hi))
        go_wp2_with fail
        go_ret2
        rw [HR.out]
        exact ⟨rfl, hb⟩
set_option maxRecDepth 100000 in
set_option maxHeartbeats 4000000 in
theorem specHier_any (A : Option Addr) (c : Nat) (t : List (List Int)) (w : World) (h : RII w A t) :
    Calls Try.prog 15 #[.slice A t.length c] w (ResBC w (hierR t)) := by
  have HB := Lib.hid (Below.refl w.heap.size w)
  have hle := h.le
  have HE := Lib.hid (specIsTable_any A c t w h)
  cases ht : isTable t with
  | false =>
    have HR := Lib.hid (hierR_no ht)
    rw [ht] at HE
    clear ht
    go_enter Try.func15, Try.ntmps15
    go_wp2_with fail
    refine HE.out.mono ?_
    rintro e w1 ⟨rfl, n1, rfl⟩
    go_wp2_with fail
    go_ret2
    rw [HR.out]
    exact ⟨rfl, belowD HB.out _⟩
  | true =>
    rw [ht] at HE
    have HTT := Lib.hid ht
    have hT := isTable_get ht
    have HTL := Lib.hid (show ∀ i k (hi : i < t.length) (hk : k < t.length), t[i].length = t[k].length ∧ t[i].length ≤ 12 from fun i k hi hk => ⟨by rw [(hT.2.2 i hi).1, (hT.2.2 k hk).1], (hT.2.2 i hi).2.2.1⟩)
    have hT2 := hT.2.1
    clear ht hT
    go_enter Try.func15, Try.ntmps15
    go_wp2_with fail
    refine HE.out.mono ?_
    rintro e w1 ⟨rfl, n1, rfl⟩
    have HB1 := Lib.hid (belowD HB.out n1)
    generalize w.drewN n1 = w1 at *
    go_wp2_with fail
    go_loopw [4, 5] (fun i _ wr => ∃ k : Nat, i = .int .i64 k ∧ k ≤ t.length ∧ Hid (∀ i' k' (hi : i' < t.length) (hk : k' < t.length), k' < i' → i' < k → hierPair t[i'] t[k'] = true) ∧ Below w.heap.size w wr) (fun i _ _ => t.length - (intOf i).toNat)
    case atStart => exact ⟨0, rfl, by omega, Lib.hid (fun i' k' _ _ _ h => by omega), HB1.out⟩
    case round =>
      obtain ⟨i, rfl, hi, HA, hb⟩ := hrel
      obtain ⟨wo, rfl⟩ : ∃ wo : World, wo = wr := ⟨_, rfl⟩
      by_cases hlt : i < t.length
      · go_wp2_with fail
        go_loopw [5] (fun j wx => ∃ k : Nat, j = .int .i64 k ∧ k ≤ i ∧ Hid (∀ k' (hk : k' < t.length), k' < k → hierPair t[i] t[k'] = true) ∧ Below wo.heap.size wo wx) (fun j _ => i - (intOf j).toNat)
        case atStart => exact ⟨0, rfl, by omega, Lib.hid (fun k' _ h => by omega), Below.refl _ _⟩
        case round =>
          obtain ⟨k, rfl, hk, HK, hbx⟩ := hrel
          obtain ⟨wx, rfl⟩ : ∃ wx : World, wx = wr := ⟨_, rfl⟩
          have hsx := hbx.size
          have Bx := hb.trans (hbx.mono hb.size)
          by_cases hlt2 : k < i
          · have hkt : k < t.length := by omega
            have i0 : (0 : Int) ≤ (i : Int) := by omega
            have i1 : (i : Int) < (t.length : Int) := by omega
            have i2 : (0 : Int) ≤ (k : Int) := by omega
            have i3 : (k : Int) < (t.length : Int) := by omega
            have i4 : (k : Int) < (i : Int) := by omega
            obtain ⟨bT, oT, A1, c1, A2, c2, rfl, hc1, hcc1, hr1, hc2, hcc2, hr2⟩ := (h.below Bx).at2 hlt hkt
            have HL := Lib.hid (HTL.out i k hlt hkt)
            have HP := Lib.hid (show ∀ hp : hierPair t[i] t[k] = true, Hid (∀ k' (hk : k' < t.length), k' < k + 1 → hierPair t[i] t[k'] = true) from fun hp => Lib.hid (fun k' hk' h => by
              rcases Nat.lt_or_ge k' k with h1 | h1
              · exact HK.out k' hk' h1
              · have : k' = k := by omega
                subst this; exact hp))
            have HF := Lib.hid (show ∀ hp : hierPair t[i] t[k] = false, hierR t = (false, 0) from fun hp => hierR_yes HTT.out (hierF_bad HTT.out hlt hkt hp))
            obtain ⟨a, ha⟩ : ∃ a, a = t[i] := ⟨_, rfl⟩
            obtain ⟨b, hbk⟩ : ∃ b, b = t[k] := ⟨_, rfl⟩
            rw [← ha] at hc1 hcc1 hr1 HL HF HP
            rw [← hbk] at hc2 hcc2 hr2 HL HF HP
            have HAE := Lib.hid ha
            have hll : a.length ≤ b.length := by rw [HL.out.1]; exact Nat.le_refl _
            have hll2 : b.length ≤ a.length := by rw [HL.out.1]; exact Nat.le_refl _
            have ha12 : a.length ≤ 12 := HL.out.2
            clear ha hbk
            cases hl1 : leAll a b with
            | true =>
              have HX := HP.out (hp_1 hl1)
              go_wp2_with fail
              go_quiet ((go_at_call 97; first | exact quietQA (l11In_any _ _ _ _ a b _ (hr1.drewN _) (hr2.drewN _) hll) | exact quietQ (l11In_any _ _ _ _ a b _ (hr1.drewN _) (hr2.drewN _) hll) | exact quietQA (l11In_any _ _ _ _ b a _ (hr2.drewN _) (hr1.drewN _) hll2) | exact quietQ (l11In_any _ _ _ _ b a _ (hr2.drewN _) (hr1.drewN _) hll2)))
              go_wp2_with fail
              go_roundw
              case rel => exact ⟨k + 1, by go_num, by omega, by rw [← HAE.out]; exact HX, by first | exact belowD hbx _ | exact hbx⟩
              case measure => simp [intOf]; omega
            | false =>
              cases hl2 : leAll b a with
              | true =>
                have HX := HP.out (hp_2 hl2)
                have KS := Lib.hid (show ∀ w' : World, Below wx.heap.size wx w' → (w'.cell? ⟨bT, oT + i, none⟩ = some (.slice A1 a.length c1) ∧ w'.cell? ⟨bT, oT + k, none⟩ = some (.slice A2 b.length c2)) from fun w' hw => ⟨cell_in hw (World.block_lt_of_cell? wx _ hc1) hc1, cell_in hw (World.block_lt_of_cell? wx _ hc2) hc2⟩)
                have E1 := Lib.hid (fun W (hW : Below wx.heap.size wx W) => (by
                  have := l11In_any A1 A2 c1 c2 a b W (hr1.below hW) (hr2.below hW) hll
                  rw [hl1] at this
                  exact this.mono fun e w' ⟨h1, n, h2⟩ => ⟨h1, show Below wx.heap.size wx w' by rw [h2]; exact belowD hW n⟩ : Calls Try.prog 97 #[.slice A1 a.length c1, .slice A2 b.length c2] W fun e w' => e = .returned (.bool false) ∧ Below wx.heap.size wx w'))
                have E2 := Lib.hid (fun W (hW : Below wx.heap.size wx W) => (by
                  have := l11In_any A2 A1 c2 c1 b a W (hr2.below hW) (hr1.below hW) hll2
                  rw [hl2] at this
                  exact this.mono fun e w' ⟨h1, n, h2⟩ => ⟨h1, show Below wx.heap.size wx w' by rw [h2]; exact belowD hW n⟩ : Calls Try.prog 97 #[.slice A2 b.length c2, .slice A1 a.length c1] W fun e w' => e = .returned (.bool true) ∧ Below wx.heap.size wx w'))
                clear hl1 hl2 hc1 hc2 hr1 hr2
                go_wp2_with fail
                refine wp_region_held_drew (S := (fun w' => w'.cell? ⟨bT, oT + i, none⟩ = some (.slice A1 a.length c1) ∧ w'.cell? ⟨bT, oT + k, none⟩ = some (.slice A2 b.length c2))) (by kernel_rfl) (KS.out _ (belowDrew0 _)) (fun hHeld => ?_)
                refine takeD (i := 0) (some 20) (.slice (some ⟨bT, oT, none⟩) t.length c) rfl (by kernel_rfl) (by kernel_rfl) (by kernel_rfl) (by kernel_rfl) (fun _ _ _ h => h) (by assumption) (Or.inl ⟨by rfl, fun w hSw => by (try dsimp only at hSw); go_simp⟩) ?_
                simp only [Act.put, List.setIfInBounds_toArray, List.set_cons_zero, List.set_cons_succ]
                refine takeD (i := 1) (some 21) (.int .i64 (i : Int)) rfl (by kernel_rfl) (by kernel_rfl) (by kernel_rfl) (by kernel_rfl) (fun _ _ _ h => h) (by assumption) (Or.inl ⟨by rfl, fun w hSw => by (try dsimp only at hSw); go_simp⟩) ?_
                simp only [Act.put, List.setIfInBounds_toArray, List.set_cons_zero, List.set_cons_succ]
                refine takeD (i := 2) (some 22) (.pointer (some ⟨bT, oT + i, none⟩)) rfl (by kernel_rfl) (by kernel_rfl) (by kernel_rfl) (by kernel_rfl) (fun _ _ _ h => h) (by assumption) (Or.inl ⟨by rfl, fun w hSw => by (try dsimp only at hSw); go_simp⟩) ?_
                simp only [Act.put, List.setIfInBounds_toArray, List.set_cons_zero, List.set_cons_succ]
                refine takeD (i := 3) (some 23) (.slice A1 a.length c1) rfl (by kernel_rfl) (by kernel_rfl) (by kernel_rfl) (by kernel_rfl) (fun _ _ _ h => h) (by assumption) (Or.inl ⟨by rfl, fun w hSw => by (try dsimp only at hSw); go_simp⟩) ?_
                simp only [Act.put, List.setIfInBounds_toArray, List.set_cons_zero, List.set_cons_succ]
                refine takeD (i := 4) (some 24) (.slice (some ⟨bT, oT, none⟩) t.length c) rfl (by kernel_rfl) (by kernel_rfl) (by kernel_rfl) (by kernel_rfl) (fun _ _ _ h => h) (by assumption) (Or.inl ⟨by rfl, fun w hSw => by (try dsimp only at hSw); go_simp⟩) ?_
                simp only [Act.put, List.setIfInBounds_toArray, List.set_cons_zero, List.set_cons_succ]
                refine takeD (i := 5) (some 25) (.int .i64 (k : Int)) rfl (by kernel_rfl) (by kernel_rfl) (by kernel_rfl) (by kernel_rfl) (fun _ _ _ h => h) (by assumption) (Or.inl ⟨by rfl, fun w hSw => by (try dsimp only at hSw); go_simp⟩) ?_
                simp only [Act.put, List.setIfInBounds_toArray, List.set_cons_zero, List.set_cons_succ]
                refine takeD (i := 6) (some 26) (.pointer (some ⟨bT, oT + k, none⟩)) rfl (by kernel_rfl) (by kernel_rfl) (by kernel_rfl) (by kernel_rfl) (fun _ _ _ h => h) (by assumption) (Or.inl ⟨by rfl, fun w hSw => by (try dsimp only at hSw); go_simp⟩) ?_
                simp only [Act.put, List.setIfInBounds_toArray, List.set_cons_zero, List.set_cons_succ]
                refine takeD (i := 7) (some 27) (.slice A2 b.length c2) rfl (by kernel_rfl) (by kernel_rfl) (by kernel_rfl) (by kernel_rfl) (fun _ _ _ h => h) (by assumption) (Or.inl ⟨by rfl, fun w hSw => by (try dsimp only at hSw); go_simp⟩) ?_
                simp only [Act.put, List.setIfInBounds_toArray, List.set_cons_zero, List.set_cons_succ]
                refine wpAnyH_ready (rs := [8]) (by kernel_rfl) (by simp) (AllReadyH.cons rfl (fun K hK => ?_) AllReadyH.nil)
                go_simp
                refine (E1.out _ (belowDrew0 _)).mono ?_
                rintro e w2 ⟨rfl, b2⟩
                have HHeld := KS.out _ b2
                refine hK.out _ _ HHeld (fun _ => ?_)
                clear hK K
                try simp only [Act.put, List.setIfInBounds_toArray, List.set_cons_zero, List.set_cons_succ]
                refine takeD (i := 9) (some 29) (.bool true) rfl (by kernel_rfl) (by kernel_rfl) (by kernel_rfl) (by kernel_rfl) (fun _ _ _ h => h) (by assumption) (Or.inl ⟨by rfl, fun w hSw => by (try dsimp only at hSw); go_simp⟩) ?_
                simp only [Act.put, List.setIfInBounds_toArray, List.set_cons_zero, List.set_cons_succ]
                refine takeD (i := 10) (some 30) (.bool true) rfl (by kernel_rfl) (by kernel_rfl) (by kernel_rfl) (by kernel_rfl) (fun _ _ _ h => h) (by assumption) (Or.inl ⟨by rfl, fun w hSw => by (try dsimp only at hSw); go_simp⟩) ?_
                simp only [Act.put, List.setIfInBounds_toArray, List.set_cons_zero, List.set_cons_succ]
                refine takeD (i := 11) (some 31) (.slice (some ⟨bT, oT, none⟩) t.length c) rfl (by kernel_rfl) (by kernel_rfl) (by kernel_rfl) (by kernel_rfl) (fun _ _ _ h => h) (by assumption) (Or.inl ⟨by rfl, fun w hSw => by (try dsimp only at hSw); go_simp⟩) ?_
                simp only [Act.put, List.setIfInBounds_toArray, List.set_cons_zero, List.set_cons_succ]
                refine takeD (i := 12) (some 32) (.int .i64 (k : Int)) rfl (by kernel_rfl) (by kernel_rfl) (by kernel_rfl) (by kernel_rfl) (fun _ _ _ h => h) (by assumption) (Or.inl ⟨by rfl, fun w hSw => by (try dsimp only at hSw); go_simp⟩) ?_
                simp only [Act.put, List.setIfInBounds_toArray, List.set_cons_zero, List.set_cons_succ]
                refine takeD (i := 13) (some 33) (.pointer (some ⟨bT, oT + k, none⟩)) rfl (by kernel_rfl) (by kernel_rfl) (by kernel_rfl) (by kernel_rfl) (fun _ _ _ h => h) (by assumption) (Or.inl ⟨by rfl, fun w hSw => by (try dsimp only at hSw); go_simp⟩) ?_
                simp only [Act.put, List.setIfInBounds_toArray, List.set_cons_zero, List.set_cons_succ]
                refine takeD (i := 14) (some 34) (.slice A2 b.length c2) rfl (by kernel_rfl) (by kernel_rfl) (by kernel_rfl) (by kernel_rfl) (fun _ _ _ h => h) (by assumption) (Or.inl ⟨by rfl, fun w hSw => by (try dsimp only at hSw); go_simp⟩) ?_
                simp only [Act.put, List.setIfInBounds_toArray, List.set_cons_zero, List.set_cons_succ]
                refine takeD (i := 15) (some 35) (.slice (some ⟨bT, oT, none⟩) t.length c) rfl (by kernel_rfl) (by kernel_rfl) (by kernel_rfl) (by kernel_rfl) (fun _ _ _ h => h) (by assumption) (Or.inl ⟨by rfl, fun w hSw => by (try dsimp only at hSw); go_simp⟩) ?_
                simp only [Act.put, List.setIfInBounds_toArray, List.set_cons_zero, List.set_cons_succ]
                refine takeD (i := 16) (some 36) (.int .i64 (i : Int)) rfl (by kernel_rfl) (by kernel_rfl) (by kernel_rfl) (by kernel_rfl) (fun _ _ _ h => h) (by assumption) (Or.inl ⟨by rfl, fun w hSw => by (try dsimp only at hSw); go_simp⟩) ?_
                simp only [Act.put, List.setIfInBounds_toArray, List.set_cons_zero, List.set_cons_succ]
                refine takeD (i := 17) (some 37) (.pointer (some ⟨bT, oT + i, none⟩)) rfl (by kernel_rfl) (by kernel_rfl) (by kernel_rfl) (by kernel_rfl) (fun _ _ _ h => h) (by assumption) (Or.inl ⟨by rfl, fun w hSw => by (try dsimp only at hSw); go_simp⟩) ?_
                simp only [Act.put, List.setIfInBounds_toArray, List.set_cons_zero, List.set_cons_succ]
                refine takeD (i := 18) (some 38) (.slice A1 a.length c1) rfl (by kernel_rfl) (by kernel_rfl) (by kernel_rfl) (by kernel_rfl) (fun _ _ _ h => h) (by assumption) (Or.inl ⟨by rfl, fun w hSw => by (try dsimp only at hSw); go_simp⟩) ?_
                simp only [Act.put, List.setIfInBounds_toArray, List.set_cons_zero, List.set_cons_succ]
                refine wpAnyH_ready (rs := [19]) (by kernel_rfl) (by simp) (AllReadyH.cons rfl (fun K hK => ?_) AllReadyH.nil)
                go_simp
                refine (E2.out _ b2).mono ?_
                rintro e w3 ⟨rfl, b3⟩
                have HHeld := KS.out _ b3
                refine hK.out _ _ HHeld (fun _ => ?_)
                clear hK K
                try simp only [Act.put, List.setIfInBounds_toArray, List.set_cons_zero, List.set_cons_succ]
                refine takeD (i := 20) (some 40) (.bool false) rfl (by kernel_rfl) (by kernel_rfl) (by kernel_rfl) (by kernel_rfl) (fun _ _ _ h => h) (by assumption) (Or.inl ⟨by rfl, fun w hSw => by (try dsimp only at hSw); go_simp⟩) ?_
                simp only [Act.put, List.setIfInBounds_toArray, List.set_cons_zero, List.set_cons_succ]
                refine takeD (i := 21) (some 41) (.bool false) rfl (by kernel_rfl) (by kernel_rfl) (by kernel_rfl) (by kernel_rfl) (fun _ _ _ h => h) (by assumption) (Or.inl ⟨by rfl, fun w hSw => by (try dsimp only at hSw); go_simp⟩) ?_
                simp only [Act.put, List.setIfInBounds_toArray, List.set_cons_zero, List.set_cons_succ]
                refine takeD (i := 22) (some 42) (.bool false) rfl (by kernel_rfl) (by kernel_rfl) (by kernel_rfl) (by kernel_rfl) (fun _ _ _ h => h) (by assumption) (Or.inl ⟨by rfl, fun w hSw => by (try dsimp only at hSw); go_simp⟩) ?_
                simp only [Act.put, List.setIfInBounds_toArray, List.set_cons_zero, List.set_cons_succ]
                refine skipD (i := 23) (some 43) rfl (by kernel_rfl) (by kernel_rfl) (by kernel_rfl) (by kernel_rfl) (fun _ _ _ h => h) (by assumption) (by kernel_rfl) ?_
                simp only [Act.put, List.setIfInBounds_toArray, List.set_cons_zero, List.set_cons_succ]
                refine skipD (i := 24) (some 44) rfl (by kernel_rfl) (by kernel_rfl) (by kernel_rfl) (by kernel_rfl) (fun _ _ _ h => h) (by assumption) (by kernel_rfl) ?_
                simp only [Act.put, List.setIfInBounds_toArray, List.set_cons_zero, List.set_cons_succ]
                refine skipD (i := 25) (some 45) rfl (by kernel_rfl) (by kernel_rfl) (by kernel_rfl) (by kernel_rfl) (fun _ _ _ h => h) (by assumption) (by kernel_rfl) ?_
                simp only [Act.put, List.setIfInBounds_toArray, List.set_cons_zero, List.set_cons_succ]
                refine skipD (i := 26) (some 46) rfl (by kernel_rfl) (by kernel_rfl) (by kernel_rfl) (by kernel_rfl) (fun _ _ _ h => h) (by assumption) (by kernel_rfl) ?_
                simp only [Act.put, List.setIfInBounds_toArray, List.set_cons_zero, List.set_cons_succ]
                refine skipD (i := 27) (some 47) rfl (by kernel_rfl) (by kernel_rfl) (by kernel_rfl) (by kernel_rfl) (fun _ _ _ h => h) (by assumption) (by kernel_rfl) ?_
                simp only [Act.put, List.setIfInBounds_toArray, List.set_cons_zero, List.set_cons_succ]
                refine skipD (i := 28) (some 48) rfl (by kernel_rfl) (by kernel_rfl) (by kernel_rfl) (by kernel_rfl) (fun _ _ _ h => h) (by assumption) (by kernel_rfl) ?_
                simp only [Act.put, List.setIfInBounds_toArray, List.set_cons_zero, List.set_cons_succ]
                refine skipD (i := 29) (some 49) rfl (by kernel_rfl) (by kernel_rfl) (by kernel_rfl) (by kernel_rfl) (fun _ _ _ h => h) (by assumption) (by kernel_rfl) ?_
                simp only [Act.put, List.setIfInBounds_toArray, List.set_cons_zero, List.set_cons_succ]
                refine skipD (i := 30) (some 50) rfl (by kernel_rfl) (by kernel_rfl) (by kernel_rfl) (by kernel_rfl) (fun _ _ _ h => h) (by assumption) (by kernel_rfl) ?_
                simp only [Act.put, List.setIfInBounds_toArray, List.set_cons_zero, List.set_cons_succ]
                refine skipD (i := 31) (some 51) rfl (by kernel_rfl) (by kernel_rfl) (by kernel_rfl) (by kernel_rfl) (fun _ _ _ h => h) (by assumption) (by kernel_rfl) ?_
                simp only [Act.put, List.setIfInBounds_toArray, List.set_cons_zero, List.set_cons_succ]
                refine skipD (i := 32) (some 52) rfl (by kernel_rfl) (by kernel_rfl) (by kernel_rfl) (by kernel_rfl) (fun _ _ _ h => h) (by assumption) (by kernel_rfl) ?_
                simp only [Act.put, List.setIfInBounds_toArray, List.set_cons_zero, List.set_cons_succ]
                refine skipD (i := 33) (some 53) rfl (by kernel_rfl) (by kernel_rfl) (by kernel_rfl) (by kernel_rfl) (fun _ _ _ h => h) (by assumption) (by kernel_rfl) ?_
                simp only [Act.put, List.setIfInBounds_toArray, List.set_cons_zero, List.set_cons_succ]
                refine takeD (i := 34) (some 54) (.bool false) rfl (by kernel_rfl) (by kernel_rfl) (by kernel_rfl) (by kernel_rfl) (fun _ _ _ h => h) (by assumption) (Or.inl ⟨by rfl, fun w hSw => by (try dsimp only at hSw); go_simp⟩) ?_
                simp only [Act.put, List.setIfInBounds_toArray, List.set_cons_zero, List.set_cons_succ]
                refine wpAnyH_done (by kernel_rfl) ?_ _
                go_wp2_with fail
                go_roundw
                case rel => exact ⟨k + 1, by go_num, by omega, by rw [← HAE.out]; exact HX, hbx.trans (b3.mono hsx)⟩
                case measure => simp [intOf]; omega
              | false =>
                have hp3 := hp_3 hl1 hl2
                have KS := Lib.hid (show ∀ w' : World, Below wx.heap.size wx w' → (w'.cell? ⟨bT, oT + i, none⟩ = some (.slice A1 a.length c1) ∧ w'.cell? ⟨bT, oT + k, none⟩ = some (.slice A2 b.length c2)) from fun w' hw => ⟨cell_in hw (World.block_lt_of_cell? wx _ hc1) hc1, cell_in hw (World.block_lt_of_cell? wx _ hc2) hc2⟩)
                have E1 := Lib.hid (fun W (hW : Below wx.heap.size wx W) => (by
                  have := l11In_any A1 A2 c1 c2 a b W (hr1.below hW) (hr2.below hW) hll
                  rw [hl1] at this
                  exact this.mono fun e w' ⟨h1, n, h2⟩ => ⟨h1, show Below wx.heap.size wx w' by rw [h2]; exact belowD hW n⟩ : Calls Try.prog 97 #[.slice A1 a.length c1, .slice A2 b.length c2] W fun e w' => e = .returned (.bool false) ∧ Below wx.heap.size wx w'))
                have E2 := Lib.hid (fun W (hW : Below wx.heap.size wx W) => (by
                  have := l11In_any A2 A1 c2 c1 b a W (hr2.below hW) (hr1.below hW) hll2
                  rw [hl2] at this
                  exact this.mono fun e w' ⟨h1, n, h2⟩ => ⟨h1, show Below wx.heap.size wx w' by rw [h2]; exact belowD hW n⟩ : Calls Try.prog 97 #[.slice A2 b.length c2, .slice A1 a.length c1] W fun e w' => e = .returned (.bool false) ∧ Below wx.heap.size wx w'))
                obtain ⟨cm, hcm⟩ : ∃ cm, cm = commonF a b a.length := ⟨_, rfl⟩
                have E3 := Lib.hid (fun W (hW : Below wx.heap.size wx W) => (by
                  have := l11Common_any A1 A2 c1 c2 a b W (hr1.below hW) (hr2.below hW) hll (by omega)
                  rw [← hcm] at this
                  exact this.mono fun e w' ⟨A', c', h1, h2, h3, h4, h5⟩ => ⟨A', c', h1, hW.trans (h5.mono hW.size)⟩ : Calls Try.prog 98 #[.slice A1 a.length c1, .slice A2 b.length c2] W fun e w' => ∃ A' c', e = .returned (.slice A' cm.length c') ∧ Below wx.heap.size wx w'))
                rw [← hcm] at hp3
                clear hl1 hl2 hcm hc1 hc2 hr1 hr2
                by_cases hz : 0 < cm.length
                · have hzz : (0 : Int) < (cm.length : Int) := by omega
                  have HX := Lib.hid (HF.out (by rw [hp3]; exact decide_eq_false (by omega)))
                  have hcne : cm ≠ [] := by rintro rfl; simp at hz
                  clear hp3
                  go_wp2_with fail
                  refine wp_region_held_drew (S := (fun w' => w'.cell? ⟨bT, oT + i, none⟩ = some (.slice A1 a.length c1) ∧ w'.cell? ⟨bT, oT + k, none⟩ = some (.slice A2 b.length c2))) (by kernel_rfl) (KS.out _ (belowDrew0 _)) (fun hHeld => ?_)
                  refine takeD (i := 0) (some 20) (.slice (some ⟨bT, oT, none⟩) t.length c) rfl (by kernel_rfl) (by kernel_rfl) (by kernel_rfl) (by kernel_rfl) (fun _ _ _ h => h) (by assumption) (Or.inl ⟨by rfl, fun w hSw => by (try dsimp only at hSw); go_simp⟩) ?_
                  simp only [Act.put, List.setIfInBounds_toArray, List.set_cons_zero, List.set_cons_succ]
                  refine takeD (i := 1) (some 21) (.int .i64 (i : Int)) rfl (by kernel_rfl) (by kernel_rfl) (by kernel_rfl) (by kernel_rfl) (fun _ _ _ h => h) (by assumption) (Or.inl ⟨by rfl, fun w hSw => by (try dsimp only at hSw); go_simp⟩) ?_
                  simp only [Act.put, List.setIfInBounds_toArray, List.set_cons_zero, List.set_cons_succ]
                  refine takeD (i := 2) (some 22) (.pointer (some ⟨bT, oT + i, none⟩)) rfl (by kernel_rfl) (by kernel_rfl) (by kernel_rfl) (by kernel_rfl) (fun _ _ _ h => h) (by assumption) (Or.inl ⟨by rfl, fun w hSw => by (try dsimp only at hSw); go_simp⟩) ?_
                  simp only [Act.put, List.setIfInBounds_toArray, List.set_cons_zero, List.set_cons_succ]
                  refine takeD (i := 3) (some 23) (.slice A1 a.length c1) rfl (by kernel_rfl) (by kernel_rfl) (by kernel_rfl) (by kernel_rfl) (fun _ _ _ h => h) (by assumption) (Or.inl ⟨by rfl, fun w hSw => by (try dsimp only at hSw); go_simp⟩) ?_
                  simp only [Act.put, List.setIfInBounds_toArray, List.set_cons_zero, List.set_cons_succ]
                  refine takeD (i := 4) (some 24) (.slice (some ⟨bT, oT, none⟩) t.length c) rfl (by kernel_rfl) (by kernel_rfl) (by kernel_rfl) (by kernel_rfl) (fun _ _ _ h => h) (by assumption) (Or.inl ⟨by rfl, fun w hSw => by (try dsimp only at hSw); go_simp⟩) ?_
                  simp only [Act.put, List.setIfInBounds_toArray, List.set_cons_zero, List.set_cons_succ]
                  refine takeD (i := 5) (some 25) (.int .i64 (k : Int)) rfl (by kernel_rfl) (by kernel_rfl) (by kernel_rfl) (by kernel_rfl) (fun _ _ _ h => h) (by assumption) (Or.inl ⟨by rfl, fun w hSw => by (try dsimp only at hSw); go_simp⟩) ?_
                  simp only [Act.put, List.setIfInBounds_toArray, List.set_cons_zero, List.set_cons_succ]
                  refine takeD (i := 6) (some 26) (.pointer (some ⟨bT, oT + k, none⟩)) rfl (by kernel_rfl) (by kernel_rfl) (by kernel_rfl) (by kernel_rfl) (fun _ _ _ h => h) (by assumption) (Or.inl ⟨by rfl, fun w hSw => by (try dsimp only at hSw); go_simp⟩) ?_
                  simp only [Act.put, List.setIfInBounds_toArray, List.set_cons_zero, List.set_cons_succ]
                  refine takeD (i := 7) (some 27) (.slice A2 b.length c2) rfl (by kernel_rfl) (by kernel_rfl) (by kernel_rfl) (by kernel_rfl) (fun _ _ _ h => h) (by assumption) (Or.inl ⟨by rfl, fun w hSw => by (try dsimp only at hSw); go_simp⟩) ?_
                  simp only [Act.put, List.setIfInBounds_toArray, List.set_cons_zero, List.set_cons_succ]
                  refine wpAnyH_ready (rs := [8]) (by kernel_rfl) (by simp) (AllReadyH.cons rfl (fun K hK => ?_) AllReadyH.nil)
                  go_simp
                  refine (E1.out _ (belowDrew0 _)).mono ?_
                  rintro e w2 ⟨rfl, b2⟩
                  have HHeld := KS.out _ b2
                  refine hK.out _ _ HHeld (fun _ => ?_)
                  clear hK K
                  try simp only [Act.put, List.setIfInBounds_toArray, List.set_cons_zero, List.set_cons_succ]
                  refine takeD (i := 9) (some 29) (.bool true) rfl (by kernel_rfl) (by kernel_rfl) (by kernel_rfl) (by kernel_rfl) (fun _ _ _ h => h) (by assumption) (Or.inl ⟨by rfl, fun w hSw => by (try dsimp only at hSw); go_simp⟩) ?_
                  simp only [Act.put, List.setIfInBounds_toArray, List.set_cons_zero, List.set_cons_succ]
                  refine takeD (i := 10) (some 30) (.bool true) rfl (by kernel_rfl) (by kernel_rfl) (by kernel_rfl) (by kernel_rfl) (fun _ _ _ h => h) (by assumption) (Or.inl ⟨by rfl, fun w hSw => by (try dsimp only at hSw); go_simp⟩) ?_
                  simp only [Act.put, List.setIfInBounds_toArray, List.set_cons_zero, List.set_cons_succ]
                  refine takeD (i := 11) (some 31) (.slice (some ⟨bT, oT, none⟩) t.length c) rfl (by kernel_rfl) (by kernel_rfl) (by kernel_rfl) (by kernel_rfl) (fun _ _ _ h => h) (by assumption) (Or.inl ⟨by rfl, fun w hSw => by (try dsimp only at hSw); go_simp⟩) ?_
                  simp only [Act.put, List.setIfInBounds_toArray, List.set_cons_zero, List.set_cons_succ]
                  refine takeD (i := 12) (some 32) (.int .i64 (k : Int)) rfl (by kernel_rfl) (by kernel_rfl) (by kernel_rfl) (by kernel_rfl) (fun _ _ _ h => h) (by assumption) (Or.inl ⟨by rfl, fun w hSw => by (try dsimp only at hSw); go_simp⟩) ?_
                  simp only [Act.put, List.setIfInBounds_toArray, List.set_cons_zero, List.set_cons_succ]
                  refine takeD (i := 13) (some 33) (.pointer (some ⟨bT, oT + k, none⟩)) rfl (by kernel_rfl) (by kernel_rfl) (by kernel_rfl) (by kernel_rfl) (fun _ _ _ h => h) (by assumption) (Or.inl ⟨by rfl, fun w hSw => by (try dsimp only at hSw); go_simp⟩) ?_
                  simp only [Act.put, List.setIfInBounds_toArray, List.set_cons_zero, List.set_cons_succ]
                  refine takeD (i := 14) (some 34) (.slice A2 b.length c2) rfl (by kernel_rfl) (by kernel_rfl) (by kernel_rfl) (by kernel_rfl) (fun _ _ _ h => h) (by assumption) (Or.inl ⟨by rfl, fun w hSw => by (try dsimp only at hSw); go_simp⟩) ?_
                  simp only [Act.put, List.setIfInBounds_toArray, List.set_cons_zero, List.set_cons_succ]
                  refine takeD (i := 15) (some 35) (.slice (some ⟨bT, oT, none⟩) t.length c) rfl (by kernel_rfl) (by kernel_rfl) (by kernel_rfl) (by kernel_rfl) (fun _ _ _ h => h) (by assumption) (Or.inl ⟨by rfl, fun w hSw => by (try dsimp only at hSw); go_simp⟩) ?_
                  simp only [Act.put, List.setIfInBounds_toArray, List.set_cons_zero, List.set_cons_succ]
                  refine takeD (i := 16) (some 36) (.int .i64 (i : Int)) rfl (by kernel_rfl) (by kernel_rfl) (by kernel_rfl) (by kernel_rfl) (fun _ _ _ h => h) (by assumption) (Or.inl ⟨by rfl, fun w hSw => by (try dsimp only at hSw); go_simp⟩) ?_
                  simp only [Act.put, List.setIfInBounds_toArray, List.set_cons_zero, List.set_cons_succ]
                  refine takeD (i := 17) (some 37) (.pointer (some ⟨bT, oT + i, none⟩)) rfl (by kernel_rfl) (by kernel_rfl) (by kernel_rfl) (by kernel_rfl) (fun _ _ _ h => h) (by assumption) (Or.inl ⟨by rfl, fun w hSw => by (try dsimp only at hSw); go_simp⟩) ?_
                  simp only [Act.put, List.setIfInBounds_toArray, List.set_cons_zero, List.set_cons_succ]
                  refine takeD (i := 18) (some 38) (.slice A1 a.length c1) rfl (by kernel_rfl) (by kernel_rfl) (by kernel_rfl) (by kernel_rfl) (fun _ _ _ h => h) (by assumption) (Or.inl ⟨by rfl, fun w hSw => by (try dsimp only at hSw); go_simp⟩) ?_
                  simp only [Act.put, List.setIfInBounds_toArray, List.set_cons_zero, List.set_cons_succ]
                  refine wpAnyH_ready (rs := [19]) (by kernel_rfl) (by simp) (AllReadyH.cons rfl (fun K hK => ?_) AllReadyH.nil)
                  go_simp
                  refine (E2.out _ b2).mono ?_
                  rintro e w3 ⟨rfl, b3⟩
                  have HHeld := KS.out _ b3
                  refine hK.out _ _ HHeld (fun _ => ?_)
                  clear hK K
                  try simp only [Act.put, List.setIfInBounds_toArray, List.set_cons_zero, List.set_cons_succ]
                  refine takeD (i := 20) (some 40) (.bool true) rfl (by kernel_rfl) (by kernel_rfl) (by kernel_rfl) (by kernel_rfl) (fun _ _ _ h => h) (by assumption) (Or.inl ⟨by rfl, fun w hSw => by (try dsimp only at hSw); go_simp⟩) ?_
                  simp only [Act.put, List.setIfInBounds_toArray, List.set_cons_zero, List.set_cons_succ]
                  refine takeD (i := 21) (some 41) (.bool true) rfl (by kernel_rfl) (by kernel_rfl) (by kernel_rfl) (by kernel_rfl) (fun _ _ _ h => h) (by assumption) (Or.inl ⟨by rfl, fun w hSw => by (try dsimp only at hSw); go_simp⟩) ?_
                  simp only [Act.put, List.setIfInBounds_toArray, List.set_cons_zero, List.set_cons_succ]
                  refine takeD (i := 22) (some 42) (.bool true) rfl (by kernel_rfl) (by kernel_rfl) (by kernel_rfl) (by kernel_rfl) (fun _ _ _ h => h) (by assumption) (Or.inl ⟨by rfl, fun w hSw => by (try dsimp only at hSw); go_simp⟩) ?_
                  simp only [Act.put, List.setIfInBounds_toArray, List.set_cons_zero, List.set_cons_succ]
                  refine takeD (i := 23) (some 43) (.slice (some ⟨bT, oT, none⟩) t.length c) rfl (by kernel_rfl) (by kernel_rfl) (by kernel_rfl) (by kernel_rfl) (fun _ _ _ h => h) (by assumption) (Or.inl ⟨by rfl, fun w hSw => by (try dsimp only at hSw); go_simp⟩) ?_
                  simp only [Act.put, List.setIfInBounds_toArray, List.set_cons_zero, List.set_cons_succ]
                  refine takeD (i := 24) (some 44) (.int .i64 (i : Int)) rfl (by kernel_rfl) (by kernel_rfl) (by kernel_rfl) (by kernel_rfl) (fun _ _ _ h => h) (by assumption) (Or.inl ⟨by rfl, fun w hSw => by (try dsimp only at hSw); go_simp⟩) ?_
                  simp only [Act.put, List.setIfInBounds_toArray, List.set_cons_zero, List.set_cons_succ]
                  refine takeD (i := 25) (some 45) (.pointer (some ⟨bT, oT + i, none⟩)) rfl (by kernel_rfl) (by kernel_rfl) (by kernel_rfl) (by kernel_rfl) (fun _ _ _ h => h) (by assumption) (Or.inl ⟨by rfl, fun w hSw => by (try dsimp only at hSw); go_simp⟩) ?_
                  simp only [Act.put, List.setIfInBounds_toArray, List.set_cons_zero, List.set_cons_succ]
                  refine takeD (i := 26) (some 46) (.slice A1 a.length c1) rfl (by kernel_rfl) (by kernel_rfl) (by kernel_rfl) (by kernel_rfl) (fun _ _ _ h => h) (by assumption) (Or.inl ⟨by rfl, fun w hSw => by (try dsimp only at hSw); go_simp⟩) ?_
                  simp only [Act.put, List.setIfInBounds_toArray, List.set_cons_zero, List.set_cons_succ]
                  refine takeD (i := 27) (some 47) (.slice (some ⟨bT, oT, none⟩) t.length c) rfl (by kernel_rfl) (by kernel_rfl) (by kernel_rfl) (by kernel_rfl) (fun _ _ _ h => h) (by assumption) (Or.inl ⟨by rfl, fun w hSw => by (try dsimp only at hSw); go_simp⟩) ?_
                  simp only [Act.put, List.setIfInBounds_toArray, List.set_cons_zero, List.set_cons_succ]
                  refine takeD (i := 28) (some 48) (.int .i64 (k : Int)) rfl (by kernel_rfl) (by kernel_rfl) (by kernel_rfl) (by kernel_rfl) (fun _ _ _ h => h) (by assumption) (Or.inl ⟨by rfl, fun w hSw => by (try dsimp only at hSw); go_simp⟩) ?_
                  simp only [Act.put, List.setIfInBounds_toArray, List.set_cons_zero, List.set_cons_succ]
                  refine takeD (i := 29) (some 49) (.pointer (some ⟨bT, oT + k, none⟩)) rfl (by kernel_rfl) (by kernel_rfl) (by kernel_rfl) (by kernel_rfl) (fun _ _ _ h => h) (by assumption) (Or.inl ⟨by rfl, fun w hSw => by (try dsimp only at hSw); go_simp⟩) ?_
                  simp only [Act.put, List.setIfInBounds_toArray, List.set_cons_zero, List.set_cons_succ]
                  refine takeD (i := 30) (some 50) (.slice A2 b.length c2) rfl (by kernel_rfl) (by kernel_rfl) (by kernel_rfl) (by kernel_rfl) (fun _ _ _ h => h) (by assumption) (Or.inl ⟨by rfl, fun w hSw => by (try dsimp only at hSw); go_simp⟩) ?_
                  simp only [Act.put, List.setIfInBounds_toArray, List.set_cons_zero, List.set_cons_succ]
                  refine wpAnyH_ready (rs := [31]) (by kernel_rfl) (by simp) (AllReadyH.cons rfl (fun K hK => ?_) AllReadyH.nil)
                  go_simp
                  refine (E3.out _ b3).mono ?_
                  rintro e w4 ⟨A4, c4, rfl, b4⟩
                  have HHeld := KS.out _ b4
                  refine hK.out _ _ HHeld (fun _ => ?_)
                  clear hK K
                  try simp only [Act.put, List.setIfInBounds_toArray, List.set_cons_zero, List.set_cons_succ]
                  refine takeD (i := 32) (some 52) (.int .i64 (cm.length : Int)) rfl (by kernel_rfl) (by kernel_rfl) (by kernel_rfl) (by kernel_rfl) (fun _ _ _ h => h) (by assumption) (Or.inl ⟨by rfl, fun w hSw => by (try dsimp only at hSw); go_simp⟩) ?_
                  simp only [Act.put, List.setIfInBounds_toArray, List.set_cons_zero, List.set_cons_succ]
                  refine takeD (i := 33) (some 53) (.bool true) rfl (by kernel_rfl) (by kernel_rfl) (by kernel_rfl) (by kernel_rfl) (fun _ _ _ h => h) (by assumption) (Or.inl ⟨by rfl, fun w hSw => by (try dsimp only at hSw); go_simp⟩) ?_
                  simp only [Act.put, List.setIfInBounds_toArray, List.set_cons_zero, List.set_cons_succ]
                  refine takeD (i := 34) (some 54) (.bool true) rfl (by kernel_rfl) (by kernel_rfl) (by kernel_rfl) (by kernel_rfl) (fun _ _ _ h => h) (by assumption) (Or.inl ⟨by rfl, fun w hSw => by (try dsimp only at hSw); go_simp⟩) ?_
                  simp only [Act.put, List.setIfInBounds_toArray, List.set_cons_zero, List.set_cons_succ]
                  refine wpAnyH_done (by kernel_rfl) ?_ _
                  go_wp2_with fail
                  go_ret2
                  rw [HX.out]
                  exact ⟨rfl, Bx.trans (b4.mono Bx.size)⟩
                · have hzz : decide ((0 : Int) < (cm.length : Int)) = false := decide_eq_false (by omega)
                  have HX := HP.out (by rw [hp3]; exact decide_eq_true (by omega))
                  have hcn : cm = [] := List.length_eq_zero_iff.1 (by omega)
                  subst hcn
                  clear hp3
                  go_wp2_with fail
                  refine wp_region_held_drew (S := (fun w' => w'.cell? ⟨bT, oT + i, none⟩ = some (.slice A1 a.length c1) ∧ w'.cell? ⟨bT, oT + k, none⟩ = some (.slice A2 b.length c2))) (by kernel_rfl) (KS.out _ (belowDrew0 _)) (fun hHeld => ?_)
                  refine takeD (i := 0) (some 20) (.slice (some ⟨bT, oT, none⟩) t.length c) rfl (by kernel_rfl) (by kernel_rfl) (by kernel_rfl) (by kernel_rfl) (fun _ _ _ h => h) (by assumption) (Or.inl ⟨by rfl, fun w hSw => by (try dsimp only at hSw); go_simp⟩) ?_
                  simp only [Act.put, List.setIfInBounds_toArray, List.set_cons_zero, List.set_cons_succ]
                  refine takeD (i := 1) (some 21) (.int .i64 (i : Int)) rfl (by kernel_rfl) (by kernel_rfl) (by kernel_rfl) (by kernel_rfl) (fun _ _ _ h => h) (by assumption) (Or.inl ⟨by rfl, fun w hSw => by (try dsimp only at hSw); go_simp⟩) ?_
                  simp only [Act.put, List.setIfInBounds_toArray, List.set_cons_zero, List.set_cons_succ]
                  refine takeD (i := 2) (some 22) (.pointer (some ⟨bT, oT + i, none⟩)) rfl (by kernel_rfl) (by kernel_rfl) (by kernel_rfl) (by kernel_rfl) (fun _ _ _ h => h) (by assumption) (Or.inl ⟨by rfl, fun w hSw => by (try dsimp only at hSw); go_simp⟩) ?_
                  simp only [Act.put, List.setIfInBounds_toArray, List.set_cons_zero, List.set_cons_succ]
                  refine takeD (i := 3) (some 23) (.slice A1 a.length c1) rfl (by kernel_rfl) (by kernel_rfl) (by kernel_rfl) (by kernel_rfl) (fun _ _ _ h => h) (by assumption) (Or.inl ⟨by rfl, fun w hSw => by (try dsimp only at hSw); go_simp⟩) ?_
                  simp only [Act.put, List.setIfInBounds_toArray, List.set_cons_zero, List.set_cons_succ]
                  refine takeD (i := 4) (some 24) (.slice (some ⟨bT, oT, none⟩) t.length c) rfl (by kernel_rfl) (by kernel_rfl) (by kernel_rfl) (by kernel_rfl) (fun _ _ _ h => h) (by assumption) (Or.inl ⟨by rfl, fun w hSw => by (try dsimp only at hSw); go_simp⟩) ?_
                  simp only [Act.put, List.setIfInBounds_toArray, List.set_cons_zero, List.set_cons_succ]
                  refine takeD (i := 5) (some 25) (.int .i64 (k : Int)) rfl (by kernel_rfl) (by kernel_rfl) (by kernel_rfl) (by kernel_rfl) (fun _ _ _ h => h) (by assumption) (Or.inl ⟨by rfl, fun w hSw => by (try dsimp only at hSw); go_simp⟩) ?_
                  simp only [Act.put, List.setIfInBounds_toArray, List.set_cons_zero, List.set_cons_succ]
                  refine takeD (i := 6) (some 26) (.pointer (some ⟨bT, oT + k, none⟩)) rfl (by kernel_rfl) (by kernel_rfl) (by kernel_rfl) (by kernel_rfl) (fun _ _ _ h => h) (by assumption) (Or.inl ⟨by rfl, fun w hSw => by (try dsimp only at hSw); go_simp⟩) ?_
                  simp only [Act.put, List.setIfInBounds_toArray, List.set_cons_zero, List.set_cons_succ]
                  refine takeD (i := 7) (some 27) (.slice A2 b.length c2) rfl (by kernel_rfl) (by kernel_rfl) (by kernel_rfl) (by kernel_rfl) (fun _ _ _ h => h) (by assumption) (Or.inl ⟨by rfl, fun w hSw => by (try dsimp only at hSw); go_simp⟩) ?_
                  simp only [Act.put, List.setIfInBounds_toArray, List.set_cons_zero, List.set_cons_succ]
                  refine wpAnyH_ready (rs := [8]) (by kernel_rfl) (by simp) (AllReadyH.cons rfl (fun K hK => ?_) AllReadyH.nil)
                  go_simp
                  refine (E1.out _ (belowDrew0 _)).mono ?_
                  rintro e w2 ⟨rfl, b2⟩
                  have HHeld := KS.out _ b2
                  refine hK.out _ _ HHeld (fun _ => ?_)
                  clear hK K
                  try simp only [Act.put, List.setIfInBounds_toArray, List.set_cons_zero, List.set_cons_succ]
                  refine takeD (i := 9) (some 29) (.bool true) rfl (by kernel_rfl) (by kernel_rfl) (by kernel_rfl) (by kernel_rfl) (fun _ _ _ h => h) (by assumption) (Or.inl ⟨by rfl, fun w hSw => by (try dsimp only at hSw); go_simp⟩) ?_
                  simp only [Act.put, List.setIfInBounds_toArray, List.set_cons_zero, List.set_cons_succ]
                  refine takeD (i := 10) (some 30) (.bool true) rfl (by kernel_rfl) (by kernel_rfl) (by kernel_rfl) (by kernel_rfl) (fun _ _ _ h => h) (by assumption) (Or.inl ⟨by rfl, fun w hSw => by (try dsimp only at hSw); go_simp⟩) ?_
                  simp only [Act.put, List.setIfInBounds_toArray, List.set_cons_zero, List.set_cons_succ]
                  refine takeD (i := 11) (some 31) (.slice (some ⟨bT, oT, none⟩) t.length c) rfl (by kernel_rfl) (by kernel_rfl) (by kernel_rfl) (by kernel_rfl) (fun _ _ _ h => h) (by assumption) (Or.inl ⟨by rfl, fun w hSw => by (try dsimp only at hSw); go_simp⟩) ?_
                  simp only [Act.put, List.setIfInBounds_toArray, List.set_cons_zero, List.set_cons_succ]
                  refine takeD (i := 12) (some 32) (.int .i64 (k : Int)) rfl (by kernel_rfl) (by kernel_rfl) (by kernel_rfl) (by kernel_rfl) (fun _ _ _ h => h) (by assumption) (Or.inl ⟨by rfl, fun w hSw => by (try dsimp only at hSw); go_simp⟩) ?_
                  simp only [Act.put, List.setIfInBounds_toArray, List.set_cons_zero, List.set_cons_succ]
                  refine takeD (i := 13) (some 33) (.pointer (some ⟨bT, oT + k, none⟩)) rfl (by kernel_rfl) (by kernel_rfl) (by kernel_rfl) (by kernel_rfl) (fun _ _ _ h => h) (by assumption) (Or.inl ⟨by rfl, fun w hSw => by (try dsimp only at hSw); go_simp⟩) ?_
                  simp only [Act.put, List.setIfInBounds_toArray, List.set_cons_zero, List.set_cons_succ]
                  refine takeD (i := 14) (some 34) (.slice A2 b.length c2) rfl (by kernel_rfl) (by kernel_rfl) (by kernel_rfl) (by kernel_rfl) (fun _ _ _ h => h) (by assumption) (Or.inl ⟨by rfl, fun w hSw => by (try dsimp only at hSw); go_simp⟩) ?_
                  simp only [Act.put, List.setIfInBounds_toArray, List.set_cons_zero, List.set_cons_succ]
                  refine takeD (i := 15) (some 35) (.slice (some ⟨bT, oT, none⟩) t.length c) rfl (by kernel_rfl) (by kernel_rfl) (by kernel_rfl) (by kernel_rfl) (fun _ _ _ h => h) (by assumption) (Or.inl ⟨by rfl, fun w hSw => by (try dsimp only at hSw); go_simp⟩) ?_
                  simp only [Act.put, List.setIfInBounds_toArray, List.set_cons_zero, List.set_cons_succ]
                  refine takeD (i := 16) (some 36) (.int .i64 (i : Int)) rfl (by kernel_rfl) (by kernel_rfl) (by kernel_rfl) (by kernel_rfl) (fun _ _ _ h => h) (by assumption) (Or.inl ⟨by rfl, fun w hSw => by (try dsimp only at hSw); go_simp⟩) ?_
                  simp only [Act.put, List.setIfInBounds_toArray, List.set_cons_zero, List.set_cons_succ]
                  refine takeD (i := 17) (some 37) (.pointer (some ⟨bT, oT + i, none⟩)) rfl (by kernel_rfl) (by kernel_rfl) (by kernel_rfl) (by kernel_rfl) (fun _ _ _ h => h) (by assumption) (Or.inl ⟨by rfl, fun w hSw => by (try dsimp only at hSw); go_simp⟩) ?_
                  simp only [Act.put, List.setIfInBounds_toArray, List.set_cons_zero, List.set_cons_succ]
                  refine takeD (i := 18) (some 38) (.slice A1 a.length c1) rfl (by kernel_rfl) (by kernel_rfl) (by kernel_rfl) (by kernel_rfl) (fun _ _ _ h => h) (by assumption) (Or.inl ⟨by rfl, fun w hSw => by (try dsimp only at hSw); go_simp⟩) ?_
                  simp only [Act.put, List.setIfInBounds_toArray, List.set_cons_zero, List.set_cons_succ]
                  refine wpAnyH_ready (rs := [19]) (by kernel_rfl) (by simp) (AllReadyH.cons rfl (fun K hK => ?_) AllReadyH.nil)
                  go_simp
                  refine (E2.out _ b2).mono ?_
                  rintro e w3 ⟨rfl, b3⟩
                  have HHeld := KS.out _ b3
                  refine hK.out _ _ HHeld (fun _ => ?_)
                  clear hK K
                  try simp only [Act.put, List.setIfInBounds_toArray, List.set_cons_zero, List.set_cons_succ]
                  refine takeD (i := 20) (some 40) (.bool true) rfl (by kernel_rfl) (by kernel_rfl) (by kernel_rfl) (by kernel_rfl) (fun _ _ _ h => h) (by assumption) (Or.inl ⟨by rfl, fun w hSw => by (try dsimp only at hSw); go_simp⟩) ?_
                  simp only [Act.put, List.setIfInBounds_toArray, List.set_cons_zero, List.set_cons_succ]
                  refine takeD (i := 21) (some 41) (.bool true) rfl (by kernel_rfl) (by kernel_rfl) (by kernel_rfl) (by kernel_rfl) (fun _ _ _ h => h) (by assumption) (Or.inl ⟨by rfl, fun w hSw => by (try dsimp only at hSw); go_simp⟩) ?_
                  simp only [Act.put, List.setIfInBounds_toArray, List.set_cons_zero, List.set_cons_succ]
                  refine takeD (i := 22) (some 42) (.bool true) rfl (by kernel_rfl) (by kernel_rfl) (by kernel_rfl) (by kernel_rfl) (fun _ _ _ h => h) (by assumption) (Or.inl ⟨by rfl, fun w hSw => by (try dsimp only at hSw); go_simp⟩) ?_
                  simp only [Act.put, List.setIfInBounds_toArray, List.set_cons_zero, List.set_cons_succ]
                  refine takeD (i := 23) (some 43) (.slice (some ⟨bT, oT, none⟩) t.length c) rfl (by kernel_rfl) (by kernel_rfl) (by kernel_rfl) (by kernel_rfl) (fun _ _ _ h => h) (by assumption) (Or.inl ⟨by rfl, fun w hSw => by (try dsimp only at hSw); go_simp⟩) ?_
                  simp only [Act.put, List.setIfInBounds_toArray, List.set_cons_zero, List.set_cons_succ]
                  refine takeD (i := 24) (some 44) (.int .i64 (i : Int)) rfl (by kernel_rfl) (by kernel_rfl) (by kernel_rfl) (by kernel_rfl) (fun _ _ _ h => h) (by assumption) (Or.inl ⟨by rfl, fun w hSw => by (try dsimp only at hSw); go_simp⟩) ?_
                  simp only [Act.put, List.setIfInBounds_toArray, List.set_cons_zero, List.set_cons_succ]
                  refine takeD (i := 25) (some 45) (.pointer (some ⟨bT, oT + i, none⟩)) rfl (by kernel_rfl) (by kernel_rfl) (by kernel_rfl) (by kernel_rfl) (fun _ _ _ h => h) (by assumption) (Or.inl ⟨by rfl, fun w hSw => by (try dsimp only at hSw); go_simp⟩) ?_
                  simp only [Act.put, List.setIfInBounds_toArray, List.set_cons_zero, List.set_cons_succ]
                  refine takeD (i := 26) (some 46) (.slice A1 a.length c1) rfl (by kernel_rfl) (by kernel_rfl) (by kernel_rfl) (by kernel_rfl) (fun _ _ _ h => h) (by assumption) (Or.inl ⟨by rfl, fun w hSw => by (try dsimp only at hSw); go_simp⟩) ?_
                  simp only [Act.put, List.setIfInBounds_toArray, List.set_cons_zero, List.set_cons_succ]
                  refine takeD (i := 27) (some 47) (.slice (some ⟨bT, oT, none⟩) t.length c) rfl (by kernel_rfl) (by kernel_rfl) (by kernel_rfl) (by kernel_rfl) (fun _ _ _ h => h) (by assumption) (Or.inl ⟨by rfl, fun w hSw => by (try dsimp only at hSw); go_simp⟩) ?_
                  simp only [Act.put, List.setIfInBounds_toArray, List.set_cons_zero, List.set_cons_succ]
                  refine takeD (i := 28) (some 48) (.int .i64 (k : Int)) rfl (by kernel_rfl) (by kernel_rfl) (by kernel_rfl) (by kernel_rfl) (fun _ _ _ h => h) (by assumption) (Or.inl ⟨by rfl, fun w hSw => by (try dsimp only at hSw); go_simp⟩) ?_
                  simp only [Act.put, List.setIfInBounds_toArray, List.set_cons_zero, List.set_cons_succ]
                  refine takeD (i := 29) (some 49) (.pointer (some ⟨bT, oT + k, none⟩)) rfl (by kernel_rfl) (by kernel_rfl) (by kernel_rfl) (by kernel_rfl) (fun _ _ _ h => h) (by assumption) (Or.inl ⟨by rfl, fun w hSw => by (try dsimp only at hSw); go_simp⟩) ?_
                  simp only [Act.put, List.setIfInBounds_toArray, List.set_cons_zero, List.set_cons_succ]
                  refine takeD (i := 30) (some 50) (.slice A2 b.length c2) rfl (by kernel_rfl) (by kernel_rfl) (by kernel_rfl) (by kernel_rfl) (fun _ _ _ h => h) (by assumption) (Or.inl ⟨by rfl, fun w hSw => by (try dsimp only at hSw); go_simp⟩) ?_
                  simp only [Act.put, List.setIfInBounds_toArray, List.set_cons_zero, List.set_cons_succ]
                  refine wpAnyH_ready (rs := [31]) (by kernel_rfl) (by simp) (AllReadyH.cons rfl (fun K hK => ?_) AllReadyH.nil)
                  go_simp
                  refine (E3.out _ b3).mono ?_
                  rintro e w4 ⟨A4, c4, rfl, b4⟩
                  have HHeld := KS.out _ b4
                  refine hK.out _ _ HHeld (fun _ => ?_)
                  clear hK K
                  try simp only [Act.put, List.setIfInBounds_toArray, List.set_cons_zero, List.set_cons_succ]
                  refine takeD (i := 32) (some 52) (.int .i64 (0 : Int)) rfl (by kernel_rfl) (by kernel_rfl) (by kernel_rfl) (by kernel_rfl) (fun _ _ _ h => h) (by assumption) (Or.inl ⟨by rfl, fun w hSw => by (try dsimp only at hSw); go_simp⟩) ?_
                  simp only [Act.put, List.setIfInBounds_toArray, List.set_cons_zero, List.set_cons_succ]
                  refine takeD (i := 33) (some 53) (.bool false) rfl (by kernel_rfl) (by kernel_rfl) (by kernel_rfl) (by kernel_rfl) (fun _ _ _ h => h) (by assumption) (Or.inl ⟨by rfl, fun w hSw => by (try dsimp only at hSw); go_simp⟩) ?_
                  simp only [Act.put, List.setIfInBounds_toArray, List.set_cons_zero, List.set_cons_succ]
                  refine takeD (i := 34) (some 54) (.bool false) rfl (by kernel_rfl) (by kernel_rfl) (by kernel_rfl) (by kernel_rfl) (fun _ _ _ h => h) (by assumption) (Or.inl ⟨by rfl, fun w hSw => by (try dsimp only at hSw); go_simp⟩) ?_
                  simp only [Act.put, List.setIfInBounds_toArray, List.set_cons_zero, List.set_cons_succ]
                  refine wpAnyH_done (by kernel_rfl) ?_ _
                  go_wp2_with fail
                  go_roundw
                  case rel => exact ⟨k + 1, by go_num, by omega, by rw [← HAE.out]; exact HX, hbx.trans (b4.mono hsx)⟩
                  case measure => simp [intOf]; omega
          · obtain rfl : k = i := by omega
            go_wp2_with fail
            go_roundw
            case rel => exact ⟨k + 1, by go_num, by omega, Lib.hid (fun i' k' hi' hk' hlt' hi2 => by
              rcases Nat.lt_or_ge i' k with h1 | h1
              · exact HA.out i' k' hi' hk' hlt' h1
              · have : i' = k := by omega
                subst this; exact HK.out k' hk' hlt'), Bx⟩
            case measure => simp [intOf]; omega
      · obtain rfl : i = t.length := by omega
        have HR := Lib.hid (hierR_yes HTT.out (hierF_all fun i k hi hk hki => HA.out i k hi hk hki hi))
        go_wp2_with fail
        go_ret2
        rw [HR.out]
        exact ⟨rfl, hb⟩
end Go.Proofs.Ytdkkkkfcpgkcnaa
