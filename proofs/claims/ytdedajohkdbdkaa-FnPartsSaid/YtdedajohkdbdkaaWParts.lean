/- The walk of the law FnParts. -/
import Derived.Test.YtdedajohkdbdkaaLikeG
import Derived.Test.YtdedajohkdbdkaaDrSys6
import Derived.Test.YtdedajohkdbdkaaPPartLaw
import Derived.Test.YtdedajohkdbdkaaFLongest
namespace Go.Proofs.Ytdedajohkdbdkaa.fnParts
set_option linter.unusedVariables false
open Go.RowKit
theorem part0 {m : Mk} {T K : Option Addr} {cT q k : Nat} {t cs : List (List Int)} {b : Bool} {w : World} (h : RII w T t) (g : RII w K cs) (hk : k ≤ cs.length) (he : openPartF m t (cs.take k) = b) :
    Calls Try.prog 15 #[.agg #[.int .i64 m.c, .int .i64 m.d, .int .i64 m.s, .int .i64 m.a, .int .i64 m.l, .slice T t.length cT], .slice K k q] w fun e w' => e = .returned (.bool b) ∧ Below w.heap.size w w' := by
  have := implIsOpenPart_any m T cT t K q (cs.take k) w h (g.take k)
  rw [he, List.length_take, Nat.min_eq_left hk] at this; exact this
set_option maxRecDepth 100000 in
set_option maxHeartbeats 16000000 in
theorem walk (A : Option Addr) (c : Nat) (bs : List Int) (w : World) (h : RCode w A bs) :
    Calls Try.prog 4 #[.slice A bs.length c] w fun e w' => e = .returned (.bool true) ∧ Below w.heap.size w w' := by
  have HC := Lib.hid h
  clear h
  by_cases hbig : (bs.length : Int) > 4096
  · have HBG := big_any A bs.length c w
    rw [decide_eq_true hbig] at HBG
    have HBB := Lib.hid HBG
    clear hbig HBG
    go_enter Try.func4, Try.ntmps4
    go_wp2_with fail
    refine HBB.out.mono ?_
    rintro e w1 ⟨rfl, rfl⟩
    go_wp2_with fail
    go_ret
    exact ⟨rfl, Below.refl _ _⟩
  · have HBG := big_any A bs.length c w
    rw [decide_eq_false hbig] at HBG
    have HBB := Lib.hid HBG
    clear hbig HBG
    go_enter Try.func4, Try.ntmps4
    go_wp2_with fail
    refine HBB.out.mono ?_
    rintro e w1 ⟨rfl, rfl⟩
    have HB := Lib.hid (Below.refl w.heap.size w)
    have E1 := Lib.hid (drawPart_any A c bs w HC.out)
    go_wp2_with fail
    refine E1.out.mono ?_
    rintro e v1 ⟨m, T, t, cT, K, q, cs, rfl, -, hq, hc20, hT, hK, hb⟩
    clear E1
    replace HB := Lib.hid (HB.out.trans (hb.mono HB.out.size))
    have HT := Lib.hid (hT)
    have HK := Lib.hid (hK)
    clear hT hK hb
    have HQ := Lib.hid hq
    have HC20 := Lib.hid hc20
    clear hq hc20
    obtain ⟨v1b, hv1b⟩ : ∃ wb, wb = v1.alloc (.cells #[.int .i64 m.c, .int .i64 m.d, .int .i64 m.s, .int .i64 m.a, .int .i64 m.l, .slice T t.length cT] 28) := ⟨_, rfl⟩
    have hbx : Below v1.heap.size v1 v1b := by rw [hv1b]; exact (Below.refl _ _).alloc (Nat.le_refl _) _
    replace HT := Lib.hid (HT.out.below hbx)
    replace HK := Lib.hid (HK.out.below hbx)
    replace HB := Lib.hid (HB.out.trans (hbx.mono HB.out.size))
    have HBS := Lib.hid (show BoxC v1b (v1.heap.size) 0 [.int .i64 m.c, .int .i64 m.d, .int .i64 m.s, .int .i64 m.a, .int .i64 m.l, .slice T t.length cT] by rw [hv1b]; exact BoxC.new (w := v1) [.int .i64 m.c, .int .i64 m.d, .int .i64 m.s, .int .i64 m.a, .int .i64 m.l, .slice T t.length cT] rfl)
    clear hbx
    obtain ⟨ob, hob⟩ : ∃ b, b = openPartF m t cs := ⟨_, rfl⟩
    rcases hl : longR m t cs with ⟨n, kl⟩
    rcases hc : cFalseR m t cs with ⟨nf, kc⟩
    rcases hp : partFaultR m t cs with ⟨fi, fk, kp⟩
    have HOB := Lib.hid hob.symm
    have HLE := Lib.hid hl
    have HCE := Lib.hid hc
    have HPE := Lib.hid hp
    clear hob hl hc hp
    have E2 := Lib.hid (by have := implIsOpenPart_any m T cT t K q cs v1b HT.out HK.out; rw [HOB.out] at this; exact this)
    go_wp2_with fail
    rw [← hv1b]
    clear hv1b 
    refine E2.out.mono ?_
    rintro e v2 ⟨rfl, hb⟩
    clear E2
    replace HT := Lib.hid (HT.out.below hb)
    replace HK := Lib.hid (HK.out.below hb)
    replace HBS := Lib.hid (HBS.out.below hb)
    replace HB := Lib.hid (HB.out.trans (hb.mono HB.out.size))
    clear hb
    have E3 := Lib.hid (by have := implLongestPart_any m T cT t K q cs v2 HT.out HK.out HQ.out; rw [HLE.out] at this; exact this)
    obtain ⟨q0_0, q0_1, q0_2, q0_3, q0_4, q0_5, _⟩ := HBS.out
    simp only [Nat.zero_add] at q0_1 q0_2 q0_3 q0_4 q0_5
    go_wp2_with fail
    clear q0_0 q0_1 q0_2 q0_3 q0_4 q0_5
    refine E3.out.mono ?_
    rintro e v3 ⟨rfl, hb⟩
    clear E3
    replace HT := Lib.hid (HT.out.below hb)
    replace HK := Lib.hid (HK.out.below hb)
    replace HBS := Lib.hid (HBS.out.below hb)
    replace HB := Lib.hid (HB.out.trans (hb.mono HB.out.size))
    clear hb
    have E4 := Lib.hid (by have := specLongestPart_any m T cT t K q cs v3 HT.out HK.out HQ.out; rw [HLE.out] at this; exact this)
    obtain ⟨q0_0, q0_1, q0_2, q0_3, q0_4, q0_5, _⟩ := HBS.out
    simp only [Nat.zero_add] at q0_1 q0_2 q0_3 q0_4 q0_5
    go_wp2_with fail
    clear q0_0 q0_1 q0_2 q0_3 q0_4 q0_5
    refine E4.out.mono ?_
    rintro e v4 ⟨rfl, hb⟩
    clear E4
    replace HT := Lib.hid (HT.out.below hb)
    replace HK := Lib.hid (HK.out.below hb)
    replace HBS := Lib.hid (HBS.out.below hb)
    replace HB := Lib.hid (HB.out.trans (hb.mono HB.out.size))
    clear hb
    have E5 := Lib.hid (by have := implCountFalse_any m T cT t K q cs v4 HT.out HK.out; rw [HCE.out] at this; exact this)
    obtain ⟨q0_0, q0_1, q0_2, q0_3, q0_4, q0_5, _⟩ := HBS.out
    simp only [Nat.zero_add] at q0_1 q0_2 q0_3 q0_4 q0_5
    go_wp2_with fail
    clear q0_0 q0_1 q0_2 q0_3 q0_4 q0_5
    refine E5.out.mono ?_
    rintro e v5 ⟨rfl, hb⟩
    clear E5
    replace HT := Lib.hid (HT.out.below hb)
    replace HK := Lib.hid (HK.out.below hb)
    replace HBS := Lib.hid (HBS.out.below hb)
    replace HB := Lib.hid (HB.out.trans (hb.mono HB.out.size))
    clear hb
    have E6 := Lib.hid (by have := specCountFalse_any m T cT t K q cs v5 HT.out HK.out; rw [HCE.out] at this; exact this)
    obtain ⟨q0_0, q0_1, q0_2, q0_3, q0_4, q0_5, _⟩ := HBS.out
    simp only [Nat.zero_add] at q0_1 q0_2 q0_3 q0_4 q0_5
    go_wp2_with fail
    clear q0_0 q0_1 q0_2 q0_3 q0_4 q0_5
    refine E6.out.mono ?_
    rintro e v6 ⟨rfl, hb⟩
    clear E6
    replace HT := Lib.hid (HT.out.below hb)
    replace HK := Lib.hid (HK.out.below hb)
    replace HBS := Lib.hid (HBS.out.below hb)
    replace HB := Lib.hid (HB.out.trans (hb.mono HB.out.size))
    clear hb
    have E7 := Lib.hid (by have := implPartFault_any m T cT t K q cs v6 HT.out HK.out; rw [HPE.out] at this; exact this)
    obtain ⟨q0_0, q0_1, q0_2, q0_3, q0_4, q0_5, _⟩ := HBS.out
    simp only [Nat.zero_add] at q0_1 q0_2 q0_3 q0_4 q0_5
    go_wp2_with fail
    clear q0_0 q0_1 q0_2 q0_3 q0_4 q0_5
    refine E7.out.mono ?_
    rintro e v7 ⟨rfl, hb⟩
    clear E7
    replace HT := Lib.hid (HT.out.below hb)
    replace HK := Lib.hid (HK.out.below hb)
    replace HBS := Lib.hid (HBS.out.below hb)
    replace HB := Lib.hid (HB.out.trans (hb.mono HB.out.size))
    clear hb
    have E8 := Lib.hid (by have := specPartFault_any m T cT t K q cs v7 HT.out HK.out; rw [HPE.out] at this; exact this)
    obtain ⟨q0_0, q0_1, q0_2, q0_3, q0_4, q0_5, _⟩ := HBS.out
    simp only [Nat.zero_add] at q0_1 q0_2 q0_3 q0_4 q0_5
    go_wp2_with fail
    clear q0_0 q0_1 q0_2 q0_3 q0_4 q0_5
    refine E8.out.mono ?_
    rintro e v8 ⟨rfl, hb⟩
    clear E8
    replace HT := Lib.hid (HT.out.below hb)
    replace HK := Lib.hid (HK.out.below hb)
    replace HBS := Lib.hid (HBS.out.below hb)
    replace HB := Lib.hid (HB.out.trans (hb.mono HB.out.size))
    clear hb
    have E9 := Lib.hid (by have := specIsOpenPart_any m T cT t K q cs v8 HT.out HK.out; rw [HOB.out] at this; exact this)
    obtain ⟨q0_0, q0_1, q0_2, q0_3, q0_4, q0_5, _⟩ := HBS.out
    simp only [Nat.zero_add] at q0_1 q0_2 q0_3 q0_4 q0_5
    go_wp2_with fail
    clear q0_0 q0_1 q0_2 q0_3 q0_4 q0_5
    refine E9.out.mono ?_
    rintro e v9 ⟨rfl, hb⟩
    clear E9
    replace HT := Lib.hid (HT.out.below hb)
    replace HK := Lib.hid (HK.out.below hb)
    replace HBS := Lib.hid (HBS.out.below hb)
    replace HB := Lib.hid (HB.out.trans (hb.mono HB.out.size))
    clear hb
    by_cases hkl : kl = 0
    rotate_left
    · have hkl' : (kl != 0) = true := by simpa using hkl
      have ho : ob = false := by
        rw [← HOB.out]; unfold openPartF; rw [parts_bad HLE.out, beq_eq_false_iff_ne.2 hkl]; rfl
      subst ho
      clear hkl
      go_wp2_with fail
      go_ret
      exact ⟨rfl, HB.out⟩
    · subst hkl
      have hpc := parts_bad HLE.out
      obtain ⟨e1, e2, e3, e4⟩ := parts_end hpc HLE.out HCE.out HPE.out
      have eo : ob = openPart m t cs := by rw [← HOB.out]; unfold openPartF; rw [hpc]; rfl
      rw [← eo] at e1 e2 e3
      have HN := Lib.hid e4
      have HPC := Lib.hid hpc
      have HEE := Lib.hid (And.intro e1 (And.intro e2 e3))
      clear e1 e2 e3 e4 eo hpc
      go_wp2_with fail
      go_loopw [20] (fun j wr => ∃ k : Nat, j = .int .i64 k ∧ k ≤ cs.length + 1 ∧ Below v9.heap.size v9 wr) (fun j _ => cs.length + 1 - (intOf j).toNat)
      case atStart => exact ⟨0, rfl, by omega, Below.refl _ _⟩
      case round =>
        obtain ⟨k, rfl, hk, hb⟩ := hrel
        have HBr := Lib.hid hb
        have hsr := hb.size
        have hc20 := HC20.out
        by_cases hlt : k ≤ cs.length
        · have hqq := HQ.out
          have i0 : (0 : Int) ≤ (k : Int) := by omega
          have i1 : (k : Int) ≤ (q : Int) := by omega
          have i2 : (k : Int) ≤ (cs.length : Int) := by omega
          have hk2 : k ≤ q := by omega
          obtain ⟨pb, hpb⟩ : ∃ b, b = decide ((k : Int) ≤ n) := ⟨_, rfl⟩
          have HPB := Lib.hid hpb.symm
          have HPO := Lib.hid (show openPartF m t (cs.take k) = pb by unfold openPartF; rw [hpb, HN.out]; exact parts_at HPC.out hlt)
          have HLT := Lib.hid hlt
          have KS := Lib.hid (show ∀ w' : World, Below wr.heap.size wr w' → (w'.cell? ⟨v1.heap.size, 0, none⟩ = some (.int .i64 m.c) ∧ w'.cell? ⟨v1.heap.size, 1, none⟩ = some (.int .i64 m.d) ∧ w'.cell? ⟨v1.heap.size, 2, none⟩ = some (.int .i64 m.s) ∧ w'.cell? ⟨v1.heap.size, 3, none⟩ = some (.int .i64 m.a) ∧ w'.cell? ⟨v1.heap.size, 4, none⟩ = some (.int .i64 m.l) ∧ w'.cell? ⟨v1.heap.size, 5, none⟩ = some (.slice T t.length cT)) from fun w' hw => by
            obtain ⟨a0, a1, a2, a3, a4, a5, _⟩ := (HBS.out.below HBr.out).below hw
            exact ⟨a0, a1, a2, a3, a4, a5⟩)
          clear hb hpb hqq
          go_wp2_with fail
          refine wp_region_held_drew (S := (fun w' => (w'.cell? ⟨v1.heap.size, 0, none⟩ = some (.int .i64 m.c) ∧ w'.cell? ⟨v1.heap.size, 1, none⟩ = some (.int .i64 m.d) ∧ w'.cell? ⟨v1.heap.size, 2, none⟩ = some (.int .i64 m.s) ∧ w'.cell? ⟨v1.heap.size, 3, none⟩ = some (.int .i64 m.a) ∧ w'.cell? ⟨v1.heap.size, 4, none⟩ = some (.int .i64 m.l) ∧ w'.cell? ⟨v1.heap.size, 5, none⟩ = some (.slice T t.length cT)))) (by kernel_rfl) (KS.out _ (belowDrew0 _)) (fun hHeld => ?_)
          refine takeD (i := 0) (some 119) (.agg #[.int .i64 m.c, .int .i64 m.d, .int .i64 m.s, .int .i64 m.a, .int .i64 m.l, .slice T t.length cT]) rfl (by kernel_rfl) (by kernel_rfl) (by kernel_rfl) (by kernel_rfl) (fun _ _ _ h => h) (by assumption) (Or.inl ⟨by rfl, fun w hSw => by (try dsimp only at hSw); go_simp⟩) ?_
          simp only [Act.put, List.setIfInBounds_toArray, List.set_cons_zero, List.set_cons_succ]
          refine takeD (i := 1) (some 120) (.slice K cs.length q) rfl (by kernel_rfl) (by kernel_rfl) (by kernel_rfl) (by kernel_rfl) (fun _ _ _ h => h) (by assumption) (Or.inl ⟨by rfl, fun w hSw => by (try dsimp only at hSw); go_simp⟩) ?_
          simp only [Act.put, List.setIfInBounds_toArray, List.set_cons_zero, List.set_cons_succ]
          refine takeD (i := 2) (some 121) (.int .i64 (k : Int)) rfl (by kernel_rfl) (by kernel_rfl) (by kernel_rfl) (by kernel_rfl) (fun _ _ _ h => h) (by assumption) (Or.inl ⟨by rfl, fun w hSw => by (try dsimp only at hSw); go_simp⟩) ?_
          simp only [Act.put, List.setIfInBounds_toArray, List.set_cons_zero, List.set_cons_succ]
          refine takeD (i := 3) (some 122) (.slice K k q) rfl (by kernel_rfl) (by kernel_rfl) (by kernel_rfl) (by kernel_rfl) (fun _ _ _ h => h) (by assumption) (Or.inl ⟨by rfl, fun w hSw => by (try dsimp only at hSw); go_simp⟩) ?_
          simp only [Act.put, List.setIfInBounds_toArray, List.set_cons_zero, List.set_cons_succ]
          refine takeD (i := 5) (some 124) (.int .i64 (k : Int)) rfl (by kernel_rfl) (by kernel_rfl) (by kernel_rfl) (by kernel_rfl) (fun _ _ _ h => h) (by assumption) (Or.inl ⟨by rfl, fun w hSw => by (try dsimp only at hSw); go_simp⟩) ?_
          simp only [Act.put, List.setIfInBounds_toArray, List.set_cons_zero, List.set_cons_succ]
          refine takeD (i := 6) (some 125) (.int .i64 n) rfl (by kernel_rfl) (by kernel_rfl) (by kernel_rfl) (by kernel_rfl) (fun _ _ _ h => h) (by assumption) (Or.inl ⟨by rfl, fun w hSw => by (try dsimp only at hSw); go_simp⟩) ?_
          simp only [Act.put, List.setIfInBounds_toArray, List.set_cons_zero, List.set_cons_succ]
          refine takeD (i := 7) (some 126) (.bool pb) rfl (by kernel_rfl) (by kernel_rfl) (by kernel_rfl) (by kernel_rfl) (fun _ _ _ h => h) (by assumption) (Or.inl ⟨by rfl, fun w hSw => by (try dsimp only at hSw); go_simp; (try simp [HPB.out])⟩) ?_
          simp only [Act.put, List.setIfInBounds_toArray, List.set_cons_zero, List.set_cons_succ]
          refine wpAnyH_ready (rs := [4]) (by kernel_rfl) (by simp) (AllReadyH.cons rfl (fun K hK => ?_) AllReadyH.nil)
          go_simp
          refine (part0 (w := wr.drew) ((HT.out.below HBr.out).below (belowDrew0 _)) ((HK.out.below HBr.out).below (belowDrew0 _)) HLT.out HPO.out).mono ?_
          rintro e wn ⟨rfl, hbn⟩
          have HBn := Lib.hid (belowDrew hbn)
          clear hbn
          have HHeld := KS.out _ HBn.out
          refine hK.out _ _ HHeld (fun _ => ?_)
          clear hK K
          try simp only [Act.put, List.setIfInBounds_toArray, List.set_cons_zero, List.set_cons_succ]
          refine takeD (i := 8) (some 127) (.bool false) rfl (by kernel_rfl) (by kernel_rfl) (by kernel_rfl) (by kernel_rfl) (fun _ _ _ h => h) (by assumption) (Or.inl ⟨by rfl, fun w hSw => by (try dsimp only at hSw); go_simp; (try simp)⟩) ?_
          simp only [Act.put, List.setIfInBounds_toArray, List.set_cons_zero, List.set_cons_succ]
          refine wpAnyH_done (by kernel_rfl) ?_ _
          clear KS
          go_wp2_with fail
          go_roundw
          case rel => exact ⟨k + 1, by go_num, by have := HLT.out; omega, HBr.out.trans (HBn.out.mono HBr.out.size)⟩
          case measure => have := HLT.out; simp [intOf]; omega
        · obtain rfl : k = cs.length + 1 := by omega
          obtain ⟨e1, e2, e3⟩ := HEE.out
          go_wp2_with fail
          go_ret
          exact ⟨retB (by simp), HB.out.trans (HBr.out.mono HB.out.size)⟩
end Go.Proofs.Ytdedajohkdbdkaa.fnParts
