/- The walk of the law FnSystems. -/
import Derived.Test.YtdedajohkdbdkaaGreatDoorLikeL
import Derived.Test.YtdedajohkdbdkaaGreatDoorDrSys7
import Derived.Test.YtdedajohkdbdkaaGreatDoorPLocks
import Derived.Test.YtdedajohkdbdkaaGreatDoorFSysText
import Derived.Test.YtdedajohkdbdkaaGreatDoorFSysLaws2
import Derived.Deep.CutRange
namespace Go.Proofs.YtdedajohkdbdkaaGreatDoor.fnSystems
set_option linter.unusedVariables false
open Go.RowKit
theorem sys0i {m : Mk} {T : Option Addr} {cT : Nat} {t : List (List Int)} {b : Bool} {w : World} (h : RII w T t) (he : isSystem m t = b) :
    Calls Tryz.prog 12 #[.agg #[.int .i64 m.c, .int .i64 m.d, .int .i64 m.s, .int .i64 m.a, .int .i64 m.l, .slice T t.length cT]] w fun e w' => e = .returned (.bool b) ∧ Below w.heap.size w w' := by
  have := implIsSystem_any m T cT t w h
  rw [he] at this; exact this
theorem sys0s {m : Mk} {T : Option Addr} {cT : Nat} {t : List (List Int)} {b : Bool} {w : World} (h : RII w T t) (he : isSystem m t = b) :
    Calls Tryz.prog 13 #[.agg #[.int .i64 m.c, .int .i64 m.d, .int .i64 m.s, .int .i64 m.a, .int .i64 m.l, .slice T t.length cT]] w fun e w' => e = .returned (.bool b) ∧ Below w.heap.size w w' := by
  have := specIsSystem_any m T cT t w h
  rw [he] at this; exact this
theorem opens0 {m : Mk} {D K : Option Addr} {q d : Nat} {l : List (List Int)} {key : List Int} {w : World} {b : Bool} (h : RII w D l) (k : RI w K key) (hcap : key.length ≤ d) (hc : (b, 0) = opensR m l key) :
    Calls Tryz.prog 15 #[.agg #[.int .i64 m.c, .int .i64 m.d, .int .i64 m.s, .int .i64 m.a, .int .i64 m.l], .agg #[.slice D l.length q], .slice K key.length d] w fun e w' => e = .returned (.tuple #[.bool b, .int .i64 0]) ∧ Below w.heap.size w w' := by
  have := implOpens_any m D q l K d key w h k hcap
  rw [← hc] at this
  exact this
set_option maxRecDepth 100000 in
set_option maxHeartbeats 16000000 in
theorem walk (A : Option Addr) (c : Nat) (bs : List Int) (w : World) (h : RCode w A bs) :
    Calls Tryz.prog 3 #[.slice A bs.length c] w fun e w' => e = .returned (.bool true) ∧ Below w.heap.size w w' := by
  have HC := Lib.hid h
  clear h
  by_cases hbig : (bs.length : Int) > 4096
  · have HBG := big_any A bs.length c w
    rw [decide_eq_true hbig] at HBG
    have HBB := Lib.hid HBG
    clear hbig HBG
    go_enter Tryz.func3, Tryz.ntmps3
    go_wp2_with fail
    refine HBB.out.mono ?_
    rintro e w1 ⟨rfl, rfl⟩
    go_wp2_with fail
    go_ret
    exact ⟨rfl, Below.refl _ _⟩
  · have HBG := big_any A bs.length c w
    rw [decide_eq_false hbig] at HBG
    have HBB := Lib.hid HBG
    clear hbig HBG
    go_enter Tryz.func3, Tryz.ntmps3
    go_wp2_with fail
    refine HBB.out.mono ?_
    rintro e w1 ⟨rfl, rfl⟩
    have HB := Lib.hid (Below.refl w.heap.size w)
    have E1 := Lib.hid (drawLocksOf_any A c bs w HC.out)
    go_wp2_with fail
    refine E1.out.mono ?_
    rintro e v1 ⟨m, T, t, cT, K, q, cs, rfl, -, hq, -, hT, hK, hb⟩
    clear E1
    replace HB := Lib.hid (HB.out.trans (hb.mono HB.out.size))
    have HT := Lib.hid (hT)
    have HK := Lib.hid (hK)
    clear hT hK hb
    clear hq
    obtain ⟨v1b, hv1b⟩ : ∃ wb, wb = v1.alloc (.cells #[.int .i64 m.c, .int .i64 m.d, .int .i64 m.s, .int .i64 m.a, .int .i64 m.l, .slice T t.length cT] 28) := ⟨_, rfl⟩
    have hbx : Below v1.heap.size v1 v1b := by rw [hv1b]; exact (Below.refl _ _).alloc (Nat.le_refl _) _
    replace HT := Lib.hid (HT.out.below hbx)
    replace HK := Lib.hid (HK.out.below hbx)
    replace HB := Lib.hid (HB.out.trans (hbx.mono HB.out.size))
    have HBS := Lib.hid (show BoxC v1b (v1.heap.size) 0 [.int .i64 m.c, .int .i64 m.d, .int .i64 m.s, .int .i64 m.a, .int .i64 m.l, .slice T t.length cT] by rw [hv1b]; exact BoxC.new (w := v1) [.int .i64 m.c, .int .i64 m.d, .int .i64 m.s, .int .i64 m.a, .int .i64 m.l, .slice T t.length cT] rfl)
    clear hbx
    rcases hg : locksR m t cs with ⟨ls, kl⟩
    rcases hs : sysTextR m t cs with ⟨tx, kt⟩
    have HLE := Lib.hid hg
    have HTE := Lib.hid hs
    clear hg hs
    have E2 := Lib.hid (by have := implLocksOf_any m T cT t K q cs v1b HT.out HK.out; rw [HLE.out] at this; exact this)
    go_wp2_with fail
    rw [← hv1b]
    clear hv1b 
    refine E2.out.mono ?_
    rintro e v2 ⟨A2, c2, rfl, hc2, hr, _, hb⟩
    clear E2
    replace HT := Lib.hid (HT.out.below hb)
    replace HK := Lib.hid (HK.out.below hb)
    replace HBS := Lib.hid (HBS.out.below hb)
    replace HB := Lib.hid (HB.out.trans (hb.mono HB.out.size))
    have HL2 := Lib.hid (show RLS v2 A2 ls from hr)
    clear hr hb hc2
    have E3 := Lib.hid (by have := specLocksOf_any m T cT t K q cs v2 HT.out HK.out; rw [HLE.out] at this; exact this)
    obtain ⟨q0_0, q0_1, q0_2, q0_3, q0_4, q0_5, _⟩ := HBS.out
    simp only [Nat.zero_add] at q0_1 q0_2 q0_3 q0_4 q0_5
    go_wp2_with fail
    clear q0_0 q0_1 q0_2 q0_3 q0_4 q0_5
    refine E3.out.mono ?_
    rintro e v3 ⟨A3, c3, rfl, hc3, hr, _, hb⟩
    clear E3
    replace HT := Lib.hid (HT.out.below hb)
    replace HK := Lib.hid (HK.out.below hb)
    replace HBS := Lib.hid (HBS.out.below hb)
    replace HL2 := Lib.hid (HL2.out.below hb)
    replace HB := Lib.hid (HB.out.trans (hb.mono HB.out.size))
    have HL3 := Lib.hid (show RLS v3 A3 ls from hr)
    clear hr hb hc3
    have E4 := Lib.hid (likeOwnLockB (c := c2) (d := c3) HL2.out HL3.out)
    go_wp2_with fail
    refine E4.out.mono ?_
    rintro e v4 ⟨rfl, hb⟩
    clear E4
    replace HT := Lib.hid (HT.out.below hb)
    replace HK := Lib.hid (HK.out.below hb)
    replace HBS := Lib.hid (HBS.out.below hb)
    replace HL2 := Lib.hid (HL2.out.below hb)
    replace HL3 := Lib.hid (HL3.out.below hb)
    replace HB := Lib.hid (HB.out.trans (hb.mono HB.out.size))
    clear hb
    clear HL3
    have E5 := Lib.hid (by have := specLocksOf_any m T cT t K q cs v4 HT.out HK.out; rw [HLE.out] at this; exact this)
    obtain ⟨q0_0, q0_1, q0_2, q0_3, q0_4, q0_5, _⟩ := HBS.out
    simp only [Nat.zero_add] at q0_1 q0_2 q0_3 q0_4 q0_5
    go_wp2_with fail
    clear q0_0 q0_1 q0_2 q0_3 q0_4 q0_5
    refine E5.out.mono ?_
    rintro e v5 ⟨A4, c4, rfl, hc4, hr, _, hb⟩
    clear E5
    replace HT := Lib.hid (HT.out.below hb)
    replace HK := Lib.hid (HK.out.below hb)
    replace HBS := Lib.hid (HBS.out.below hb)
    replace HL2 := Lib.hid (HL2.out.below hb)
    replace HB := Lib.hid (HB.out.trans (hb.mono HB.out.size))
    have HL4 := Lib.hid (show RLS v5 A4 ls from hr)
    clear hr hb hc4
    have E6 := Lib.hid (by have := implSystemText_any m T cT t K q cs v5 HT.out HK.out; rw [HTE.out] at this; exact this)
    obtain ⟨q0_0, q0_1, q0_2, q0_3, q0_4, q0_5, _⟩ := HBS.out
    simp only [Nat.zero_add] at q0_1 q0_2 q0_3 q0_4 q0_5
    go_wp2_with fail
    clear q0_0 q0_1 q0_2 q0_3 q0_4 q0_5
    refine E6.out.mono ?_
    rintro e v6 ⟨rfl, hb⟩
    clear E6
    replace HT := Lib.hid (HT.out.below hb)
    replace HK := Lib.hid (HK.out.below hb)
    replace HBS := Lib.hid (HBS.out.below hb)
    replace HL2 := Lib.hid (HL2.out.below hb)
    replace HL4 := Lib.hid (HL4.out.below hb)
    replace HB := Lib.hid (HB.out.trans (hb.mono HB.out.size))
    clear hb
    have E7 := Lib.hid (by have := specSystemText_any m T cT t K q cs v6 HT.out HK.out; rw [HTE.out] at this; exact this)
    obtain ⟨q0_0, q0_1, q0_2, q0_3, q0_4, q0_5, _⟩ := HBS.out
    simp only [Nat.zero_add] at q0_1 q0_2 q0_3 q0_4 q0_5
    go_wp2_with fail
    clear q0_0 q0_1 q0_2 q0_3 q0_4 q0_5
    refine E7.out.mono ?_
    rintro e v7 ⟨rfl, hb⟩
    clear E7
    replace HT := Lib.hid (HT.out.below hb)
    replace HK := Lib.hid (HK.out.below hb)
    replace HBS := Lib.hid (HBS.out.below hb)
    replace HL2 := Lib.hid (HL2.out.below hb)
    replace HL4 := Lib.hid (HL4.out.below hb)
    replace HB := Lib.hid (HB.out.trans (hb.mono HB.out.size))
    clear hb
    have E8 := Lib.hid (drawSystem_any A c bs v7 (HC.out.below HB.out))
    go_wp2_with fail
    refine E8.out.mono ?_
    rintro e v8 ⟨m2, T2, t2, cT2, rfl, hT, hb⟩
    clear E8
    replace HT := Lib.hid (HT.out.below hb)
    replace HK := Lib.hid (HK.out.below hb)
    replace HBS := Lib.hid (HBS.out.below hb)
    replace HL2 := Lib.hid (HL2.out.below hb)
    replace HL4 := Lib.hid (HL4.out.below hb)
    replace HB := Lib.hid (HB.out.trans (hb.mono HB.out.size))
    have HT2 := Lib.hid (hT)
    clear hT hb
    obtain ⟨v8b, hv8b⟩ : ∃ wb, wb = v8.alloc (.cells #[.int .i64 m2.c, .int .i64 m2.d, .int .i64 m2.s, .int .i64 m2.a, .int .i64 m2.l, .slice T2 t2.length cT2] 28) := ⟨_, rfl⟩
    have hbx : Below v8.heap.size v8 v8b := by rw [hv8b]; exact (Below.refl _ _).alloc (Nat.le_refl _) _
    replace HT := Lib.hid (HT.out.below hbx)
    replace HK := Lib.hid (HK.out.below hbx)
    replace HBS := Lib.hid (HBS.out.below hbx)
    replace HL2 := Lib.hid (HL2.out.below hbx)
    replace HL4 := Lib.hid (HL4.out.below hbx)
    replace HT2 := Lib.hid (HT2.out.below hbx)
    replace HB := Lib.hid (HB.out.trans (hbx.mono HB.out.size))
    have HBX := Lib.hid (show BoxC v8b (v8.heap.size) 0 [.int .i64 m2.c, .int .i64 m2.d, .int .i64 m2.s, .int .i64 m2.a, .int .i64 m2.l, .slice T2 t2.length cT2] by rw [hv8b]; exact BoxC.new (w := v8) [.int .i64 m2.c, .int .i64 m2.d, .int .i64 m2.s, .int .i64 m2.a, .int .i64 m2.l, .slice T2 t2.length cT2] rfl)
    clear hbx
    go_upto_region 12 with fail
    rw [← hv8b]
    clear hv8b
    obtain ⟨sb, hsb⟩ : ∃ b, b = isSystem m2 t2 := ⟨_, rfl⟩
    have HSB := Lib.hid hsb.symm
    obtain ⟨ts, hts⟩ : ∃ s, s = str tx := ⟨_, rfl⟩
    rw [← hts]
    clear hsb hts
    have hll := HL2.out.le
    have KS := Lib.hid (show ∀ w' : World, Below v8b.heap.size v8b w' → (w'.cell? ⟨v8.heap.size, 0, none⟩ = some (.int .i64 m2.c) ∧ w'.cell? ⟨v8.heap.size, 1, none⟩ = some (.int .i64 m2.d) ∧ w'.cell? ⟨v8.heap.size, 2, none⟩ = some (.int .i64 m2.s) ∧ w'.cell? ⟨v8.heap.size, 3, none⟩ = some (.int .i64 m2.a) ∧ w'.cell? ⟨v8.heap.size, 4, none⟩ = some (.int .i64 m2.l) ∧ w'.cell? ⟨v8.heap.size, 5, none⟩ = some (.slice T2 t2.length cT2)) from fun w' hw => by
      obtain ⟨a0, a1, a2, a3, a4, a5, _⟩ := HBX.out.below hw
      exact ⟨a0, a1, a2, a3, a4, a5⟩)
    go_wp2_with fail
    refine wp_region_held_drew (S := (fun w' => (w'.cell? ⟨v8.heap.size, 0, none⟩ = some (.int .i64 m2.c) ∧ w'.cell? ⟨v8.heap.size, 1, none⟩ = some (.int .i64 m2.d) ∧ w'.cell? ⟨v8.heap.size, 2, none⟩ = some (.int .i64 m2.s) ∧ w'.cell? ⟨v8.heap.size, 3, none⟩ = some (.int .i64 m2.a) ∧ w'.cell? ⟨v8.heap.size, 4, none⟩ = some (.int .i64 m2.l) ∧ w'.cell? ⟨v8.heap.size, 5, none⟩ = some (.slice T2 t2.length cT2)))) (by kernel_rfl) (KS.out _ (belowDrew0 _)) (fun hHeld => ?_)
    refine takeD (i := 0) (some 69) (.int .i64 kl) rfl (by kernel_rfl) (by kernel_rfl) (by kernel_rfl) (by kernel_rfl) (fun _ _ _ h => h) (by assumption) (Or.inl ⟨by rfl, fun w hSw => by (try dsimp only at hSw); go_simp⟩) ?_
    simp only [Act.put, List.setIfInBounds_toArray, List.set_cons_zero, List.set_cons_succ]
    refine takeD (i := 1) (some 70) (.int .i64 kl) rfl (by kernel_rfl) (by kernel_rfl) (by kernel_rfl) (by kernel_rfl) (fun _ _ _ h => h) (by assumption) (Or.inl ⟨by rfl, fun w hSw => by (try dsimp only at hSw); go_simp⟩) ?_
    simp only [Act.put, List.setIfInBounds_toArray, List.set_cons_zero, List.set_cons_succ]
    refine takeD (i := 2) (some 71) (.bool false) rfl (by kernel_rfl) (by kernel_rfl) (by kernel_rfl) (by kernel_rfl) (fun _ _ _ h => h) (by assumption) (Or.inl ⟨by rfl, fun w hSw => by (try dsimp only at hSw); go_simp; (try simp)⟩) ?_
    simp only [Act.put, List.setIfInBounds_toArray, List.set_cons_zero, List.set_cons_succ]
    refine takeD (i := 3) (some 72) (.bool false) rfl (by kernel_rfl) (by kernel_rfl) (by kernel_rfl) (by kernel_rfl) (fun _ _ _ h => h) (by assumption) (Or.inl ⟨by rfl, fun w hSw => by (try dsimp only at hSw); go_simp⟩) ?_
    simp only [Act.put, List.setIfInBounds_toArray, List.set_cons_zero, List.set_cons_succ]
    refine takeD (i := 4) (some 73) (.slice A2 ls.length c2) rfl (by kernel_rfl) (by kernel_rfl) (by kernel_rfl) (by kernel_rfl) (fun _ _ _ h => h) (by assumption) (Or.inl ⟨by rfl, fun w hSw => by (try dsimp only at hSw); go_simp⟩) ?_
    simp only [Act.put, List.setIfInBounds_toArray, List.set_cons_zero, List.set_cons_succ]
    refine takeD (i := 5) (some 74) (.int .i64 (ls.length : Int)) rfl (by kernel_rfl) (by kernel_rfl) (by kernel_rfl) (by kernel_rfl) (fun _ _ _ h => h) (by assumption) (Or.inl ⟨by rfl, fun w hSw => by (try dsimp only at hSw); go_simp⟩) ?_
    simp only [Act.put, List.setIfInBounds_toArray, List.set_cons_zero, List.set_cons_succ]
    refine takeD (i := 6) (some 75) (.slice A4 ls.length c4) rfl (by kernel_rfl) (by kernel_rfl) (by kernel_rfl) (by kernel_rfl) (fun _ _ _ h => h) (by assumption) (Or.inl ⟨by rfl, fun w hSw => by (try dsimp only at hSw); go_simp⟩) ?_
    simp only [Act.put, List.setIfInBounds_toArray, List.set_cons_zero, List.set_cons_succ]
    refine takeD (i := 7) (some 76) (.int .i64 (ls.length : Int)) rfl (by kernel_rfl) (by kernel_rfl) (by kernel_rfl) (by kernel_rfl) (fun _ _ _ h => h) (by assumption) (Or.inl ⟨by rfl, fun w hSw => by (try dsimp only at hSw); go_simp⟩) ?_
    simp only [Act.put, List.setIfInBounds_toArray, List.set_cons_zero, List.set_cons_succ]
    refine takeD (i := 8) (some 77) (.bool false) rfl (by kernel_rfl) (by kernel_rfl) (by kernel_rfl) (by kernel_rfl) (fun _ _ _ h => h) (by assumption) (Or.inl ⟨by rfl, fun w hSw => by (try dsimp only at hSw); go_simp; (try simp)⟩) ?_
    simp only [Act.put, List.setIfInBounds_toArray, List.set_cons_zero, List.set_cons_succ]
    refine takeD (i := 9) (some 78) (.bool false) rfl (by kernel_rfl) (by kernel_rfl) (by kernel_rfl) (by kernel_rfl) (fun _ _ _ h => h) (by assumption) (Or.inl ⟨by rfl, fun w hSw => by (try dsimp only at hSw); go_simp⟩) ?_
    simp only [Act.put, List.setIfInBounds_toArray, List.set_cons_zero, List.set_cons_succ]
    refine takeD (i := 10) (some 79) (.bool false) rfl (by kernel_rfl) (by kernel_rfl) (by kernel_rfl) (by kernel_rfl) (fun _ _ _ h => h) (by assumption) (Or.inl ⟨by rfl, fun w hSw => by (try dsimp only at hSw); go_simp⟩) ?_
    simp only [Act.put, List.setIfInBounds_toArray, List.set_cons_zero, List.set_cons_succ]
    refine takeD (i := 11) (some 80) (.int .i64 kt) rfl (by kernel_rfl) (by kernel_rfl) (by kernel_rfl) (by kernel_rfl) (fun _ _ _ h => h) (by assumption) (Or.inl ⟨by rfl, fun w hSw => by (try dsimp only at hSw); go_simp⟩) ?_
    simp only [Act.put, List.setIfInBounds_toArray, List.set_cons_zero, List.set_cons_succ]
    refine takeD (i := 12) (some 81) (.int .i64 kt) rfl (by kernel_rfl) (by kernel_rfl) (by kernel_rfl) (by kernel_rfl) (fun _ _ _ h => h) (by assumption) (Or.inl ⟨by rfl, fun w hSw => by (try dsimp only at hSw); go_simp⟩) ?_
    simp only [Act.put, List.setIfInBounds_toArray, List.set_cons_zero, List.set_cons_succ]
    refine takeD (i := 13) (some 82) (.bool false) rfl (by kernel_rfl) (by kernel_rfl) (by kernel_rfl) (by kernel_rfl) (fun _ _ _ h => h) (by assumption) (Or.inl ⟨by rfl, fun w hSw => by (try dsimp only at hSw); go_simp; (try simp)⟩) ?_
    simp only [Act.put, List.setIfInBounds_toArray, List.set_cons_zero, List.set_cons_succ]
    refine takeD (i := 14) (some 83) (.bool false) rfl (by kernel_rfl) (by kernel_rfl) (by kernel_rfl) (by kernel_rfl) (fun _ _ _ h => h) (by assumption) (Or.inl ⟨by rfl, fun w hSw => by (try dsimp only at hSw); go_simp⟩) ?_
    simp only [Act.put, List.setIfInBounds_toArray, List.set_cons_zero, List.set_cons_succ]
    refine takeD (i := 15) (some 84) (.bool false) rfl (by kernel_rfl) (by kernel_rfl) (by kernel_rfl) (by kernel_rfl) (fun _ _ _ h => h) (by assumption) (Or.inl ⟨by rfl, fun w hSw => by (try dsimp only at hSw); go_simp⟩) ?_
    simp only [Act.put, List.setIfInBounds_toArray, List.set_cons_zero, List.set_cons_succ]
    refine takeD (i := 16) (some 85) (.string ts) rfl (by kernel_rfl) (by kernel_rfl) (by kernel_rfl) (by kernel_rfl) (fun _ _ _ h => h) (by assumption) (Or.inl ⟨by rfl, fun w hSw => by (try dsimp only at hSw); go_simp⟩) ?_
    simp only [Act.put, List.setIfInBounds_toArray, List.set_cons_zero, List.set_cons_succ]
    refine takeD (i := 17) (some 86) (.string ts) rfl (by kernel_rfl) (by kernel_rfl) (by kernel_rfl) (by kernel_rfl) (fun _ _ _ h => h) (by assumption) (Or.inl ⟨by rfl, fun w hSw => by (try dsimp only at hSw); go_simp⟩) ?_
    simp only [Act.put, List.setIfInBounds_toArray, List.set_cons_zero, List.set_cons_succ]
    refine takeD (i := 18) (some 87) (.bool false) rfl (by kernel_rfl) (by kernel_rfl) (by kernel_rfl) (by kernel_rfl) (fun _ _ _ h => h) (by assumption) (Or.inl ⟨by rfl, fun w hSw => by (try dsimp only at hSw); go_simp; (try simp)⟩) ?_
    simp only [Act.put, List.setIfInBounds_toArray, List.set_cons_zero, List.set_cons_succ]
    refine takeD (i := 19) (some 88) (.bool false) rfl (by kernel_rfl) (by kernel_rfl) (by kernel_rfl) (by kernel_rfl) (fun _ _ _ h => h) (by assumption) (Or.inl ⟨by rfl, fun w hSw => by (try dsimp only at hSw); go_simp⟩) ?_
    simp only [Act.put, List.setIfInBounds_toArray, List.set_cons_zero, List.set_cons_succ]
    refine takeD (i := 20) (some 89) (.bool false) rfl (by kernel_rfl) (by kernel_rfl) (by kernel_rfl) (by kernel_rfl) (fun _ _ _ h => h) (by assumption) (Or.inl ⟨by rfl, fun w hSw => by (try dsimp only at hSw); go_simp⟩) ?_
    simp only [Act.put, List.setIfInBounds_toArray, List.set_cons_zero, List.set_cons_succ]
    refine takeD (i := 21) (some 90) (.agg #[.int .i64 m2.c, .int .i64 m2.d, .int .i64 m2.s, .int .i64 m2.a, .int .i64 m2.l, .slice T2 t2.length cT2]) rfl (by kernel_rfl) (by kernel_rfl) (by kernel_rfl) (by kernel_rfl) (fun _ _ _ h => h) (by assumption) (Or.inl ⟨by rfl, fun w hSw => by (try dsimp only at hSw); go_simp⟩) ?_
    simp only [Act.put, List.setIfInBounds_toArray, List.set_cons_zero, List.set_cons_succ]
    refine takeD (i := 23) (some 92) (.agg #[.int .i64 m2.c, .int .i64 m2.d, .int .i64 m2.s, .int .i64 m2.a, .int .i64 m2.l, .slice T2 t2.length cT2]) rfl (by kernel_rfl) (by kernel_rfl) (by kernel_rfl) (by kernel_rfl) (fun _ _ _ h => h) (by assumption) (Or.inl ⟨by rfl, fun w hSw => by (try dsimp only at hSw); go_simp⟩) ?_
    simp only [Act.put, List.setIfInBounds_toArray, List.set_cons_zero, List.set_cons_succ]
    refine wpAnyH_ready (rs := [22]) (by kernel_rfl) (by simp) (AllReadyH.cons rfl (fun K hK => ?_) AllReadyH.nil)
    go_simp
    refine (sys0i (w := v8b.drew) (HT2.out.below (belowDrew0 _)) HSB.out).mono ?_
    rintro e wg ⟨rfl, hbg⟩
    have HBg := Lib.hid (belowDrew hbg)
    clear hbg
    have HHeld := KS.out _ HBg.out
    refine hK.out _ _ HHeld (fun _ => ?_)
    clear hK K
    try simp only [Act.put, List.setIfInBounds_toArray, List.set_cons_zero, List.set_cons_succ]
    refine wpAnyH_ready (rs := [24]) (by kernel_rfl) (by simp) (AllReadyH.cons rfl (fun K hK => ?_) AllReadyH.nil)
    go_simp
    refine (sys0s (w := wg) (HT2.out.below HBg.out) HSB.out).mono ?_
    rintro e wh ⟨rfl, hbh⟩
    have HBh := Lib.hid (HBg.out.trans (hbh.mono HBg.out.size))
    clear hbh
    have HHeld := KS.out _ HBh.out
    refine hK.out _ _ HHeld (fun _ => ?_)
    clear hK K
    try simp only [Act.put, List.setIfInBounds_toArray, List.set_cons_zero, List.set_cons_succ]
    refine takeD (i := 25) (some 94) (.bool false) rfl (by kernel_rfl) (by kernel_rfl) (by kernel_rfl) (by kernel_rfl) (fun _ _ _ h => h) (by assumption) (Or.inl ⟨by rfl, fun w hSw => by (try dsimp only at hSw); go_simp; (try simp)⟩) ?_
    simp only [Act.put, List.setIfInBounds_toArray, List.set_cons_zero, List.set_cons_succ]
    refine takeD (i := 26) (some 95) (.bool false) rfl (by kernel_rfl) (by kernel_rfl) (by kernel_rfl) (by kernel_rfl) (fun _ _ _ h => h) (by assumption) (Or.inl ⟨by rfl, fun w hSw => by (try dsimp only at hSw); go_simp⟩) ?_
    simp only [Act.put, List.setIfInBounds_toArray, List.set_cons_zero, List.set_cons_succ]
    refine wpAnyH_done (by kernel_rfl) ?_ _
    clear KS
    clear HT2 HBX
    replace HT := Lib.hid (HT.out.below HBh.out)
    replace HK := Lib.hid (HK.out.below HBh.out)
    replace HBS := Lib.hid (HBS.out.below HBh.out)
    replace HL2 := Lib.hid (HL2.out.below HBh.out)
    replace HL4 := Lib.hid (HL4.out.below HBh.out)
    replace HB := Lib.hid (HB.out.trans (HBh.out.mono HB.out.size))
    go_wp2_with fail
    go_loopw [16] (fun i wr => ∃ k : Nat, i = .int .i64 k ∧ k ≤ ls.length ∧ Below wh.heap.size wh wr) (fun i _ => ls.length - (intOf i).toNat)
    case atStart => exact ⟨0, rfl, by omega, Below.refl _ _⟩
    case round =>
      obtain ⟨k, rfl, hk, hb⟩ := hrel
      have HBr := Lib.hid hb
      have hsr := hb.size
      by_cases hlt : k < ls.length
      · obtain ⟨bG, oG, A', c', rfl, hcell, hcc, hrow⟩ := (HL2.out.below hb).at_ hlt
        obtain ⟨bH, oH, A'', c'', rfl, hcell2, hcc2, hrow2⟩ := (HL4.out.below hb).at_ hlt
        obtain ⟨l, hl⟩ : ∃ l, l = ls[k] := ⟨_, rfl⟩
        rw [← hl] at hcell hcell2 hrow hrow2
        have HR := Lib.hid hrow; have HR2 := Lib.hid hrow2; have HLT := Lib.hid hlt
        have i0 : (0 : Int) ≤ (k : Int) := by omega
        have i1 : (k : Int) < (ls.length : Int) := by omega
        have KS := Lib.hid (show ∀ w' : World, Below wr.heap.size wr w' → (w'.cell? ⟨bG, oG + k, none⟩ = some (.slice A' l.length c') ∧ w'.cell? ⟨bH, oH + k, none⟩ = some (.slice A'' l.length c'')) from fun w' hw =>
          ⟨cell_in hw (World.block_lt_of_cell? _ _ hcell) hcell, cell_in hw (World.block_lt_of_cell? _ _ hcell2) hcell2⟩)
        clear hb hcell hcell2 hcc hcc2 hrow hrow2 hl
        go_wp2_with fail
        refine wp_region_held_drew (S := (fun w' => (w'.cell? ⟨bG, oG + k, none⟩ = some (.slice A' l.length c') ∧ w'.cell? ⟨bH, oH + k, none⟩ = some (.slice A'' l.length c'')))) (by kernel_rfl) (KS.out _ (belowDrew0 _)) (fun hHeld => ?_)
        refine takeD (i := 0) (some 102) (.slice (some ⟨bG, oG, none⟩) ls.length c2) rfl (by kernel_rfl) (by kernel_rfl) (by kernel_rfl) (by kernel_rfl) (fun _ _ _ h => h) (by assumption) (Or.inl ⟨by rfl, fun w hSw => by (try dsimp only at hSw); go_simp⟩) ?_
        simp only [Act.put, List.setIfInBounds_toArray, List.set_cons_zero, List.set_cons_succ]
        refine takeD (i := 1) (some 103) (.int .i64 (k : Int)) rfl (by kernel_rfl) (by kernel_rfl) (by kernel_rfl) (by kernel_rfl) (fun _ _ _ h => h) (by assumption) (Or.inl ⟨by rfl, fun w hSw => by (try dsimp only at hSw); go_simp⟩) ?_
        simp only [Act.put, List.setIfInBounds_toArray, List.set_cons_zero, List.set_cons_succ]
        refine takeD (i := 2) (some 104) (.pointer (some ⟨bG, oG + k, none⟩)) rfl (by kernel_rfl) (by kernel_rfl) (by kernel_rfl) (by kernel_rfl) (fun _ _ _ h => h) (by assumption) (Or.inl ⟨by rfl, fun w hSw => by (try dsimp only at hSw); go_simp⟩) ?_
        simp only [Act.put, List.setIfInBounds_toArray, List.set_cons_zero, List.set_cons_succ]
        refine takeD (i := 3) (some 105) (.agg #[.slice A' l.length c']) rfl (by kernel_rfl) (by kernel_rfl) (by kernel_rfl) (by kernel_rfl) (fun _ _ _ h => h) (by assumption) (Or.inl ⟨by rfl, fun w hSw => by (try dsimp only at hSw); go_simp⟩) ?_
        simp only [Act.put, List.setIfInBounds_toArray, List.set_cons_zero, List.set_cons_succ]
        refine takeD (i := 4) (some 106) (.slice (some ⟨bH, oH, none⟩) ls.length c4) rfl (by kernel_rfl) (by kernel_rfl) (by kernel_rfl) (by kernel_rfl) (fun _ _ _ h => h) (by assumption) (Or.inl ⟨by rfl, fun w hSw => by (try dsimp only at hSw); go_simp⟩) ?_
        simp only [Act.put, List.setIfInBounds_toArray, List.set_cons_zero, List.set_cons_succ]
        refine takeD (i := 5) (some 107) (.int .i64 (k : Int)) rfl (by kernel_rfl) (by kernel_rfl) (by kernel_rfl) (by kernel_rfl) (fun _ _ _ h => h) (by assumption) (Or.inl ⟨by rfl, fun w hSw => by (try dsimp only at hSw); go_simp⟩) ?_
        simp only [Act.put, List.setIfInBounds_toArray, List.set_cons_zero, List.set_cons_succ]
        refine takeD (i := 6) (some 108) (.pointer (some ⟨bH, oH + k, none⟩)) rfl (by kernel_rfl) (by kernel_rfl) (by kernel_rfl) (by kernel_rfl) (fun _ _ _ h => h) (by assumption) (Or.inl ⟨by rfl, fun w hSw => by (try dsimp only at hSw); go_simp⟩) ?_
        simp only [Act.put, List.setIfInBounds_toArray, List.set_cons_zero, List.set_cons_succ]
        refine takeD (i := 7) (some 109) (.agg #[.slice A'' l.length c'']) rfl (by kernel_rfl) (by kernel_rfl) (by kernel_rfl) (by kernel_rfl) (fun _ _ _ h => h) (by assumption) (Or.inl ⟨by rfl, fun w hSw => by (try dsimp only at hSw); go_simp⟩) ?_
        simp only [Act.put, List.setIfInBounds_toArray, List.set_cons_zero, List.set_cons_succ]
        refine wpAnyH_ready (rs := [8]) (by kernel_rfl) (by simp) (AllReadyH.cons rfl (fun K hK => ?_) AllReadyH.nil)
        go_simp
        refine (likeLocksB (w := wr.drew) (c := c') (d := c'') (HR.out.below (belowDrew0 _)) (HR2.out.below (belowDrew0 _))).mono ?_
        rintro e wn ⟨rfl, hbn⟩
        have HBn := Lib.hid (belowDrew hbn)
        clear hbn
        have HHeld := KS.out _ HBn.out
        refine hK.out _ _ HHeld (fun _ => ?_)
        clear hK K
        try simp only [Act.put, List.setIfInBounds_toArray, List.set_cons_zero, List.set_cons_succ]
        refine takeD (i := 9) (some 111) (.bool false) rfl (by kernel_rfl) (by kernel_rfl) (by kernel_rfl) (by kernel_rfl) (fun _ _ _ h => h) (by assumption) (Or.inl ⟨by rfl, fun w hSw => by (try dsimp only at hSw); go_simp; (try simp)⟩) ?_
        simp only [Act.put, List.setIfInBounds_toArray, List.set_cons_zero, List.set_cons_succ]
        refine wpAnyH_done (by kernel_rfl) ?_ _
        clear KS
        go_wp2_with fail
        go_roundw
        case rel => exact ⟨k + 1, by go_num, by have := HLT.out; omega, HBr.out.trans (HBn.out.mono HBr.out.size)⟩
        case measure => have := HLT.out; simp [intOf]; omega
      · obtain rfl : k = ls.length := by omega
        clear hb
        by_cases hkl : kl = 0
        rotate_left
        · have hkl' : (kl != 0) = true := by simpa using hkl
          go_wp2_with fail
          go_ret
          exact ⟨rfl, HB.out.trans (HBr.out.mono HB.out.size)⟩
        subst hkl
        obtain ⟨w5, rfl⟩ : ∃ x, x = wr := ⟨_, rfl⟩
        obtain ⟨hsy, hcl, hop, hrl⟩ := sys_all HLE.out
        have HSY := Lib.hid hsy; have HCL := Lib.hid hcl; have HOP := Lib.hid hop; have HRL := Lib.hid hrl
        have HT5 := Lib.hid (HT.out.below HBr.out); have HK5 := Lib.hid (HK.out.below HBr.out); have HL5 := Lib.hid (HL2.out.below HBr.out); have HBS5 := Lib.hid (HBS.out.below HBr.out)
        have HB5 := Lib.hid (HB.out.trans (HBr.out.mono HB.out.size))
        have hkle := HK.out.le
        have hll := HL2.out.le
        clear hsy hcl hop hrl HT HK HL2 HL4 HBS HB HBr
        go_wp2_with fail
        go_loopw [17, 18, 19, 20] (fun a _ _ _ wi => ∃ i : Nat, a = .int .i64 i ∧ i ≤ cs.length ∧ Below w5.heap.size w5 wi) (fun a _ _ _ _ => cs.length - (intOf a).toNat)
        case atStart => exact ⟨0, rfl, by omega, Below.refl _ _⟩
        case round =>
          obtain ⟨i, rfl, hi, hbi⟩ := hrel
          obtain ⟨w6, rfl⟩ : ∃ x, x = wr := ⟨_, rfl⟩
          have HB6 := Lib.hid hbi
          have hs6 := hbi.size
          clear hbi
          by_cases hil : i < cs.length
          · have hit : i < t.length := by rw [← HCL.out]; exact hil
            obtain ⟨bK, oK, K', q', rfl, hcK, hqK, hrK⟩ := (HK5.out.below HB6.out).at_ hil
            obtain ⟨bT, oT, T', d', rfl, hcT, hqT, hrT⟩ := (HT5.out.below HB6.out).at_ hit
            obtain ⟨x, hx⟩ : ∃ x, x = cs[i] := ⟨_, rfl⟩
            obtain ⟨r, hr⟩ : ∃ x, x = t[i] := ⟨_, rfl⟩
            have HXE := Lib.hid hx
            have HRE := Lib.hid hr
            have HRN := Lib.hid (show r.length = ls.length by rw [hr]; exact HRL.out i hit)
            rw [← hx] at hcK hqK hrK
            rw [← hr] at hcT hqT hrT
            have HX := Lib.hid hrK; have HQX := Lib.hid hqK; have HRW := Lib.hid hrT
            have HCK := Lib.hid hcK; have HCT := Lib.hid hcT
            have HIL := Lib.hid hil
            have j0 : (0 : Int) ≤ (i : Int) := by omega
            have j1 : (i : Int) < (cs.length : Int) := by omega
            have j2 : (i : Int) < (t.length : Int) := by omega
            clear hx hr hcK hqK hrK hcT hqT hrT
            go_wp2_with fail
            go_loopw [18, 19, 20] (fun a _ _ wi => ∃ k : Nat, a = .int .i64 k ∧ k ≤ ls.length ∧ Below w6.heap.size w6 wi) (fun a _ _ _ => ls.length - (intOf a).toNat)
            case atStart => exact ⟨0, rfl, by omega, Below.refl _ _⟩
            case round =>
              obtain ⟨k, rfl, hk, hbk⟩ := hrel
              have HBk := Lib.hid hbk
              have hsk := hbk.size
              clear hbk
              by_cases hlt : k < ls.length
              · have hkr : k < r.length := by rw [HRN.out]; exact hlt
                obtain ⟨bG, oG, A', c', rfl, hcell, hcc, hrow⟩ := (HL5.out.below (HB6.out.trans (HBk.out.mono HB6.out.size))).at_ hlt
                obtain ⟨ob, hob, hob1⟩ := HOP.out i k HIL.out hlt
                rw [← HXE.out] at hob
                obtain ⟨l, hl⟩ : ∃ l, l = ls[k] := ⟨_, rfl⟩
                rw [← hl] at hcell hrow hob
                obtain ⟨bE, oE, rfl, hcE⟩ := HRW.out.at_ hkr
                obtain ⟨e1, he1⟩ : ∃ e, e = r[k] := ⟨_, rfl⟩
                rw [← he1] at hcE
                have hge : (t.getD i []).getD k 0 = e1 := by
                  have hit : i < t.length := by rw [← HCL.out]; exact HIL.out
                  rw [getD_row hit, ← HRE.out, he1]; simp [List.getD, List.getElem?_eq_getElem hkr]
                rw [hge] at hob1
                have HR := Lib.hid hrow; have HOB := Lib.hid hob; have HO1 := Lib.hid hob1; have HLT := Lib.hid hlt
                have HCE := Lib.hid hcE
                have i0 : (0 : Int) ≤ (k : Int) := by omega
                have i1 : (k : Int) < (ls.length : Int) := by omega
                have i2 : (k : Int) < (r.length : Int) := by omega
                have KS := Lib.hid (show ∀ w' : World, Below wr.heap.size wr w' → (w'.cell? ⟨v1.heap.size, 0, none⟩ = some (.int .i64 m.c) ∧ w'.cell? ⟨v1.heap.size, 1, none⟩ = some (.int .i64 m.d) ∧ w'.cell? ⟨v1.heap.size, 2, none⟩ = some (.int .i64 m.s) ∧ w'.cell? ⟨v1.heap.size, 3, none⟩ = some (.int .i64 m.a) ∧ w'.cell? ⟨v1.heap.size, 4, none⟩ = some (.int .i64 m.l) ∧ w'.cell? ⟨bG, oG + k, none⟩ = some (.slice A' l.length c') ∧ w'.cell? ⟨bK, oK + i, none⟩ = some (.slice K' x.length q')) from fun w' hw => by
                  obtain ⟨a0, a1, a2, a3, a4, _, _⟩ := ((HBS5.out.below HB6.out).below HBk.out).below hw
                  exact ⟨a0, a1, a2, a3, a4, cell_in hw (World.block_lt_of_cell? _ _ hcell) hcell, cell_in (HBk.out.trans (hw.mono HBk.out.size)) (World.block_lt_of_cell? _ _ HCK.out) HCK.out⟩)
                clear hcell hcc hrow hl hob hob1 hge he1 hcE
                go_wp2_with fail
                refine wp_region_held_drew (S := (fun w' => (w'.cell? ⟨v1.heap.size, 0, none⟩ = some (.int .i64 m.c) ∧ w'.cell? ⟨v1.heap.size, 1, none⟩ = some (.int .i64 m.d) ∧ w'.cell? ⟨v1.heap.size, 2, none⟩ = some (.int .i64 m.s) ∧ w'.cell? ⟨v1.heap.size, 3, none⟩ = some (.int .i64 m.a) ∧ w'.cell? ⟨v1.heap.size, 4, none⟩ = some (.int .i64 m.l) ∧ w'.cell? ⟨bG, oG + k, none⟩ = some (.slice A' l.length c') ∧ w'.cell? ⟨bK, oK + i, none⟩ = some (.slice K' x.length q')))) (by kernel_rfl) (KS.out _ (belowDrew0 _)) (fun hHeld => ?_)
                refine takeD (i := 0) (some 127) (.pointer (some ⟨v1.heap.size, 0, none⟩)) rfl (by kernel_rfl) (by kernel_rfl) (by kernel_rfl) (by kernel_rfl) (fun _ _ _ h => h) (by assumption) (Or.inl ⟨by rfl, fun w hSw => by (try dsimp only at hSw); go_simp⟩) ?_
                simp only [Act.put, List.setIfInBounds_toArray, List.set_cons_zero, List.set_cons_succ]
                refine takeD (i := 1) (some 128) (.agg #[.int .i64 m.c, .int .i64 m.d, .int .i64 m.s, .int .i64 m.a, .int .i64 m.l]) rfl (by kernel_rfl) (by kernel_rfl) (by kernel_rfl) (by kernel_rfl) (fun _ _ _ h => h) (by assumption) (Or.inl ⟨by rfl, fun w hSw => by (try dsimp only at hSw); go_simp⟩) ?_
                simp only [Act.put, List.setIfInBounds_toArray, List.set_cons_zero, List.set_cons_succ]
                refine takeD (i := 2) (some 129) (.slice (some ⟨bG, oG, none⟩) ls.length c2) rfl (by kernel_rfl) (by kernel_rfl) (by kernel_rfl) (by kernel_rfl) (fun _ _ _ h => h) (by assumption) (Or.inl ⟨by rfl, fun w hSw => by (try dsimp only at hSw); go_simp⟩) ?_
                simp only [Act.put, List.setIfInBounds_toArray, List.set_cons_zero, List.set_cons_succ]
                refine takeD (i := 3) (some 130) (.int .i64 (k : Int)) rfl (by kernel_rfl) (by kernel_rfl) (by kernel_rfl) (by kernel_rfl) (fun _ _ _ h => h) (by assumption) (Or.inl ⟨by rfl, fun w hSw => by (try dsimp only at hSw); go_simp⟩) ?_
                simp only [Act.put, List.setIfInBounds_toArray, List.set_cons_zero, List.set_cons_succ]
                refine takeD (i := 4) (some 131) (.pointer (some ⟨bG, oG + k, none⟩)) rfl (by kernel_rfl) (by kernel_rfl) (by kernel_rfl) (by kernel_rfl) (fun _ _ _ h => h) (by assumption) (Or.inl ⟨by rfl, fun w hSw => by (try dsimp only at hSw); go_simp⟩) ?_
                simp only [Act.put, List.setIfInBounds_toArray, List.set_cons_zero, List.set_cons_succ]
                refine takeD (i := 5) (some 132) (.agg #[.slice A' l.length c']) rfl (by kernel_rfl) (by kernel_rfl) (by kernel_rfl) (by kernel_rfl) (fun _ _ _ h => h) (by assumption) (Or.inl ⟨by rfl, fun w hSw => by (try dsimp only at hSw); go_simp⟩) ?_
                simp only [Act.put, List.setIfInBounds_toArray, List.set_cons_zero, List.set_cons_succ]
                refine takeD (i := 6) (some 133) (.slice (some ⟨bK, oK, none⟩) cs.length q) rfl (by kernel_rfl) (by kernel_rfl) (by kernel_rfl) (by kernel_rfl) (fun _ _ _ h => h) (by assumption) (Or.inl ⟨by rfl, fun w hSw => by (try dsimp only at hSw); go_simp⟩) ?_
                simp only [Act.put, List.setIfInBounds_toArray, List.set_cons_zero, List.set_cons_succ]
                refine takeD (i := 7) (some 134) (.int .i64 (i : Int)) rfl (by kernel_rfl) (by kernel_rfl) (by kernel_rfl) (by kernel_rfl) (fun _ _ _ h => h) (by assumption) (Or.inl ⟨by rfl, fun w hSw => by (try dsimp only at hSw); go_simp⟩) ?_
                simp only [Act.put, List.setIfInBounds_toArray, List.set_cons_zero, List.set_cons_succ]
                refine takeD (i := 8) (some 135) (.pointer (some ⟨bK, oK + i, none⟩)) rfl (by kernel_rfl) (by kernel_rfl) (by kernel_rfl) (by kernel_rfl) (fun _ _ _ h => h) (by assumption) (Or.inl ⟨by rfl, fun w hSw => by (try dsimp only at hSw); go_simp⟩) ?_
                simp only [Act.put, List.setIfInBounds_toArray, List.set_cons_zero, List.set_cons_succ]
                refine takeD (i := 9) (some 136) (.slice K' x.length q') rfl (by kernel_rfl) (by kernel_rfl) (by kernel_rfl) (by kernel_rfl) (fun _ _ _ h => h) (by assumption) (Or.inl ⟨by rfl, fun w hSw => by (try dsimp only at hSw); go_simp⟩) ?_
                simp only [Act.put, List.setIfInBounds_toArray, List.set_cons_zero, List.set_cons_succ]
                refine wpAnyH_ready (rs := [10]) (by kernel_rfl) (by simp) (AllReadyH.cons rfl (fun K hK => ?_) AllReadyH.nil)
                go_simp
                refine (opens0 (w := wr.drew) (HR.out.below (belowDrew0 _)) ((HX.out.below HBk.out).below (belowDrew0 _)) HQX.out HOB.out).mono ?_
                rintro e wn ⟨rfl, hbn⟩
                have HBn := Lib.hid (belowDrew hbn)
                clear hbn
                have HHeld := KS.out _ HBn.out
                refine hK.out _ _ HHeld (fun _ => ?_)
                clear hK K
                try simp only [Act.put, List.setIfInBounds_toArray, List.set_cons_zero, List.set_cons_succ]
                refine takeD (i := 11) (some 126) (.tuple #[.bool ob, .int .i64 0]) rfl (by kernel_rfl) (by kernel_rfl) (by kernel_rfl) (by kernel_rfl) (fun _ _ _ h => h) (by assumption) (Or.inl ⟨by rfl, fun w hSw => by (try dsimp only at hSw); go_simp⟩) ?_
                simp only [Act.put, List.setIfInBounds_toArray, List.set_cons_zero, List.set_cons_succ]
                refine takeD (i := 12) (some 138) (.bool ob) rfl (by kernel_rfl) (by kernel_rfl) (by kernel_rfl) (by kernel_rfl) (fun _ _ _ h => h) (by assumption) (Or.inl ⟨by rfl, fun w hSw => by (try dsimp only at hSw); go_simp⟩) ?_
                simp only [Act.put, List.setIfInBounds_toArray, List.set_cons_zero, List.set_cons_succ]
                refine takeD (i := 13) (some 139) (.int .i64 0) rfl (by kernel_rfl) (by kernel_rfl) (by kernel_rfl) (by kernel_rfl) (fun _ _ _ h => h) (by assumption) (Or.inl ⟨by rfl, fun w hSw => by (try dsimp only at hSw); go_simp⟩) ?_
                simp only [Act.put, List.setIfInBounds_toArray, List.set_cons_zero, List.set_cons_succ]
                refine takeD (i := 14) (some 19) (.bool ob) rfl (by kernel_rfl) (by kernel_rfl) (by kernel_rfl) (by kernel_rfl) (fun _ _ _ h => h) (by assumption) (Or.inl ⟨by rfl, fun w hSw => by (try dsimp only at hSw); go_simp⟩) ?_
                simp only [Act.put, List.setIfInBounds_toArray, List.set_cons_zero, List.set_cons_succ]
                refine takeD (i := 15) (some 20) (.int .i64 0) rfl (by kernel_rfl) (by kernel_rfl) (by kernel_rfl) (by kernel_rfl) (fun _ _ _ h => h) (by assumption) (Or.inl ⟨by rfl, fun w hSw => by (try dsimp only at hSw); go_simp⟩) ?_
                simp only [Act.put, List.setIfInBounds_toArray, List.set_cons_zero, List.set_cons_succ]
                refine wpAnyH_done (by kernel_rfl) ?_ _
                clear KS
                have HBm := Lib.hid (HBk.out.trans (HBn.out.mono HBk.out.size))
                obtain ⟨_, _, _, _, _, z5, _⟩ := ((HBS5.out.below HB6.out).below HBm.out)
                simp only [Nat.zero_add] at z5
                have zT := cell_in HBm.out (World.block_lt_of_cell? _ _ HCT.out) HCT.out
                have zE := cell_in HBm.out (World.block_lt_of_cell? _ _ HCE.out) HCE.out
                by_cases he : e1 = 1
                · obtain rfl := HO1.out he
                  subst he
                  go_wp2_with fail
                  go_roundw
                  case rel => exact ⟨k + 1, by go_num, by have := HLT.out; omega, HBm.out⟩
                  case measure => have := HLT.out; simp [intOf]; omega
                · have he' : (e1 == 1) = false := by simpa using he
                  go_wp2_with fail
                  go_roundw
                  case rel => exact ⟨k + 1, by go_num, by have := HLT.out; omega, HBm.out⟩
                  case measure => have := HLT.out; simp [intOf]; omega
              · obtain rfl : k = ls.length := by omega
                have hn1 : decide (((ls.length : Nat) : Int) < ((ls.length : Nat) : Int)) = false := by simp
                go_wp2_with fail
                go_roundw
                case rel => exact ⟨i + 1, by go_num, by have := HIL.out; omega, HB6.out.trans (HBk.out.mono HB6.out.size)⟩
                case measure => have := HIL.out; simp [intOf]; omega
          · obtain rfl : i = cs.length := by omega
            have hn1 : decide (((cs.length : Nat) : Int) < ((cs.length : Nat) : Int)) = false := by simp
            have EI := Lib.hid (sys0i (w := w6) (cT := cT) (HT5.out.below HB6.out) HSY.out)
            obtain ⟨y0, y1, y2, y3, y4, y5, _⟩ := HBS5.out.below HB6.out
            simp only [Nat.zero_add] at y1 y2 y3 y4 y5
            go_wp2_with fail
            refine EI.out.mono ?_
            rintro e w7 ⟨rfl, hb7⟩
            have HB7 := Lib.hid (HB6.out.trans (hb7.mono HB6.out.size))
            clear hb7 y0 y1 y2 y3 y4 y5
            go_wp2_with fail
            go_ret
            exact ⟨rfl, HB5.out.trans (HB7.out.mono HB5.out.size)⟩
end Go.Proofs.YtdedajohkdbdkaaGreatDoor.fnSystems
