/- Contracts of l02First and l02Next. -/
import Derived.Test.YtdedajohkdbdkaaGreatDoorFOpeners
import Derived.Test.YtdedajohkdbdkaaGreatDoorFGhost
import Derived.Deep.LoopGhost
import Derived.Test.YtdedajohkdbdkaaGreatDoorDraw
namespace Go.Proofs.YtdedajohkdbdkaaGreatDoor
set_option linter.unusedVariables false
open Go.RowKit
/-- a key, and whether there is one -/
def ResFst (A0 : Option Addr) (o : Option (List Int)) (w : World) (e : Ending) (w' : World) : Prop :=
  ∃ A c xs b, e = .returned (.tuple #[.slice A xs.length c, .bool b]) ∧ xs.length ≤ c ∧ RI w' A xs ∧ (∀ x, o = some x → b = true ∧ xs = x) ∧ (o = none → b = false) ∧ (∀ b o, A = some ⟨b, o, none⟩ → w.heap.size ≤ b ∨ ∃ o', A0 = some ⟨b, o', none⟩) ∧ Below w.heap.size w w'
theorem resFst_none {A0 : Option Addr} {o : Option (List Int)} {w w' : World} (h : o = none) (hb : Below w.heap.size w w') : ResFst A0 o w (.returned (.tuple #[.slice none 0 0, .bool false])) w' := by
  subst h; exact ⟨none, 0, [], false, rfl, Nat.le_refl _, RI.nil, fun x hx => (by cases hx), fun _ => rfl, fun b o e => (by cases e), hb⟩
theorem resFst_some {A0 : Option Addr} {o : Option (List Int)} {w w' : World} {A : Option Addr} {c n : Nat} {xs : List Int} (h : o = some xs) (hn : n = xs.length) (hc : xs.length ≤ c) (hr : RI w' A xs) (hk : ∀ b o, A = some ⟨b, o, none⟩ → w.heap.size ≤ b ∨ ∃ o', A0 = some ⟨b, o', none⟩) (hb : Below w.heap.size w w') : ResFst A0 o w (.returned (.tuple #[.slice A n c, .bool true])) w' := by
  subst hn; exact ⟨A, c, xs, true, rfl, hc, hr, fun x hx => ⟨rfl, by rw [h] at hx; injection hx⟩, fun h0 => (by rw [h] at h0; cases h0), hk, hb⟩
set_option maxRecDepth 100000 in
set_option maxHeartbeats 8000000 in
theorem l02First_any (m : Mk) (hm : isMaker m = true) : ∀ (r : Nat) (cuts : List Int) (A : Option Addr) (c : Nat) (w : World),
    RI w A cuts → cuts.length ≤ c → (cuts.length : Int) + r = m.c → allW 0 (m.d - 1) cuts = true →
    Calls Tryz.prog 74 #[.agg #[.int .i64 m.c, .int .i64 m.d, .int .i64 m.s, .int .i64 m.a, .int .i64 m.l], .slice A cuts.length c] w (ResFst A (firstK m r cuts) w) := by
  intro r
  induction r with
  | zero =>
    intro cuts A c w g hcap hcr haw
    have hmb := mk_bounds hm
    have c1 : 2 ≤ m.c := hmb.1
    have c2 : m.c ≤ 6 := hmb.2.1
    have d8 : m.d ≤ 8 := hmb.2.2.2.1
    clear hmb
    have hn6 : cuts.length ≤ 6 := by omega
    have B0 := (Below.refl w.heap.size w).alloc (Nat.le_refl _) (.cells #[.int .i64 m.c, .int .i64 m.d, .int .i64 m.s, .int .i64 m.a, .int .i64 m.l] 25)
    have HBG := l02Begins_any m A c cuts (w.alloc (.cells #[.int .i64 m.c, .int .i64 m.d, .int .i64 m.s, .int .i64 m.a, .int .i64 m.l] 25)) (g.below B0) hm haw hn6
    have bm : BoxC (w.alloc (.cells #[.int .i64 m.c, .int .i64 m.d, .int .i64 m.s, .int .i64 m.a, .int .i64 m.l] 25)) w.heap.size 0 [.int .i64 m.c, .int .i64 m.d, .int .i64 m.s, .int .i64 m.a, .int .i64 m.l] := by simp [BoxC, Go.World.cell?_alloc_at]
    have hle := g.le
    cases hbg : begins m cuts with
    | false =>
      have HR := Lib.hid (firstK_no hbg 0)
      rw [hbg] at HBG
      have HB := Lib.hid HBG; clear HBG
      go_enter Tryz.func74, Tryz.ntmps74
      go_wp2_with fail
      refine HB.out.mono ?_
      rintro e w1 ⟨rfl, b1⟩
      go_wp2_with fail
      go_ret2
      exact resFst_none HR.out (B0.trans (b1.mono B0.size))
    | true =>
      rw [hbg] at HBG
      have HB := Lib.hid HBG; clear HBG
      have hne : ((cuts.length : Int) == m.c) = true := by simp; omega
      have HR := Lib.hid (firstK_zero hbg)
      by_cases hq : m.l ≤ kinds cuts
      · have hq' : decide (m.l ≤ (kinds cuts : Int)) = true := decide_eq_true hq
        have HQ := Lib.hid (show firstK m 0 cuts = some cuts by rw [HR.out, if_neg (by omega)])
        clear haw hbg hm hcr hq
        go_enter Tryz.func74, Tryz.ntmps74
        go_wp2_with fail
        refine HB.out.mono ?_
        rintro e w1 ⟨rfl, b1⟩
        have B1 := B0.trans (b1.mono B0.size)
        obtain ⟨q0, q1, q2, q3, q4, _⟩ := bm.below b1
        have h1 := g.below B1
        have HG1 := Lib.hid h1
        go_wp2_with fail
        go_quiet ((go_at_call 86; first | exact quietQA (l02Kinds_any _ _ _ _ (h1.drewN _) hcap) | exact quietQ (l02Kinds_any _ _ _ _ (h1.drewN _) hcap)))
        go_wp2_with fail
        go_ret2
        exact resFst_some HQ.out rfl hcap (HG1.out.drewN _) (fun b o e => .inr ⟨o, e⟩) (by first | exact belowD B1 _ | exact belowD (belowD B1 _) _)
      · have hq' : decide (m.l ≤ (kinds cuts : Int)) = false := decide_eq_false hq
        have HQ := Lib.hid (show firstK m 0 cuts = none by rw [HR.out, if_pos (by omega)])
        clear haw hbg hm hcr hq
        go_enter Tryz.func74, Tryz.ntmps74
        go_wp2_with fail
        refine HB.out.mono ?_
        rintro e w1 ⟨rfl, b1⟩
        have B1 := B0.trans (b1.mono B0.size)
        obtain ⟨q0, q1, q2, q3, q4, _⟩ := bm.below b1
        have h1 := g.below B1
        have HG1 := Lib.hid h1
        go_wp2_with fail
        go_quiet ((go_at_call 86; first | exact quietQA (l02Kinds_any _ _ _ _ (h1.drewN _) hcap) | exact quietQ (l02Kinds_any _ _ _ _ (h1.drewN _) hcap)))
        go_wp2_with fail
        go_ret2
        exact ⟨A, c, cuts, false, rfl, hcap, HG1.out.drewN _, fun x hx => (by rw [HQ.out] at hx; cases hx), fun _ => rfl, fun b o e => .inr ⟨o, e⟩, by first | exact belowD B1 _ | exact belowD (belowD B1 _) _⟩
  | succ r ih =>
  intro cuts A c w g hcap hcr haw
  have hmb := mk_bounds hm
  have c1 : 2 ≤ m.c := hmb.1
  have c2 : m.c ≤ 6 := hmb.2.1
  have d2 : 2 ≤ m.d := hmb.2.2.1
  have d8 : m.d ≤ 8 := hmb.2.2.2.1
  clear hmb
  have hn6 : cuts.length ≤ 6 := by omega
  have B0 := (Below.refl w.heap.size w).alloc (Nat.le_refl _) (.cells #[.int .i64 m.c, .int .i64 m.d, .int .i64 m.s, .int .i64 m.a, .int .i64 m.l] 25)
  have hBG := l02Begins_any m A c cuts (w.alloc (.cells #[.int .i64 m.c, .int .i64 m.d, .int .i64 m.s, .int .i64 m.a, .int .i64 m.l] 25)) (g.below B0) hm haw hn6
  have bm : BoxC (w.alloc (.cells #[.int .i64 m.c, .int .i64 m.d, .int .i64 m.s, .int .i64 m.a, .int .i64 m.l] 25)) w.heap.size 0 [.int .i64 m.c, .int .i64 m.d, .int .i64 m.s, .int .i64 m.a, .int .i64 m.l] := by simp [BoxC, Go.World.cell?_alloc_at]
  have hle := g.le
  cases hbg : begins m cuts with
  | false =>
    have HR := Lib.hid (firstK_no hbg (r + 1))
    rw [hbg] at hBG
    have HB := Lib.hid hBG; clear hBG
    go_enter Tryz.func74, Tryz.ntmps74
    go_wp2_with fail
    refine HB.out.mono ?_
    rintro e w1 ⟨rfl, b1⟩
    go_wp2_with fail
    go_ret2
    exact resFst_none HR.out (B0.trans (b1.mono B0.size))
  | true =>
  rw [hbg] at hBG
  have HB := Lib.hid hBG; clear hBG
  have hne : ((cuts.length : Int) == m.c) = false := by simp; omega
  have HCR := Lib.hid hcr
  have HBG := Lib.hid hbg
  have HFS := Lib.hid (firstK_succ hbg r)
  have IH := Lib.hid ih
  have HAW := Lib.hid haw
  clear ih haw hbg hm hcr
  go_enter Tryz.func74, Tryz.ntmps74
  go_wp2_with fail
  refine HB.out.mono ?_
  rintro e w1 ⟨rfl, b1⟩
  have B1 := B0.trans (b1.mono B0.size)
  obtain ⟨q0, q1, q2, q3, q4, _⟩ := bm.below b1
  have s1 : w.heap.size + 1 ≤ w1.heap.size := by have := b1.size; simp only [World.size_alloc] at this; omega
  have HBX := Lib.hid (bm.below b1)
  clear bm
  go_wp2_with fail
  clear q0 q1 q2 q3 q4
  go_loopw [6, 7, 8] (fun i _ _ wr => ∃ d : Int, i = .int .i64 d ∧ 0 ≤ d ∧ d ≤ m.d ∧ Hid (keysFrom m allA [] r cuts false d = keysFrom m allA [] r cuts false 0) ∧ Below w1.heap.size w1 wr) (fun i _ _ _ => (m.d - intOf i).toNat)
  case atStart => exact ⟨0, rfl, by omega, by omega, Lib.hid rfl, Below.refl _ _⟩
  case round =>
    obtain ⟨d, rfl, hd0, hd1, HSK, hb⟩ := hrel
    have hsz := hb.size
    have Bw := B1.trans (hb.mono (by omega))
    obtain ⟨q0, q1, q2, q3, q4, _⟩ := HBX.out.below hb
    by_cases hlt : d < m.d
    · obtain ⟨k2, hk2⟩ : ∃ k2, k2 = cuts ++ [d] := ⟨_, rfl⟩
      have HAW2 := Lib.hid (show allW 0 (m.d - 1) k2 = true by rw [hk2]; exact allW_snoc HAW.out hd0 (by omega))
      have HIN := Lib.hid (show ints cuts ++ [.int .i64 d] = ints k2 by rw [hk2, ints_append]; rfl)
      have HL2 := Lib.hid (show k2.length = cuts.length + 1 by rw [hk2]; simp)
      have HK2 := Lib.hid hk2; clear hk2
      have KS := Lib.hid (show ∀ w' : World, Below wr.heap.size wr w' → (w'.cell? ⟨w.heap.size, 0, none⟩ = some (.int .i64 m.c) ∧ w'.cell? ⟨w.heap.size, 1, none⟩ = some (.int .i64 m.d) ∧ w'.cell? ⟨w.heap.size, 2, none⟩ = some (.int .i64 m.s) ∧ w'.cell? ⟨w.heap.size, 3, none⟩ = some (.int .i64 m.a) ∧ w'.cell? ⟨w.heap.size, 4, none⟩ = some (.int .i64 m.l) ∧ True) from fun w' hw =>
        HBX.out.keep fun i v hv => cell_in (hb.trans (hw.mono hsz)) (by simp only; omega) hv)
      have OWN := Lib.hid (fun (W : World) (hW : Below wr.heap.size wr W) => l01Own_any A c cuts W (g.below (Bw.trans (hW.mono Bw.size))) (by omega))
      go_wp2_with fail
      refine wp_region_held_drew (S := (fun w' => (w'.cell? ⟨w.heap.size, 0, none⟩ = some (.int .i64 m.c) ∧ w'.cell? ⟨w.heap.size, 1, none⟩ = some (.int .i64 m.d) ∧ w'.cell? ⟨w.heap.size, 2, none⟩ = some (.int .i64 m.s) ∧ w'.cell? ⟨w.heap.size, 3, none⟩ = some (.int .i64 m.a) ∧ w'.cell? ⟨w.heap.size, 4, none⟩ = some (.int .i64 m.l) ∧ True))) (by kernel_rfl) (KS.out _ (belowDrew0 _)) (fun hHeld => ?_)
      refine takeD (i := 0) (some 31) (.agg #[.int .i64 m.c, .int .i64 m.d, .int .i64 m.s, .int .i64 m.a, .int .i64 m.l]) rfl (by kernel_rfl) (by kernel_rfl) (by kernel_rfl) (by kernel_rfl) (fun _ _ _ h => h) (by assumption) (Or.inl ⟨by rfl, fun w hSw => by (try dsimp only at hSw); go_simp⟩) ?_
      simp only [Act.put, List.setIfInBounds_toArray, List.set_cons_zero, List.set_cons_succ]
      refine takeD (i := 1) (some 32) (.slice A cuts.length c) rfl (by kernel_rfl) (by kernel_rfl) (by kernel_rfl) (by kernel_rfl) (fun _ _ _ h => h) (by assumption) (Or.inl ⟨by rfl, fun w hSw => by (try dsimp only at hSw); go_simp⟩) ?_
      simp only [Act.put, List.setIfInBounds_toArray, List.set_cons_zero, List.set_cons_succ]
      refine takeD (i := 3) (some 34) (.int .i64 d) rfl (by kernel_rfl) (by kernel_rfl) (by kernel_rfl) (by kernel_rfl) (fun _ _ _ h => h) (by assumption) (Or.inl ⟨by rfl, fun w hSw => by (try dsimp only at hSw); go_simp⟩) ?_
      simp only [Act.put, List.setIfInBounds_toArray, List.set_cons_zero, List.set_cons_succ]
      refine wpAnyH_ready (rs := [2, 4]) (by kernel_rfl) (by simp) (AllReadyH.cons rfl (fun K hK => ?_) (AllReadyH.cons rfl (fun K hK => ?_) AllReadyH.nil))
      · go_simp
        refine (OWN.out _ (belowDrew0 _)).mono ?_
        rintro e w4 ⟨A4, c4, rfl, hc4, hr4, ho4', hb4'⟩
        have Hb4 := Lib.hid (belowDrew hb4')
        have HHeld := KS.out _ Hb4.out
        refine hK.out _ _ HHeld (fun _ => ?_)
        clear hK K
        try simp only [Act.put, List.setIfInBounds_toArray, List.set_cons_zero, List.set_cons_succ]
        refine wpAnyH_ready (rs := [4]) (by kernel_rfl) (by simp) (AllReadyH.cons rfl (fun K hK => ?_) AllReadyH.nil)
        go_simp
        have hb4 := Hb4.out.alloc Hb4.out.size (.cells #[.int .i64 d] 2)
        have ho4 : OV (w4.alloc (.cells #[.int .i64 d] 2)) wr.heap.size 2 (.slice A4 cuts.length c4) (ints cuts) := ho4'.1.alloc _
        have hcell4 := one_cell w4 (.int .i64 d) 2
        clear ho4' hr4 hb4'
        have HHeld := KS.out _ hb4
        refine hK.out _ _ HHeld (fun _ => ?_)
        clear hK K
        try simp only [Act.put, List.setIfInBounds_toArray, List.set_cons_zero, List.set_cons_succ]
        refine wpAnyH_ready (rs := [5]) (by kernel_rfl) (by simp) (AllReadyH.cons rfl (fun K hK => ?_) AllReadyH.nil)
        refine step_app1 _ (by rfl) _ _ _ (by rfl) wr.heap.size 2 _ 8 Tryz.underlying44 info_int rfl (by omega) _ _ (by rfl) ho4 _ _ (by rfl) hcell4 rfl (by rw [ints_length]; omega) (by have := hb4.size; omega) ?_
        intro v5 w5 ho5 hg5 hn5 hat5
        have hb5 := ho4.own (Nat.le_refl _) hb4 hg5 hb4.size
        rw [HIN.out] at ho5
        have hl2 := HL2.out
        obtain ⟨g5, c5, rfl, hg5a, hg5b, hcc5, _, _⟩ := ho5.open1 (by omega)
        have hr5 : RI w5 (some ⟨g5, 0, none⟩) k2 := by
          obtain ⟨A9, c9, e9, _, h9⟩ := ho5.reads
          injection e9 with e9 _ _
          rw [e9]; exact h9
        have Hb5 := Lib.hid hb5
        clear ho5 hg5 hn5 hat5 hl2
        have HHeld := KS.out _ Hb5.out
        refine hK.out _ _ HHeld (fun _ => ?_)
        clear hK K
        (try simp only [Act.put]); (try simp only [List.setIfInBounds_toArray]); (try simp only [List.set_cons_zero, List.set_cons_succ])
        have HI := IH.out k2 (some ⟨g5, 0, none⟩) c5 w5 hr5 hcc5 (by have := HL2.out; have := HCR.out; omega) HAW2.out
        have HIH := Lib.hid HI; clear HI
        refine wpAnyH_ready (rs := [6]) (by kernel_rfl) (by simp) (AllReadyH.cons rfl (fun K hK => ?_) AllReadyH.nil)
        go_simp
        refine HIH.out.mono ?_
        rintro e w6 ⟨A6, c6, xs6, b6, rfl, hc6, hr6, hso, hno, hbk6, b6'⟩
        have Hb6 := Lib.hid (Hb5.out.trans (b6'.mono Hb5.out.size))
        have HK6 := Lib.hid (show ∀ b o, A6 = some ⟨b, o, none⟩ → w.heap.size ≤ b from fun b o e => by
          have h1 := Bw.size; have h2 := Hb5.out.size
          rcases hbk6 b o e with h | ⟨o', h⟩
          · omega
          · injection h with h; injection h with h _ _; omega)
        clear hbk6
        have Hr6 := Lib.hid hr6; have HSO := Lib.hid hso; have HNO := Lib.hid hno
        clear hr6 hso hno b6'
        have HHeld := KS.out _ Hb6.out
        refine hK.out _ _ HHeld (fun _ => ?_)
        clear hK K
        try simp only [Act.put, List.setIfInBounds_toArray, List.set_cons_zero, List.set_cons_succ]
        refine takeD (i := 7) (some 30) (.tuple #[.slice A6 xs6.length c6, .bool b6]) rfl (by kernel_rfl) (by kernel_rfl) (by kernel_rfl) (by kernel_rfl) (fun _ _ _ h => h) (by assumption) (Or.inl ⟨by rfl, fun w hSw => by (try dsimp only at hSw); go_simp⟩) ?_
        simp only [Act.put, List.setIfInBounds_toArray, List.set_cons_zero, List.set_cons_succ]
        refine takeD (i := 8) (some 38) (.slice A6 xs6.length c6) rfl (by kernel_rfl) (by kernel_rfl) (by kernel_rfl) (by kernel_rfl) (fun _ _ _ h => h) (by assumption) (Or.inl ⟨by rfl, fun w hSw => by (try dsimp only at hSw); go_simp⟩) ?_
        simp only [Act.put, List.setIfInBounds_toArray, List.set_cons_zero, List.set_cons_succ]
        refine takeD (i := 9) (some 39) (.bool b6) rfl (by kernel_rfl) (by kernel_rfl) (by kernel_rfl) (by kernel_rfl) (fun _ _ _ h => h) (by assumption) (Or.inl ⟨by rfl, fun w hSw => by (try dsimp only at hSw); go_simp⟩) ?_
        simp only [Act.put, List.setIfInBounds_toArray, List.set_cons_zero, List.set_cons_succ]
        refine takeD (i := 10) (some 7) (.slice A6 xs6.length c6) rfl (by kernel_rfl) (by kernel_rfl) (by kernel_rfl) (by kernel_rfl) (fun _ _ _ h => h) (by assumption) (Or.inl ⟨by rfl, fun w hSw => by (try dsimp only at hSw); go_simp⟩) ?_
        simp only [Act.put, List.setIfInBounds_toArray, List.set_cons_zero, List.set_cons_succ]
        refine takeD (i := 11) (some 8) (.bool b6) rfl (by kernel_rfl) (by kernel_rfl) (by kernel_rfl) (by kernel_rfl) (fun _ _ _ h => h) (by assumption) (Or.inl ⟨by rfl, fun w hSw => by (try dsimp only at hSw); go_simp⟩) ?_
        simp only [Act.put, List.setIfInBounds_toArray, List.set_cons_zero, List.set_cons_succ]
        refine wpAnyH_done (by kernel_rfl) ?_ _
        cases b6 with
        | true =>
          have HX6 := Lib.hid (show firstK m r k2 = some xs6 by
            cases ho : firstK m r k2 with
            | none => cases HNO.out ho
            | some x => rw [(HSO.out x ho).2])
          go_wp2_with fail
          go_ret2
          exact resFst_some (by rw [HFS.out, ← HSK.out]; exact keysFrom_some HBG.out (by omega) (by rw [← HK2.out]; exact HX6.out)) rfl hc6 Hr6.out (fun b o e => .inl (HK6.out b o e)) (Bw.trans (Hb6.out.mono Bw.size))
        | false =>
          have HX6 := Lib.hid (show firstK m r k2 = none by
            cases ho : firstK m r k2 with
            | none => rfl
            | some x => cases (HSO.out x ho).1)
          go_wp2_with fail
          go_roundw
          case rel => exact ⟨d + 1, by go_num, by omega, by omega, Lib.hid (by rw [← HSK.out]; exact (keysFrom_none HBG.out (by omega) (by rw [← HK2.out]; exact HX6.out)).symm), hb.trans (Hb6.out.mono (by omega))⟩
          case measure => simp [intOf]; omega
      · go_simp
        have hb40 : Below wr.heap.size wr (wr.drew.alloc (.cells #[.int .i64 d] 2)) := (belowDrew0 wr).alloc (Nat.le_refl _) _
        have HHeld := KS.out _ hb40
        refine hK.out _ _ HHeld (fun _ => ?_)
        clear hK K
        try simp only [Act.put, List.setIfInBounds_toArray, List.set_cons_zero, List.set_cons_succ]
        refine wpAnyH_ready (rs := [2]) (by kernel_rfl) (by simp) (AllReadyH.cons rfl (fun K hK => ?_) AllReadyH.nil)
        go_simp
        refine (OWN.out _ hb40).mono ?_
        rintro e w4 ⟨A4, c4, rfl, hc4, hr4, ho4', hb4'⟩
        have hb4 := hb40.trans (hb4'.mono hb40.size)
        have ho4 : OV w4 wr.heap.size 2 (.slice A4 cuts.length c4) (ints cuts) := ho4'.1.mono (by simp)
        have hcell4 : w4.cell? ⟨wr.heap.size, 0, none⟩ = some (.int .i64 d) := cell_in hb4' (by simp) (one_cell wr (.int .i64 d) 2)
        clear ho4' hr4 hb4'
        have HHeld := KS.out _ hb4
        refine hK.out _ _ HHeld (fun _ => ?_)
        clear hK K
        try simp only [Act.put, List.setIfInBounds_toArray, List.set_cons_zero, List.set_cons_succ]
        refine wpAnyH_ready (rs := [5]) (by kernel_rfl) (by simp) (AllReadyH.cons rfl (fun K hK => ?_) AllReadyH.nil)
        refine step_app1 _ (by rfl) _ _ _ (by rfl) wr.heap.size 2 _ 8 Tryz.underlying44 info_int rfl (by omega) _ _ (by rfl) ho4 _ _ (by rfl) hcell4 rfl (by rw [ints_length]; omega) (by have := hb4.size; omega) ?_
        intro v5 w5 ho5 hg5 hn5 hat5
        have hb5 := ho4.own (Nat.le_refl _) hb4 hg5 hb4.size
        rw [HIN.out] at ho5
        have hl2 := HL2.out
        obtain ⟨g5, c5, rfl, hg5a, hg5b, hcc5, _, _⟩ := ho5.open1 (by omega)
        have hr5 : RI w5 (some ⟨g5, 0, none⟩) k2 := by
          obtain ⟨A9, c9, e9, _, h9⟩ := ho5.reads
          injection e9 with e9 _ _
          rw [e9]; exact h9
        have Hb5 := Lib.hid hb5
        clear ho5 hg5 hn5 hat5 hl2
        have HHeld := KS.out _ Hb5.out
        refine hK.out _ _ HHeld (fun _ => ?_)
        clear hK K
        (try simp only [Act.put]); (try simp only [List.setIfInBounds_toArray]); (try simp only [List.set_cons_zero, List.set_cons_succ])
        have HI := IH.out k2 (some ⟨g5, 0, none⟩) c5 w5 hr5 hcc5 (by have := HL2.out; have := HCR.out; omega) HAW2.out
        have HIH := Lib.hid HI; clear HI
        refine wpAnyH_ready (rs := [6]) (by kernel_rfl) (by simp) (AllReadyH.cons rfl (fun K hK => ?_) AllReadyH.nil)
        go_simp
        refine HIH.out.mono ?_
        rintro e w6 ⟨A6, c6, xs6, b6, rfl, hc6, hr6, hso, hno, hbk6, b6'⟩
        have Hb6 := Lib.hid (Hb5.out.trans (b6'.mono Hb5.out.size))
        have HK6 := Lib.hid (show ∀ b o, A6 = some ⟨b, o, none⟩ → w.heap.size ≤ b from fun b o e => by
          have h1 := Bw.size; have h2 := Hb5.out.size
          rcases hbk6 b o e with h | ⟨o', h⟩
          · omega
          · injection h with h; injection h with h _ _; omega)
        clear hbk6
        have Hr6 := Lib.hid hr6; have HSO := Lib.hid hso; have HNO := Lib.hid hno
        clear hr6 hso hno b6'
        have HHeld := KS.out _ Hb6.out
        refine hK.out _ _ HHeld (fun _ => ?_)
        clear hK K
        try simp only [Act.put, List.setIfInBounds_toArray, List.set_cons_zero, List.set_cons_succ]
        refine takeD (i := 7) (some 30) (.tuple #[.slice A6 xs6.length c6, .bool b6]) rfl (by kernel_rfl) (by kernel_rfl) (by kernel_rfl) (by kernel_rfl) (fun _ _ _ h => h) (by assumption) (Or.inl ⟨by rfl, fun w hSw => by (try dsimp only at hSw); go_simp⟩) ?_
        simp only [Act.put, List.setIfInBounds_toArray, List.set_cons_zero, List.set_cons_succ]
        refine takeD (i := 8) (some 38) (.slice A6 xs6.length c6) rfl (by kernel_rfl) (by kernel_rfl) (by kernel_rfl) (by kernel_rfl) (fun _ _ _ h => h) (by assumption) (Or.inl ⟨by rfl, fun w hSw => by (try dsimp only at hSw); go_simp⟩) ?_
        simp only [Act.put, List.setIfInBounds_toArray, List.set_cons_zero, List.set_cons_succ]
        refine takeD (i := 9) (some 39) (.bool b6) rfl (by kernel_rfl) (by kernel_rfl) (by kernel_rfl) (by kernel_rfl) (fun _ _ _ h => h) (by assumption) (Or.inl ⟨by rfl, fun w hSw => by (try dsimp only at hSw); go_simp⟩) ?_
        simp only [Act.put, List.setIfInBounds_toArray, List.set_cons_zero, List.set_cons_succ]
        refine takeD (i := 10) (some 7) (.slice A6 xs6.length c6) rfl (by kernel_rfl) (by kernel_rfl) (by kernel_rfl) (by kernel_rfl) (fun _ _ _ h => h) (by assumption) (Or.inl ⟨by rfl, fun w hSw => by (try dsimp only at hSw); go_simp⟩) ?_
        simp only [Act.put, List.setIfInBounds_toArray, List.set_cons_zero, List.set_cons_succ]
        refine takeD (i := 11) (some 8) (.bool b6) rfl (by kernel_rfl) (by kernel_rfl) (by kernel_rfl) (by kernel_rfl) (fun _ _ _ h => h) (by assumption) (Or.inl ⟨by rfl, fun w hSw => by (try dsimp only at hSw); go_simp⟩) ?_
        simp only [Act.put, List.setIfInBounds_toArray, List.set_cons_zero, List.set_cons_succ]
        refine wpAnyH_done (by kernel_rfl) ?_ _
        cases b6 with
        | true =>
          have HX6 := Lib.hid (show firstK m r k2 = some xs6 by
            cases ho : firstK m r k2 with
            | none => cases HNO.out ho
            | some x => rw [(HSO.out x ho).2])
          go_wp2_with fail
          go_ret2
          exact resFst_some (by rw [HFS.out, ← HSK.out]; exact keysFrom_some HBG.out (by omega) (by rw [← HK2.out]; exact HX6.out)) rfl hc6 Hr6.out (fun b o e => .inl (HK6.out b o e)) (Bw.trans (Hb6.out.mono Bw.size))
        | false =>
          have HX6 := Lib.hid (show firstK m r k2 = none by
            cases ho : firstK m r k2 with
            | none => rfl
            | some x => cases (HSO.out x ho).1)
          go_wp2_with fail
          go_roundw
          case rel => exact ⟨d + 1, by go_num, by omega, by omega, Lib.hid (by rw [← HSK.out]; exact (keysFrom_none HBG.out (by omega) (by rw [← HK2.out]; exact HX6.out)).symm), hb.trans (Hb6.out.mono (by omega))⟩
          case measure => simp [intOf]; omega
    · obtain rfl : d = m.d := by omega
      have HN := Lib.hid (show firstK m (r + 1) cuts = none by rw [HFS.out, ← HSK.out, keysFrom_end _ _ _ _ _ _ (Int.le_refl _)]; rfl)
      go_wp2_with fail
      go_ret2
      exact resFst_none HN.out Bw
set_option maxRecDepth 100000 in
set_option maxHeartbeats 8000000 in
theorem l02Next_any (m : Mk) (hm : isMaker m = true) (cuts : List Int) (A : Option Addr) (c : Nat) (w : World) (h : RI w A cuts) (hcap : cuts.length ≤ c) (hk : isKey m cuts = true) :
    Calls Tryz.prog 73 #[.agg #[.int .i64 m.c, .int .i64 m.d, .int .i64 m.s, .int .i64 m.a, .int .i64 m.l], .slice A cuts.length c] w (ResFst none (behindK m [] cuts).head? w) := by
  have hmb := mk_bounds hm
  have c1 : 2 ≤ m.c := hmb.1
  have c2 : m.c ≤ 6 := hmb.2.1
  have d2 : 2 ≤ m.d := hmb.2.2.1
  have d8 : m.d ≤ 8 := hmb.2.2.2.1
  clear hmb
  have hkp := key_parts hk
  have HCR := Lib.hid hkp.1
  have HAW := Lib.hid hkp.2
  have HBE := Lib.hid (show begins m cuts = true by
    have h3 := fault_zero_iff.1 (show fault m cuts = 0 by simpa [isKey] using hk)
    unfold begins; rw [h3.2.2.1, h3.2.2.2.1]; rfl)
  have hl6 : cuts.length ≤ 6 := by omega
  clear hkp hk
  have HMK := Lib.hid hm; clear hm
  have hle := h.le
  obtain ⟨w1, hw1⟩ : ∃ w1, w1 = w.alloc (.cells #[.int .i64 m.c, .int .i64 m.d, .int .i64 m.s, .int .i64 m.a, .int .i64 m.l] 25) := ⟨_, rfl⟩
  have B1 : Below w.heap.size w w1 := by rw [hw1]; exact (Below.refl w.heap.size w).alloc (Nat.le_refl _) _
  have hs1 : w1.heap.size = w.heap.size + 1 := by rw [hw1]; simp
  have bm : BoxC w1 w.heap.size 0 [.int .i64 m.c, .int .i64 m.d, .int .i64 m.s, .int .i64 m.a, .int .i64 m.l] := by rw [hw1]; simp [BoxC, Go.World.cell?_alloc_at]
  have HBX := Lib.hid bm; clear bm
  go_enter Tryz.func73, Tryz.ntmps73
  go_wp2_with fail
  rw [← hw1]
  clear hw1
  go_loopw [6, 7, 8, 9] (fun i _ _ _ wr => ∃ j : Nat, j ≤ cuts.length ∧ i = .int .i64 ((j : Int) - 1) ∧ Hid (behindK m (cuts.take j) (cuts.drop j) = []) ∧ Below w1.heap.size w1 wr) (fun i _ _ _ _ => (intOf i + 1).toNat)
  case atStart => exact ⟨cuts.length, Nat.le_refl _, rfl, Lib.hid (by rw [List.drop_length]; rfl), Below.refl _ _⟩
  case round =>
    obtain ⟨j, hj, rfl, HSTJ, hbo⟩ := hrel
    obtain ⟨wo, rfl⟩ : ∃ wo : World, wo = wr := ⟨_, rfl⟩
    have hsz := hbo.size
    have Bo := B1.trans (hbo.mono (by omega))
    by_cases hj0 : j = 0
    · subst hj0
      have HN := Lib.hid (show (behindK m [] cuts).head? = none by
        have := HSTJ.out; rw [List.take_zero, List.drop_zero] at this; rw [this]; rfl)
      go_wp2_with fail
      go_ret2
      exact resFst_none HN.out Bo
    · obtain ⟨n, rfl⟩ : ∃ n, j = n + 1 := ⟨j - 1, by omega⟩
      have e1 : (((n + 1 : Nat) : Int) - 1) = (n : Int) := by omega
      rw [e1]
      have hnl : n < cuts.length := by omega
      obtain ⟨bA, oA, rfl, hcA0⟩ := h.at_ hnl
      have hbA := World.block_lt_of_cell? w _ hcA0
      simp only at hbA
      have hcA := cell_in Bo hbA hcA0
      obtain ⟨x, hx⟩ : ∃ x, x = cuts[n] := ⟨_, rfl⟩
      have hxb := allW_at HAW.out hnl
      rw [← hx] at hcA hxb
      obtain ⟨pre, hpre⟩ : ∃ pre, pre = cuts.take n := ⟨_, rfl⟩
      have HPL := Lib.hid (show pre.length = n by rw [hpre, List.length_take]; omega)
      have HSTEP := Lib.hid (show behindK m (cuts.take n) (cuts.drop n) = keysFrom m allA [] (cuts.length - (n + 1)) pre false (x + 1) by
        rw [behind_step m cuts n hnl, HSTJ.out, List.nil_append, ← hx, ← hpre])
      have HBG := Lib.hid (show begins m pre = true by rw [hpre]; exact begins_take HBE.out n)
      have HPW := Lib.hid (show allW 0 (m.d - 1) pre = true by
        rw [hpre]; unfold allW; rw [List.all_eq_true]; intro y hy
        have := HAW.out; unfold allW at this; rw [List.all_eq_true] at this
        exact this y (List.mem_of_mem_take hy))
      have HRP := Lib.hid (show RI w (some ⟨bA, oA, none⟩) pre by rw [hpre]; exact h.take n)
      have i0 : (0 : Int) ≤ (n : Int) := by omega
      have i1 : (n : Int) < (cuts.length : Int) := by omega
      have i2 : (n : Int) ≤ (c : Int) := by omega
      have hx0 := hxb.1
      have hx1 := hxb.2
      clear hx hpre hcA0 hxb
      go_wp2_with fail
      go_loopw [7, 8, 9] (fun i _ _ wx => ∃ d : Int, i = .int .i64 d ∧ x + 1 ≤ d ∧ d ≤ m.d ∧ Hid (keysFrom m allA [] (cuts.length - (n + 1)) pre false d = keysFrom m allA [] (cuts.length - (n + 1)) pre false (x + 1)) ∧ Below w1.heap.size w1 wx) (fun i _ _ _ => (m.d - intOf i).toNat)
      case atStart => exact ⟨x + 1, rfl, by omega, by omega, Lib.hid rfl, hbo⟩
      case round =>
        obtain ⟨d, rfl, hd0, hd1, HSK, hb⟩ := hrel
        have hszx := hb.size
        have Bw := B1.trans (hb.mono (by omega))
        obtain ⟨q0, q1, q2, q3, q4, _⟩ := HBX.out.keep fun i v hv => cell_in hb (by simp only; omega) hv
        by_cases hlt : d < m.d
        · obtain ⟨k2, hk2⟩ : ∃ k2, k2 = pre ++ [d] := ⟨_, rfl⟩
          have HAW2 := Lib.hid (show allW 0 (m.d - 1) k2 = true by rw [hk2]; exact allW_snoc HPW.out (by omega) (by omega))
          have HIN := Lib.hid (show ints pre ++ [.int .i64 d] = ints k2 by rw [hk2, ints_append]; rfl)
          have HL2 := Lib.hid (show k2.length = n + 1 by rw [hk2]; simp [HPL.out])
          have HK2 := Lib.hid hk2; clear hk2
          have KS := Lib.hid (show ∀ w' : World, Below wr.heap.size wr w' → (w'.cell? ⟨w.heap.size, 0, none⟩ = some (.int .i64 m.c) ∧ w'.cell? ⟨w.heap.size, 1, none⟩ = some (.int .i64 m.d) ∧ w'.cell? ⟨w.heap.size, 2, none⟩ = some (.int .i64 m.s) ∧ w'.cell? ⟨w.heap.size, 3, none⟩ = some (.int .i64 m.a) ∧ w'.cell? ⟨w.heap.size, 4, none⟩ = some (.int .i64 m.l) ∧ True) from fun w' hw =>
            HBX.out.keep fun i v hv => cell_in (hb.trans (hw.mono hszx)) (by simp only; omega) hv)
          have OWN := Lib.hid (show ∀ (W : World), Below wr.heap.size wr W → Calls Tryz.prog 84 #[.slice (some ⟨bA, oA, none⟩) n c] W (ResI W pre) from fun W hW => by
            have := l01Own_any (some ⟨bA, oA, none⟩) c pre W (HRP.out.below (Bw.trans (hW.mono Bw.size))) (by have := HPL.out; omega)
            rw [HPL.out] at this; exact this)
          go_wp2_with fail
          refine wp_region_held_drew (S := (fun w' => (w'.cell? ⟨w.heap.size, 0, none⟩ = some (.int .i64 m.c) ∧ w'.cell? ⟨w.heap.size, 1, none⟩ = some (.int .i64 m.d) ∧ w'.cell? ⟨w.heap.size, 2, none⟩ = some (.int .i64 m.s) ∧ w'.cell? ⟨w.heap.size, 3, none⟩ = some (.int .i64 m.a) ∧ w'.cell? ⟨w.heap.size, 4, none⟩ = some (.int .i64 m.l) ∧ True))) (by kernel_rfl) (KS.out _ (belowDrew0 _)) (fun hHeld => ?_)
          refine takeD (i := 0) (some 29) (.agg #[.int .i64 m.c, .int .i64 m.d, .int .i64 m.s, .int .i64 m.a, .int .i64 m.l]) rfl (by kernel_rfl) (by kernel_rfl) (by kernel_rfl) (by kernel_rfl) (fun _ _ _ h => h) (by assumption) (Or.inl ⟨by rfl, fun w hSw => by (try dsimp only at hSw); go_simp⟩) ?_
          simp only [Act.put, List.setIfInBounds_toArray, List.set_cons_zero, List.set_cons_succ]
          refine takeD (i := 1) (some 30) (.slice (some ⟨bA, oA, none⟩) cuts.length c) rfl (by kernel_rfl) (by kernel_rfl) (by kernel_rfl) (by kernel_rfl) (fun _ _ _ h => h) (by assumption) (Or.inl ⟨by rfl, fun w hSw => by (try dsimp only at hSw); go_simp⟩) ?_
          simp only [Act.put, List.setIfInBounds_toArray, List.set_cons_zero, List.set_cons_succ]
          refine takeD (i := 2) (some 31) (.int .i64 (n : Int)) rfl (by kernel_rfl) (by kernel_rfl) (by kernel_rfl) (by kernel_rfl) (fun _ _ _ h => h) (by assumption) (Or.inl ⟨by rfl, fun w hSw => by (try dsimp only at hSw); go_simp⟩) ?_
          simp only [Act.put, List.setIfInBounds_toArray, List.set_cons_zero, List.set_cons_succ]
          refine takeD (i := 3) (some 32) (.slice (some ⟨bA, oA, none⟩) n c) rfl (by kernel_rfl) (by kernel_rfl) (by kernel_rfl) (by kernel_rfl) (fun _ _ _ h => h) (by assumption) (Or.inl ⟨by rfl, fun w hSw => by (try dsimp only at hSw); go_simp⟩) ?_
          simp only [Act.put, List.setIfInBounds_toArray, List.set_cons_zero, List.set_cons_succ]
          refine takeD (i := 5) (some 34) (.int .i64 d) rfl (by kernel_rfl) (by kernel_rfl) (by kernel_rfl) (by kernel_rfl) (fun _ _ _ h => h) (by assumption) (Or.inl ⟨by rfl, fun w hSw => by (try dsimp only at hSw); go_simp⟩) ?_
          simp only [Act.put, List.setIfInBounds_toArray, List.set_cons_zero, List.set_cons_succ]
          refine wpAnyH_ready (rs := [4, 6]) (by kernel_rfl) (by simp) (AllReadyH.cons rfl (fun K hK => ?_) (AllReadyH.cons rfl (fun K hK => ?_) AllReadyH.nil))
          · go_simp
            refine (OWN.out _ (belowDrew0 _)).mono ?_
            rintro e w4 ⟨A4, c4, rfl, hc4, hr4, ho4', hb4'⟩
            have Hb4 := Lib.hid (belowDrew hb4')
            have HHeld := KS.out _ Hb4.out
            refine hK.out _ _ HHeld (fun _ => ?_)
            clear hK K
            try simp only [Act.put, List.setIfInBounds_toArray, List.set_cons_zero, List.set_cons_succ]
            refine wpAnyH_ready (rs := [6]) (by kernel_rfl) (by simp) (AllReadyH.cons rfl (fun K hK => ?_) AllReadyH.nil)
            go_simp
            have hb4 := Hb4.out.alloc Hb4.out.size (.cells #[.int .i64 d] 2)
            have ho4 : OV (w4.alloc (.cells #[.int .i64 d] 2)) wr.heap.size 2 (.slice A4 pre.length c4) (ints pre) := ho4'.1.alloc _
            have hcell4 := one_cell w4 (.int .i64 d) 2
            clear ho4' hr4 hb4'
            have HHeld := KS.out _ hb4
            refine hK.out _ _ HHeld (fun _ => ?_)
            clear hK K
            try simp only [Act.put, List.setIfInBounds_toArray, List.set_cons_zero, List.set_cons_succ]
            refine wpAnyH_ready (rs := [7]) (by kernel_rfl) (by simp) (AllReadyH.cons rfl (fun K hK => ?_) AllReadyH.nil)
            refine step_app1 _ (by rfl) _ _ _ (by rfl) wr.heap.size 2 _ 8 Tryz.underlying44 info_int rfl (by omega) _ _ (by rfl) ho4 _ _ (by rfl) hcell4 rfl (by rw [ints_length]; have := HPL.out; omega) (by have := hb4.size; omega) ?_
            intro v5 w5 ho5 hg5 hn5 hat5
            have hb5 := ho4.own (Nat.le_refl _) hb4 hg5 hb4.size
            rw [HIN.out] at ho5
            have hl2 := HL2.out
            obtain ⟨g5, c5, rfl, hg5a, hg5b, hcc5, _, _⟩ := ho5.open1 (by omega)
            have hr5 : RI w5 (some ⟨g5, 0, none⟩) k2 := by
              obtain ⟨A9, c9, e9, _, h9⟩ := ho5.reads
              injection e9 with e9 _ _
              rw [e9]; exact h9
            have Hb5 := Lib.hid hb5
            clear ho5 hg5 hn5 hat5 hl2
            have HHeld := KS.out _ Hb5.out
            refine hK.out _ _ HHeld (fun _ => ?_)
            clear hK K
            (try simp only [Act.put]); (try simp only [List.setIfInBounds_toArray]); (try simp only [List.set_cons_zero, List.set_cons_succ])
            have HIH := Lib.hid (l02First_any m HMK.out (cuts.length - (n + 1)) k2 (some ⟨g5, 0, none⟩) c5 w5 hr5 hcc5 (by have := HL2.out; have := HCR.out; omega) HAW2.out)
            refine wpAnyH_ready (rs := [8]) (by kernel_rfl) (by simp) (AllReadyH.cons rfl (fun K hK => ?_) AllReadyH.nil)
            go_simp
            refine HIH.out.mono ?_
            rintro e w6 ⟨A6, c6, xs6, b6, rfl, hc6, hr6, hso, hno, hbk6, b6'⟩
            have Hb6 := Lib.hid (Hb5.out.trans (b6'.mono Hb5.out.size))
            have HK6 := Lib.hid (show ∀ b o, A6 = some ⟨b, o, none⟩ → w.heap.size ≤ b from fun b o e => by
              have h1 := Bw.size; have h2 := Hb5.out.size
              rcases hbk6 b o e with h | ⟨o', h⟩
              · omega
              · injection h with h; injection h with h _ _; omega)
            clear hbk6
            have Hr6 := Lib.hid hr6; have HSO := Lib.hid hso; have HNO := Lib.hid hno
            clear hr6 hso hno b6'
            have HHeld := KS.out _ Hb6.out
            refine hK.out _ _ HHeld (fun _ => ?_)
            clear hK K
            try simp only [Act.put, List.setIfInBounds_toArray, List.set_cons_zero, List.set_cons_succ]
            refine takeD (i := 9) (some 28) (.tuple #[.slice A6 xs6.length c6, .bool b6]) rfl (by kernel_rfl) (by kernel_rfl) (by kernel_rfl) (by kernel_rfl) (fun _ _ _ h => h) (by assumption) (Or.inl ⟨by rfl, fun w hSw => by (try dsimp only at hSw); go_simp⟩) ?_
            simp only [Act.put, List.setIfInBounds_toArray, List.set_cons_zero, List.set_cons_succ]
            refine takeD (i := 10) (some 38) (.slice A6 xs6.length c6) rfl (by kernel_rfl) (by kernel_rfl) (by kernel_rfl) (by kernel_rfl) (fun _ _ _ h => h) (by assumption) (Or.inl ⟨by rfl, fun w hSw => by (try dsimp only at hSw); go_simp⟩) ?_
            simp only [Act.put, List.setIfInBounds_toArray, List.set_cons_zero, List.set_cons_succ]
            refine takeD (i := 11) (some 39) (.bool b6) rfl (by kernel_rfl) (by kernel_rfl) (by kernel_rfl) (by kernel_rfl) (fun _ _ _ h => h) (by assumption) (Or.inl ⟨by rfl, fun w hSw => by (try dsimp only at hSw); go_simp⟩) ?_
            simp only [Act.put, List.setIfInBounds_toArray, List.set_cons_zero, List.set_cons_succ]
            refine takeD (i := 12) (some 8) (.slice A6 xs6.length c6) rfl (by kernel_rfl) (by kernel_rfl) (by kernel_rfl) (by kernel_rfl) (fun _ _ _ h => h) (by assumption) (Or.inl ⟨by rfl, fun w hSw => by (try dsimp only at hSw); go_simp⟩) ?_
            simp only [Act.put, List.setIfInBounds_toArray, List.set_cons_zero, List.set_cons_succ]
            refine takeD (i := 13) (some 9) (.bool b6) rfl (by kernel_rfl) (by kernel_rfl) (by kernel_rfl) (by kernel_rfl) (fun _ _ _ h => h) (by assumption) (Or.inl ⟨by rfl, fun w hSw => by (try dsimp only at hSw); go_simp⟩) ?_
            simp only [Act.put, List.setIfInBounds_toArray, List.set_cons_zero, List.set_cons_succ]
            refine wpAnyH_done (by kernel_rfl) ?_ _
            cases b6 with
            | true =>
              have HX6 := Lib.hid (show firstK m (cuts.length - (n + 1)) k2 = some xs6 by
                cases ho : firstK m (cuts.length - (n + 1)) k2 with
                | none => cases HNO.out ho
                | some x => rw [(HSO.out x ho).2])
              go_wp2_with fail
              go_ret2
              exact resFst_some (behind_head (i := n) (by rw [HSTEP.out, ← HSK.out]; exact keysFrom_some HBG.out (by omega) (by rw [← HK2.out]; exact HX6.out))) rfl hc6 Hr6.out (fun b o e => .inl (HK6.out b o e)) (Bw.trans (Hb6.out.mono Bw.size))
            | false =>
              have HX6 := Lib.hid (show firstK m (cuts.length - (n + 1)) k2 = none by
                cases ho : firstK m (cuts.length - (n + 1)) k2 with
                | none => rfl
                | some x => cases (HSO.out x ho).1)
              go_wp2_with fail
              go_roundw
              case rel => exact ⟨d + 1, by go_num, by omega, by omega, Lib.hid (by rw [← HSK.out]; exact (keysFrom_none HBG.out (by omega) (by rw [← HK2.out]; exact HX6.out)).symm), hb.trans (Hb6.out.mono (by omega))⟩
              case measure => simp [intOf]; omega
          · go_simp
            have hb40 : Below wr.heap.size wr (wr.drew.alloc (.cells #[.int .i64 d] 2)) := (belowDrew0 wr).alloc (Nat.le_refl _) _
            have HHeld := KS.out _ hb40
            refine hK.out _ _ HHeld (fun _ => ?_)
            clear hK K
            try simp only [Act.put, List.setIfInBounds_toArray, List.set_cons_zero, List.set_cons_succ]
            refine wpAnyH_ready (rs := [4]) (by kernel_rfl) (by simp) (AllReadyH.cons rfl (fun K hK => ?_) AllReadyH.nil)
            go_simp
            refine (OWN.out _ hb40).mono ?_
            rintro e w4 ⟨A4, c4, rfl, hc4, hr4, ho4', hb4'⟩
            have hb4 := hb40.trans (hb4'.mono hb40.size)
            have ho4 : OV w4 wr.heap.size 2 (.slice A4 pre.length c4) (ints pre) := ho4'.1.mono (by simp)
            have hcell4 : w4.cell? ⟨wr.heap.size, 0, none⟩ = some (.int .i64 d) := cell_in hb4' (by simp) (one_cell wr (.int .i64 d) 2)
            clear ho4' hr4 hb4'
            have HHeld := KS.out _ hb4
            refine hK.out _ _ HHeld (fun _ => ?_)
            clear hK K
            try simp only [Act.put, List.setIfInBounds_toArray, List.set_cons_zero, List.set_cons_succ]
            refine wpAnyH_ready (rs := [7]) (by kernel_rfl) (by simp) (AllReadyH.cons rfl (fun K hK => ?_) AllReadyH.nil)
            refine step_app1 _ (by rfl) _ _ _ (by rfl) wr.heap.size 2 _ 8 Tryz.underlying44 info_int rfl (by omega) _ _ (by rfl) ho4 _ _ (by rfl) hcell4 rfl (by rw [ints_length]; have := HPL.out; omega) (by have := hb4.size; omega) ?_
            intro v5 w5 ho5 hg5 hn5 hat5
            have hb5 := ho4.own (Nat.le_refl _) hb4 hg5 hb4.size
            rw [HIN.out] at ho5
            have hl2 := HL2.out
            obtain ⟨g5, c5, rfl, hg5a, hg5b, hcc5, _, _⟩ := ho5.open1 (by omega)
            have hr5 : RI w5 (some ⟨g5, 0, none⟩) k2 := by
              obtain ⟨A9, c9, e9, _, h9⟩ := ho5.reads
              injection e9 with e9 _ _
              rw [e9]; exact h9
            have Hb5 := Lib.hid hb5
            clear ho5 hg5 hn5 hat5 hl2
            have HHeld := KS.out _ Hb5.out
            refine hK.out _ _ HHeld (fun _ => ?_)
            clear hK K
            (try simp only [Act.put]); (try simp only [List.setIfInBounds_toArray]); (try simp only [List.set_cons_zero, List.set_cons_succ])
            have HIH := Lib.hid (l02First_any m HMK.out (cuts.length - (n + 1)) k2 (some ⟨g5, 0, none⟩) c5 w5 hr5 hcc5 (by have := HL2.out; have := HCR.out; omega) HAW2.out)
            refine wpAnyH_ready (rs := [8]) (by kernel_rfl) (by simp) (AllReadyH.cons rfl (fun K hK => ?_) AllReadyH.nil)
            go_simp
            refine HIH.out.mono ?_
            rintro e w6 ⟨A6, c6, xs6, b6, rfl, hc6, hr6, hso, hno, hbk6, b6'⟩
            have Hb6 := Lib.hid (Hb5.out.trans (b6'.mono Hb5.out.size))
            have HK6 := Lib.hid (show ∀ b o, A6 = some ⟨b, o, none⟩ → w.heap.size ≤ b from fun b o e => by
              have h1 := Bw.size; have h2 := Hb5.out.size
              rcases hbk6 b o e with h | ⟨o', h⟩
              · omega
              · injection h with h; injection h with h _ _; omega)
            clear hbk6
            have Hr6 := Lib.hid hr6; have HSO := Lib.hid hso; have HNO := Lib.hid hno
            clear hr6 hso hno b6'
            have HHeld := KS.out _ Hb6.out
            refine hK.out _ _ HHeld (fun _ => ?_)
            clear hK K
            try simp only [Act.put, List.setIfInBounds_toArray, List.set_cons_zero, List.set_cons_succ]
            refine takeD (i := 9) (some 28) (.tuple #[.slice A6 xs6.length c6, .bool b6]) rfl (by kernel_rfl) (by kernel_rfl) (by kernel_rfl) (by kernel_rfl) (fun _ _ _ h => h) (by assumption) (Or.inl ⟨by rfl, fun w hSw => by (try dsimp only at hSw); go_simp⟩) ?_
            simp only [Act.put, List.setIfInBounds_toArray, List.set_cons_zero, List.set_cons_succ]
            refine takeD (i := 10) (some 38) (.slice A6 xs6.length c6) rfl (by kernel_rfl) (by kernel_rfl) (by kernel_rfl) (by kernel_rfl) (fun _ _ _ h => h) (by assumption) (Or.inl ⟨by rfl, fun w hSw => by (try dsimp only at hSw); go_simp⟩) ?_
            simp only [Act.put, List.setIfInBounds_toArray, List.set_cons_zero, List.set_cons_succ]
            refine takeD (i := 11) (some 39) (.bool b6) rfl (by kernel_rfl) (by kernel_rfl) (by kernel_rfl) (by kernel_rfl) (fun _ _ _ h => h) (by assumption) (Or.inl ⟨by rfl, fun w hSw => by (try dsimp only at hSw); go_simp⟩) ?_
            simp only [Act.put, List.setIfInBounds_toArray, List.set_cons_zero, List.set_cons_succ]
            refine takeD (i := 12) (some 8) (.slice A6 xs6.length c6) rfl (by kernel_rfl) (by kernel_rfl) (by kernel_rfl) (by kernel_rfl) (fun _ _ _ h => h) (by assumption) (Or.inl ⟨by rfl, fun w hSw => by (try dsimp only at hSw); go_simp⟩) ?_
            simp only [Act.put, List.setIfInBounds_toArray, List.set_cons_zero, List.set_cons_succ]
            refine takeD (i := 13) (some 9) (.bool b6) rfl (by kernel_rfl) (by kernel_rfl) (by kernel_rfl) (by kernel_rfl) (fun _ _ _ h => h) (by assumption) (Or.inl ⟨by rfl, fun w hSw => by (try dsimp only at hSw); go_simp⟩) ?_
            simp only [Act.put, List.setIfInBounds_toArray, List.set_cons_zero, List.set_cons_succ]
            refine wpAnyH_done (by kernel_rfl) ?_ _
            cases b6 with
            | true =>
              have HX6 := Lib.hid (show firstK m (cuts.length - (n + 1)) k2 = some xs6 by
                cases ho : firstK m (cuts.length - (n + 1)) k2 with
                | none => cases HNO.out ho
                | some x => rw [(HSO.out x ho).2])
              go_wp2_with fail
              go_ret2
              exact resFst_some (behind_head (i := n) (by rw [HSTEP.out, ← HSK.out]; exact keysFrom_some HBG.out (by omega) (by rw [← HK2.out]; exact HX6.out))) rfl hc6 Hr6.out (fun b o e => .inl (HK6.out b o e)) (Bw.trans (Hb6.out.mono Bw.size))
            | false =>
              have HX6 := Lib.hid (show firstK m (cuts.length - (n + 1)) k2 = none by
                cases ho : firstK m (cuts.length - (n + 1)) k2 with
                | none => rfl
                | some x => cases (HSO.out x ho).1)
              go_wp2_with fail
              go_roundw
              case rel => exact ⟨d + 1, by go_num, by omega, by omega, Lib.hid (by rw [← HSK.out]; exact (keysFrom_none HBG.out (by omega) (by rw [← HK2.out]; exact HX6.out)).symm), hb.trans (Hb6.out.mono (by omega))⟩
              case measure => simp [intOf]; omega
        · obtain rfl : d = m.d := by omega
          have HN := Lib.hid (show behindK m (cuts.take n) (cuts.drop n) = [] by rw [HSTEP.out, ← HSK.out, keysFrom_end _ _ _ _ _ _ (Int.le_refl _)])
          go_wp2_with fail
          go_roundw
          case rel => exact ⟨n, by omega, by go_num, HN, hb⟩
          case measure => simp [intOf]
end Go.Proofs.YtdedajohkdbdkaaGreatDoor

/- Contracts of l16With and l16Candidates. -/
namespace Go.Proofs.YtdedajohkdbdkaaGreatDoor
set_option linter.unusedVariables false
open Go.RowKit
theorem RII.n {w : World} {A : Option Addr} {xss : List (List Int)} (h : RII w A xss) : RIIn (fun _ => False) w A xss := by
  obtain ⟨us, h1, h2, h3⟩ := h
  exact ⟨us, h1, h2, fun _ _ _ _ => id, fun j hj => by obtain ⟨A', c, a, b, d⟩ := h3 j hj; exact ⟨A', c, a, b, d, fun _ _ _ _ => id⟩⟩
theorem ri_block' {w : World} {A : Option Addr} {b o : Nat} {us : List Value} (h : RV w A us) (h0 : 0 < us.length) (e : A = some ⟨b, o, none⟩) : b < w.heap.size := by
  subst e; exact ri_block h (fun e => by rw [e] at h0; simp at h0)
/-- what reads now does not lie in blocks to come -/
theorem RII.nF {w : World} {A : Option Addr} {xss : List (List Int)} (h : RII w A xss) {F : Nat → Prop} (hF : ∀ g, F g → w.heap.size ≤ g) : RIIn F w A xss := by
  obtain ⟨us, h1, h2, h3⟩ := h
  exact ⟨us, h1, h2, fun h0 b o e hf => by have := ri_block' h2 (by omega) e; have := hF b hf; omega, fun j hj => by
    obtain ⟨A', c, a, b, d⟩ := h3 j hj
    exact ⟨A', c, a, b, d, fun h0 b o e hf => by have := ri_block' d (by rw [ints_length]; exact h0) e; have := hF b hf; omega⟩⟩
/-- one list more -/
theorem RIIn.snoc {F : Nat → Prop} {w : World} {B : Nat} {v : Value} {us : List Value} {xss : List (List Int)} {K : Option Addr} {q : Nat} {key : List Int} (ho : OV w B 44 v (us ++ [.slice K key.length q])) (h1 : us.length = xss.length)
    (h4 : ∀ j (hj : j < xss.length), ∃ A' c, us[j]? = some (.slice A' xss[j].length c) ∧ xss[j].length ≤ c ∧ RI w A' xss[j] ∧ NF F A' xss[j].length)
    (hq : key.length ≤ q) (hk : RI w K key) (nk : NF F K key.length) (nv : ∀ g, v.ownBlock = some g → ¬ F g) :
    ∃ A c, v = .slice A (xss ++ [key]).length c ∧ (xss ++ [key]).length ≤ c ∧ RIIn F w A (xss ++ [key]) := by
  obtain ⟨A, c, rfl, hc, hr⟩ := ho.reads
  have e : (us ++ [Value.slice K key.length q]).length = (xss ++ [key]).length := by simp [h1]
  rw [e] at hc nv ⊢
  refine ⟨A, c, rfl, hc, us ++ [.slice K key.length q], e, hr, fun _ b o hA => nv b (by rw [hA]; rfl), fun j hj => ?_⟩
  by_cases hx : j < xss.length
  · rw [List.getElem?_append_left (by omega), List.getElem_append_left hx]; exact h4 j hx
  · have : j = xss.length := by simp at hj; omega
    subst this
    rw [List.getElem?_append_right (by omega), List.getElem_append_right (by omega)]
    simp only [h1, Nat.sub_self, List.getElem?_cons_zero, List.getElem_cons_zero]
    exact ⟨K, q, rfl, hq, hk, nk⟩
theorem cand_done {p : List Int → Bool} {all done rest outl : List (List Int)} {most : Nat} (h1 : all = done ++ rest) (h2 : outl = done.filter p) (h3 : outl.length ≤ most) (h : rest = [] ∨ outl.length = most) : outl = (all.filter p).take most := by
  subst h1
  rw [List.filter_append, ← h2]
  rcases h with h | h
  · subst h; rw [List.filter_nil, List.append_nil, List.take_of_length_le h3]
  · rw [List.take_append_of_le_length (by omega), List.take_of_length_le (by omega)]
theorem filter_yes {p : List Int → Bool} {done outl : List (List Int)} {x : List Int} (h : outl = done.filter p) (hp : p x = true) : outl ++ [x] = (done ++ [x]).filter p := by
  rw [List.filter_append, ← h, List.filter_cons, if_pos hp, List.filter_nil]
theorem filter_not {p : List Int → Bool} {done outl : List (List Int)} {x : List Int} (h : outl = done.filter p) (hp : p x = false) : outl = (done ++ [x]).filter p := by
  rw [List.filter_append, ← h, List.filter_cons, if_neg (by rw [hp]; simp), List.filter_nil, List.append_nil]
theorem PartOK.snoc {m : Mk} {t cuts : List (List Int)} {key : List Int} (h : PartOK m t cuts) (hl : cuts.length < t.length) (hk : isKey m key = true) : PartOK m t (cuts ++ [key]) :=
  ⟨h.mak, h.t1, h.t10, h.row, by simp; omega, fun j hj => by
    by_cases hx : j < cuts.length
    · rw [List.getElem_append_left hx]; exact h.keys j hx
    · rw [List.getElem_append_right (by omega)]
      have : j - cuts.length = 0 := by simp at hj; omega
      simp only [this, List.getElem_cons_zero]; exact hk⟩
end Go.Proofs.YtdedajohkdbdkaaGreatDoor

/- Draws: the source is kept, all else is new; lists and nests in growth beside the source. -/
namespace Go.Proofs.YtdedajohkdbdkaaGreatDoor
set_option linter.unusedVariables false
open Go.RowKit
/-- from ws on only the source has turned, and new memory -/
structure Dr (S : Nat) (A : Option Addr) (c : Nat) (bs : List Int) (ws w : World) : Prop where
  src0 : Src S A c bs ws
  src : Src S A c bs w
  keep : KeepF (fun g => g = S) ws w
section
variable {S : Nat} {A : Option Addr} {c : Nat} {bs : List Int} {ws w w' : World}
theorem Dr.refl (h : Src S A c bs w) : Dr S A c bs w w := ⟨h, h, KeepF.refl _ _⟩
theorem Dr.trans (h : Dr S A c bs ws w) (k : Dr S A c bs w w') : Dr S A c bs ws w' := ⟨h.src0, k.src, h.keep.trans k.keep (fun _ _ e => e)⟩
theorem Dr.next (h : Dr S A c bs ws w) (hs : Src S A c bs w') (k : KeepF (fun g => g = S) w w') : Dr S A c bs ws w' := ⟨h.src0, hs, h.keep.trans k (fun _ _ e => e)⟩
theorem Dr.below (h : Dr S A c bs ws w) (hb : Below w.heap.size w w') : Dr S A c bs ws w' := h.next (h.src.below hb) (KeepF.ofBelow hb)
theorem Dr.alloc (h : Dr S A c bs ws w) (o : Obj) : Dr S A c bs ws (w.alloc o) := h.below ((Below.refl _ _).alloc (Nat.le_refl _) o)
theorem Dr.drew (h : Dr S A c bs ws w) : Dr S A c bs ws w.drew := h.below (belowDrew0 w)
theorem Dr.size (h : Dr S A c bs ws w) : ws.heap.size ≤ w.heap.size := h.keep.size
theorem Dr.xl (h : Dr S A c bs ws w) : S < ws.heap.size := h.src0.xl
theorem Src.nfGe (h : Src S A c bs ws) {F : Nat → Prop} (hF : ∀ g, F g → ws.heap.size ≤ g) : NF F A bs.length := fun h0 b o e hf => by
  have := rv_block h.rd (by simp [bytesV]; exact h0) e; have := hF b hf; omega
theorem Dr.keepF (h : Dr S A c bs ws w) {F : Nat → Prop} (k : KeepF F w w') (hF : ∀ g, F g → ws.heap.size ≤ g) : Dr S A c bs ws w' :=
  ⟨h.src0, h.src.keep k (fun e => by have := hF S e; have := h.xl; omega) (h.src0.nfGe hF), h.keep.trans k (fun g hg e => by have := hF g e; omega)⟩
theorem Dr.grow (h : Dr S A c bs ws w) {row : Option Nat} (hg : w.grownBy w' row) (hr : ∀ g, row = some g → ws.heap.size ≤ g) : Dr S A c bs ws w' :=
  h.keepF ((KeepF.refl (fun g => row = some g) w).grown hg (fun g e => .inl e)) hr
theorem Dr.set (h : Dr S A c bs ws w) (p : Addr) (hp : ws.heap.size ≤ p.block) (u : Value) : Dr S A c bs ws (w.setCell p u) :=
  h.keepF ((KeepF.refl (fun g => g = p.block) w).setCell (p := p) (.inl rfl) u) (fun g e => by omega)
/-- a list in new memory, from block B on -/
def RIn (B : Nat) (w : World) (A : Option Addr) (xs : List Int) : Prop := RI w A xs ∧ NF (fun g => g < B) A xs.length
theorem RIn.dr {B : Nat} {K : Option Addr} {xs : List Int} (h : RIn B w K xs) (hS : S < B) (d : Dr S A c bs w w') : RIn B w' K xs := ⟨h.1.keepN d.keep (h.2.mono fun g e => by omega), h.2⟩
theorem RIn.keepF {B : Nat} {F : Nat → Prop} {K : Option Addr} {xs : List Int} (h : RIn B w K xs) (k : KeepF F w w') (hF : ∀ g, F g → g < B) : RIn B w' K xs := ⟨h.1.keepN k (h.2.mono fun g e => hF g e), h.2⟩
theorem RIn.below {B : Nat} {K : Option Addr} {xs : List Int} (h : RIn B w K xs) (hb : Below w.heap.size w w') : RIn B w' K xs := ⟨h.1.below hb, h.2⟩
theorem RIn.mono {B B' : Nat} {K : Option Addr} {xs : List Int} (h : RIn B w K xs) (hB : B' ≤ B) : RIn B' w K xs := ⟨h.1, h.2.mono fun g e => by omega⟩
theorem RIn.nil {B : Nat} {K : Option Addr} : RIn B w K [] := ⟨RI.nil, fun h => by simp at h⟩
theorem RIn.ofOI {B n q : Nat} {K : Option Addr} {xs : List Int} (h : OV w B 2 (.slice K n q) (ints xs)) : RIn B w K xs := by
  obtain ⟨A', c', e, _, hr⟩ := h.reads
  injection e with e1; subst e1
  exact ⟨hr, fun h0 b o e e' => by have := (h.lt b (by rw [e]; rfl)).1; omega⟩
theorem RIn.ofOI' {B : Nat} {v : Value} {xs : List Int} (h : OV w B 2 v (ints xs)) : ∃ K q, v = .slice K xs.length q ∧ xs.length ≤ q ∧ RIn B w K xs := by
  obtain ⟨A', c', rfl, hc, hr⟩ := h.reads
  rw [ints_length] at hc
  exact ⟨A', c', by rw [ints_length], hc, RIn.ofOI h⟩
/-- a nest in new memory -/
abbrev RIIb (B : Nat) (w : World) (A : Option Addr) (xss : List (List Int)) : Prop := RIIn (fun g => g < B) w A xss
theorem RIIn.dr {B : Nat} {K : Option Addr} {xss : List (List Int)} (h : RIIb B w K xss) (hS : S < B) (d : Dr S A c bs w w') : RIIb B w' K xss := h.keepF (d.keep.mono (fun g e => by omega))
theorem RIIn.below {F : Nat → Prop} {K : Option Addr} {xss : List (List Int)} (h : RIIn F w K xss) (hb : Below w.heap.size w w') : RIIn F w' K xss := h.keepF (KeepF.ofBelow hb)
theorem RIIn.keepB {B : Nat} {F : Nat → Prop} {K : Option Addr} {xss : List (List Int)} (h : RIIb B w K xss) (k : KeepF F w w') (hF : ∀ g, F g → g < B) : RIIb B w' K xss := h.keepF (k.mono hF)
theorem OV.dr {B e : Nat} {v : Value} {us : List Value} (h : OV w B e v us) (hS : S < B) (d : Dr S A c bs w w') : OV w' B e v us := h.keepF d.keep (fun g hg e => by have := (h.lt g hg).1; omega)
theorem BoxC.dr {M i : Nat} {vs : List Value} (h : BoxC w M i vs) (hM : M < w.heap.size) (hMS : M ≠ S) (d : Dr S A c bs w w') : BoxC w' M i vs := h.keepF d.keep hM hMS
theorem frozen_dr {M i : Nat} (h : w.frozen? ⟨M, i, none⟩ = false) (hM : M < w.heap.size) (hMS : M ≠ S) (d : Dr S A c bs w w') : w'.frozen? ⟨M, i, none⟩ = false := (d.keep.frozen (p := ⟨M, i, none⟩) hM hMS).trans h
/-- a nest in growth: v owns the headers us of rows that read as xss; the rows lie in new memory (from B on), not in v's block -/
structure NEST (B : Nat) (w : World) (v : Value) (us : List Value) (xss : List (List Int)) : Prop where
  len : us.length = xss.length
  own : OV w B 44 v us
  rows : ∀ j (hj : j < xss.length), ∃ A' c, us[j]? = some (.slice A' xss[j].length c) ∧ xss[j].length ≤ c ∧ RI w A' xss[j] ∧ NF (fun g => g < B ∨ v.ownBlock = some g) A' xss[j].length
variable {B : Nat} {v v' : Value} {us : List Value} {xss : List (List Int)}
theorem NEST.new0 (hB : B ≤ w.heap.size) : NEST B (w.alloc (.cells #[] 44)) (.slice (some ⟨w.heap.size, 0, none⟩) 0 0) [] [] := ⟨rfl, OV.new0 hB, fun j hj => by simp at hj⟩
theorem NEST.nil : NEST B w (.slice none 0 0) [] [] := ⟨rfl, OV.nil, fun j hj => by simp at hj⟩
theorem NEST.keepF {F : Nat → Prop} (h : NEST B w v us xss) (k : KeepF F w w') (hF : ∀ g, g < w.heap.size → F g → g < B) : NEST B w' v us xss :=
  ⟨h.len, h.own.keepF k (fun g hg e => by have := hF g (h.own.lt g hg).2 e; have := (h.own.lt g hg).1; omega), fun j hj => by
    obtain ⟨A', c', a, b, d, e⟩ := h.rows j hj
    refine ⟨A', c', a, b, ?_, e⟩
    by_cases h0 : 0 < xss[j].length
    · exact d.keepN k (fun _ b o e1 hf => e h0 b o e1 (.inl (hF b (ri_block' d (by rw [ints_length]; exact h0) e1) hf)))
    · have : xss[j] = [] := List.length_eq_zero_iff.1 (by omega)
      rw [this]; exact RI.nil⟩
theorem NEST.dr (h : NEST B w v us xss) (hS : S < B) (d : Dr S A c bs w w') : NEST B w' v us xss := h.keepF d.keep (fun g _ e => by omega)
theorem NEST.below (h : NEST B w v us xss) (hb : Below w.heap.size w w') : NEST B w' v us xss := h.keepF (F := fun _ => False) (KeepF.ofBelow hb) (fun _ _ e => e.elim)
/-- a new list does not lie in the nest's block -/
theorem NEST.row_nf (h : NEST B w v us xss) {C n q : Nat} {K : Option Addr} {ys : List Int} (hu : OV w C 2 (.slice K n q) (ints ys)) (hB : B ≤ C) (m : Nat) : NF (fun g => g < B ∨ v.ownBlock = some g) K m := by
  intro _ b o e hf
  have hbk : (Value.slice K n q).ownBlock = some b := by rw [e]; rfl
  rcases hf with hf | hf
  · have := (hu.lt b hbk).1; omega
  · obtain ⟨cs, fr, hh, _⟩ := hu.block_ty hbk
    obtain ⟨cs2, fr2, hh2, _⟩ := h.own.block_ty hf
    rw [hh] at hh2
    injection hh2 with hh2
    injection hh2 with _ ht
    exact absurd ht (by decide)
/-- behind 'append(v, u)', whose one new element lies in a block o of its own -/
theorem NEST.push (h : NEST B w v us xss) {K : Option Addr} {q : Nat} {ys : List Int} {o : Obj} (hq : ys.length ≤ q) (hr : RI w K ys) (hn : NF (fun g => g < B ∨ v.ownBlock = some g) K ys.length)
    (ho : OV w' B 44 v' (us ++ [.slice K ys.length q])) (hg : (w.alloc o).grownBy w' v.ownBlock) (hat : v'.ownBlock = v.ownBlock ∨ v'.ownBlock = some (w.alloc o).heap.size) :
    NEST B w' v' (us ++ [.slice K ys.length q]) (xss ++ [ys]) := by
  have k : KeepF (fun g => v.ownBlock = some g) w w' := ((KeepF.refl _ w).alloc o).grown hg (fun g e => .inl e)
  have row : ∀ (zs : List Int) (Z : Option Addr), RI w Z zs → NF (fun g => g < B ∨ v.ownBlock = some g) Z zs.length → RI w' Z zs ∧ NF (fun g => g < B ∨ v'.ownBlock = some g) Z zs.length := by
    intro zs Z hz nz
    refine ⟨hz.keepN k (nz.mono fun g e => .inr e), fun h0 b o e hf => ?_⟩
    rcases hf with hf | hf
    · exact nz h0 b o e (.inl hf)
    · rcases hat with hat | hat
      · exact nz h0 b o e (.inr (hat ▸ hf))
      · rw [hat] at hf; injection hf with hf
        have := ri_block' hz (by rw [ints_length]; exact h0) e
        simp at hf; omega
  refine ⟨by simp [h.len], ho, fun j hj => ?_⟩
  by_cases hjl : j < xss.length
  · obtain ⟨A', c', a, b, d, e⟩ := h.rows j hjl
    refine ⟨A', c', by rw [List.getElem?_append_left (by rw [h.len]; exact hjl), List.getElem_append_left hjl]; exact a, by rw [List.getElem_append_left hjl]; exact b, ?_⟩
    rw [List.getElem_append_left hjl]
    exact row _ _ d e
  · have hje : j = xss.length := by simp at hj; omega
    subst hje
    refine ⟨K, q, by rw [List.getElem?_append_right (by rw [h.len]; exact Nat.le_refl _), List.getElem_append_right (Nat.le_refl _)]; simp [h.len], by rw [List.getElem_append_right (Nat.le_refl _)]; simpa using hq, ?_⟩
    rw [List.getElem_append_right (Nat.le_refl _)]
    simpa using row ys K hr hn
/-- as a nest that reads -/
theorem NEST.riib (h : NEST B w v us xss) : ∃ K q, v = .slice K xss.length q ∧ xss.length ≤ q ∧ RIIb B w K xss := by
  obtain ⟨K, q, rfl, hq, hr⟩ := h.own.reads
  rw [h.len] at hq
  refine ⟨K, q, by rw [h.len], hq, us, h.len, hr, fun _ b o e e' => by have := (h.own.lt b (by rw [e]; rfl)).1; omega, fun j hj => ?_⟩
  obtain ⟨A', c', a, b, d, e⟩ := h.rows j hj
  exact ⟨A', c', a, b, d, e.mono fun g e => .inl e⟩
end
/-- l01Next in these words -/
theorem l01Next_dr {S : Nat} {A : Option Addr} {c : Nat} {bs : List Int} {w : World} (h : Src S A c bs w) (n : Int) :
    Calls Tryz.prog 36 #[.pointer (some ⟨S, 0, none⟩), .int .i64 n] w fun e w' => ∃ r, e = .returned (.int .i64 r) ∧ 0 ≤ r ∧ (r < n ∨ r = 0) ∧ Dr S A c bs w w' ∧ w'.heap.size = w.heap.size :=
  (l01Next_any S A c bs n w h).mono fun _ _ ⟨r, a, b, d, e, f, g⟩ => ⟨r, a, b, d, ⟨h, e, f⟩, g⟩
end Go.Proofs.YtdedajohkdbdkaaGreatDoor
