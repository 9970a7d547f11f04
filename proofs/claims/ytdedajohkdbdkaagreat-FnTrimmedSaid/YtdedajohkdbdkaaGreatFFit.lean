/- Contracts of CountCombinations, allowedOpeners, l14Fitting. -/
import Derived.Test.YtdedajohkdbdkaaGreatFGhost
import Derived.Test.YtdedajohkdbdkaaGreatPGhost
import Derived.Test.YtdedajohkdbdkaaGreatMem
namespace Go.Proofs.YtdedajohkdbdkaaGreat
set_option linter.unusedVariables false
open Go.RowKit
def prodW (l : List (List Int)) : Int := l.foldl (fun a s => wrap64 (a * (s.length : Int))) 1
theorem prodW_succ (l : List (List Int)) (k : Nat) (h : k < l.length) : prodW (l.take (k + 1)) = wrap64 (prodW (l.take k) * (l[k].length : Int)) := by
  unfold prodW; rw [List.take_succ_eq_append_getElem h, List.foldl_append]; rfl
def combR (m : Mk) (l : List (List Int)) : Int × Int := if isLockF m l = true then (prodW l, 0) else (0, 1)
theorem comb_1 {m : Mk} {l : List (List Int)} (h : isLockF m l = false) : (0, 1) = combR m l := by simp [combR, h]
theorem comb_0 {m : Mk} {l : List (List Int)} (h : isLockF m l = true) : (prodW l, 0) = combR m l := by simp [combR, h]
theorem RowsR.snoc {w : World} {us : List Value} {xss : List (List Int)} {A : Option Addr} {c : Nat} {xs : List Int} (h : RowsR w us xss) (hc : xs.length ≤ c) (hr : RI w A xs) : RowsR w (us ++ [.slice A xs.length c]) (xss ++ [xs]) :=
  h.app ⟨rfl, fun j hj => by
    match j, hj with
    | 0, _ => exact ⟨A, c, rfl, hc, hr⟩⟩
set_option maxRecDepth 100000 in
set_option maxHeartbeats 4000000 in
theorem allowedOpeners_any (D : Option Addr) (q : Nat) (l : List (List Int)) (A : Option Addr) (c : Nat) (al : List (List Int)) (w : World) (h : RII w D l) (g : RII w A al) (hl : ∀ k (hk : k < al.length), al[k].length ≤ l.length) (hn : al.length ≤ 1000000) :
    Calls Tryz.prog 45 #[.agg #[.slice D l.length q], .slice A al.length c] w (RdII w (fitF l al)) := by
  have B0 := (Below.refl w.heap.size w).alloc (Nat.le_refl _) (.cells #[.slice D l.length q] 28)
  have bx : BoxC (w.alloc (.cells #[.slice D l.length q] 28)) w.heap.size 0 [.slice D l.length q] := by simp [BoxC, Go.World.cell?_alloc_at]
  have hle := g.le
  have HLn := Lib.hid hl; clear hl
  go_enter Tryz.func45, Tryz.ntmps45
  go_wp2_with fail
  go_loopw [5, 7, 11] (fun v _ i wr => ∃ (k : Nat) (us : List Value) (out : List (List Int)), k ≤ al.length ∧ out.length ≤ k ∧ i = .int .i64 k ∧ out = fitF l (al.take k) ∧ OV wr (w.heap.size + 1) 33 v us ∧ RowsR w us out ∧ Below (w.heap.size + 1) (w.alloc (.cells #[.slice D l.length q] 28)) wr) (fun _ _ i _ => al.length - (intOf i).toNat)
  case atStart => exact ⟨0, [], [], by omega, by simp, rfl, rfl, by simpa using OV.new0 (w := w.alloc (.cells #[.slice D l.length q] 28)) (B := w.heap.size + 1) (e := 33) (by simp), ⟨rfl, fun j hj => by simp at hj⟩, (Below.refl (w.heap.size + 1) _).alloc (by simp) _⟩
  case round =>
    obtain ⟨k, us, out, hk, hol, rfl, hout, ho, hro, hb⟩ := hrel
    have hb' : Below (w.alloc (.cells #[.slice D l.length q] 28)).heap.size (w.alloc (.cells #[.slice D l.length q] 28)) wr := hb.mono (by simp)
    have Bw := B0.trans (hb.mono (by omega))
    have hsz := hb'.size
    simp only [World.size_alloc] at hsz
    obtain ⟨q0, _⟩ := bx.below hb'
    have HRO := Lib.hid hro; clear hro
    have HOUT := Lib.hid hout; clear hout
    obtain ⟨Av, cv, rfl, hcv, hrv⟩ := ho.rows (HRO.out.below Bw)
    by_cases hlt : k < al.length
    · obtain ⟨b, o, A', c', rfl, hc0, hcc, hr0⟩ := g.at_ hlt
      have hc := (Bw.cell (World.block_lt_of_cell? w _ hc0)).trans hc0
      clear hc0
      have hr := hr0.below Bw
      have HS := Lib.hid (fitF_succ l al k hlt)
      have HO := opens_any D q l A' c' al[k] wr (h.below Bw) hr (HLn.out k hlt)
      cases hp : opensL l al[k] with
      | false =>
        have HT := Lib.hid (show out = fitF l (al.take (k + 1)) by rw [HS.out, hp]; exact HOUT.out)
        rw [hp] at HO
        have HOO := Lib.hid HO; clear HO
        go_wp2_with fail
        refine HOO.out.mono ?_
        rintro e w2 ⟨rfl, b2⟩
        go_wp2_with fail
        go_roundw
        case rel => exact ⟨k + 1, us, out, by omega, by omega, by go_num, HT.out, ho.below' b2, HRO.out, hb.trans (b2.mono (by omega))⟩
        case measure => simp [intOf]; omega
      | true =>
        rw [hp] at HO
        have HOO := Lib.hid HO; clear HO
        cases hp2 : hasL out al[k] with
        | true =>
          have HT := Lib.hid (show out = fitF l (al.take (k + 1)) by rw [HS.out, hp, ← HOUT.out, hp2]; rfl)
          go_wp2_with fail
          refine HOO.out.mono ?_
          rintro e w2 ⟨rfl, b2⟩
          have HC := contains_any Av A' cv c' out al[k] w2 (hrv.below b2) (hr.below b2)
          rw [hp2] at HC
          have HCC := Lib.hid HC; clear HC
          go_wp2_with fail
          refine HCC.out.mono ?_
          rintro e w3 ⟨rfl, b3⟩
          have b23 := b2.trans (b3.mono b2.size)
          go_wp2_with fail
          go_roundw
          case rel => exact ⟨k + 1, us, out, by omega, by omega, by go_num, HT.out, ho.below' b23, HRO.out, hb.trans (b23.mono (by omega))⟩
          case measure => simp [intOf]; omega
        | false =>
          have HT := Lib.hid (show out ++ [al[k]] = fitF l (al.take (k + 1)) by rw [HS.out, hp, ← HOUT.out, hp2]; rfl)
          go_wp2_with fail
          refine HOO.out.mono ?_
          rintro e w2 ⟨rfl, b2⟩
          have HC := contains_any Av A' cv c' out al[k] w2 (hrv.below b2) (hr.below b2)
          rw [hp2] at HC
          have HCC := Lib.hid HC; clear HC
          go_wp2_with fail
          refine HCC.out.mono ?_
          rintro e w3 ⟨rfl, b3⟩
          have b23 := b2.trans (b3.mono b2.size)
          have ho3 := ho.below' b23
          have hus : us.length ≤ 1000000 := by have := HRO.out.1; omega
          have hs3 := b23.size
          go_wp2_with (at_builtin; refine wpList_app1 _ rfl _ _ _ rfl (w.heap.size + 1) 33 _ 24 Tryz.underlying26 info_sl rfl (by omega) _ _ rfl (ho3.alloc _) _ _ rfl (one_cell _ _ _) rfl (by omega) (by simp; omega) ?_; intro v' w4 ho4 hg4 hn4 hat4)
          go_roundw
          case rel => exact ⟨k + 1, us ++ [.slice A' al[k].length c'], out ++ [al[k]], by omega, by simp; omega, by go_num, HT.out, ho4, HRO.out.snoc hcc hr0, (ho3.alloc _).own (by omega) ((hb.trans (b23.mono (by omega))).alloc (by omega) _) hg4 (by simp; omega)⟩
          case measure => simp [intOf]; omega
    · obtain rfl : k = al.length := by omega
      have HT := HOUT.out
      rw [List.take_length] at HT
      subst HT
      go_wp2_with fail
      go_ret
      exact ⟨Av, cv, rfl, hcv, hrv, Bw⟩
set_option maxRecDepth 100000 in
set_option maxHeartbeats 8000000 in
theorem l14Fitting_any (D : Option Addr) (q : Nat) (l : List (List Int)) (A : Option Addr) (c : Nat) (al : List (List Int)) (w : World) (h : RII w D l) (g : RII w A al) (hl : ∀ k (hk : k < al.length), al[k].length ≤ l.length) (hn : al.length ≤ 1000000) :
    Calls Tryz.prog 48 #[.agg #[.slice D l.length q], .slice A al.length c] w (RdII w (fitF l al)) := by
  have B0 := (Below.refl w.heap.size w).alloc (Nat.le_refl _) (.cells #[.slice D l.length q] 28)
  have bx : BoxC (w.alloc (.cells #[.slice D l.length q] 28)) w.heap.size 0 [.slice D l.length q] := by simp [BoxC, Go.World.cell?_alloc_at]
  have hle := g.le
  have HLn := Lib.hid hl; clear hl
  go_enter Tryz.func48, Tryz.ntmps48
  go_wp2_with fail
  go_loopw [5, 6] (fun v i wr => ∃ (k : Nat) (us : List Value) (out : List (List Int)), k ≤ al.length ∧ out.length ≤ k ∧ i = .int .i64 k ∧ out = fitF l (al.take k) ∧ OV wr (w.heap.size + 1) 33 v us ∧ RowsR w us out ∧ Below (w.heap.size + 1) (w.alloc (.cells #[.slice D l.length q] 28)) wr) (fun _ i _ => al.length - (intOf i).toNat)
  case atStart => exact ⟨0, [], [], by omega, by simp, rfl, rfl, by simpa using OV.new0 (w := w.alloc (.cells #[.slice D l.length q] 28)) (B := w.heap.size + 1) (e := 33) (by simp), ⟨rfl, fun j hj => by simp at hj⟩, (Below.refl (w.heap.size + 1) _).alloc (by simp) _⟩
  case round =>
    obtain ⟨k, us, out, hk, hol, rfl, hout, ho, hro, hb⟩ := hrel
    have hb' : Below (w.alloc (.cells #[.slice D l.length q] 28)).heap.size (w.alloc (.cells #[.slice D l.length q] 28)) wr := hb.mono (by simp)
    have Bw := B0.trans (hb.mono (by omega))
    have hsz := hb'.size
    simp only [World.size_alloc] at hsz
    have HRO := Lib.hid hro; clear hro
    have HOUT := Lib.hid hout; clear hout
    obtain ⟨Av, cv, rfl, hcv, hrv⟩ := ho.rows (HRO.out.below Bw)
    by_cases hlt : k < al.length
    · obtain ⟨b, o, A', c', rfl, hc0, hcc, hr0⟩ := g.at_ hlt
      have hc := (Bw.cell (World.block_lt_of_cell? w _ hc0)).trans hc0
      clear hc0
      have hr := hr0.below Bw
      have i0 : (0 : Int) ≤ (k : Int) := by omega
      have i1 : (k : Int) < (al.length : Int) := by omega
      have HS := Lib.hid (fitF_succ l al k hlt)
      have KS := Lib.hid (show ∀ w' : World, Below wr.heap.size wr w' → ((w'.cell? ⟨w.heap.size, 0, none⟩ = some (.slice D l.length q) ∧ True) ∧ w'.cell? ⟨b, o + k, none⟩ = some (.slice A' al[k].length c')) from fun w' h2 => ⟨(bx.below hb').below h2, (h2.cell (World.block_lt_of_cell? wr _ hc)).trans hc⟩)
      have HO := fun W (hW : Below wr.heap.size wr W) => l04Opens_any D q l A' c' al[k] W ((h.below Bw).below hW) (hr.below hW) (HLn.out k hlt)
      cases hp : opensL l al[k] with
      | false =>
        have HT := Lib.hid (show out = fitF l (al.take (k + 1)) by rw [HS.out, hp]; exact HOUT.out)
        rw [hp] at HO
        have HOO := Lib.hid HO; clear HO
        go_wp2_with fail
        refine wp_region_held_drew (S := (fun w' => (w'.cell? ⟨w.heap.size, 0, none⟩ = some (.slice D l.length q) ∧ True) ∧ w'.cell? ⟨b, o + k, none⟩ = some (.slice A' al[k].length c'))) (by kernel_rfl) (KS.out _ (belowDrew0 _)) (fun hHeld => ?_)
        refine takeD (i := 0) (some 14) (.agg #[.slice D l.length q]) rfl (by kernel_rfl) (by kernel_rfl) (by kernel_rfl) (by kernel_rfl) (fun _ _ _ h => h) (by assumption) (Or.inl ⟨by rfl, fun w hSw => by (try dsimp only at hSw); go_simp⟩) ?_
        simp only [Act.put, List.setIfInBounds_toArray, List.set_cons_zero, List.set_cons_succ]
        refine takeD (i := 1) (some 15) (.slice (some ⟨b, o, none⟩) al.length c) rfl (by kernel_rfl) (by kernel_rfl) (by kernel_rfl) (by kernel_rfl) (fun _ _ _ h => h) (by assumption) (Or.inl ⟨by rfl, fun w hSw => by (try dsimp only at hSw); go_simp⟩) ?_
        simp only [Act.put, List.setIfInBounds_toArray, List.set_cons_zero, List.set_cons_succ]
        refine takeD (i := 2) (some 16) (.int .i64 (k : Int)) rfl (by kernel_rfl) (by kernel_rfl) (by kernel_rfl) (by kernel_rfl) (fun _ _ _ h => h) (by assumption) (Or.inl ⟨by rfl, fun w hSw => by (try dsimp only at hSw); go_simp⟩) ?_
        simp only [Act.put, List.setIfInBounds_toArray, List.set_cons_zero, List.set_cons_succ]
        refine takeD (i := 3) (some 17) (.pointer (some ⟨b, o + k, none⟩)) rfl (by kernel_rfl) (by kernel_rfl) (by kernel_rfl) (by kernel_rfl) (fun _ _ _ h => h) (by assumption) (Or.inl ⟨by rfl, fun w hSw => by (try dsimp only at hSw); go_simp⟩) ?_
        simp only [Act.put, List.setIfInBounds_toArray, List.set_cons_zero, List.set_cons_succ]
        refine takeD (i := 4) (some 18) (.slice A' al[k].length c') rfl (by kernel_rfl) (by kernel_rfl) (by kernel_rfl) (by kernel_rfl) (fun _ _ _ h => h) (by assumption) (Or.inl ⟨by rfl, fun w hSw => by (try dsimp only at hSw); go_simp⟩) ?_
        simp only [Act.put, List.setIfInBounds_toArray, List.set_cons_zero, List.set_cons_succ]
        refine wpAnyH_ready (rs := [5]) (by kernel_rfl) (by simp) (AllReadyH.cons rfl (fun K hK => ?_) AllReadyH.nil)
        go_simp
        refine (HOO.out _ (belowDrew0 _)).mono ?_
        rintro e w2 ⟨rfl, b2⟩
        have b2 := belowDrew b2
        have HHeld := KS.out _ b2
        refine hK.out _ _ HHeld (fun _ => ?_)
        clear hK K
        try simp only [Act.put, List.setIfInBounds_toArray, List.set_cons_zero, List.set_cons_succ]
        refine takeD (i := 6) (some 20) (.bool false) rfl (by kernel_rfl) (by kernel_rfl) (by kernel_rfl) (by kernel_rfl) (fun _ _ _ h => h) (by assumption) (Or.inl ⟨by rfl, fun w hSw => by (try dsimp only at hSw); go_simp⟩) ?_
        simp only [Act.put, List.setIfInBounds_toArray, List.set_cons_zero, List.set_cons_succ]
        refine skipD (i := 7) (some 21) rfl (by kernel_rfl) (by kernel_rfl) (by kernel_rfl) (by kernel_rfl) (fun _ _ _ h => h) (by assumption) (by kernel_rfl) ?_
        simp only [Act.put, List.setIfInBounds_toArray, List.set_cons_zero, List.set_cons_succ]
        refine skipD (i := 8) (some 22) rfl (by kernel_rfl) (by kernel_rfl) (by kernel_rfl) (by kernel_rfl) (fun _ _ _ h => h) (by assumption) (by kernel_rfl) ?_
        simp only [Act.put, List.setIfInBounds_toArray, List.set_cons_zero, List.set_cons_succ]
        refine skipD (i := 9) (some 23) rfl (by kernel_rfl) (by kernel_rfl) (by kernel_rfl) (by kernel_rfl) (fun _ _ _ h => h) (by assumption) (by kernel_rfl) ?_
        simp only [Act.put, List.setIfInBounds_toArray, List.set_cons_zero, List.set_cons_succ]
        refine skipD (i := 10) (some 24) rfl (by kernel_rfl) (by kernel_rfl) (by kernel_rfl) (by kernel_rfl) (fun _ _ _ h => h) (by assumption) (by kernel_rfl) ?_
        simp only [Act.put, List.setIfInBounds_toArray, List.set_cons_zero, List.set_cons_succ]
        refine skipD (i := 11) (some 25) rfl (by kernel_rfl) (by kernel_rfl) (by kernel_rfl) (by kernel_rfl) (fun _ _ _ h => h) (by assumption) (by kernel_rfl) ?_
        simp only [Act.put, List.setIfInBounds_toArray, List.set_cons_zero, List.set_cons_succ]
        refine skipD (i := 12) (some 26) rfl (by kernel_rfl) (by kernel_rfl) (by kernel_rfl) (by kernel_rfl) (fun _ _ _ h => h) (by assumption) (by kernel_rfl) ?_
        simp only [Act.put, List.setIfInBounds_toArray, List.set_cons_zero, List.set_cons_succ]
        refine skipD (i := 13) (some 27) rfl (by kernel_rfl) (by kernel_rfl) (by kernel_rfl) (by kernel_rfl) (fun _ _ _ h => h) (by assumption) (by kernel_rfl) ?_
        simp only [Act.put, List.setIfInBounds_toArray, List.set_cons_zero, List.set_cons_succ]
        refine takeD (i := 14) (some 28) (.bool false) rfl (by kernel_rfl) (by kernel_rfl) (by kernel_rfl) (by kernel_rfl) (fun _ _ _ h => h) (by assumption) (Or.inl ⟨by rfl, fun w hSw => by (try dsimp only at hSw); go_simp⟩) ?_
        simp only [Act.put, List.setIfInBounds_toArray, List.set_cons_zero, List.set_cons_succ]
        refine wpAnyH_done (by kernel_rfl) ?_ _
        go_wp2_with fail
        go_roundw
        case rel => exact ⟨k + 1, us, out, by omega, by omega, by go_num, HT.out, ho.below' b2, HRO.out, hb.trans (b2.mono (by omega))⟩
        case measure => simp [intOf]; omega
      | true =>
        rw [hp] at HO
        have HOO := Lib.hid HO; clear HO
        have HC := fun W (hW : Below wr.heap.size wr W) => l14Has_any Av A' cv c' out al[k] W (hrv.below hW) (hr.below hW)
        cases hp2 : hasL out al[k] with
        | true =>
          have HT := Lib.hid (show out = fitF l (al.take (k + 1)) by rw [HS.out, hp, ← HOUT.out, hp2]; rfl)
          rw [hp2] at HC
          have HCC := Lib.hid HC; clear HC
          go_wp2_with fail
          first
            | go_region_held3 (fun w' => (w'.cell? ⟨w.heap.size, 0, none⟩ = some (.slice D l.length q) ∧ True) ∧ w'.cell? ⟨b, o + k, none⟩ = some (.slice A' al[k].length c')) (first | (refine KS.out _ ?_; first | assumption | exact belowDrew0 _))
                (first | (go_at_call 104; refine (HOO.out _ (belowDrew0 _)).mono ?_; rintro e w2 ⟨rfl, b2⟩; have b2 := belowDrew b2) | (go_at_call 105; refine (HCC.out _ b2).mono ?_; rintro e w3 ⟨rfl, n3, rfl⟩; have b3 := belowD b2 n3))
            | fail
          go_wp2_with fail
          go_roundw
          case rel => exact ⟨k + 1, us, out, by omega, by omega, by go_num, HT.out, ho.below' b3, HRO.out, hb.trans (b3.mono (by omega))⟩
          case measure => simp [intOf]; omega
        | false =>
          have HT := Lib.hid (show out ++ [al[k]] = fitF l (al.take (k + 1)) by rw [HS.out, hp, ← HOUT.out, hp2]; rfl)
          rw [hp2] at HC
          have HCC := Lib.hid HC; clear HC
          go_wp2_with fail
          first
            | go_region_held3 (fun w' => (w'.cell? ⟨w.heap.size, 0, none⟩ = some (.slice D l.length q) ∧ True) ∧ w'.cell? ⟨b, o + k, none⟩ = some (.slice A' al[k].length c')) (first | (refine KS.out _ ?_; first | assumption | exact belowDrew0 _))
                (first | (go_at_call 104; refine (HOO.out _ (belowDrew0 _)).mono ?_; rintro e w2 ⟨rfl, b2⟩; have b2 := belowDrew b2) | (go_at_call 105; refine (HCC.out _ b2).mono ?_; rintro e w3 ⟨rfl, n3, rfl⟩; have b3 := belowD b2 n3))
            | fail
          have ho3 := ho.below' b3
          have hus : us.length ≤ 1000000 := by have := HRO.out.1; omega
          have hs3 := b3.size
          have KK := KS.out _ b3
          obtain ⟨⟨q0, _⟩, q1⟩ := KK
          generalize w2.drewN n3 = wo at *
          go_wp2_with (at_builtin; refine wpList_app1 _ rfl _ _ _ rfl (w.heap.size + 1) 33 _ 24 Tryz.underlying26 info_sl rfl (by omega) _ _ rfl (ho3.alloc _) _ _ rfl (one_cell _ _ _) rfl (by omega) (by simp; omega) ?_; intro v' w4 ho4 hg4 hn4 hat4)
          go_roundw
          case rel => exact ⟨k + 1, us ++ [.slice A' al[k].length c'], out ++ [al[k]], by omega, by simp; omega, by go_num, HT.out, ho4, HRO.out.snoc hcc hr0, (ho3.alloc _).own (by omega) ((hb.trans (b3.mono (by omega))).alloc (by omega) _) hg4 (by simp; omega)⟩
          case measure => simp [intOf]; omega
    · obtain rfl : k = al.length := by omega
      have HT := HOUT.out
      rw [List.take_length] at HT
      subst HT
      go_wp2_with fail
      go_ret
      exact ⟨Av, cv, rfl, hcv, hrv, Bw⟩
end Go.Proofs.YtdedajohkdbdkaaGreat
