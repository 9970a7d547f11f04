/- Draws of systems: l16Candidates, l16Draw. -/
import Derived.Test.YtdedajohkdbdkaaGreatDrSys4
namespace Go.Proofs.YtdedajohkdbdkaaGreat
set_option linter.unusedVariables false
open Go.RowKit
theorem RowsK.mono5 {w : World} {K K' : Nat → Prop} {us : List Value} {xss : List (List Int)} (h : RowsK w K us xss) (hK : ∀ b, K b → K' b) : RowsK w K' us xss := ⟨h.1, fun j hj => by
  obtain ⟨A, c, h1, h2, h3, h4⟩ := h.2 j hj
  exact ⟨A, c, h1, h2, h3, fun b o e => ⟨hK b (h4 b o e).1, (h4 b o e).2⟩⟩⟩
theorem RIIn.at5 {F : Nat → Prop} {w : World} {A : Option Addr} {xss : List (List Int)} (h : RIIn F w A xss) {j : Nat} (hj : j < xss.length) :
    ∃ b o A' c', A = some ⟨b, o, none⟩ ∧ w.cell? ⟨b, o + j, none⟩ = some (.slice A' xss[j].length c') ∧ xss[j].length ≤ c' ∧ RI w A' xss[j] ∧ NF F A' xss[j].length := by
  obtain ⟨us, h1, h2, h3, h4⟩ := h
  obtain ⟨A', c', a, b, d, e⟩ := h4 j hj
  obtain ⟨b', o', e', hc⟩ := h2.at_ (k := j) (by omega)
  refine ⟨b', o', A', c', e', ?_, b, d, e⟩
  rw [hc]
  rw [List.getElem?_eq_getElem (by omega)] at a
  injection a with a; rw [a]
def RdIIb (w : World) (xss : List (List Int)) (e : Ending) (w' : World) : Prop := ∃ A c, e = .returned (.slice A xss.length c) ∧ xss.length ≤ c ∧ RIIb w.heap.size w' A xss ∧ Below w.heap.size w w'
set_option maxRecDepth 100000 in
set_option maxHeartbeats 8000000 in
theorem l16Candidates_new (m : Mk) (A : Option Addr) (c : Nat) (t : List (List Int)) (B : Option Addr) (d : Nat) (cuts : List (List Int)) (most : Nat) (w : World) (h : RII w A t) (g : RII w B cuts) (hp : PartOK m t cuts) (hlt : cuts.length < t.length) (hmost : most ≤ 1000000) :
    Calls Tryz.prog 82 #[.agg #[.int .i64 m.c, .int .i64 m.d, .int .i64 m.s, .int .i64 m.a, .int .i64 m.l, .slice A t.length c], .slice B cuts.length d, .int .i64 (most : Int)] w (RdIIb w ((candsF m t cuts).take most)) := by
  obtain ⟨w0, hw0⟩ : ∃ w0, w0 = w.alloc (.cells #[.int .i64 m.c, .int .i64 m.d, .int .i64 m.s, .int .i64 m.a, .int .i64 m.l, .slice A t.length c] 45) := ⟨_, rfl⟩
  have B0 : Below w.heap.size w w0 := by rw [hw0]; exact (Below.refl w.heap.size w).alloc (Nat.le_refl _) _
  have hz0 : w0.heap.size = w.heap.size + 1 := by rw [hw0]; simp
  have bx : BoxC w0 w.heap.size 0 [.int .i64 m.c, .int .i64 m.d, .int .i64 m.s, .int .i64 m.a, .int .i64 m.l, .slice A t.length c] := by rw [hw0]; simp [BoxC, Go.World.cell?_alloc_at]
  have HBX := Lib.hid bx
  have HMK := Lib.hid hp.mak
  have HP := Lib.hid hp; have HLT := Lib.hid hlt
  have ht10 := hp.t10
  have hmb := mk_bounds hp.mak
  have hc2 := hmb.1; have hc6 := hmb.2.1
  clear hmb hp hlt bx
  have HFIR := Lib.hid (fun W => l02First_any m HMK.out m.c.toNat [] none 0 W RI.nil (Nat.le_refl _) (by simp; omega) rfl)
  have HALLK := Lib.hid (show firstK m m.c.toNat [] = (allK m).head? by unfold firstK; rw [if_pos (begins_nil m)]; rfl)
  have B1 := Lib.hid ((Below.refl w0.heap.size w0).alloc (Nat.le_refl _) (.cells #[] 33))
  go_enter Tryz.func82, Tryz.ntmps82
  go_wp2_with fail
  rw [← hw0]
  clear hw0
  obtain ⟨q0, q1, q2, q3, q4, q5, _⟩ := HBX.out.below B1.out
  go_wp2_with fail
  refine (HFIR.out _).mono ?_
  rintro e w2 ⟨A2, c2, xs2, b2, rfl, hc2', hr2, hso, hno, hbk, bb⟩
  have HSO := Lib.hid hso; have HNO := Lib.hid hno
  have hw2 := bb.size
  simp only [World.size_alloc] at hw2 hbk
  have HK2 := Lib.hid (show ∀ b o, A2 = some ⟨b, o, none⟩ → w.heap.size + 2 ≤ b from fun b o e => by
    rcases hbk b o e with h | ⟨o', h⟩
    · omega
    · cases h)
  have HL2 := Lib.hid (show ∀ b o, A2 = some ⟨b, o, none⟩ → b2 = true → b < w2.heap.size from fun b o e hb => by
    subst e
    cases hh : firstK m m.c.toNat [] with
    | none => rw [HNO.out hh] at hb; cases hb
    | some x =>
      have h2 := (HSO.out x hh).2
      subst h2
      have hm := (firstK_mem hh).1
      have hx := (key_parts ((allK_is HMK.out).1 hm)).1
      exact ri_block hr2 (fun e0 => by have := congrArg List.length e0; rw [ints_length, List.length_nil] at this; omega))
  have BB2 := Lib.hid (show Below (w.heap.size + 1) w0 w2 from (B1.out.trans (bb.mono (by simp))).mono (by omega))
  have HO2 := Lib.hid (show OV w2 (w.heap.size + 1) 33 (.slice (some ⟨w.heap.size + 1, 0, none⟩) 0 0) [] by
    have := (OV.new0 (w := w0) (B := w.heap.size + 1) (e := 33) (by omega)).below' bb
    rw [hz0] at this; exact this)
  have HR2 := Lib.hid hr2
  clear hso hno hbk bb q0 q1 q2 q3 q4 q5 hr2
  go_wp2_with fail
  go_loopg [7, 8, 9] (allK m).length (fun gk v key ok wr => ∃ (done rest outl : List (List Int)) (us : List Value) (Av : Option Addr) (cv : Nat) (Ak : Option Addr) (ck : Nat) (xs : List Int) (b : Bool),
    v = .slice Av outl.length cv ∧ key = .slice Ak xs.length ck ∧ ok = .bool b ∧ Hid (allK m = done ++ rest) ∧ Hid (outl = done.filter (fun k => openPart m t (cuts ++ [k]))) ∧ outl.length ≤ most ∧ rest.length ≤ gk ∧ Hid (b = true → ∃ tl, rest = xs :: tl) ∧ Hid (b = false → rest = []) ∧
    xs.length ≤ ck ∧ Hid (RI wr Ak xs) ∧ Hid (b = true → ∀ b o, Ak = some ⟨b, o, none⟩ → (Value.slice Av outl.length cv).ownBlock ≠ some b ∧ b < wr.heap.size ∧ w.heap.size ≤ b) ∧ Hid (OV wr (w.heap.size + 1) 33 (.slice Av outl.length cv) us) ∧ Hid (RowsK wr (fun b => w.heap.size ≤ b ∧ (Value.slice Av outl.length cv).ownBlock ≠ some b) us outl) ∧ Below (w.heap.size + 1) w0 wr)
  case atStart =>
    refine ⟨[], allK m, [], [], _, _, A2, c2, xs2, b2, rfl, rfl, rfl, Lib.hid rfl, Lib.hid rfl, Nat.zero_le _, Nat.le_refl _, Lib.hid (fun hb => ?_), Lib.hid (fun hb => ?_), hc2', HR2, Lib.hid (fun hb b o e => ⟨fun e' => ?_, HL2.out b o e hb, by have := HK2.out b o e; omega⟩), HO2, Lib.hid RowsK.nil, BB2.out⟩
    · cases hh : firstK m m.c.toNat [] with
      | none => rw [HNO.out hh] at hb; cases hb
      | some x =>
        have h2 := (HSO.out x hh).2
        subst h2
        rw [HALLK.out] at hh
        cases htl : allK m with
        | nil => rw [htl] at hh; cases hh
        | cons y ys => rw [htl] at hh; injection hh with hh; subst hh; exact ⟨ys, rfl⟩
    · cases hh : firstK m m.c.toNat [] with
      | none => rw [HALLK.out] at hh; exact List.head?_eq_none_iff.1 hh
      | some x => have := (HSO.out x hh).1; rw [hb] at this; cases this
    · have := HK2.out b o e; simp [Value.ownBlock] at e'; omega
  case round =>
    obtain ⟨done, rest, outl, us, Av, cv, Ak, ck, xs, b, rfl, rfl, rfl, HALL, HOUT, hol, hgk, HT, HF, hck, HRX, HNK, HO, HRW, hb⟩ := hrel
    have Bw := B0.trans (hb.mono (by omega))
    have hsz := hb.size
    cases b with
    | false =>
      have HD := Lib.hid (cand_done HALL.out HOUT.out hol (.inl (HF.out rfl)))
      go_wp2_with fail
      go_ret
      obtain ⟨A9, c9, e9, hc9, hr9⟩ := HO.out.reads
      injection e9 with e91 e92 e93
      subst e91
      rw [show (candsF m t cuts).take most = outl from HD.out.symm]
      exact ⟨Av, cv, rfl, by have := HRW.out.1; omega, RowsK.riib hr9 (RowsK.mono5 HRW.out fun b hb => hb.1) (fun b o e => by have := (HO.out.lt b (by rw [e]; rfl)).1; omega), Bw⟩
    | true =>
      obtain ⟨tl, hres⟩ := HT.out rfl
      have hres := Lib.hid hres
      have HKX := Lib.hid (show isKey m xs = true from (allK_is HMK.out).1 (by rw [HALL.out, hres.out]; simp))
      by_cases hlm : outl.length < most
      · have HW := Lib.hid (fun (W : World) (hW : Below wr.heap.size wr W) => l16With_any (fun _ => False) B d cuts Ak ck xs W (g.below (Bw.trans (hW.mono Bw.size))).n (by have := HP.out.le; omega) (HRX.out.below hW) hck (fun _ _ _ _ => id) (fun _ h => h.elim))
        have HOPN := Lib.hid (fun (W : World) (A' : Option Addr) (c' : Nat) (hW : Below wr.heap.size wr W) (hr : RII W A' (cuts ++ [xs])) => l16Open_any m A c t A' c' (cuts ++ [xs]) W (h.below (Bw.trans (hW.mono Bw.size))) hr (HP.out.snoc HLT.out HKX.out))
        obtain ⟨zs, hzs⟩ : ∃ zs, zs = cuts ++ [xs] := ⟨_, rfl⟩
        have KS := Lib.hid (show ∀ w' : World, Below wr.heap.size wr w' → (w'.cell? ⟨w.heap.size, 0, none⟩ = some (.int .i64 m.c) ∧ w'.cell? ⟨w.heap.size, 1, none⟩ = some (.int .i64 m.d) ∧ w'.cell? ⟨w.heap.size, 2, none⟩ = some (.int .i64 m.s) ∧ w'.cell? ⟨w.heap.size, 3, none⟩ = some (.int .i64 m.a) ∧ w'.cell? ⟨w.heap.size, 4, none⟩ = some (.int .i64 m.l) ∧ w'.cell? ⟨w.heap.size, 5, none⟩ = some (.slice A t.length c) ∧ True) from fun w' hw =>
          HBX.out.keep fun i v hv => cell_in (hb.trans (hw.mono (by omega))) (by simp only; omega) hv)
        rw [← hzs] at HW HOPN
        have HZ := Lib.hid hzs; clear hzs
        go_wp2_with fail
        refine wp_region_held_drew (S := (fun w' => (w'.cell? ⟨w.heap.size, 0, none⟩ = some (.int .i64 m.c) ∧ w'.cell? ⟨w.heap.size, 1, none⟩ = some (.int .i64 m.d) ∧ w'.cell? ⟨w.heap.size, 2, none⟩ = some (.int .i64 m.s) ∧ w'.cell? ⟨w.heap.size, 3, none⟩ = some (.int .i64 m.a) ∧ w'.cell? ⟨w.heap.size, 4, none⟩ = some (.int .i64 m.l) ∧ w'.cell? ⟨w.heap.size, 5, none⟩ = some (.slice A t.length c) ∧ True))) (by kernel_rfl) (KS.out _ (belowDrew0 _)) (fun hHeld => ?_)
        refine takeD (i := 0) (some 24) (.agg #[.int .i64 m.c, .int .i64 m.d, .int .i64 m.s, .int .i64 m.a, .int .i64 m.l, .slice A t.length c]) rfl (by kernel_rfl) (by kernel_rfl) (by kernel_rfl) (by kernel_rfl) (fun _ _ _ h => h) (by assumption) (Or.inl ⟨by rfl, fun w hSw => by (try dsimp only at hSw); go_simp⟩) ?_
        simp only [Act.put, List.setIfInBounds_toArray, List.set_cons_zero, List.set_cons_succ]
        refine takeD (i := 1) (some 25) (.slice B cuts.length d) rfl (by kernel_rfl) (by kernel_rfl) (by kernel_rfl) (by kernel_rfl) (fun _ _ _ h => h) (by assumption) (Or.inl ⟨by rfl, fun w hSw => by (try dsimp only at hSw); go_simp⟩) ?_
        simp only [Act.put, List.setIfInBounds_toArray, List.set_cons_zero, List.set_cons_succ]
        refine takeD (i := 2) (some 26) (.slice Ak xs.length ck) rfl (by kernel_rfl) (by kernel_rfl) (by kernel_rfl) (by kernel_rfl) (fun _ _ _ h => h) (by assumption) (Or.inl ⟨by rfl, fun w hSw => by (try dsimp only at hSw); go_simp⟩) ?_
        simp only [Act.put, List.setIfInBounds_toArray, List.set_cons_zero, List.set_cons_succ]
        refine wpAnyH_ready (rs := [3]) (by kernel_rfl) (by simp) (AllReadyH.cons rfl (fun K hK => ?_) AllReadyH.nil)
        go_simp
        refine (HW.out _ (belowDrew0 _)).mono ?_
        rintro e w4 ⟨A4, c4, rfl, hc4, hr4, bb4⟩
        have Hb4 := Lib.hid (belowDrew bb4)
        have HR4 := Lib.hid hr4.rii
        clear hr4 bb4
        have HHeld := KS.out _ Hb4.out
        refine hK.out _ _ HHeld (fun _ => ?_)
        clear hK K
        try simp only [Act.put, List.setIfInBounds_toArray, List.set_cons_zero, List.set_cons_succ]
        refine wpAnyH_ready (rs := [4]) (by kernel_rfl) (by simp) (AllReadyH.cons rfl (fun K hK => ?_) AllReadyH.nil)
        go_simp
        refine (HOPN.out _ A4 c4 Hb4.out HR4.out).mono ?_
        rintro e w5 ⟨rfl, bb5⟩
        have Hb5 := Lib.hid (Hb4.out.trans (bb5.mono Hb4.out.size))
        clear bb5
        have HHeld := KS.out _ Hb5.out
        refine hK.out _ _ HHeld (fun _ => ?_)
        clear hK K
        try simp only [Act.put, List.setIfInBounds_toArray, List.set_cons_zero, List.set_cons_succ]
        refine wpAnyH_done (by kernel_rfl) ?_ _
        have hb5 := hb.trans (Hb5.out.mono (by omega))
        have HB5 := Lib.hid hb5
        have hs5 := Hb5.out.size
        have HRX5 := Lib.hid (HRX.out.below Hb5.out)
        clear HRX
        have HRX := HRX5
        have hus := HRW.out.1
        cases hop : openPart m t zs with
        | true =>
          have HPX := Lib.hid (show openPart m t (cuts ++ [xs]) = true by rw [← HZ.out]; exact hop)
          have HOL := Lib.hid (filter_yes (p := fun k => openPart m t (cuts ++ [k])) HOUT.out HPX.out)
          obtain ⟨ol2, hol2⟩ : ∃ z, z = outl ++ [xs] := ⟨_, rfl⟩
          have HLL2 := Lib.hid (show ol2.length = outl.length + 1 by rw [hol2]; simp)
          have HLU := Lib.hid (show (us ++ [Value.slice Ak xs.length ck]).length = ol2.length by rw [hol2]; simp [hus])
          rw [← hol2] at HOL
          have HOL2 := Lib.hid hol2; clear hol2
          have ho4 := HO.out.below' Hb5.out
          clear hb5
          go_wp2_with (
                             at_builtin
                             refine wpList_app1 _ rfl _ _ _ rfl (w.heap.size + 1) 33 _ 24 Tryz.underlying26 info_sl rfl (by omega) _ us rfl (ho4.alloc _) _ _ rfl (one_cell _ _ _) rfl (by omega) (by simp; omega) ?_
                             intro v6 w6 ho6 hg6 hn6 hat6
                             have HB6 := Lib.hid (ho4.alloc _ |>.own (Nat.le_refl _) (HB5.out.alloc (by omega) _) hg6 (by simp; omega))
                             obtain ⟨q0, q1, q2, q3, q4, q5, _⟩ := HBX.out.keep fun i v hv => cell_in HB6.out (by simp only; omega) hv
                             have hwsz : w.heap.size < w6.heap.size := by have := HB6.out.size; omega
                             obtain ⟨A6, c6, e6, hc6, _⟩ := ho6.reads
                             rw [HLU.out] at e6 hc6
                             subst e6
                             have HGG := Lib.hid (And.intro ho6 (And.intro hg6 hat6))
                             clear ho6 hg6 hn6 hat6)
          obtain ⟨ho6, hg6, hat6⟩ := HGG.out
          have k6 : KeepF (fun x => (Value.slice Av outl.length cv).ownBlock = some x) w5 w6 := ((KeepF.refl _ _).alloc _).grown hg6 (fun g e => .inl e)
          have hnk := (by first | exact HNK.out rfl | exact HNK.out trivial)
          have HRX6 := Lib.hid (RV.keepF HRX.out k6 (fun b o e => (hnk b o e).1))
          have HRW5 := Lib.hid (show RowsK w6 (fun b => w.heap.size ≤ b ∧ (Value.slice A6 ol2.length c6).ownBlock ≠ some b) (us ++ [Value.slice Ak xs.length ck]) ol2 from by
            have hne : ∀ b, b < w5.heap.size → (Value.slice Av outl.length cv).ownBlock ≠ some b → (Value.slice A6 ol2.length c6).ownBlock ≠ some b := fun b hlt hn e => by
              rcases hat6 with e7 | e7
              · exact hn (e7.symm.trans e)
              · have := e7.symm.trans e; injection this with this; simp only [World.size_alloc] at this; omega
            have hh := RowsK.app (K := fun b => w.heap.size ≤ b ∧ (Value.slice A6 ol2.length c6).ownBlock ≠ some b) ((HRW.out.keep (KeepF.ofBelow (F := fun _ => False) Hb5.out) (fun b _ hk => ⟨id, hk⟩)).keep k6 (fun b hlt hk => ⟨hk.2, hk.1, hne b hlt hk.2⟩)) (RowsK.one hck HRX6.out (fun b o e => ⟨⟨(hnk b o e).2.2, hne b (by have := hnk b o e; omega) (hnk b o e).1⟩, by have := hnk b o e; have := k6.size; omega⟩))
            rw [← HOL2.out] at hh; exact hh)
          have HO5 := Lib.hid ho6
          have HRX7 := HRX6
          clear HRX HRX6
          have HRX := HRX7
          have hs6 := HB6.out.size
          clear ho4 ho6 hg6 hat6 k6 hnk HGG
          refine (l02Next_any m HMK.out xs Ak ck w6 HRX.out hck HKX.out).mono ?_
          rintro e w7 ⟨A7, c7, xs7, b7, rfl, hc7, hr7, hso7, hno7, hbk7, bb7⟩
          have HSO := Lib.hid hso7; have HNO := Lib.hid hno7
          have HR7 := Lib.hid hr7
          have hs7 := bb7.size
          have HNX := Lib.hid (show (behindK m [] xs) = tl from allK_behind (HALL.out.trans (by rw [hres.out])))
          have Hb7 := Lib.hid bb7
          have HK7 := Lib.hid (show ∀ b o, A7 = some ⟨b, o, none⟩ → w6.heap.size ≤ b from fun b o e => by
            rcases hbk7 b o e with h | ⟨o', h⟩
            · exact h
            · cases h)
          have HL7 := Lib.hid (show ∀ b o, A7 = some ⟨b, o, none⟩ → b7 = true → b < w7.heap.size from fun b o e hb => by
            subst e
            cases hh : (behindK m [] xs).head? with
            | none => rw [HNO.out hh] at hb; cases hb
            | some x =>
              have h2 := (HSO.out x hh).2
              subst h2
              have hm : xs7 ∈ allK m := by rw [HALL.out, hres.out, ← HNX.out]; exact List.mem_append_right _ (List.mem_cons_of_mem _ (List.mem_of_mem_head? (by rw [hh]; rfl)))
              have hx := (key_parts ((allK_is HMK.out).1 hm)).1
              have := (mk_bounds HMK.out).1
              exact ri_block HR7.out (fun e0 => by have := congrArg List.length e0; rw [ints_length, List.length_nil] at this; omega))
          clear hso7 hno7 hbk7 bb7 q0 q1 q2 q3 q4 q5 hr7
          go_wp2_with fail
          go_roundg tl.length
          case measure => rw [hres.out, List.length_cons] at hgk; omega
          case rel =>
            refine ⟨done ++ [xs], tl, ol2, (us ++ [Value.slice Ak xs.length ck]), _, _, A7, c7, xs7, b7, rfl, rfl, rfl, Lib.hid (by rw [HALL.out, hres.out]; simp), HOL, by first | omega | (have := HLL2.out; omega), Nat.le_refl _, Lib.hid (fun hb => ?_), Lib.hid (fun hb => ?_), hc7, HR7, Lib.hid (fun hb b o e => ?_), Lib.hid (HO5.out.below' Hb7.out), Lib.hid (HRW5.out.keep (KeepF.ofBelow (F := fun _ => False) Hb7.out) (fun b _ hk => ⟨id, hk⟩)), HB6.out.trans (Hb7.out.mono (by omega))⟩
            · cases hh : (behindK m [] xs).head? with
              | none => rw [HNO.out hh] at hb; cases hb
              | some x =>
                have h2 := (HSO.out x hh).2
                subst h2
                rw [HNX.out] at hh
                cases htl : tl with
                | nil => rw [htl] at hh; cases hh
                | cons y ys => rw [htl] at hh; injection hh with hh; subst hh; exact ⟨ys, rfl⟩
            · cases hh : (behindK m [] xs).head? with
              | none => rw [HNX.out] at hh; exact List.head?_eq_none_iff.1 hh
              | some x => have := (HSO.out x hh).1; rw [hb] at this; cases this
            · exact ⟨fun e' => by have := (HO5.out.lt b e').2; have := HK7.out b o e; omega, HL7.out b o e hb, by have h1 := HK7.out b o e; have h2 := (HB6.out).size; omega⟩
        | false =>
          have HPX := Lib.hid (show openPart m t (cuts ++ [xs]) = false by rw [← HZ.out]; exact hop)
          have HOL := Lib.hid (filter_not (p := fun k => openPart m t (cuts ++ [k])) HOUT.out HPX.out)
          have HO5 := Lib.hid (HO.out.below' Hb5.out)
          have HRW5 := Lib.hid (HRW.out.keep (KeepF.ofBelow (F := fun _ => False) Hb5.out) (fun b _ hk => ⟨id, hk⟩))
          obtain ⟨q0, q1, q2, q3, q4, q5, _⟩ := HBX.out.keep fun i v hv => cell_in HB5.out (by simp only; omega) hv
          have hwsz : w.heap.size < w5.heap.size := by have := HB5.out.size; omega
          go_wp2_with fail
          refine (l02Next_any m HMK.out xs Ak ck w5 HRX.out hck HKX.out).mono ?_
          rintro e w7 ⟨A7, c7, xs7, b7, rfl, hc7, hr7, hso7, hno7, hbk7, bb7⟩
          have HSO := Lib.hid hso7; have HNO := Lib.hid hno7
          have HR7 := Lib.hid hr7
          have hs7 := bb7.size
          have HNX := Lib.hid (show (behindK m [] xs) = tl from allK_behind (HALL.out.trans (by rw [hres.out])))
          have Hb7 := Lib.hid bb7
          have HK7 := Lib.hid (show ∀ b o, A7 = some ⟨b, o, none⟩ → w5.heap.size ≤ b from fun b o e => by
            rcases hbk7 b o e with h | ⟨o', h⟩
            · exact h
            · cases h)
          have HL7 := Lib.hid (show ∀ b o, A7 = some ⟨b, o, none⟩ → b7 = true → b < w7.heap.size from fun b o e hb => by
            subst e
            cases hh : (behindK m [] xs).head? with
            | none => rw [HNO.out hh] at hb; cases hb
            | some x =>
              have h2 := (HSO.out x hh).2
              subst h2
              have hm : xs7 ∈ allK m := by rw [HALL.out, hres.out, ← HNX.out]; exact List.mem_append_right _ (List.mem_cons_of_mem _ (List.mem_of_mem_head? (by rw [hh]; rfl)))
              have hx := (key_parts ((allK_is HMK.out).1 hm)).1
              have := (mk_bounds HMK.out).1
              exact ri_block HR7.out (fun e0 => by have := congrArg List.length e0; rw [ints_length, List.length_nil] at this; omega))
          clear hso7 hno7 hbk7 bb7 q0 q1 q2 q3 q4 q5 hr7
          go_wp2_with fail
          go_roundg tl.length
          case measure => rw [hres.out, List.length_cons] at hgk; omega
          case rel =>
            refine ⟨done ++ [xs], tl, outl, us, _, _, A7, c7, xs7, b7, rfl, rfl, rfl, Lib.hid (by rw [HALL.out, hres.out]; simp), HOL, by first | omega | (have := HLL2.out; omega), Nat.le_refl _, Lib.hid (fun hb => ?_), Lib.hid (fun hb => ?_), hc7, HR7, Lib.hid (fun hb b o e => ?_), Lib.hid (HO5.out.below' Hb7.out), Lib.hid (HRW5.out.keep (KeepF.ofBelow (F := fun _ => False) Hb7.out) (fun b _ hk => ⟨id, hk⟩)), HB5.out.trans (Hb7.out.mono (by omega))⟩
            · cases hh : (behindK m [] xs).head? with
              | none => rw [HNO.out hh] at hb; cases hb
              | some x =>
                have h2 := (HSO.out x hh).2
                subst h2
                rw [HNX.out] at hh
                cases htl : tl with
                | nil => rw [htl] at hh; cases hh
                | cons y ys => rw [htl] at hh; injection hh with hh; subst hh; exact ⟨ys, rfl⟩
            · cases hh : (behindK m [] xs).head? with
              | none => rw [HNX.out] at hh; exact List.head?_eq_none_iff.1 hh
              | some x => have := (HSO.out x hh).1; rw [hb] at this; cases this
            · exact ⟨fun e' => by have := (HO5.out.lt b e').2; have := HK7.out b o e; omega, HL7.out b o e hb, by have h1 := HK7.out b o e; have h2 := (HB5.out).size; omega⟩
      · have HD := Lib.hid (cand_done HALL.out HOUT.out hol (.inr (by omega)))
        have hlm' : decide (outl.length < most) = false := decide_eq_false hlm
        go_wp2_with fail
        go_ret
        obtain ⟨A9, c9, e9, hc9, hr9⟩ := HO.out.reads
        injection e9 with e91 e92 e93
        subst e91
        rw [show (candsF m t cuts).take most = outl from HD.out.symm]
        exact ⟨Av, cv, rfl, by have := HRW.out.1; omega, RowsK.riib hr9 (RowsK.mono5 HRW.out fun b hb => hb.1) (fun b o e => by have := (HO.out.lt b (by rw [e]; rfl)).1; omega), Bw⟩
theorem NEST.riibE {B : Nat} {w : World} {us : List Value} {ps : List (List Int)} {K : Option Addr} {q : Nat} (h : NEST B w (.slice K ps.length q) us ps) : RIIb B w K ps := by
  obtain ⟨K', q', e, _, hr⟩ := h.riib
  injection e with e1 e2 e3
  subst e1; exact hr
set_option maxRecDepth 100000 in
set_option maxHeartbeats 8000000 in
theorem l16Draw_any (S : Nat) (A : Option Addr) (c : Nat) (bs : List Int) (w : World) (h : Src S A c bs w) :
    Calls Tryz.prog 76 #[.pointer (some ⟨S, 0, none⟩)] w (ResSC S A c bs w) := by
  obtain ⟨w0, hw0⟩ : ∃ w0, w0 = w.alloc (.cells #[.int .i64 0, .int .i64 0, .int .i64 0, .int .i64 0, .int .i64 0, .slice none 0 0] 45) := ⟨_, rfl⟩
  have hz0 : w0.heap.size = w.heap.size + 1 := by rw [hw0]; simp
  have B0 : Below w.heap.size w w0 := by rw [hw0]; exact (Below.refl _ _).alloc (Nat.le_refl _) _
  have HR0 := Lib.hid (show w0.heap[w.heap.size]? = some (.cells #[.int .i64 0, .int .i64 0, .int .i64 0, .int .i64 0, .int .i64 0, .slice none 0 0] 45 (0, 0)) by
    have h1 := heap_alloc_new w (.cells #[.int .i64 0, .int .i64 0, .int .i64 0, .int .i64 0, .int .i64 0, .slice none 0 0] 45)
    rw [hw0]; simpa using h1)
  have HD0 := Lib.hid (show Dr S A c bs w w0 by rw [hw0]; exact (Dr.refl h).alloc _)
  have hSl : S < w.heap.size := h.xl
  have HN0 := Lib.hid (l15Draw_any S A c bs w0 HD0.out.src)
  clear h B0
  go_enter Tryz.func76, Tryz.ntmps76
  go_wp2_with fail
  rw [← hw0]
  clear hw0
  refine HN0.out.mono ?_
  rintro e w1 ⟨m, T, t, cT, K, q, cs, rfl, hm, ht, hq, hc, hT, hK, hd1⟩
  have HMD := Lib.hid hm; have HQ := Lib.hid (And.intro ht (And.intro hq hc))
  have hs1 := hd1.size
  obtain ⟨w2, hw2⟩ : ∃ w2, w2 = w1.alloc (.cells #[.int .i64 m.c, .int .i64 m.d, .int .i64 m.s, .int .i64 m.a, .int .i64 m.l, .slice T t.length cT] 45) := ⟨_, rfl⟩
  have hb2 : Below w1.heap.size w1 w2 := by rw [hw2]; exact (Below.refl _ _).alloc (Nat.le_refl _) _
  have hz2 : w1.heap.size < w2.heap.size := by rw [hw2]; simp
  have HBX := Lib.hid (show BoxC w2 w1.heap.size 0 [.int .i64 m.c, .int .i64 m.d, .int .i64 m.s, .int .i64 m.a, .int .i64 m.l, .slice T t.length cT] by rw [hw2]; exact BoxC.new [.int .i64 m.c, .int .i64 m.d, .int .i64 m.s, .int .i64 m.a, .int .i64 m.l, .slice T t.length cT] rfl)
  have HT2 := Lib.hid (hT.below hb2); have HK2 := Lib.hid (hK.below hb2)
  have HD2 := Lib.hid (hd1.below hb2)
  have HI := Lib.hid (specIsSystem_any m T cT t w2 HT2.out.rii)
  obtain ⟨x0, x1, x2, x3, x4, x5, _⟩ := HBX.out
  simp only [Nat.zero_add] at x1 x2 x3 x4 x5
  clear hm hq hc ht hT hK hd1 hb2 HN0
  go_wp2_with fail
  rw [← hw2]
  clear hw2 x0 x1 x2 x3 x4 x5
  refine HI.out.mono ?_
  rintro e w3 ⟨rfl, hb3⟩
  have hb3' := hb3
  have HD3 := Lib.hid (HD2.out.below hb3)
  have HT3 := Lib.hid (HT2.out.below hb3); have HK3 := Lib.hid (HK2.out.below hb3)
  have HB3 := Lib.hid (HBX.out.below hb3)
  have hs3 := hb3.size
  clear hb3 hb3' HI

  cases hsy : isSystem m t with
  | false =>
    obtain ⟨x0, x1, x2, x3, x4, x5, _⟩ := HB3.out
    simp only [Nat.zero_add] at x1 x2 x3 x4 x5
    have HDZ := Lib.hid (HD3.out)
    have hsW := HDZ.out.size
    have lb0 := (HDZ.out.keep.block w.heap.size (by omega) (by omega)).trans HR0.out
    have n0_0 := boxC_of_heap lb0 0 _ rfl
    have n0_1 := boxC_of_heap lb0 1 _ rfl
    have n0_2 := boxC_of_heap lb0 2 _ rfl
    have n0_3 := boxC_of_heap lb0 3 _ rfl
    have n0_4 := boxC_of_heap lb0 4 _ rfl
    have n0_5 := boxC_of_heap lb0 5 _ rfl
    have fr0 := frozen_of_heap lb0
    have f0_0 := fr0 0
    have f0_1 := fr0 1
    have f0_2 := fr0 2
    have f0_3 := fr0 3
    have f0_4 := fr0 4
    have f0_5 := fr0 5
    have HLB0 := Lib.hid lb0
    clear lb0 fr0
    go_wp2_with fail
    have lb0 := HLB0.out
    obtain ⟨wz, hwz⟩ : ∃ wz, wz = (((((w3.setCell ⟨w.heap.size, 0, none⟩ (.int .i64 m.c)).setCell ⟨w.heap.size, 1, none⟩ (.int .i64 m.d)).setCell ⟨w.heap.size, 2, none⟩ (.int .i64 m.s)).setCell ⟨w.heap.size, 3, none⟩ (.int .i64 m.a)).setCell ⟨w.heap.size, 4, none⟩ (.int .i64 m.l)).setCell ⟨w.heap.size, 5, none⟩ (.slice T t.length cT) := ⟨_, rfl⟩
    rw [← hwz]
    have kz : KeepF (fun x => x = w.heap.size) w3 wz := by rw [hwz]; exact ((((((KeepF.refl (fun x => x = w.heap.size) w3).setCell (p := ⟨w.heap.size, 0, none⟩) (.inl rfl) _).setCell (p := ⟨w.heap.size, 1, none⟩) (.inl rfl) _).setCell (p := ⟨w.heap.size, 2, none⟩) (.inl rfl) _).setCell (p := ⟨w.heap.size, 3, none⟩) (.inl rfl) _).setCell (p := ⟨w.heap.size, 4, none⟩) (.inl rfl) _).setCell (p := ⟨w.heap.size, 5, none⟩) (.inl rfl) _
    have e0 : wz.heap[w.heap.size]? = some (.cells #[.int .i64 m.c, .int .i64 m.d, .int .i64 m.s, .int .i64 m.a, .int .i64 m.l, .slice T t.length cT] 45 (0, 0)) := by rw [hwz]; simp [World.setCell, Array.getElem?_modify, lb0]
    (try simp only [Exit.inBlock, Exit.then])
    refine bodyPost_ret (results_one1 rfl _ _ (w.heap.size) 45 #[.int .i64 m.c, .int .i64 m.d, .int .i64 m.s, .int .i64 m.a, .int .i64 m.l, .slice T t.length cT] (0, 0) _ (by rfl) e0 Tryz.underlying45 rfl (by kernel_rfl)) rfl ?_
    exact ⟨m, T, t, cT, K, q, cs, rfl, HMD.out, HQ.out.1, HQ.out.2.1, HQ.out.2.2, (((HT3.out)).keepB kz (fun x e => by omega)).mono (fun g hg => by omega), ((HK3.out).keepB kz (fun x e => by omega)).mono (fun g hg => by omega), (HD0.out.trans HDZ.out).keepF kz (fun x e => by omega)⟩
  | true =>
    have HP0 := Lib.hid (show PartOK m t [] from sys_ok hsy (by simp) rfl)
    have HN3 := Lib.hid (l01Next_dr HD3.out.src 4)
    clear hsy
    go_wp2_with fail
    refine HN3.out.mono ?_
    rintro e w4 ⟨r, rfl, r0, r1, hd4, -⟩
    have HT4 := Lib.hid (HT3.out.dr (by omega) hd4); have HK4 := Lib.hid (HK3.out.dr (by omega) hd4)
    have HD4 := Lib.hid (HD3.out.trans hd4)
    have HB4 := Lib.hid (HB3.out.dr (by omega) (by omega) hd4)
    have hs4 := hd4.size
    clear r1 hd4 HN3
    by_cases q0 : r = 0
    · subst q0
      obtain ⟨x0, x1, x2, x3, x4, x5, _⟩ := HB4.out
      simp only [Nat.zero_add] at x1 x2 x3 x4 x5
      have HDZ := Lib.hid (HD4.out)
      have hsW := HDZ.out.size
      have lb0 := (HDZ.out.keep.block w.heap.size (by omega) (by omega)).trans HR0.out
      have n0_0 := boxC_of_heap lb0 0 _ rfl
      have n0_1 := boxC_of_heap lb0 1 _ rfl
      have n0_2 := boxC_of_heap lb0 2 _ rfl
      have n0_3 := boxC_of_heap lb0 3 _ rfl
      have n0_4 := boxC_of_heap lb0 4 _ rfl
      have n0_5 := boxC_of_heap lb0 5 _ rfl
      have fr0 := frozen_of_heap lb0
      have f0_0 := fr0 0
      have f0_1 := fr0 1
      have f0_2 := fr0 2
      have f0_3 := fr0 3
      have f0_4 := fr0 4
      have f0_5 := fr0 5
      have HLB0 := Lib.hid lb0
      clear lb0 fr0
      go_wp2_with fail
      have lb0 := HLB0.out
      obtain ⟨wz, hwz⟩ : ∃ wz, wz = (((((w4.setCell ⟨w.heap.size, 0, none⟩ (.int .i64 m.c)).setCell ⟨w.heap.size, 1, none⟩ (.int .i64 m.d)).setCell ⟨w.heap.size, 2, none⟩ (.int .i64 m.s)).setCell ⟨w.heap.size, 3, none⟩ (.int .i64 m.a)).setCell ⟨w.heap.size, 4, none⟩ (.int .i64 m.l)).setCell ⟨w.heap.size, 5, none⟩ (.slice T t.length cT) := ⟨_, rfl⟩
      rw [← hwz]
      have kz : KeepF (fun x => x = w.heap.size) w4 wz := by rw [hwz]; exact ((((((KeepF.refl (fun x => x = w.heap.size) w4).setCell (p := ⟨w.heap.size, 0, none⟩) (.inl rfl) _).setCell (p := ⟨w.heap.size, 1, none⟩) (.inl rfl) _).setCell (p := ⟨w.heap.size, 2, none⟩) (.inl rfl) _).setCell (p := ⟨w.heap.size, 3, none⟩) (.inl rfl) _).setCell (p := ⟨w.heap.size, 4, none⟩) (.inl rfl) _).setCell (p := ⟨w.heap.size, 5, none⟩) (.inl rfl) _
      have e0 : wz.heap[w.heap.size]? = some (.cells #[.int .i64 m.c, .int .i64 m.d, .int .i64 m.s, .int .i64 m.a, .int .i64 m.l, .slice T t.length cT] 45 (0, 0)) := by rw [hwz]; simp [World.setCell, Array.getElem?_modify, lb0]
      (try simp only [Exit.inBlock, Exit.then])
      refine bodyPost_ret (results_one1 rfl _ _ (w.heap.size) 45 #[.int .i64 m.c, .int .i64 m.d, .int .i64 m.s, .int .i64 m.a, .int .i64 m.l, .slice T t.length cT] (0, 0) _ (by rfl) e0 Tryz.underlying45 rfl (by kernel_rfl)) rfl ?_
      exact ⟨m, T, t, cT, K, q, cs, rfl, HMD.out, HQ.out.1, HQ.out.2.1, HQ.out.2.2, (((HT4.out)).keepB kz (fun x e => by omega)).mono (fun g hg => by omega), ((HK4.out).keepB kz (fun x e => by omega)).mono (fun g hg => by omega), (HD0.out.trans HDZ.out).keepF kz (fun x e => by omega)⟩
    · have p0 : (r == 0) = false := by simpa using q0
      obtain ⟨w5, hw5⟩ : ∃ w5, w5 = w4.alloc (.cells #[] 33) := ⟨_, rfl⟩
      have hb5 : Below w4.heap.size w4 w5 := by rw [hw5]; exact (Below.refl _ _).alloc (Nat.le_refl _) _
      have HNE := Lib.hid (show NEST w4.heap.size w5 (.slice (some ⟨w4.heap.size, 0, none⟩) 0 0) [] [] by rw [hw5]; exact NEST.new0 (w := w4) (Nat.le_refl _))
      have HT5 := Lib.hid (HT4.out.below hb5)
      have HD5 := Lib.hid (HD4.out.below hb5)
      have HB5 := Lib.hid (HB4.out.below hb5)
      have hs5 := hb5.size
      have HN5 := Lib.hid (l01Next_dr HD5.out.src ((t.length : Int) + 1))
      have hxl : w1.heap.size < w4.heap.size := by omega
      have ht20 : t.length ≤ 20 := HQ.out.1
      obtain ⟨x0, x1, x2, x3, x4, x5, _⟩ := HB4.out
      simp only [Nat.zero_add] at x1 x2 x3 x4 x5
      have hb5' := hb5
      clear hb5
      go_wp2_with fail
      rw [← hw5]
      clear hw5 x0 x1 x2 x3 x4 x5
      refine HN5.out.mono ?_
      rintro e w6 ⟨z, rfl, z0, z1, hd6, -⟩
      have HNE6 := Lib.hid (HNE.out.dr (show S < w4.heap.size by omega) hd6)
      have HT6 := Lib.hid (HT5.out.dr (by omega) hd6)
      have HD6 := Lib.hid (HD5.out.trans hd6)
      have HD46 := Lib.hid (((Dr.refl HD4.out.src).below hb5').trans hd6)
      have HB6 := Lib.hid (HB5.out.dr (by omega) (by omega) hd6)
      have hs6 := hd6.size
      obtain ⟨n, rfl⟩ : ∃ n : Nat, z = (n : Int) := ⟨z.toNat, by omega⟩
      have hnt : n ≤ t.length := by omega
      clear z1 z0 hd6 HN5
      go_wp2_with fail
      go_loopw [6, 7, 8] (fun v i _ wr => ∃ (n : Nat) (us : List Value) (ps : List (List Int)), i = .int .i64 (n : Int) ∧ ps.length + n ≤ t.length ∧ Hid (PartOK m t ps) ∧ NEST w4.heap.size wr v us ps ∧ Dr S A c bs w4 wr) (fun _ i _ _ => (intOf i).toNat)
      case atStart => exact ⟨n, [], [], rfl, by simp; omega, HP0, HNE6.out, HD46.out⟩
      case round =>
        obtain ⟨n, us, ps, rfl, hn, HP, hN, hD⟩ := hrel
        have HN := Lib.hid hN; have HD := Lib.hid hD
        obtain ⟨Kp, qp, rfl, hqp, hkp⟩ := hN.riib
        have HQP := Lib.hid hqp; have HKP := Lib.hid hkp
        have hsr := hD.size
        have hps : ps.length ≤ 20 := by have := HQ.out.1; omega
        have hus : us.length ≤ 20 := by rw [hN.len]; exact hps
        clear hN hD hqp hkp
        by_cases hn0 : (n : Int) > 0
        · have hlt : ps.length < t.length := by omega
          have hn00 : 0 < n := by omega
          have HCA := Lib.hid (show Calls Tryz.prog 82 #[.agg #[.int .i64 m.c, .int .i64 m.d, .int .i64 m.s, .int .i64 m.a, .int .i64 m.l, .slice T t.length cT], .slice Kp ps.length qp, .int .i64 6] wr (RdIIb wr ((candsF m t ps).take 6)) from l16Candidates_new m T cT t Kp qp ps 6 wr ((HT4.out.dr (by omega) HD.out).rii) HKP.out.rii HP.out hlt (by omega))
          obtain ⟨ls, hls⟩ : ∃ ls, ls = (candsF m t ps).take 6 := ⟨_, rfl⟩
          rw [← hls] at HCA
          have HLE := Lib.hid hls
          clear hls
          obtain ⟨x0, x1, x2, x3, x4, x5, _⟩ := HB4.out.dr (by omega) (by omega) HD.out
          simp only [Nat.zero_add] at x1 x2 x3 x4 x5
          go_wp2_with fail
          clear x0 x1 x2 x3 x4 x5
          refine HCA.out.mono ?_
          rintro e w7 ⟨L, qL, rfl, hqL, hL, hb7⟩
          have HLL := Lib.hid hL
          have HN7 := Lib.hid (HN.out.below hb7)
          have HD7 := Lib.hid (HD.out.below hb7)
          have hs7 := hb7.size
          clear hqL hL hb7 HCA
          by_cases hl0 : 0 < ls.length
          · have hlb : ((ls.length : Int) == 0) = false := by
              rw [beq_eq_false_iff_ne]; omega
            have hlne : ls ≠ [] := by rintro rfl; simp at hl0
            have HX := Lib.hid (l01Next_dr HD7.out.src (ls.length : Int))
            go_wp2_with fail
            refine HX.out.mono ?_
            rintro e w8 ⟨x, rfl, x0, x1, hd8, -⟩
            obtain ⟨j, rfl⟩ : ∃ j : Nat, x = j := ⟨x.toNat, by omega⟩
            have hj : j < ls.length := by omega
            obtain ⟨bL, oL, Y, qy, rfl, hcell, hqy, hry, hnf⟩ := (HLL.out.dr (by omega) hd8).at5 hj
            have HN8 := Lib.hid (HN7.out.dr (by omega) hd8)
            have HD8 := Lib.hid (HD7.out.trans hd8)
            have hs8 := hd8.size
            have HKY := Lib.hid (show isKey m ls[j] = true from by
              have h0 : ls[j] ∈ ls := List.getElem_mem hj
              have h1 : ls[j] ∈ (candsF m t ps).take 6 := by rw [← HLE.out]; exact h0
              have h2 := List.mem_of_mem_take h1
              unfold candsF at h2
              exact (allK_is HP.out.mak).1 (List.mem_filter.1 h2).1)
            obtain ⟨ys, hys⟩ : ∃ ys, ys = ls[j] := ⟨_, rfl⟩
            rw [← hys] at hcell hqy hry hnf HKY
            have HQY := Lib.hid hqy; have HRY := Lib.hid hry
            have HNF := Lib.hid (show NF (fun g => g < w4.heap.size ∨ (Value.slice Kp ps.length qp).ownBlock = some g) Y ys.length from hnf.mono fun g hg => by
              rcases hg with hg | hg
              · omega
              · exact (HN.out.own.lt g hg).2)
            have HP8 := Lib.hid (HP.out.snoc hlt HKY.out)
            have i0 : (0 : Int) ≤ (j : Int) := by omega
            have i1 : (j : Int) < (ls.length : Int) := by omega
            clear hys hqy hry hnf x1 hd8 HX
            go_wp2_with (at_builtin; refine wpList_app1 _ rfl _ _ _ rfl w4.heap.size 33 _ 24 Tryz.underlying26 info_sl rfl (by omega) _ us rfl (HN8.out.own.alloc _) _ _ rfl (one_cell _ _ _) rfl (by omega) (by simp; omega) ?_; intro v' w9 ho9 hg9 hn9 hat9)
            have HN9 := Lib.hid (HN8.out.push HQY.out HRY.out HNF.out ho9 hg9 hat9)
            have HD9 := Lib.hid (HD8.out.app HN8.out.own (by omega) hg9)
            clear ho9 hg9 hn9 hat9 hcell
            go_roundw
            case rel => exact ⟨n - 1, _, ps ++ [ys], congrArg (Value.int .i64) (show (n : Int) - 1 = ((n - 1 : Nat) : Int) by omega), by simp; omega, HP8, HN9.out, HD9.out⟩
            case measure => simp [intOf]; omega
          · have hl00 : ls = [] := List.length_eq_zero_iff.1 (by omega)
            subst hl00
            have HN7' := HN7
            obtain ⟨x0, x1, x2, x3, x4, x5, _⟩ := HB4.out.dr (by omega) (by omega) HD7.out
            simp only [Nat.zero_add] at x1 x2 x3 x4 x5
            have HDZ := Lib.hid (HD4.out.trans HD7.out)
            have hsW := HDZ.out.size
            have lb0 := (HDZ.out.keep.block w.heap.size (by omega) (by omega)).trans HR0.out
            have n0_0 := boxC_of_heap lb0 0 _ rfl
            have n0_1 := boxC_of_heap lb0 1 _ rfl
            have n0_2 := boxC_of_heap lb0 2 _ rfl
            have n0_3 := boxC_of_heap lb0 3 _ rfl
            have n0_4 := boxC_of_heap lb0 4 _ rfl
            have n0_5 := boxC_of_heap lb0 5 _ rfl
            have fr0 := frozen_of_heap lb0
            have f0_0 := fr0 0
            have f0_1 := fr0 1
            have f0_2 := fr0 2
            have f0_3 := fr0 3
            have f0_4 := fr0 4
            have f0_5 := fr0 5
            have HLB0 := Lib.hid lb0
            clear lb0 fr0
            go_wp2_with fail
            have lb0 := HLB0.out
            obtain ⟨wz, hwz⟩ : ∃ wz, wz = (((((w7.setCell ⟨w.heap.size, 0, none⟩ (.int .i64 m.c)).setCell ⟨w.heap.size, 1, none⟩ (.int .i64 m.d)).setCell ⟨w.heap.size, 2, none⟩ (.int .i64 m.s)).setCell ⟨w.heap.size, 3, none⟩ (.int .i64 m.a)).setCell ⟨w.heap.size, 4, none⟩ (.int .i64 m.l)).setCell ⟨w.heap.size, 5, none⟩ (.slice T t.length cT) := ⟨_, rfl⟩
            rw [← hwz]
            have kz : KeepF (fun x => x = w.heap.size) w7 wz := by rw [hwz]; exact ((((((KeepF.refl (fun x => x = w.heap.size) w7).setCell (p := ⟨w.heap.size, 0, none⟩) (.inl rfl) _).setCell (p := ⟨w.heap.size, 1, none⟩) (.inl rfl) _).setCell (p := ⟨w.heap.size, 2, none⟩) (.inl rfl) _).setCell (p := ⟨w.heap.size, 3, none⟩) (.inl rfl) _).setCell (p := ⟨w.heap.size, 4, none⟩) (.inl rfl) _).setCell (p := ⟨w.heap.size, 5, none⟩) (.inl rfl) _
            have e0 : wz.heap[w.heap.size]? = some (.cells #[.int .i64 m.c, .int .i64 m.d, .int .i64 m.s, .int .i64 m.a, .int .i64 m.l, .slice T t.length cT] 45 (0, 0)) := by rw [hwz]; simp [World.setCell, Array.getElem?_modify, lb0]
            (try simp only [Exit.inBlock, Exit.then])
            refine bodyPost_ret (results_one1 rfl _ _ (w.heap.size) 45 #[.int .i64 m.c, .int .i64 m.d, .int .i64 m.s, .int .i64 m.a, .int .i64 m.l, .slice T t.length cT] (0, 0) _ (by rfl) e0 Tryz.underlying45 rfl (by kernel_rfl)) rfl ?_
            exact ⟨m, T, t, cT, Kp, qp, ps, rfl, HMD.out, HQ.out.1, HQP.out, hps, (((HT4.out.dr (by omega) HD7.out)).keepB kz (fun x e => by omega)).mono (fun g hg => by omega), (((NEST.riibE HN7.out).mono (fun g (hg : g < w1.heap.size) => show g < w4.heap.size by omega)).keepB kz (fun x e => by omega)).mono (fun g hg => by omega), (HD0.out.trans HDZ.out).keepF kz (fun x e => by omega)⟩
        · have hn1 : decide ((n : Int) > 0) = false := decide_eq_false hn0
          have hn2 : decide ((0 : Int) < (n : Int)) = false := decide_eq_false hn0
          obtain ⟨x0, x1, x2, x3, x4, x5, _⟩ := HB4.out.dr (by omega) (by omega) HD.out
          simp only [Nat.zero_add] at x1 x2 x3 x4 x5
          have HDZ := Lib.hid (HD4.out.trans HD.out)
          have hsW := HDZ.out.size
          have lb0 := (HDZ.out.keep.block w.heap.size (by omega) (by omega)).trans HR0.out
          have n0_0 := boxC_of_heap lb0 0 _ rfl
          have n0_1 := boxC_of_heap lb0 1 _ rfl
          have n0_2 := boxC_of_heap lb0 2 _ rfl
          have n0_3 := boxC_of_heap lb0 3 _ rfl
          have n0_4 := boxC_of_heap lb0 4 _ rfl
          have n0_5 := boxC_of_heap lb0 5 _ rfl
          have fr0 := frozen_of_heap lb0
          have f0_0 := fr0 0
          have f0_1 := fr0 1
          have f0_2 := fr0 2
          have f0_3 := fr0 3
          have f0_4 := fr0 4
          have f0_5 := fr0 5
          have HLB0 := Lib.hid lb0
          clear lb0 fr0
          go_wp2_with fail
          have lb0 := HLB0.out
          obtain ⟨wz, hwz⟩ : ∃ wz, wz = (((((wr.setCell ⟨w.heap.size, 0, none⟩ (.int .i64 m.c)).setCell ⟨w.heap.size, 1, none⟩ (.int .i64 m.d)).setCell ⟨w.heap.size, 2, none⟩ (.int .i64 m.s)).setCell ⟨w.heap.size, 3, none⟩ (.int .i64 m.a)).setCell ⟨w.heap.size, 4, none⟩ (.int .i64 m.l)).setCell ⟨w.heap.size, 5, none⟩ (.slice T t.length cT) := ⟨_, rfl⟩
          rw [← hwz]
          have kz : KeepF (fun x => x = w.heap.size) wr wz := by rw [hwz]; exact ((((((KeepF.refl (fun x => x = w.heap.size) wr).setCell (p := ⟨w.heap.size, 0, none⟩) (.inl rfl) _).setCell (p := ⟨w.heap.size, 1, none⟩) (.inl rfl) _).setCell (p := ⟨w.heap.size, 2, none⟩) (.inl rfl) _).setCell (p := ⟨w.heap.size, 3, none⟩) (.inl rfl) _).setCell (p := ⟨w.heap.size, 4, none⟩) (.inl rfl) _).setCell (p := ⟨w.heap.size, 5, none⟩) (.inl rfl) _
          have e0 : wz.heap[w.heap.size]? = some (.cells #[.int .i64 m.c, .int .i64 m.d, .int .i64 m.s, .int .i64 m.a, .int .i64 m.l, .slice T t.length cT] 45 (0, 0)) := by rw [hwz]; simp [World.setCell, Array.getElem?_modify, lb0]
          (try simp only [Exit.inBlock, Exit.then])
          refine bodyPost_ret (results_one1 rfl _ _ (w.heap.size) 45 #[.int .i64 m.c, .int .i64 m.d, .int .i64 m.s, .int .i64 m.a, .int .i64 m.l, .slice T t.length cT] (0, 0) _ (by rfl) e0 Tryz.underlying45 rfl (by kernel_rfl)) rfl ?_
          exact ⟨m, T, t, cT, Kp, qp, ps, rfl, HMD.out, HQ.out.1, HQP.out, hps, (((HT4.out.dr (by omega) HD.out)).keepB kz (fun x e => by omega)).mono (fun g hg => by omega), ((HKP.out.mono (fun g (hg : g < w1.heap.size) => show g < w4.heap.size by omega)).keepB kz (fun x e => by omega)).mono (fun g hg => by omega), (HD0.out.trans HDZ.out).keepF kz (fun x e => by omega)⟩
end Go.Proofs.YtdedajohkdbdkaaGreat
