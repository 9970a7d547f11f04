/- Contracts of l16With and l16Candidates. -/
import Derived.Test.YtapocenhmdcfoaaFNextK
import Derived.Test.YtapocenhmdcfoaaFStays
import Derived.Deep.LoopGhost
namespace Go.Proofs.Ytapocenhmdcfoaa
set_option linter.unusedVariables false
open Go.RowKit
theorem RII.n {w : World} {A : Option Addr} {xss : List (List Int)} (h : RII w A xss) : RIIn (fun _ => False) w A xss := by
  obtain ⟨us, h1, h2, h3⟩ := h
  exact ⟨us, h1, h2, fun _ _ _ _ => id, fun j hj => by obtain ⟨A', c, a, b, d⟩ := h3 j hj; exact ⟨A', c, a, b, d, fun _ _ _ _ => id⟩⟩
theorem ri_block' {w : World} {A : Option Addr} {b o : Nat} {us : List Value} (h : RV w A us) (h0 : 0 < us.length) (e : A = some ⟨b, o, none⟩) : b < w.heap.size := by
  subst e; exact ri_block h (fun e => by rw [e] at h0; simp at h0)
/-- what reads now does not lie in blocks to come -/
theorem RII.nF {w : World} {A : Option Addr} {xss : List (List Int)} (h : RII w A xss) {F : Nat → Prop} (hF : ∀ g, F g → w.heap.size ≤ g) : RIIn F w A xss := by
  obtain ⟨us, h1, h2, h3⟩ := h
  exact ⟨us, h1, h2, fun h0 b o e hf => by have := ri_block' h2 (by omega) e; have := hF b hf; omega, fun j hj => by
    obtain ⟨A', c, a, b, d⟩ := h3 j hj
    exact ⟨A', c, a, b, d, fun h0 b o e hf => by have := ri_block' d (by rw [ints_length]; exact h0) e; have := hF b hf; omega⟩⟩
/-- one list more -/
theorem RIIn.snoc {F : Nat → Prop} {w : World} {B : Nat} {v : Value} {us : List Value} {xss : List (List Int)} {K : Option Addr} {q : Nat} {key : List Int} (ho : OV w B 56 v (us ++ [.slice K key.length q])) (h1 : us.length = xss.length)
    (h4 : ∀ j (hj : j < xss.length), ∃ A' c, us[j]? = some (.slice A' xss[j].length c) ∧ xss[j].length ≤ c ∧ RI w A' xss[j] ∧ NF F A' xss[j].length)
    (hq : key.length ≤ q) (hk : RI w K key) (nk : NF F K key.length) (nv : ∀ g, v.ownBlock = some g → ¬ F g) :
    ∃ A c, v = .slice A (xss ++ [key]).length c ∧ (xss ++ [key]).length ≤ c ∧ RIIn F w A (xss ++ [key]) := by
  obtain ⟨A, c, rfl, hc, hr⟩ := ho.reads
  have e : (us ++ [Value.slice K key.length q]).length = (xss ++ [key]).length := by simp [h1]
  rw [e] at hc nv ⊢
  refine ⟨A, c, rfl, hc, us ++ [.slice K key.length q], e, hr, fun _ b o hA => nv b (by rw [hA]; rfl), fun j hj => ?_⟩
  by_cases hx : j < xss.length
  · rw [List.getElem?_append_left (by omega), List.getElem_append_left hx]; exact h4 j hx
  · have : j = xss.length := by simp at hj; omega
    subst this
    rw [List.getElem?_append_right (by omega), List.getElem_append_right (by omega)]
    simp only [h1, Nat.sub_self, List.getElem?_cons_zero, List.getElem_cons_zero]
    exact ⟨K, q, rfl, hq, hk, nk⟩
set_option maxRecDepth 100000 in
set_option maxHeartbeats 4000000 in
theorem l16With_any (F : Nat → Prop) (A : Option Addr) (c : Nat) (cuts : List (List Int)) (K : Option Addr) (q : Nat) (key : List Int) (w : World) (h : RIIn F w A cuts) (hn : cuts.length ≤ 1000000) (hk : RI w K key) (hq : key.length ≤ q)
    (nk : NF F K key.length) (hF : ∀ g, F g → g < w.heap.size) :
    Calls Try.prog 169 #[.slice A cuts.length c, .slice K key.length q] w fun e w' => ∃ A' c', e = .returned (.slice A' (cuts ++ [key]).length c') ∧ (cuts ++ [key]).length ≤ c' ∧ RIIn F w' A' (cuts ++ [key]) ∧ Below w.heap.size w w' := by
  obtain ⟨us, h1, h2, h3, h4⟩ := h
  have hle := h2.1
  have B0 := (Below.refl w.heap.size w).alloc (Nat.le_refl _) (.cells #[] 56)
  have h2' := RV.below h2 B0
  have H4 := Lib.hid h4
  have HK := Lib.hid hk
  have HB0 := Lib.hid B0
  have hone : ∀ u ∈ us, u.oneCell' = true := by
    intro u hu
    obtain ⟨j, hj, rfl⟩ := List.getElem_of_mem hu
    obtain ⟨A', c', a, _⟩ := h4 j (by omega)
    rw [List.getElem?_eq_getElem hj] at a
    injection a with a
    rw [a]; rfl
  have HONE := Lib.hid hone
  have h1' := h1.symm
  have HH := Lib.hid (And.intro h1 (And.intro h2 h3)); clear h1 h2 h3 h4 hk hone B0
  go_enter Try.func169, Try.ntmps169
  go_wp2_with (first
    | (at_builtin; refine wpList_app _ rfl _ _ _ rfl w.heap.size 56 _ 24 Try.underlying24 info_sl rfl _ [] rfl (OV.new0 (Nat.le_refl _)) _ _ _ us rfl h1' h2' HONE.out (by simp; omega) (by simp; omega) (by simp) ?_; intro v2 w2 ho2 hg2 hn2 hat2; rw [List.nil_append] at ho2; have hb2 := (OV.new0 (w := w) (B := w.heap.size) (e := 56) (Nat.le_refl _)).own (Nat.le_refl _) HB0.out hg2 HB0.out.size; obtain ⟨A2, c2, rfl, _, _⟩ := ho2.reads; have Hb2 := Lib.hid hb2; have hs2 := hb2.size; clear hg2 hn2 hat2 h2')
    | (at_builtin; refine wpList_app1 _ rfl _ _ _ rfl w.heap.size 56 _ 24 Try.underlying24 info_sl rfl (by omega) _ us rfl (ho2.alloc _) _ _ rfl (one_cell _ _ _) rfl (by omega) (by simp; omega) ?_; intro v4 w4 ho4 hg4 hn4 hat4; have hb4 := (ho2.alloc _).own (Nat.le_refl _) (Hb2.out.alloc hs2 _) hg4 (by simp; omega); have Hb4 := Lib.hid hb4; clear hn4 hat4 hg4))
  go_wp2_with fail
  go_ret
  obtain ⟨A', c', rfl, hc, hr⟩ := RIIn.snoc (F := F) ho4 HH.out.1 (fun j hj => by
      obtain ⟨A', c, a, b, d, e⟩ := H4.out j hj
      exact ⟨A', c, a, b, d.below Hb4.out, e⟩) hq (HK.out.below Hb4.out) nk (fun g hg hf => by have := (ho4.lt g hg).1; have := hF g hf; omega)
  exact ⟨A', c', rfl, hc, hr, Hb4.out⟩
theorem cand_done {p : List Int → Bool} {all done rest outl : List (List Int)} {most : Nat} (h1 : all = done ++ rest) (h2 : outl = done.filter p) (h3 : outl.length ≤ most) (h : rest = [] ∨ outl.length = most) : outl = (all.filter p).take most := by
  subst h1
  rw [List.filter_append, ← h2]
  rcases h with h | h
  · subst h; rw [List.filter_nil, List.append_nil, List.take_of_length_le h3]
  · rw [List.take_append_of_le_length (by omega), List.take_of_length_le (by omega)]
theorem filter_yes {p : List Int → Bool} {done outl : List (List Int)} {x : List Int} (h : outl = done.filter p) (hp : p x = true) : outl ++ [x] = (done ++ [x]).filter p := by
  rw [List.filter_append, ← h, List.filter_cons, if_pos hp, List.filter_nil]
theorem filter_not {p : List Int → Bool} {done outl : List (List Int)} {x : List Int} (h : outl = done.filter p) (hp : p x = false) : outl = (done ++ [x]).filter p := by
  rw [List.filter_append, ← h, List.filter_cons, if_neg (by rw [hp]; simp), List.filter_nil, List.append_nil]
theorem PartOK.snoc {m : Mk} {t cuts : List (List Int)} {key : List Int} (h : PartOK m t cuts) (hl : cuts.length < t.length) (hk : isKey m key = true) : PartOK m t (cuts ++ [key]) :=
  ⟨h.mak, h.t1, h.t10, h.row, by simp; omega, fun j hj => by
    by_cases hx : j < cuts.length
    · rw [List.getElem_append_left hx]; exact h.keys j hx
    · rw [List.getElem_append_right (by omega)]
      have : j - cuts.length = 0 := by simp at hj; omega
      simp only [this, List.getElem_cons_zero]; exact hk⟩
set_option maxRecDepth 100000 in
set_option maxHeartbeats 8000000 in
theorem l16Candidates_any (m : Mk) (A : Option Addr) (c : Nat) (t : List (List Int)) (B : Option Addr) (d : Nat) (cuts : List (List Int)) (most : Nat) (w : World) (h : RII w A t) (g : RII w B cuts) (hp : PartOK m t cuts) (hlt : cuts.length < t.length) (hmost : most ≤ 1000000) :
    Calls Try.prog 95 #[.agg #[.int .i64 m.c, .int .i64 m.d, .int .i64 m.s, .int .i64 m.a, .int .i64 m.l, .slice A t.length c], .slice B cuts.length d, .int .i64 (most : Int)] w (RdII w ((candsF m t cuts).take most)) := by
  obtain ⟨w0, hw0⟩ : ∃ w0, w0 = w.alloc (.cells #[.int .i64 m.c, .int .i64 m.d, .int .i64 m.s, .int .i64 m.a, .int .i64 m.l, .slice A t.length c] 31) := ⟨_, rfl⟩
  have B0 : Below w.heap.size w w0 := by rw [hw0]; exact (Below.refl w.heap.size w).alloc (Nat.le_refl _) _
  have hz0 : w0.heap.size = w.heap.size + 1 := by rw [hw0]; simp
  have bx : BoxC w0 w.heap.size 0 [.int .i64 m.c, .int .i64 m.d, .int .i64 m.s, .int .i64 m.a, .int .i64 m.l, .slice A t.length c] := by rw [hw0]; simp [BoxC, Go.World.cell?_alloc_at]
  have HBX := Lib.hid bx
  have HMK := Lib.hid hp.mak
  have HP := Lib.hid hp; have HLT := Lib.hid hlt
  have ht10 := hp.t10
  have hmb := mk_bounds hp.mak
  have hc2 := hmb.1; have hc6 := hmb.2.1
  clear hmb hp hlt bx
  have HFIR := Lib.hid (fun W => l02First_any m HMK.out m.c.toNat [] none 0 W RI.nil (Nat.le_refl _) (by simp; omega) rfl)
  have HALLK := Lib.hid (show firstK m m.c.toNat [] = (allK m).head? by unfold firstK; rw [if_pos (begins_nil m)]; rfl)
  have B1 := Lib.hid ((Below.refl w0.heap.size w0).alloc (Nat.le_refl _) (.cells #[] 56))
  go_enter Try.func95, Try.ntmps95
  go_wp2_with fail
  rw [← hw0]
  clear hw0
  obtain ⟨q0, q1, q2, q3, q4, q5, _⟩ := HBX.out.below B1.out
  go_wp2_with fail
  refine (HFIR.out _).mono ?_
  rintro e w2 ⟨A2, c2, xs2, b2, rfl, hc2', hr2, hso, hno, hbk, bb⟩
  have HSO := Lib.hid hso; have HNO := Lib.hid hno
  have hw2 := bb.size
  simp only [World.size_alloc] at hw2 hbk
  have HK2 := Lib.hid (show ∀ b o, A2 = some ⟨b, o, none⟩ → w.heap.size + 2 ≤ b from fun b o e => by
    rcases hbk b o e with h | ⟨o', h⟩
    · omega
    · cases h)
  have HL2 := Lib.hid (show ∀ b o, A2 = some ⟨b, o, none⟩ → b2 = true → b < w2.heap.size from fun b o e hb => by
    subst e
    cases hh : firstK m m.c.toNat [] with
    | none => rw [HNO.out hh] at hb; cases hb
    | some x =>
      have h2 := (HSO.out x hh).2
      subst h2
      have hm := (firstK_mem hh).1
      have hx := (key_parts ((allK_is HMK.out).1 hm)).1
      exact ri_block hr2 (fun e0 => by have := congrArg List.length e0; rw [ints_length, List.length_nil] at this; omega))
  have BB2 := Lib.hid (show Below (w.heap.size + 1) w0 w2 from (B1.out.trans (bb.mono (by simp))).mono (by omega))
  have HO2 := Lib.hid (show OV w2 (w.heap.size + 1) 56 (.slice (some ⟨w.heap.size + 1, 0, none⟩) 0 0) [] by
    have := (OV.new0 (w := w0) (B := w.heap.size + 1) (e := 56) (by omega)).below' bb
    rw [hz0] at this; exact this)
  have HR2 := Lib.hid hr2
  clear hso hno hbk bb q0 q1 q2 q3 q4 q5 hr2
  go_wp2_with fail
  go_loopg [7, 8, 9] (allK m).length (fun gk v key ok wr => ∃ (done rest outl : List (List Int)) (us : List Value) (Av : Option Addr) (cv : Nat) (Ak : Option Addr) (ck : Nat) (xs : List Int) (b : Bool),
    v = .slice Av outl.length cv ∧ key = .slice Ak xs.length ck ∧ ok = .bool b ∧ Hid (allK m = done ++ rest) ∧ Hid (outl = done.filter (fun k => openPart m t (cuts ++ [k]))) ∧ outl.length ≤ most ∧ rest.length ≤ gk ∧ Hid (b = true → ∃ tl, rest = xs :: tl) ∧ Hid (b = false → rest = []) ∧
    xs.length ≤ ck ∧ Hid (RI wr Ak xs) ∧ Hid (b = true → ∀ b o, Ak = some ⟨b, o, none⟩ → (Value.slice Av outl.length cv).ownBlock ≠ some b ∧ b < wr.heap.size) ∧ Hid (OV wr (w.heap.size + 1) 56 (.slice Av outl.length cv) us) ∧ Hid (RowsK wr (fun b => (Value.slice Av outl.length cv).ownBlock ≠ some b) us outl) ∧ Below (w.heap.size + 1) w0 wr)
  case atStart =>
    refine ⟨[], allK m, [], [], _, _, A2, c2, xs2, b2, rfl, rfl, rfl, Lib.hid rfl, Lib.hid rfl, Nat.zero_le _, Nat.le_refl _, Lib.hid (fun hb => ?_), Lib.hid (fun hb => ?_), hc2', HR2, Lib.hid (fun hb b o e => ⟨fun e' => ?_, HL2.out b o e hb⟩), HO2, Lib.hid RowsK.nil, BB2.out⟩
    · cases hh : firstK m m.c.toNat [] with
      | none => rw [HNO.out hh] at hb; cases hb
      | some x =>
        have h2 := (HSO.out x hh).2
        subst h2
        rw [HALLK.out] at hh
        cases htl : allK m with
        | nil => rw [htl] at hh; cases hh
        | cons y ys => rw [htl] at hh; injection hh with hh; subst hh; exact ⟨ys, rfl⟩
    · cases hh : firstK m m.c.toNat [] with
      | none => rw [HALLK.out] at hh; exact List.head?_eq_none_iff.1 hh
      | some x => have := (HSO.out x hh).1; rw [hb] at this; cases this
    · have := HK2.out b o e; simp [Value.ownBlock] at e'; omega
  case round =>
    obtain ⟨done, rest, outl, us, Av, cv, Ak, ck, xs, b, rfl, rfl, rfl, HALL, HOUT, hol, hgk, HT, HF, hck, HRX, HNK, HO, HRW, hb⟩ := hrel
    have Bw := B0.trans (hb.mono (by omega))
    have hsz := hb.size
    cases b with
    | false =>
      have HD := Lib.hid (cand_done HALL.out HOUT.out hol (.inl (HF.out rfl)))
      go_wp2_with fail
      go_ret
      obtain ⟨A9, c9, e9, hc9, hr9⟩ := HO.out.reads
      injection e9 with e91 e92 e93
      subst e91
      rw [show (candsF m t cuts).take most = outl from HD.out.symm]
      exact ⟨Av, cv, rfl, by have := HRW.out.1; omega, HRW.out.rii hr9, Bw⟩
    | true =>
      obtain ⟨tl, hres⟩ := HT.out rfl
      have hres := Lib.hid hres
      have HKX := Lib.hid (show isKey m xs = true from (allK_is HMK.out).1 (by rw [HALL.out, hres.out]; simp))
      by_cases hlm : outl.length < most
      · have HW := Lib.hid (fun (W : World) (hW : Below wr.heap.size wr W) => l16With_any (fun _ => False) B d cuts Ak ck xs W (g.below (Bw.trans (hW.mono Bw.size))).n (by have := HP.out.le; omega) (HRX.out.below hW) hck (fun _ _ _ _ => id) (fun _ h => h.elim))
        have HOPN := Lib.hid (fun (W : World) (A' : Option Addr) (c' : Nat) (hW : Below wr.heap.size wr W) (hr : RII W A' (cuts ++ [xs])) => l16Open_any m A c t A' c' (cuts ++ [xs]) W (h.below (Bw.trans (hW.mono Bw.size))) hr (HP.out.snoc HLT.out HKX.out))
        obtain ⟨zs, hzs⟩ : ∃ zs, zs = cuts ++ [xs] := ⟨_, rfl⟩
        have KS := Lib.hid (show ∀ w' : World, Below wr.heap.size wr w' → (w'.cell? ⟨w.heap.size, 0, none⟩ = some (.int .i64 m.c) ∧ w'.cell? ⟨w.heap.size, 1, none⟩ = some (.int .i64 m.d) ∧ w'.cell? ⟨w.heap.size, 2, none⟩ = some (.int .i64 m.s) ∧ w'.cell? ⟨w.heap.size, 3, none⟩ = some (.int .i64 m.a) ∧ w'.cell? ⟨w.heap.size, 4, none⟩ = some (.int .i64 m.l) ∧ w'.cell? ⟨w.heap.size, 5, none⟩ = some (.slice A t.length c) ∧ True) from fun w' hw =>
          HBX.out.keep fun i v hv => cell_in (hb.trans (hw.mono (by omega))) (by simp only; omega) hv)
        rw [← hzs] at HW HOPN
        have HZ := Lib.hid hzs; clear hzs
        go_wp2_with fail
        refine wp_region_held_drew (S := (fun w' => (w'.cell? ⟨w.heap.size, 0, none⟩ = some (.int .i64 m.c) ∧ w'.cell? ⟨w.heap.size, 1, none⟩ = some (.int .i64 m.d) ∧ w'.cell? ⟨w.heap.size, 2, none⟩ = some (.int .i64 m.s) ∧ w'.cell? ⟨w.heap.size, 3, none⟩ = some (.int .i64 m.a) ∧ w'.cell? ⟨w.heap.size, 4, none⟩ = some (.int .i64 m.l) ∧ w'.cell? ⟨w.heap.size, 5, none⟩ = some (.slice A t.length c) ∧ True))) (by kernel_rfl) (KS.out _ (belowDrew0 _)) (fun hHeld => ?_)
        refine takeD (i := 0) (some 24) (.agg #[.int .i64 m.c, .int .i64 m.d, .int .i64 m.s, .int .i64 m.a, .int .i64 m.l, .slice A t.length c]) rfl (by kernel_rfl) (by kernel_rfl) (by kernel_rfl) (by kernel_rfl) (fun _ _ _ h => h) (by assumption) (Or.inl ⟨by rfl, fun w hSw => by (try dsimp only at hSw); go_simp⟩) ?_
        simp only [Act.put, List.setIfInBounds_toArray, List.set_cons_zero, List.set_cons_succ]
        refine takeD (i := 1) (some 25) (.slice B cuts.length d) rfl (by kernel_rfl) (by kernel_rfl) (by kernel_rfl) (by kernel_rfl) (fun _ _ _ h => h) (by assumption) (Or.inl ⟨by rfl, fun w hSw => by (try dsimp only at hSw); go_simp⟩) ?_
        simp only [Act.put, List.setIfInBounds_toArray, List.set_cons_zero, List.set_cons_succ]
        refine takeD (i := 2) (some 26) (.slice Ak xs.length ck) rfl (by kernel_rfl) (by kernel_rfl) (by kernel_rfl) (by kernel_rfl) (fun _ _ _ h => h) (by assumption) (Or.inl ⟨by rfl, fun w hSw => by (try dsimp only at hSw); go_simp⟩) ?_
        simp only [Act.put, List.setIfInBounds_toArray, List.set_cons_zero, List.set_cons_succ]
        refine wpAnyH_ready (rs := [3]) (by kernel_rfl) (by simp) (AllReadyH.cons rfl (fun K hK => ?_) AllReadyH.nil)
        go_simp
        refine (HW.out _ (belowDrew0 _)).mono ?_
        rintro e w4 ⟨A4, c4, rfl, hc4, hr4, bb4⟩
        have Hb4 := Lib.hid (belowDrew bb4)
        have HR4 := Lib.hid hr4.rii
        clear hr4 bb4
        have HHeld := KS.out _ Hb4.out
        refine hK.out _ _ HHeld (fun _ => ?_)
        clear hK K
        try simp only [Act.put, List.setIfInBounds_toArray, List.set_cons_zero, List.set_cons_succ]
        refine wpAnyH_ready (rs := [4]) (by kernel_rfl) (by simp) (AllReadyH.cons rfl (fun K hK => ?_) AllReadyH.nil)
        go_simp
        refine (HOPN.out _ A4 c4 Hb4.out HR4.out).mono ?_
        rintro e w5 ⟨rfl, bb5⟩
        have Hb5 := Lib.hid (Hb4.out.trans (bb5.mono Hb4.out.size))
        clear bb5
        have HHeld := KS.out _ Hb5.out
        refine hK.out _ _ HHeld (fun _ => ?_)
        clear hK K
        try simp only [Act.put, List.setIfInBounds_toArray, List.set_cons_zero, List.set_cons_succ]
        refine wpAnyH_done (by kernel_rfl) ?_ _
        have hb5 := hb.trans (Hb5.out.mono (by omega))
        have HB5 := Lib.hid hb5
        have hs5 := Hb5.out.size
        have HRX5 := Lib.hid (HRX.out.below Hb5.out)
        clear HRX
        have HRX := HRX5
        have hus := HRW.out.1
        cases hop : openPart m t zs with
        | true =>
          have HPX := Lib.hid (show openPart m t (cuts ++ [xs]) = true by rw [← HZ.out]; exact hop)
          have HOL := Lib.hid (filter_yes (p := fun k => openPart m t (cuts ++ [k])) HOUT.out HPX.out)
          obtain ⟨ol2, hol2⟩ : ∃ z, z = outl ++ [xs] := ⟨_, rfl⟩
          have HLL2 := Lib.hid (show ol2.length = outl.length + 1 by rw [hol2]; simp)
          have HLU := Lib.hid (show (us ++ [Value.slice Ak xs.length ck]).length = ol2.length by rw [hol2]; simp [hus])
          rw [← hol2] at HOL
          have HOL2 := Lib.hid hol2; clear hol2
          have ho4 := HO.out.below' Hb5.out
          clear hb5
          go_wp2_with (
                             at_builtin
                             refine wpList_app1 _ rfl _ _ _ rfl (w.heap.size + 1) 56 _ 24 Try.underlying24 info_sl rfl (by omega) _ us rfl (ho4.alloc _) _ _ rfl (one_cell _ _ _) rfl (by omega) (by simp; omega) ?_
                             intro v6 w6 ho6 hg6 hn6 hat6
                             have HB6 := Lib.hid (ho4.alloc _ |>.own (Nat.le_refl _) (HB5.out.alloc (by omega) _) hg6 (by simp; omega))
                             obtain ⟨q0, q1, q2, q3, q4, q5, _⟩ := HBX.out.keep fun i v hv => cell_in HB6.out (by simp only; omega) hv
                             have hwsz : w.heap.size < w6.heap.size := by have := HB6.out.size; omega
                             obtain ⟨A6, c6, e6, hc6, _⟩ := ho6.reads
                             rw [HLU.out] at e6 hc6
                             subst e6
                             have HGG := Lib.hid (And.intro ho6 (And.intro hg6 hat6))
                             clear ho6 hg6 hn6 hat6)
          obtain ⟨ho6, hg6, hat6⟩ := HGG.out
          have k6 : KeepF (fun x => (Value.slice Av outl.length cv).ownBlock = some x) w5 w6 := ((KeepF.refl _ _).alloc _).grown hg6 (fun g e => .inl e)
          have hnk := (by first | exact HNK.out rfl | exact HNK.out trivial)
          have HRX6 := Lib.hid (RV.keepF HRX.out k6 (fun b o e => (hnk b o e).1))
          have HRW5 := Lib.hid (show RowsK w6 (fun b => (Value.slice A6 ol2.length c6).ownBlock ≠ some b) (us ++ [Value.slice Ak xs.length ck]) ol2 from by
            have hne : ∀ b, b < w5.heap.size → (Value.slice Av outl.length cv).ownBlock ≠ some b → (Value.slice A6 ol2.length c6).ownBlock ≠ some b := fun b hlt hn e => by
              rcases hat6 with e7 | e7
              · exact hn (e7.symm.trans e)
              · have := e7.symm.trans e; injection this with this; simp only [World.size_alloc] at this; omega
            have hh := RowsK.app (K := fun b => (Value.slice A6 ol2.length c6).ownBlock ≠ some b) ((HRW.out.keep (KeepF.ofBelow (F := fun _ => False) Hb5.out) (fun b _ hk => ⟨id, hk⟩)).keep k6 (fun b hlt hk => ⟨hk, hne b hlt hk⟩)) (RowsK.one hck HRX6.out (fun b o e => ⟨hne b (by have := hnk b o e; omega) (hnk b o e).1, by have := hnk b o e; have := k6.size; omega⟩))
            rw [← HOL2.out] at hh; exact hh)
          have HO5 := Lib.hid ho6
          have HRX7 := HRX6
          clear HRX HRX6
          have HRX := HRX7
          have hs6 := HB6.out.size
          clear ho4 ho6 hg6 hat6 k6 hnk HGG
          refine (l02Next_any m HMK.out xs Ak ck w6 HRX.out hck HKX.out).mono ?_
          rintro e w7 ⟨A7, c7, xs7, b7, rfl, hc7, hr7, hso7, hno7, hbk7, bb7⟩
          have HSO := Lib.hid hso7; have HNO := Lib.hid hno7
          have HR7 := Lib.hid hr7
          have hs7 := bb7.size
          have HNX := Lib.hid (show (behindK m [] xs) = tl from allK_behind (HALL.out.trans (by rw [hres.out])))
          have Hb7 := Lib.hid bb7
          have HK7 := Lib.hid (show ∀ b o, A7 = some ⟨b, o, none⟩ → w6.heap.size ≤ b from fun b o e => by
            rcases hbk7 b o e with h | ⟨o', h⟩
            · exact h
            · cases h)
          have HL7 := Lib.hid (show ∀ b o, A7 = some ⟨b, o, none⟩ → b7 = true → b < w7.heap.size from fun b o e hb => by
            subst e
            cases hh : (behindK m [] xs).head? with
            | none => rw [HNO.out hh] at hb; cases hb
            | some x =>
              have h2 := (HSO.out x hh).2
              subst h2
              have hm : xs7 ∈ allK m := by rw [HALL.out, hres.out, ← HNX.out]; exact List.mem_append_right _ (List.mem_cons_of_mem _ (List.mem_of_mem_head? (by rw [hh]; rfl)))
              have hx := (key_parts ((allK_is HMK.out).1 hm)).1
              have := (mk_bounds HMK.out).1
              exact ri_block HR7.out (fun e0 => by have := congrArg List.length e0; rw [ints_length, List.length_nil] at this; omega))
          clear hso7 hno7 hbk7 bb7 q0 q1 q2 q3 q4 q5 hr7
          go_wp2_with fail
          go_roundg tl.length
          case measure => rw [hres.out, List.length_cons] at hgk; omega
          case rel =>
            refine ⟨done ++ [xs], tl, ol2, (us ++ [Value.slice Ak xs.length ck]), _, _, A7, c7, xs7, b7, rfl, rfl, rfl, Lib.hid (by rw [HALL.out, hres.out]; simp), HOL, by first | omega | (have := HLL2.out; omega), Nat.le_refl _, Lib.hid (fun hb => ?_), Lib.hid (fun hb => ?_), hc7, HR7, Lib.hid (fun hb b o e => ?_), Lib.hid (HO5.out.below' Hb7.out), Lib.hid (HRW5.out.keep (KeepF.ofBelow (F := fun _ => False) Hb7.out) (fun b _ hk => ⟨id, hk⟩)), HB6.out.trans (Hb7.out.mono (by omega))⟩
            · cases hh : (behindK m [] xs).head? with
              | none => rw [HNO.out hh] at hb; cases hb
              | some x =>
                have h2 := (HSO.out x hh).2
                subst h2
                rw [HNX.out] at hh
                cases htl : tl with
                | nil => rw [htl] at hh; cases hh
                | cons y ys => rw [htl] at hh; injection hh with hh; subst hh; exact ⟨ys, rfl⟩
            · cases hh : (behindK m [] xs).head? with
              | none => rw [HNX.out] at hh; exact List.head?_eq_none_iff.1 hh
              | some x => have := (HSO.out x hh).1; rw [hb] at this; cases this
            · exact ⟨fun e' => by have := (HO5.out.lt b e').2; have := HK7.out b o e; omega, HL7.out b o e hb⟩
        | false =>
          have HPX := Lib.hid (show openPart m t (cuts ++ [xs]) = false by rw [← HZ.out]; exact hop)
          have HOL := Lib.hid (filter_not (p := fun k => openPart m t (cuts ++ [k])) HOUT.out HPX.out)
          have HO5 := Lib.hid (HO.out.below' Hb5.out)
          have HRW5 := Lib.hid (HRW.out.keep (KeepF.ofBelow (F := fun _ => False) Hb5.out) (fun b _ hk => ⟨id, hk⟩))
          obtain ⟨q0, q1, q2, q3, q4, q5, _⟩ := HBX.out.keep fun i v hv => cell_in HB5.out (by simp only; omega) hv
          have hwsz : w.heap.size < w5.heap.size := by have := HB5.out.size; omega
          go_wp2_with fail
          refine (l02Next_any m HMK.out xs Ak ck w5 HRX.out hck HKX.out).mono ?_
          rintro e w7 ⟨A7, c7, xs7, b7, rfl, hc7, hr7, hso7, hno7, hbk7, bb7⟩
          have HSO := Lib.hid hso7; have HNO := Lib.hid hno7
          have HR7 := Lib.hid hr7
          have hs7 := bb7.size
          have HNX := Lib.hid (show (behindK m [] xs) = tl from allK_behind (HALL.out.trans (by rw [hres.out])))
          have Hb7 := Lib.hid bb7
          have HK7 := Lib.hid (show ∀ b o, A7 = some ⟨b, o, none⟩ → w5.heap.size ≤ b from fun b o e => by
            rcases hbk7 b o e with h | ⟨o', h⟩
            · exact h
            · cases h)
          have HL7 := Lib.hid (show ∀ b o, A7 = some ⟨b, o, none⟩ → b7 = true → b < w7.heap.size from fun b o e hb => by
            subst e
            cases hh : (behindK m [] xs).head? with
            | none => rw [HNO.out hh] at hb; cases hb
            | some x =>
              have h2 := (HSO.out x hh).2
              subst h2
              have hm : xs7 ∈ allK m := by rw [HALL.out, hres.out, ← HNX.out]; exact List.mem_append_right _ (List.mem_cons_of_mem _ (List.mem_of_mem_head? (by rw [hh]; rfl)))
              have hx := (key_parts ((allK_is HMK.out).1 hm)).1
              have := (mk_bounds HMK.out).1
              exact ri_block HR7.out (fun e0 => by have := congrArg List.length e0; rw [ints_length, List.length_nil] at this; omega))
          clear hso7 hno7 hbk7 bb7 q0 q1 q2 q3 q4 q5 hr7
          go_wp2_with fail
          go_roundg tl.length
          case measure => rw [hres.out, List.length_cons] at hgk; omega
          case rel =>
            refine ⟨done ++ [xs], tl, outl, us, _, _, A7, c7, xs7, b7, rfl, rfl, rfl, Lib.hid (by rw [HALL.out, hres.out]; simp), HOL, by first | omega | (have := HLL2.out; omega), Nat.le_refl _, Lib.hid (fun hb => ?_), Lib.hid (fun hb => ?_), hc7, HR7, Lib.hid (fun hb b o e => ?_), Lib.hid (HO5.out.below' Hb7.out), Lib.hid (HRW5.out.keep (KeepF.ofBelow (F := fun _ => False) Hb7.out) (fun b _ hk => ⟨id, hk⟩)), HB5.out.trans (Hb7.out.mono (by omega))⟩
            · cases hh : (behindK m [] xs).head? with
              | none => rw [HNO.out hh] at hb; cases hb
              | some x =>
                have h2 := (HSO.out x hh).2
                subst h2
                rw [HNX.out] at hh
                cases htl : tl with
                | nil => rw [htl] at hh; cases hh
                | cons y ys => rw [htl] at hh; injection hh with hh; subst hh; exact ⟨ys, rfl⟩
            · cases hh : (behindK m [] xs).head? with
              | none => rw [HNX.out] at hh; exact List.head?_eq_none_iff.1 hh
              | some x => have := (HSO.out x hh).1; rw [hb] at this; cases this
            · exact ⟨fun e' => by have := (HO5.out.lt b e').2; have := HK7.out b o e; omega, HL7.out b o e hb⟩
      · have HD := Lib.hid (cand_done HALL.out HOUT.out hol (.inr (by omega)))
        have hlm' : decide (outl.length < most) = false := decide_eq_false hlm
        go_wp2_with fail
        go_ret
        obtain ⟨A9, c9, e9, hc9, hr9⟩ := HO.out.reads
        injection e9 with e91 e92 e93
        subst e91
        rw [show (candsF m t cuts).take most = outl from HD.out.symm]
        exact ⟨Av, cv, rfl, by have := HRW.out.1; omega, HRW.out.rii hr9, Bw⟩
end Go.Proofs.Ytapocenhmdcfoaa
