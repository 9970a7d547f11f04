/- Contract of HarmlessDepths, of the reference. -/
import Derived.Test.YthjfilhcfjpinaaFHarm
namespace Go.Proofs.Ythjfilhcfjpinaa
set_option linter.unusedVariables false
open Go.RowKit
def setsOf (l : List (List Int)) (k : Nat) (d : Int) : List (List Int) := (List.range l.length).map fun j => if j = k then [d] else l.getD j []
theorem setsOf_len (l : List (List Int)) (k : Nat) (d : Int) : (setsOf l k d).length = l.length := by simp [setsOf]
theorem setsOf_get (l : List (List Int)) (k : Nat) (d : Int) {j : Nat} (h : j < l.length) : (setsOf l k d).getD j [] = if j = k then [d] else l.getD j [] := by simp [setsOf, List.getD, h]
theorem setsOf_succ (l : List (List Int)) (k : Nat) (d : Int) (j : Nat) (h : j < l.length) : (setsOf l k d).take (j + 1) = (setsOf l k d).take j ++ [if j = k then [d] else l[j]] := by
  have hl : j < (setsOf l k d).length := by rw [setsOf_len]; exact h
  rw [List.take_succ_eq_append_getElem hl]
  congr 2
  simp [setsOf, List.getD, List.getElem?_eq_getElem h]
theorem setsOf_inc {m : Mk} {l : List (List Int)} (hl : ∀ i, Inc 0 m.d (l.getD i [])) (k : Nat) (d : Int) (h0 : 0 ≤ d) (h1 : d < m.d) (j : Nat) : Inc 0 m.d ((setsOf l k d).getD j []) := by
  by_cases h : j < l.length
  · rw [setsOf_get l k d h]
    split
    · exact ⟨h0, h1, trivial⟩
    · exact hl j
  · rw [show (setsOf l k d).getD j [] = [] by simp [setsOf, List.getD, show ¬ j < l.length from h]]; trivial
theorem setsOpen (m : Mk) (l : List (List Int)) (hl : ∀ i, Inc 0 m.d (l.getD i [])) (hlen : (l.length : Int) = m.c) (k : Nat) (d : Int) (h0 : 0 ≤ d) (h1 : d < m.d) : openF m (setsOf l k d) m.c.toNat [] 1 = (keysG m (withAl l k d) [] m.c.toNat [] false).take 1 := by
  rw [openF_eq m _ (setsOf_inc hl k d h0 h1), if_pos (begins_nil m), keysG_congr (al' := withAl l k d)]
  · rfl
  · intro ch x h2 h3 h4
    have hch : ch < l.length := by simp at h2; omega
    show hasI ((setsOf l k d).getD ch []) x = _
    rw [setsOf_get l k d hch]
    unfold withAl
    by_cases e : ch = k
    · rw [if_pos e, if_pos e, Bool.eq_iff_iff, hasI_iff]; simp
    · rw [if_neg e, if_neg e]; rfl
theorem lock_pos {m : Mk} {l : List (List Int)} (h : isLockF m l = true) (i : Nat) (hi : i < l.length) : 0 < l[i].length := by
  unfold isLockF lockOK at h
  rw [Bool.and_eq_true, Bool.and_eq_true, List.all_eq_true] at h
  have := h.2.1 _ (List.getElem_mem hi)
  unfold setOK at this; rw [Bool.and_eq_true, decide_eq_true_eq] at this
  omega
set_option maxRecDepth 100000 in
set_option maxHeartbeats 16000000 in
theorem specHarmlessDepths_any (m : Mk) (D : Option Addr) (q : Nat) (l : List (List Int)) (A : Option Addr) (c : Nat) (al : List (List Int)) (w : World) (h : RII w D l) (g : RII w A al) :
    Calls Try.prog 22 #[.agg #[.int .i64 m.c, .int .i64 m.d, .int .i64 m.s, .int .i64 m.a, .int .i64 m.l], .agg #[.slice D l.length q], .slice A al.length c] w (ResIIC w (harmR m l al)) := by
  have B0 := ((Below.refl w.heap.size w).alloc (Nat.le_refl _) (.cells #[.int .i64 m.c, .int .i64 m.d, .int .i64 m.s, .int .i64 m.a, .int .i64 m.l] 25)).alloc (by simp only [World.size_alloc]; omega) (.cells #[.slice D l.length q] 28)
  have bx : BoxC ((w.alloc (.cells #[.int .i64 m.c, .int .i64 m.d, .int .i64 m.s, .int .i64 m.a, .int .i64 m.l] 25)).alloc (.cells #[.slice D l.length q] 28)) (w.heap.size + 1) 0 [.slice D l.length q] := by simp [BoxC, Go.World.cell?_alloc_at]
  have bm : BoxC ((w.alloc (.cells #[.int .i64 m.c, .int .i64 m.d, .int .i64 m.s, .int .i64 m.a, .int .i64 m.l] 25)).alloc (.cells #[.slice D l.length q] 28)) w.heap.size 0 [.int .i64 m.c, .int .i64 m.d, .int .i64 m.s, .int .i64 m.a, .int .i64 m.l] := by
    have : BoxC (w.alloc (.cells #[.int .i64 m.c, .int .i64 m.d, .int .i64 m.s, .int .i64 m.a, .int .i64 m.l] 25)) w.heap.size 0 [.int .i64 m.c, .int .i64 m.d, .int .i64 m.s, .int .i64 m.a, .int .i64 m.l] := by simp [BoxC, Go.World.cell?_alloc_at]
    exact this.below ((Below.refl _ _).alloc (Nat.le_refl _) _)
  have HLL := Lib.hid (l14Code_any m D q l A c al ((w.alloc (.cells #[.int .i64 m.c, .int .i64 m.d, .int .i64 m.s, .int .i64 m.a, .int .i64 m.l] 25)).alloc (.cells #[.slice D l.length q] 28)) (h.below B0) (g.below B0))
  have hle := h.le
  by_cases h1 : allowedC m l al [] = 0
  rotate_left
  · have HN := Lib.hid (harm_no h1)
    have t1 : (allowedC m l al [] != 0) = true := by simpa using h1
    have H1 := Lib.hid h1; clear h1
    go_enter Try.func22, Try.ntmps22
    go_wp2_with fail
    refine HLL.out.mono ?_
    rintro e w1 ⟨rfl, b1⟩
    go_wp2_with fail
    go_ret2
    exact resIIC_nil HN.out (B0.trans (b1.mono B0.size))
  have HY := Lib.hid (harm_yes h1)
  have hlk := (allowedC_0 h1).1
  have hm := isLock_mk hlk
  have hmb := mk_bounds hm
  have d2 : 2 ≤ m.d := hmb.2.2.1
  have d8 : m.d ≤ 8 := hmb.2.2.2.1
  have hl6 : l.length ≤ 6 := by have := isLock_len hlk; have := hmb.2.1; omega
  clear hmb
  have HLK := Lib.hid hlk; have HMK := Lib.hid hm
  have HLM := Lib.hid (isLock_len hlk)
  clear hlk hm
  rw [h1] at HLL
  have H1 := Lib.hid h1; clear h1
  have HBX := Lib.hid (And.intro bx bm); clear bx bm
  go_enter Try.func22, Try.ntmps22
  go_wp2_with fail
  refine HLL.out.mono ?_
  rintro e w1 ⟨rfl, b1⟩
  have B1 := B0.trans (b1.mono B0.size)
  have s1 : w.heap.size + 2 ≤ w1.heap.size := by have := b1.size; simp only [World.size_alloc] at this; omega
  have HM1 := Lib.hid (HBX.out.2.below b1)
  have HL1 := Lib.hid (HBX.out.1.below b1)
  go_wp2_with fail
  go_loopw [9, 10, 11, 12, 13, 14] (fun v i _ _ _ _ wr => ∃ (k : Nat) (v0 : Value), k ≤ l.length ∧ i = .int .i64 k ∧ v = v0 ∧ OII wr w1.heap.size wr.heap.size v0 (harmL m l k) ∧ Below w1.heap.size w1 wr) (fun _ i _ _ _ _ _ => l.length - (intOf i).toNat)
  case atStart => exact ⟨0, _, by omega, rfl, rfl, by simpa [harmL] using (OII.new0 (w := w1) (Nat.le_refl _)).wide (Nat.le_refl _) (show w1.heap.size + 1 ≤ (w1.alloc (.cells #[] 38)).heap.size by simp), (Below.refl _ _).alloc (Nat.le_refl _) _⟩
  case round =>
    obtain ⟨k, v0, hk, rfl, rfl, ho, hb⟩ := hrel
    have HO := Lib.hid ho; clear ho
    have hsz := hb.size
    have HB := Lib.hid hb
    have HM := Lib.hid (HM1.out.below hb)
    have HLB := Lib.hid (HL1.out.below hb)
    clear hb
    obtain ⟨wo, rfl⟩ : ∃ wo : World, wo = wr := ⟨_, rfl⟩
    obtain ⟨q0, q1, q2, q3, q4, _⟩ := HM.out
    by_cases hlt : k < l.length
    · have i0 : (k : Int) < m.c := by have := HLM.out; omega
      have i1 : (0 : Int) ≤ (k : Int) := by omega
      have i2 : (k : Int) < (l.length : Int) := by omega
      have HSK := Lib.hid (harmL_succ m l k)
      go_wp2_with fail
      clear q0 q1 q2 q3 q4
      go_loopw [11, 12, 13, 14] (fun u i _ _ wx => ∃ (n : Nat) (u0 : Value), (n : Int) ≤ m.d ∧ i = .int .i64 n ∧ u = u0 ∧ OV wx wo.heap.size 2 u0 (ints (harmSet m l k n)) ∧ Below wo.heap.size wo wx) (fun _ i _ _ _ => (m.d - intOf i).toNat)
      case atStart => exact ⟨0, _, by omega, rfl, rfl, by simpa [harmSet, depths, ints] using OV.new0 (w := wo) (B := wo.heap.size) (e := 2) (Nat.le_refl _), (Below.refl _ _).alloc (Nat.le_refl _) _⟩
      case round =>
        obtain ⟨n, u0, hn, rfl, rfl, hou, hbx⟩ := hrel
        have HOU := Lib.hid hou; have HBX2 := Lib.hid hbx
        have hszx := hbx.size
        have HLN := Lib.hid (harmSet_len m l k n)
        have HSN := Lib.hid (harmSet_succ m l k n)
        have Bx := HB.out.trans (hbx.mono hsz)
        have HD := Lib.hid (h.below (B1.trans (Bx.mono B1.size)))
        have HMX := Lib.hid (HM.out.below hbx)
        have HLX := Lib.hid (HLB.out.below hbx)
        obtain ⟨q0, q1, q2, q3, q4, _⟩ := HMX.out
        obtain ⟨l0, _⟩ := HLX.out
        obtain ⟨wp, rfl⟩ : ∃ wp : World, wp = wr := ⟨_, rfl⟩
        by_cases hlt2 : (n : Int) < m.d
        · obtain ⟨b, o, A', c', eD, hc, hcc, hr⟩ := HD.out.at_ hlt
          have HFR := Lib.hid (show frees l k (n : Int) = hasI l[k] n by unfold frees; rw [getD_row hlt])
          have HH := l01Has_any A' c' l[k] (n : Int) wp hr
          subst eD
          cases hfr : hasI l[k] (n : Int) with
          | true =>
            rw [hfr] at HH
            have HHH := Lib.hid HH; clear HH
            have HT := Lib.hid (show harmSet m l k (n + 1) = harmSet m l k n by rw [HSN.out]; unfold harmAt; rw [HFR.out, hfr]; simp)
            go_wp2_with fail
            refine HHH.out.mono ?_
            rintro e w3 ⟨rfl, rfl⟩
            go_wp2_with fail
            go_roundw
            case rel => exact ⟨n + 1, u11, by omega, by go_num, rfl, by rw [HT.out]; exact HOU.out, HBX2.out⟩
            case measure => simp [intOf]; omega
          | false =>
            rw [hfr] at HH
            have HHH := Lib.hid HH; clear HH
            have HOE := Lib.hid (setsOpen m l (lock_inc HLK.out) HLM.out k (n : Int) (by omega) hlt2)
            have HINC := Lib.hid (setsOf_inc (lock_inc HLK.out) k (n : Int) (by omega) hlt2)
            go_wp2_with fail
            refine HHH.out.mono ?_
            rintro e w3 ⟨rfl, rfl⟩
            go_wp2_with fail
            clear q0 q1 q2 q3 q4 l0 hc
            go_loopw [13, 14] (fun v i wz => ∃ (j : Nat) (us : List Value) (v1 : Value), j ≤ l.length ∧ i = .int .i64 j ∧ v = v1 ∧ OV wz wp.heap.size 38 v1 us ∧ RowsK wz (fun b => v1.ownBlock ≠ some b) us ((setsOf l k (n : Int)).take j) ∧ Below wp.heap.size wp wz) (fun _ i _ => l.length - (intOf i).toNat)
            case atStart => exact ⟨0, [], _, by omega, rfl, rfl, OV.new0 (Nat.le_refl _), RowsK.nil, (Below.refl _ _).alloc (Nat.le_refl _) _⟩
            case round =>
              obtain ⟨j, us, v1, hj, rfl, rfl, hoz, hroz, hbz⟩ := hrel
              have HOZ := Lib.hid hoz; have HROZ := Lib.hid hroz; have HBZ := Lib.hid hbz
              have hul : us.length ≤ 6 := by have := hroz.1; rw [List.length_take, setsOf_len] at this; omega
              have hszz := hbz.size
              obtain ⟨q0, q1, q2, q3, q4, _⟩ := HMX.out.below hbz
              obtain ⟨l0, _⟩ := HLX.out.below hbz
              by_cases hjl : j < l.length
              · have j0 : (j : Int) < m.c := by have := HLM.out; omega
                have j1 : (0 : Int) ≤ (j : Int) := by omega
                have j2 : (j : Int) < (l.length : Int) := by omega
                have HSJ := setsOf_succ l k (n : Int) j hjl
                by_cases hjk : j = k
                · have hq : ((j : Int) == (k : Int)) = true := by simp [hjk]
                  rw [if_pos hjk] at HSJ
                  have HSJJ := Lib.hid HSJ
                  have HJK := Lib.hid hjk
                  have hb8 := (Below.refl wr.heap.size wr).alloc (Nat.le_refl _) (.cells #[.int .i64 (n : Int)] 2)
                  have hrow8 : RowsK (wr.alloc (.cells #[.int .i64 (n : Int)] 2)) (fun b => wr.heap.size ≤ b) [.slice (some ⟨wr.heap.size, 0, none⟩) 1 1] [[(n : Int)]] := RowsK.one (xs := [(n : Int)]) (c := 1) (Nat.le_refl _) (RV.one wr (.int .i64 (n : Int)) 2) (fun b o e => by injection e with e; injection e with e1 _ _; subst e1; exact ⟨Nat.le_refl _, by simp⟩)
                  have HR8 := Lib.hid hrow8
                  have hro8 := Lib.hid (hroz.keep (KeepF.ofBelow (F := fun _ => False) hb8) (K' := fun b => u13.ownBlock ≠ some b ∧ b < wr.heap.size + 1) (fun b hb hk => ⟨id, hk, by omega⟩))
                  clear HSJ hjk hrow8 hroz
                  go_wp2_with (at_builtin; refine wpList_app1 _ rfl _ _ _ rfl wp.heap.size 38 _ 24 Try.underlying26 info_sl rfl (by omega) _ us rfl ((hoz.alloc _).alloc _) _ _ rfl (one_cell' (w := wr.alloc (.cells #[.int .i64 (n : Int)] 2)) (by simp)) rfl (by omega) (by simp; omega) ?_; intro v' w5 ho5 hg5 hn5 hat5)
                  have HB8 := Lib.hid hb8
                  have k5 : KeepF (fun x => u13.ownBlock = some x) (wr.alloc (.cells #[.int .i64 (n : Int)] 2)) w5 := ((KeepF.refl _ _).alloc _).grown hg5 (fun g e => .inl e)
                  have HR5 := Lib.hid (show RowsK w5 (fun b => v'.ownBlock ≠ some b) (us ++ [.slice (some ⟨wr.heap.size, 0, none⟩) 1 1]) ((setsOf l k (n : Int)).take (j + 1)) from by
                    rw [HSJJ.out]
                    refine RowsK.app (hro8.out.keep k5 (fun b hb hk => ⟨hk.1, fun e => ?_⟩)) (HR8.out.keep k5 (fun b hb hk => ⟨fun e => ?_, fun e => ?_⟩))
                    · rcases hat5 with e7 | e7
                      · exact hk.1 (e7.symm.trans e)
                      · have := e7.symm.trans e; injection this with this; (try simp at this); omega
                    · have h7 := HOZ.out.lt b e; omega
                    · rcases hat5 with e7 | e7
                      · have h7 := HOZ.out.lt b (e7.symm.trans e); omega
                      · have := e7.symm.trans e; injection this with this; (try simp at this); (try simp at hb); omega)
                  have HB5 := Lib.hid (belowG ((HBZ.out.trans (HB8.out.mono (by omega))).alloc (by first | omega | (simp; omega)) (.cells #[.slice (some ⟨wr.heap.size, 0, none⟩) 1 1] 38)) hg5 (by simp; omega) (fun x e => (HOZ.out.lt x e).1))
                  have HO5 := Lib.hid ho5
                  clear ho5 hg5 hn5 hat5 k5
                  go_roundw
                  case rel => exact ⟨j + 1, us ++ [.slice (some ⟨wr.heap.size, 0, none⟩) 1 1], v', by omega, by go_num, rfl, HO5.out, HR5.out, HB5.out⟩
                  case measure => simp [intOf]; omega
                · have hq : ((j : Int) == (k : Int)) = false := by simp; omega
                  rw [if_neg hjk] at HSJ
                  have HSJJ := Lib.hid HSJ
                  have HJK := Lib.hid hjk
                  obtain ⟨b9, o9, A9, c9, e9, hc9, hcc9, hr9⟩ := HD.out.at_ hjl
                  injection e9 with e9
                  injection e9 with e91 e92 _
                  subst e91 e92
                  have hc9z := cell_in hbz (World.block_lt_of_cell? wp _ hc9) hc9
                  have HB8 := Lib.hid (Below.refl wr.heap.size wr)
                  have hb9lt : b < wr.heap.size := World.block_lt_of_cell? wr _ hc9z
                  have hro8 := Lib.hid (hroz.keep (KeepF.refl (fun _ => False) wr) (K' := fun b => u13.ownBlock ≠ some b ∧ b < wr.heap.size + 1) (fun b hb hk => ⟨id, hk, by omega⟩))
                  have HR9 := Lib.hid hr9
                  have HOZ9 := Lib.hid (show ∀ x, u13.ownBlock = some x → wp.heap.size ≤ x from fun x e => (hoz.lt x e).1)
                  have hp := lock_pos HLK.out j hjl
                  have HA9 := Lib.hid (show ∀ bb oo, A9 = some ⟨bb, oo, none⟩ → bb < wp.heap.size from fun bb oo e => by
                    subst e
                    obtain ⟨b', o', e', hc'⟩ := hr9.at_ hp
                    injection e' with e'; injection e' with e1 e2
                    subst e1 e2
                    exact World.block_lt_of_cell? wp _ hc')
                  clear HSJ hjk hroz hc9 hp
                  go_wp2_with (at_builtin; refine wpList_app1 _ rfl _ _ _ rfl wp.heap.size 38 _ 24 Try.underlying26 info_sl rfl (by omega) _ us rfl (hoz.alloc _) _ _ rfl (one_cell _ _ _) rfl (by omega) (by simp; omega) ?_; intro v' w5 ho5 hg5 hn5 hat5)
                  have HR8 := Lib.hid (RowsK.one (K := fun b => b < wp.heap.size) hcc9 (RI.below HR9.out HBZ.out) (fun bb oo e => by have := HA9.out bb oo e; exact ⟨this, by omega⟩))
                  have k5 : KeepF (fun x => u13.ownBlock = some x) wr w5 := ((KeepF.refl _ _).alloc _).grown hg5 (fun g e => .inl e)
                  have HR5 := Lib.hid (show RowsK w5 (fun b => v'.ownBlock ≠ some b) (us ++ [.slice A9 l[j].length c9]) ((setsOf l k (n : Int)).take (j + 1)) from by
                    rw [HSJJ.out]
                    refine RowsK.app (hro8.out.keep k5 (fun b hb hk => ⟨hk.1, fun e => ?_⟩)) (HR8.out.keep k5 (fun b hb hk => ⟨fun e => ?_, fun e => ?_⟩))
                    · rcases hat5 with e7 | e7
                      · exact hk.1 (e7.symm.trans e)
                      · have := e7.symm.trans e; injection this with this; (try simp at this); omega
                    · have h7 := HOZ.out.lt b e; omega
                    · rcases hat5 with e7 | e7
                      · have h7 := HOZ.out.lt b (e7.symm.trans e); omega
                      · have := e7.symm.trans e; injection this with this; (try simp at this); (try simp at hb); omega)
                  have HB5 := Lib.hid (belowG ((HBZ.out.trans (HB8.out.mono (by omega))).alloc (by first | omega | (simp; omega)) (.cells #[.slice A9 l[j].length c9] 38)) hg5 (by simp; omega) (fun x e => (HOZ.out.lt x e).1))
                  have HO5 := Lib.hid ho5
                  clear ho5 hg5 hn5 hat5 k5
                  go_roundw
                  case rel => exact ⟨j + 1, us ++ [.slice A9 l[j].length c9], v', by omega, by go_num, rfl, HO5.out, HR5.out, HB5.out⟩
                  case measure => simp [intOf]; omega
              · obtain rfl : j = l.length := by omega
                obtain ⟨ss, hss⟩ : ∃ ss, ss = setsOf l k (n : Int) := ⟨_, rfl⟩
                have hsl : ss.length = l.length := by rw [hss, setsOf_len]
                have hul2 : us.length = ss.length := by have := hroz.1; rw [this, List.length_take, hsl, setsOf_len]; omega
                obtain ⟨A8, c8, e8, hc8, hr8⟩ := hoz.reads
                have hrows : RowsK wr (fun b => u13.ownBlock ≠ some b) us ss := by
                  have := hroz
                  rw [List.take_of_length_le (by rw [setsOf_len]; exact Nat.le_refl _), ← hss] at this
                  exact this
                have hrii := hrows.rii hr8
                rw [hul2] at e8 hc8
                have HOP := l04Openers_go m HMK.out ss (by rw [hsl]; exact HLM.out) (by rw [hss]; exact HINC.out) m.c.toNat [] 1 A8 c8 none 0 wr hrii RI.nil (Nat.le_refl _) (by have := HLM.out; simp; omega) rfl (by omega) (by omega)
                obtain ⟨fk, hfk⟩ : ∃ fk, fk = openF m ss m.c.toNat [] 1 := ⟨_, rfl⟩
                rw [← hfk] at HOP
                have HFK := Lib.hid (show harmAt m l k (n : Int) = ((fk.length : Int) == 0) by unfold harmAt noneWith; rw [HFR.out, hfr, hfk, hss, HOE.out]; rfl)
                have HOPP := Lib.hid HOP
                have jn : decide (((l.length : Nat) : Int) < m.c) = false := decide_eq_false (by have := HLM.out; omega)
                clear HOP hfk hrows hrii hr8 hroz hss
                subst e8
                clear hsl hul2
                cases hz : ((fk.length : Int) == 0) with
                | true =>
                  have HT := Lib.hid (show ints (harmSet m l k (n + 1)) = ints (harmSet m l k n) ++ [.int .i64 (n : Int)] by rw [HSN.out, HFK.out, hz, if_pos rfl, ints_append]; rfl)
                  go_wp2_with fail
                  refine HOPP.out.mono ?_
                  rintro e w4 ⟨A4, c4, us4, rfl, hc4, hr4, hk4, b4, _⟩
                  have hle4 := (hk4.rii hr4).le
                  have HB4 := Lib.hid (HBZ.out.trans (b4.mono hszz))
                  have hB4 := HB4.out.size
                  have hou4 := HOU.out.below' HB4.out
                  clear hk4 hr4
                  go_wp2_with (at_builtin; refine wpList_app1 _ rfl _ _ _ rfl wo.heap.size 2 _ 8 Try.underlying38 info_int rfl (by omega) _ _ rfl (hou4.alloc _) _ _ rfl (one_cell _ _ _) rfl (by rw [ints_length]; have := HLN.out; omega) (by simp; omega) ?_; intro v' w5 ho5 hg5 hn5 hat5)
                  go_roundw
                  case rel => exact ⟨n + 1, v', by omega, by go_num, rfl, by rw [HT.out]; exact ho5, (hou4.alloc _).own (Nat.le_refl _) ((HBX2.out.trans (HB4.out.mono hszx)).alloc (by omega) _) hg5 (by simp; omega)⟩
                  case measure => simp [intOf]; omega
                | false =>
                  have HT := Lib.hid (show harmSet m l k (n + 1) = harmSet m l k n by rw [HSN.out, HFK.out, hz]; simp)
                  go_wp2_with fail
                  refine HOPP.out.mono ?_
                  rintro e w4 ⟨A4, c4, us4, rfl, hc4, hr4, hk4, b4, _⟩
                  have hle4 := (hk4.rii hr4).le
                  have HB4 := Lib.hid (HBZ.out.trans (b4.mono hszz))
                  clear hk4 hr4
                  go_wp2_with fail
                  go_roundw
                  case rel => exact ⟨n + 1, u11, by omega, by go_num, rfl, by rw [HT.out]; exact HOU.out.below' HB4.out, HBX2.out.trans (HB4.out.mono hszx)⟩
                  case measure => simp [intOf]; omega
        · have hnd : n = m.d.toNat := by omega
          have hND : decide ((n : Int) < m.d) = false := decide_eq_false hlt2
          obtain ⟨zs, hzs⟩ : ∃ zs, zs = harmSet m l k m.d.toNat := ⟨_, rfl⟩
          rw [hnd, ← hzs] at hou
          rw [← hzs] at HSK
          clear hzs hnd
          obtain ⟨A7, c7, rfl, hc7, hr7⟩ : ∃ A7 c7, u11 = .slice A7 zs.length c7 ∧ zs.length ≤ c7 ∧ RI wp A7 zs := by
            obtain ⟨A9, c9, e9, h9, h9r⟩ := hou.reads
            rw [ints_length] at e9 h9
            exact ⟨A9, c9, e9, h9, h9r⟩
          obtain ⟨us, k1, k2, k3, k4⟩ := HO.out.below hbx
          have hul : us.length ≤ 6 := by rw [k1, harmL_len]; omega
          have HK := Lib.hid (And.intro k3 k4); clear k3 k4
          have HL := Lib.hid k1; clear k1
          go_wp2_with (at_builtin; refine wpList_app1 _ rfl _ _ _ rfl w1.heap.size 38 _ 24 Try.underlying26 info_sl rfl (by omega) _ us rfl (k2.1.alloc _) _ _ rfl (one_cell _ _ _) rfl (by omega) (by simp; omega) ?_; intro v' w5 ho5 hg5 hn5 hat5)
          have HN := Lib.hid (OII.push1 (ys := zs) HL.out k2 HK.out.1 HK.out.2 hou hsz hszx ho5 hg5)
          have HB5 := Lib.hid ((k2.1.alloc (.cells #[.slice A7 zs.length c7] 38)).own (Nat.le_refl _) (Bx.alloc (by omega) _) hg5 (by simp; omega))
          clear ho5 hg5 hn5 hat5
          go_roundw
          case rel => exact ⟨k + 1, v', by omega, by go_num, rfl, by rw [HSK.out]; exact HN.out, HB5.out⟩
          case measure => simp [intOf]; omega
    · obtain rfl : k = l.length := by omega
      have kn : decide (((l.length : Nat) : Int) < m.c) = false := decide_eq_false (by have := HLM.out; omega)
      go_wp2_with fail
      go_ret2
      exact resIIC_own HY.out HO.out (by omega) (Nat.le_refl _) (B1.trans (HB.out.mono B1.size))
end Go.Proofs.Ythjfilhcfjpinaa
