/- Contracts of l13Lock, l13Keys, CountChanges. -/
import Derived.Test.YthjfilhcfjpinaaFCount
import Derived.Test.YthjfilhcfjpinaaFOpeners
import Derived.Test.YthjfilhcfjpinaaFChange
import Derived.Test.YthjfilhcfjpinaaFGhost
namespace Go.Proofs.Ythjfilhcfjpinaa
set_option linter.unusedVariables false
open Go.RowKit
def chSet (m : Mk) (xs ys : List Int) (s : Int) (i : Nat) : List Int := (depths 0 m.d).filter (fits xs ys s i)
def chSets (m : Mk) (xs ys : List Int) (s : Int) : List (List Int) := (List.range xs.length).map (chSet m xs ys s)
def changeKeys (m : Mk) (xs ys : List Int) (s : Int) : List (List Int) := keysG m (fits xs ys s) [] m.c.toNat [] false
theorem inc_depths (hi : Int) (p : Int → Bool) : ∀ (n : Nat) (lo : Int), hi - lo ≤ n → Inc lo hi ((depths lo hi).filter p)
  | 0, lo, h => by rw [depths_nil (by omega)]; trivial
  | n + 1, lo, h => by
    by_cases hlt : lo < hi
    · rw [depths_cons hlt, List.filter_cons]
      have := inc_depths hi p n (lo + 1) (by omega)
      split
      · exact ⟨Int.le_refl _, hlt, this⟩
      · exact Inc.mono (by omega) this
    · rw [depths_nil (by omega)]; trivial
theorem chSets_get (m : Mk) (xs ys : List Int) (s : Int) {i : Nat} (h : i < xs.length) : (chSets m xs ys s).getD i [] = chSet m xs ys s i := by
  simp [chSets, List.getD, h]
theorem chSets_inc (m : Mk) (xs ys : List Int) (s : Int) (i : Nat) : Inc 0 m.d ((chSets m xs ys s).getD i []) := by
  by_cases h : i < xs.length
  · rw [chSets_get m xs ys s h]; exact inc_depths m.d _ m.d.toNat 0 (by omega)
  · rw [show (chSets m xs ys s).getD i [] = [] by simp [chSets, List.getD, show ¬ i < xs.length from h]]; trivial
theorem chOpen (m : Mk) (xs ys : List Int) (s : Int) (hx : (xs.length : Int) = m.c) (most : Int) : openF m (chSets m xs ys s) m.c.toNat [] most = (changeKeys m xs ys s).take most.toNat := by
  rw [openF_eq m _ (chSets_inc m xs ys s), if_pos (begins_nil m)]
  unfold changeKeys
  rw [keysG_congr (al' := fits xs ys s)]
  intro ch d h1 h2 h3
  have hch : ch < xs.length := by simp at h1; omega
  show hasI ((chSets m xs ys s).getD ch []) d = _
  rw [chSets_get m xs ys s hch, Bool.eq_iff_iff, hasI_iff, chSet, List.mem_filter, mem_depths]
  exact ⟨fun h => h.2, fun h => ⟨⟨h2, h3⟩, h⟩⟩
theorem chSet_succ (m : Mk) (xs ys : List Int) (s : Int) (i k : Nat) (h : (k : Int) < m.d) : (depths 0 ((k : Int) + 1)).filter (fits xs ys s i) = (depths 0 (k : Int)).filter (fits xs ys s i) ++ (if fits xs ys s i k = true then [(k : Int)] else []) := by
  have e : depths 0 ((k : Int) + 1) = depths 0 (k : Int) ++ [(k : Int)] := by
    unfold depths
    rw [show ((k : Int) + 1 - 0).toNat = k + 1 by omega, show ((k : Int) - 0).toNat = k by omega, List.range_succ, List.map_append]
    simp
  rw [e, List.filter_append, List.filter_cons]; rfl
theorem chSets_succ (m : Mk) (xs ys : List Int) (s : Int) (k : Nat) (h : k < xs.length) : (chSets m xs ys s).take (k + 1) = (chSets m xs ys s).take k ++ [chSet m xs ys s k] := by
  have hl : k < (chSets m xs ys s).length := by simp [chSets]; exact h
  rw [List.take_succ_eq_append_getElem hl]
  congr 1
  simp [chSets]
theorem chSets_len (m : Mk) (xs ys : List Int) (s : Int) : (chSets m xs ys s).length = xs.length := by simp [chSets]
/-- the set so far -/
def chPart (xs ys : List Int) (s : Int) (i k : Nat) : List Int := (depths 0 (k : Int)).filter (fits xs ys s i)
theorem chPart_len (xs ys : List Int) (s : Int) (i k : Nat) : (chPart xs ys s i k).length ≤ k := by
  unfold chPart
  refine Nat.le_trans (List.length_filter_le _ _) ?_
  simp [depths]
set_option maxRecDepth 100000 in
set_option maxHeartbeats 8000000 in
theorem l13Lock_any (m : Mk) (A : Option Addr) (c : Nat) (xs : List Int) (B : Option Addr) (d : Nat) (ys : List Int) (s : Int) (w : World) (h : RI w A xs) (g : RI w B ys)
    (hm : isMaker m = true) (hx : small xs) (hxl : (xs.length : Int) = m.c) (hs1 : 1 ≤ s) (hs2 : s ≤ 2) :
    Calls Try.prog 150 #[.agg #[.int .i64 m.c, .int .i64 m.d, .int .i64 m.s, .int .i64 m.a, .int .i64 m.l], .agg #[.slice A xs.length c, .slice B ys.length d, .int .i64 s]] w fun e w' => ∃ D q, e = .returned (.agg #[.slice D (chSets m xs ys s).length q]) ∧ RII w' D (chSets m xs ys s) ∧ Below w.heap.size w w' := by
  have hmb := mk_bounds hm
  have c6 : m.c ≤ 6 := hmb.2.1
  have d8 : m.d ≤ 8 := hmb.2.2.2.1
  have d2 : 2 ≤ m.d := hmb.2.2.1
  clear hmb
  have hx6 : xs.length ≤ 6 := by omega
  have HXL := Lib.hid hxl; clear hxl
  have Ba := ((Below.refl w.heap.size w).alloc (Nat.le_refl _) (.cells #[.int .i64 m.c, .int .i64 m.d, .int .i64 m.s, .int .i64 m.a, .int .i64 m.l] 25)).alloc (by simp only [World.size_alloc]; omega) (.cells #[.slice A xs.length c, .slice B ys.length d, .int .i64 s] 52)
  have B0 := Ba.alloc (by simp only [World.size_alloc]; omega) (.cells #[.slice none 0 0] 28)
  obtain ⟨w1, hw1⟩ : ∃ w1, w1 = ((w.alloc (.cells #[.int .i64 m.c, .int .i64 m.d, .int .i64 m.s, .int .i64 m.a, .int .i64 m.l] 25)).alloc (.cells #[.slice A xs.length c, .slice B ys.length d, .int .i64 s] 52)).alloc (.cells #[.slice none 0 0] 28) := ⟨_, rfl⟩
  have bm : BoxC w1 w.heap.size 0 [.int .i64 m.c, .int .i64 m.d, .int .i64 m.s, .int .i64 m.a, .int .i64 m.l] := by
    have : BoxC (w.alloc (.cells #[.int .i64 m.c, .int .i64 m.d, .int .i64 m.s, .int .i64 m.a, .int .i64 m.l] 25)) w.heap.size 0 [.int .i64 m.c, .int .i64 m.d, .int .i64 m.s, .int .i64 m.a, .int .i64 m.l] := by simp [BoxC, Go.World.cell?_alloc_at]
    rw [hw1]
    exact (this.below ((Below.refl _ _).alloc (Nat.le_refl _) _)).below ((Below.refl _ _).alloc (Nat.le_refl _) _)
  have bp : BoxC w1 (w.heap.size + 1) 0 [.slice A xs.length c, .slice B ys.length d, .int .i64 s] := by
    have : BoxC ((w.alloc (.cells #[.int .i64 m.c, .int .i64 m.d, .int .i64 m.s, .int .i64 m.a, .int .i64 m.l] 25)).alloc (.cells #[.slice A xs.length c, .slice B ys.length d, .int .i64 s] 52)) (w.heap.size + 1) 0 [.slice A xs.length c, .slice B ys.length d, .int .i64 s] := by simp [BoxC, Go.World.cell?_alloc_at]
    rw [hw1]
    exact this.below ((Below.refl _ _).alloc (Nat.le_refl _) _)
  have bk : w1.heap[w.heap.size + 2]? = some (.cells #[.slice none 0 0] 28 (0, 0)) := by
    have := heap_alloc_new ((w.alloc (.cells #[.int .i64 m.c, .int .i64 m.d, .int .i64 m.s, .int .i64 m.a, .int .i64 m.l] 25)).alloc (.cells #[.slice A xs.length c, .slice B ys.length d, .int .i64 s] 52)) (.cells #[.slice none 0 0] 28)
    rw [hw1]; simpa using this
  have bl : w1.cell? ⟨w.heap.size + 2, 0, none⟩ = some (.slice none 0 0) ∧ w1.frozen? ⟨w.heap.size + 2, 0, none⟩ = false := by
    rw [hw1]; exact ⟨by rw [World.cell?_alloc_at (hn := by simp)]; rfl, by rw [World.frozen?_alloc_at (hn := by simp)]⟩
  have hz1 : w1.heap.size = w.heap.size + 3 := by rw [hw1]; simp
  have B1 : Below w.heap.size w w1 := by rw [hw1]; exact B0
  have HBX := Lib.hid (And.intro bm (And.intro bp bl))
  have HBK := Lib.hid bk; clear bk
  have HX := Lib.hid hx
  clear hx hm bm bp bl
  go_enter Try.func150, Try.ntmps150
  go_wp2_with fail
  go_loopw [5, 6, 7, 8] (fun v i _ _ wr => ∃ (k : Nat) (us : List Value) (v0 : Value), k ≤ xs.length ∧ i = .int .i64 k ∧ v = v0 ∧ OV wr (w.heap.size + 3) 38 v0 us ∧ RowsK wr (fun b => w.heap.size + 3 ≤ b ∧ v0.ownBlock ≠ some b) us ((chSets m xs ys s).take k) ∧ Below (w.heap.size + 3) w1 wr) (fun _ i _ _ _ => xs.length - (intOf i).toNat)
  case atStart => exact ⟨0, [], _, by omega, rfl, rfl, by simpa [hw1] using OV.new0 (w := w1) (B := w.heap.size + 3) (e := 38) (by omega), RowsK.nil, by simpa [hw1] using (Below.refl (w.heap.size + 3) w1).alloc (by omega) (.cells #[] 38)⟩
  case round =>
    obtain ⟨k, us, v0, hk, rfl, rfl, ho, hro, hb⟩ := hrel
    have HO := Lib.hid ho; have HRO := Lib.hid hro
    have hul : us.length ≤ 6 := by have := hro.1; rw [List.length_take, chSets_len] at this; omega
    clear ho hro
    have hsz := hb.size
    have Bw := B1.trans (hb.mono (by omega))
    obtain ⟨q0, q1, q2, q3, q4, _⟩ := HBX.out.1.keep fun i v hv => cell_in hb (by simp only; omega) hv
    obtain ⟨p0, p1, p2, _⟩ := HBX.out.2.1.keep fun i v hv => cell_in hb (by simp only; omega) hv
    have hle := h.le
    by_cases hlt : k < xs.length
    · have i0 : (0 : Int) ≤ (k : Int) := by omega
      obtain ⟨wo, rfl⟩ : ∃ wo : World, wo = wr := ⟨_, rfl⟩
      have HS := Lib.hid (chSets_succ m xs ys s k hlt)
      have HXK := Lib.hid (HX.out k hlt)
      go_wp2_with fail
      clear q0 q1 q2 q3 q4 p0 p1 p2
      go_loopw [7, 8] (fun u j wx => ∃ n : Nat, (n : Int) ≤ m.d ∧ j = .int .i64 n ∧ OV wx wo.heap.size 2 u (ints (chPart xs ys s k n)) ∧ Below wo.heap.size wo wx) (fun _ j _ => (m.d - intOf j).toNat)
      case atStart => exact ⟨0, by omega, rfl, by simpa [chPart, depths, ints] using OV.new0 (w := wo) (B := wo.heap.size) (e := 2) (Nat.le_refl _), (Below.refl _ _).alloc (Nat.le_refl _) _⟩
      case round =>
        obtain ⟨n, hn, rfl, ho2, hb2⟩ := hrel
        have Bx := Bw.trans (hb2.mono Bw.size)
        have hbx : Below (w.heap.size + 3) w1 wr := hb.trans (hb2.mono (by omega))
        obtain ⟨q0, q1, q2, q3, q4, _⟩ := HBX.out.1.keep fun i v hv => cell_in hbx (by simp only; omega) hv
        obtain ⟨p0, p1, p2, _⟩ := HBX.out.2.1.keep fun i v hv => cell_in hbx (by simp only; omega) hv
        have hsz2 := hb2.size
        have HLN := Lib.hid (chPart_len xs ys s k n)
        by_cases hlt2 : (n : Int) < m.d
        · have HF := l13Fits_any A c xs B d ys s k n wr (h.below Bx) (g.below Bx) hlt hs1 hs2 (by omega) (by omega) HXK.out.1 HXK.out.2
          have HSS := Lib.hid (show chPart xs ys s k (n + 1) = chPart xs ys s k n ++ (if fits xs ys s k n = true then [(n : Int)] else []) from chSet_succ m xs ys s k n hlt2)
          cases hp : fits xs ys s k n with
          | true =>
            rw [hp] at HF
            have HFF := Lib.hid HF; clear HF
            have HT := Lib.hid (show ints (chPart xs ys s k (n + 1)) = ints (chPart xs ys s k n) ++ [.int .i64 (n : Int)] by rw [HSS.out, hp, if_pos rfl, ints_append]; rfl)
            go_wp2_with fail
            refine HFF.out.mono ?_
            rintro e w4 ⟨rfl, b4⟩
            have ho4 := ho2.below' b4
            have hb4 := hb2.trans (b4.mono hb2.size)
            have hs4 := hb4.size
            go_wp2_with (at_builtin; refine wpList_app1 _ rfl _ _ _ rfl wo.heap.size 2 _ 8 Try.underlying38 info_int rfl (by omega) _ _ rfl (ho4.alloc _) _ _ rfl (one_cell _ _ _) rfl (by rw [ints_length]; have := HLN.out; omega) (by simp; omega) ?_; intro v' w5 ho5 hg5 hn5 hat5)
            go_roundw
            case rel => exact ⟨n + 1, by omega, by go_num, by rw [HT.out]; exact ho5, (ho4.alloc _).own (Nat.le_refl _) (hb4.alloc (by omega) _) hg5 (by simp; omega)⟩
            case measure => simp [intOf]; omega
          | false =>
            rw [hp] at HF
            have HFF := Lib.hid HF; clear HF
            have HT := Lib.hid (show chPart xs ys s k (n + 1) = chPart xs ys s k n by rw [HSS.out, hp]; simp)
            go_wp2_with fail
            refine HFF.out.mono ?_
            rintro e w4 ⟨rfl, b4⟩
            go_wp2_with fail
            go_roundw
            case rel => exact ⟨n + 1, by omega, by go_num, by rw [HT.out]; exact ho2.below' b4, hb2.trans (b4.mono hb2.size)⟩
            case measure => simp [intOf]; omega
        · have hnd : (n : Int) = m.d := by omega
          have HT := Lib.hid (show chPart xs ys s k n = chSet m xs ys s k by unfold chPart chSet; rw [hnd])
          rw [HT.out] at ho2
          have hou := HO.out.below' hb2
          have hrow := HRO.out.keep (KeepF.ofBelow (F := fun _ => False) hb2) (fun b _ hk => ⟨id, hk⟩)
          have HROW := Lib.hid hrow; clear hrow
          obtain ⟨g7, c7, rfl, hg7a, hc7, hr7⟩ : ∃ g7 c7, u7 = .slice g7 (chSet m xs ys s k).length c7 ∧ (∀ b o, g7 = some ⟨b, o, none⟩ → wo.heap.size ≤ b ∧ b < wr.heap.size) ∧ (chSet m xs ys s k).length ≤ c7 ∧ RI wr g7 (chSet m xs ys s k) := by
            obtain ⟨A9, c9, e9, h9, h9r⟩ := ho2.reads
            rw [ints_length] at e9 h9
            subst e9
            exact ⟨A9, c9, rfl, fun b o e => by subst e; exact ho2.lt b rfl, h9, h9r⟩
          obtain ⟨zs, hzs⟩ : ∃ zs, zs = chSet m xs ys s k := ⟨_, rfl⟩
          rw [← hzs] at HS hc7 hr7
          have HZS := Lib.hid hzs
          have HNL : decide ((n : Int) < m.d) = false := decide_eq_false hlt2
          clear ho2
          have hlz : ((chSet m xs ys s k).length : Int) = (zs.length : Int) := by rw [hzs]
          rw [← hzs]
          clear hzs hlz
          go_wp2_with (at_builtin; refine wpList_app1 _ rfl _ _ _ rfl (w.heap.size + 3) 38 _ 24 Try.underlying26 info_sl rfl (by omega) _ _ rfl (hou.alloc _) _ _ rfl (one_cell _ _ _) rfl (by omega) (by simp; omega) ?_; intro v' w5 ho5 hg5 hn5 hat5)
          have k5 : KeepF (fun x => u5.ownBlock = some x) wr w5 := ((KeepF.refl _ _).alloc _).grown hg5 (fun g e => .inl e)
          have HR5 := Lib.hid (show RowsK w5 (fun b => w.heap.size + 3 ≤ b ∧ v'.ownBlock ≠ some b) (us ++ [.slice g7 zs.length c7]) ((chSets m xs ys s).take (k + 1)) from by
            rw [HS.out]
            refine RowsK.app (HROW.out.keep k5 (fun b hb hk => ⟨hk.2, hk.1, fun e => ?_⟩)) ((RowsK.one hc7 hr7 (K := fun b => wo.heap.size ≤ b) (fun b o e => hg7a b o e)).keep k5 (fun b hb hk => ⟨fun e => ?_, by omega, fun e => ?_⟩))
            · rcases hat5 with e7 | e7
              · exact hk.2 (e7.symm.trans e)
              · have := e7.symm.trans e; injection this with this; simp at this; omega
            · have := (HO.out.lt b e).2; omega
            · rcases hat5 with e7 | e7
              · have := (HO.out.lt b (e7.symm.trans e)).2; omega
              · have := e7.symm.trans e; injection this with this; simp at this; omega)
          have HB5 := Lib.hid ((hou.alloc (.cells #[.slice g7 zs.length c7] 38)).own (Nat.le_refl _) (hbx.alloc (by omega) _) hg5 (by simp; omega))
          have HO5 := Lib.hid ho5
          clear ho5 hg5 hn5 hat5 k5
          go_roundw
          case rel => exact ⟨k + 1, us ++ [.slice g7 zs.length c7], v', by omega, by go_num, rfl, HO5.out, HR5.out, HB5.out⟩
          case measure => simp [intOf]; omega
    · obtain rfl : k = xs.length := by omega
      obtain ⟨A9, c9, e9, h9, h9r⟩ := HO.out.reads
      have hlen : us.length = (chSets m xs ys s).length := by have := HRO.out.1; rw [this, List.length_take, chSets_len]; omega
      have HRR := Lib.hid (show ∀ u, RII (wr.setCell ⟨w.heap.size + 2, 0, none⟩ u) A9 (chSets m xs ys s) from fun u => by
        have k8 : KeepF (fun x => x = w.heap.size + 2) wr (wr.setCell ⟨w.heap.size + 2, 0, none⟩ u) := (KeepF.refl (fun x => x = w.heap.size + 2) wr).setCell (p := ⟨w.heap.size + 2, 0, none⟩) (.inl rfl) _
        have h1 := HRO.out.keep k8 (K' := fun _ => True) (fun b _ hk => ⟨by have := hk.1; omega, trivial⟩)
        have h2 := RV.keepF h9r k8 (fun b o e => by
          subst e
          have := (HO.out.lt b (by rw [e9]; rfl)).1; omega)
        have := h1.rii h2; rwa [List.take_of_length_le (by rw [chSets_len]; omega)] at this)
      obtain ⟨zz, hzz⟩ : ∃ zz, zz = chSets m xs ys s := ⟨_, rfl⟩
      rw [← hzz] at hlen HRR
      rw [hlen] at e9
      subst e9
      rw [← hzz]
      have HZZ := Lib.hid hzz
      clear hzz hlen
      have l0 := cell_in hb (by simp only; omega) HBX.out.2.2.1
      have l1 := (hb.frozen (p := ⟨w.heap.size + 2, 0, none⟩) (by simp only; omega)).trans HBX.out.2.2.2
      have lb := (hb.block (w.heap.size + 2) (by omega)).trans HBK.out
      have hB2 := Lib.hid Bw
      go_wp2_with fail
      (try simp only [Exit.inBlock, Exit.then])
      refine bodyPost_ret (results_cell_row rfl _ _ (w.heap.size + 2) 28 #[.slice A9 zz.length c9] (0, 0) _ (by rfl) (by simp [World.setCell, Array.getElem?_modify, lb]) Try.underlying28 rfl (by kernel_rfl)) rfl ?_
      rw [← HZZ.out]
      exact ⟨A9, c9, rfl, HRR.out _, hB2.out.setCell (by simp only; omega) _⟩
theorem RowsK.mono {w : World} {K K' : Nat → Prop} {us : List Value} {xss : List (List Int)} (h : RowsK w K us xss) (hK : ∀ b, K b → K' b) : RowsK w K' us xss := ⟨h.1, fun j hj => by
  obtain ⟨A, c, h1, h2, h3, h4⟩ := h.2 j hj
  exact ⟨A, c, h1, h2, h3, fun b o e => ⟨hK b (h4 b o e).1, (h4 b o e).2⟩⟩⟩
set_option maxRecDepth 100000 in
set_option maxHeartbeats 4000000 in
theorem l13KeysK_any (m : Mk) (A : Option Addr) (c : Nat) (xs : List Int) (B : Option Addr) (d : Nat) (ys : List Int) (s most : Int) (w : World) (h : RI w A xs) (g : RI w B ys)
    (hm : isMaker m = true) (hx : small xs) (hxl : (xs.length : Int) = m.c) (hs1 : 1 ≤ s) (hs2 : s ≤ 2) (hm0 : 0 ≤ most) (hm1 : most ≤ 1000000) :
    Calls Try.prog 97 #[.agg #[.int .i64 m.c, .int .i64 m.d, .int .i64 m.s, .int .i64 m.a, .int .i64 m.l], .agg #[.slice A xs.length c, .slice B ys.length d, .int .i64 s], .int .i64 most] w (ResK w (fun b => w.heap.size ≤ b) ((changeKeys m xs ys s).take most.toNat)) := by
  have B0 := ((Below.refl w.heap.size w).alloc (Nat.le_refl _) (.cells #[.int .i64 m.c, .int .i64 m.d, .int .i64 m.s, .int .i64 m.a, .int .i64 m.l] 25)).alloc (by simp only [World.size_alloc]; omega) (.cells #[.slice A xs.length c, .slice B ys.length d, .int .i64 s] 52)
  obtain ⟨w1, hw1⟩ : ∃ w1, w1 = (w.alloc (.cells #[.int .i64 m.c, .int .i64 m.d, .int .i64 m.s, .int .i64 m.a, .int .i64 m.l] 25)).alloc (.cells #[.slice A xs.length c, .slice B ys.length d, .int .i64 s] 52) := ⟨_, rfl⟩
  have bm : BoxC w1 w.heap.size 0 [.int .i64 m.c, .int .i64 m.d, .int .i64 m.s, .int .i64 m.a, .int .i64 m.l] := by
    have : BoxC (w.alloc (.cells #[.int .i64 m.c, .int .i64 m.d, .int .i64 m.s, .int .i64 m.a, .int .i64 m.l] 25)) w.heap.size 0 [.int .i64 m.c, .int .i64 m.d, .int .i64 m.s, .int .i64 m.a, .int .i64 m.l] := by simp [BoxC, Go.World.cell?_alloc_at]
    rw [hw1]
    exact this.below ((Below.refl _ _).alloc (Nat.le_refl _) _)
  have bp : BoxC w1 (w.heap.size + 1) 0 [.slice A xs.length c, .slice B ys.length d, .int .i64 s] := by
    rw [hw1]; simp [BoxC, Go.World.cell?_alloc_at]
  rw [← hw1] at B0
  have KS := Lib.hid (show ∀ w' : World, Below w1.heap.size w1 w' → ((w'.cell? ⟨w.heap.size, 0, none⟩ = some (.int .i64 m.c) ∧ w'.cell? ⟨w.heap.size, 1, none⟩ = some (.int .i64 m.d) ∧ w'.cell? ⟨w.heap.size, 2, none⟩ = some (.int .i64 m.s) ∧ w'.cell? ⟨w.heap.size, 3, none⟩ = some (.int .i64 m.a) ∧ w'.cell? ⟨w.heap.size, 4, none⟩ = some (.int .i64 m.l) ∧ True) ∧ (w'.cell? ⟨w.heap.size + 1, 0, none⟩ = some (.slice A xs.length c) ∧ w'.cell? ⟨w.heap.size + 1, 1, none⟩ = some (.slice B ys.length d) ∧ w'.cell? ⟨w.heap.size + 1, 2, none⟩ = some (.int .i64 s) ∧ True)) from fun w' hw => ⟨bm.below hw, bp.below hw⟩)
  have HL := Lib.hid (fun (W : World) (hW : Below w1.heap.size w1 W) => l13Lock_any m A c xs B d ys s W (h.below (B0.trans (hW.mono B0.size))) (g.below (B0.trans (hW.mono B0.size))) hm hx hxl hs1 hs2)
  have HO := Lib.hid (fun (W : World) D q (hD : RII W D (chSets m xs ys s)) => l04Openers_go m hm (chSets m xs ys s) (by rw [chSets_len]; exact hxl) (chSets_inc m xs ys s) m.c.toNat [] most D q none 0 W hD RI.nil (Nat.le_refl _) (by rw [chSets_len]; simp; omega) rfl hm0 hm1)
  have HCO := Lib.hid (chOpen m xs ys s hxl most)
  have HMK := Lib.hid hm
  clear hx hxl hm bm bp
  go_enter Try.func97, Try.ntmps97
  go_wp2_with fail
  rw [← hw1]
  clear hw1
  refine wp_region_held_drew (S := (fun w' => (w'.cell? ⟨w.heap.size, 0, none⟩ = some (.int .i64 m.c) ∧ w'.cell? ⟨w.heap.size, 1, none⟩ = some (.int .i64 m.d) ∧ w'.cell? ⟨w.heap.size, 2, none⟩ = some (.int .i64 m.s) ∧ w'.cell? ⟨w.heap.size, 3, none⟩ = some (.int .i64 m.a) ∧ w'.cell? ⟨w.heap.size, 4, none⟩ = some (.int .i64 m.l) ∧ True) ∧ (w'.cell? ⟨w.heap.size + 1, 0, none⟩ = some (.slice A xs.length c) ∧ w'.cell? ⟨w.heap.size + 1, 1, none⟩ = some (.slice B ys.length d) ∧ w'.cell? ⟨w.heap.size + 1, 2, none⟩ = some (.int .i64 s) ∧ True))) (by kernel_rfl) (KS.out _ (belowDrew0 _)) (fun hHeld => ?_)
  refine takeD (i := 0) (some 7) (.agg #[.int .i64 m.c, .int .i64 m.d, .int .i64 m.s, .int .i64 m.a, .int .i64 m.l]) rfl (by kernel_rfl) (by kernel_rfl) (by kernel_rfl) (by kernel_rfl) (fun _ _ _ h => h) (by assumption) (Or.inl ⟨by rfl, fun w hSw => by (try dsimp only at hSw); go_simp⟩) ?_
  simp only [Act.put, List.setIfInBounds_toArray, List.set_cons_zero, List.set_cons_succ]
  refine takeD (i := 1) (some 8) (.agg #[.int .i64 m.c, .int .i64 m.d, .int .i64 m.s, .int .i64 m.a, .int .i64 m.l]) rfl (by kernel_rfl) (by kernel_rfl) (by kernel_rfl) (by kernel_rfl) (fun _ _ _ h => h) (by assumption) (Or.inl ⟨by rfl, fun w hSw => by (try dsimp only at hSw); go_simp⟩) ?_
  simp only [Act.put, List.setIfInBounds_toArray, List.set_cons_zero, List.set_cons_succ]
  refine takeD (i := 2) (some 9) (.agg #[.slice A xs.length c, .slice B ys.length d, .int .i64 s]) rfl (by kernel_rfl) (by kernel_rfl) (by kernel_rfl) (by kernel_rfl) (fun _ _ _ h => h) (by assumption) (Or.inl ⟨by rfl, fun w hSw => by (try dsimp only at hSw); go_simp⟩) ?_
  simp only [Act.put, List.setIfInBounds_toArray, List.set_cons_zero, List.set_cons_succ]
  refine takeD (i := 4) (some 11) (.int .i64 most) rfl (by kernel_rfl) (by kernel_rfl) (by kernel_rfl) (by kernel_rfl) (fun _ _ _ h => h) (by assumption) (Or.inl ⟨by rfl, fun w hSw => by (try dsimp only at hSw); go_simp⟩) ?_
  simp only [Act.put, List.setIfInBounds_toArray, List.set_cons_zero, List.set_cons_succ]
  refine wpAnyH_ready (rs := [3]) (by kernel_rfl) (by simp) (AllReadyH.cons rfl (fun K hK => ?_) AllReadyH.nil)
  go_simp
  refine (HL.out _ (belowDrew0 _)).mono ?_
  rintro e w2 ⟨D, q, rfl, hD, b2⟩
  have b2 := belowDrew b2
  have HOO := HO.out w2 D q hD
  obtain ⟨zz, hzz⟩ : ∃ zz, zz = openF m (chSets m xs ys s) m.c.toNat [] most := ⟨_, rfl⟩
  rw [← hzz] at HOO
  have HZ := Lib.hid (show zz = (changeKeys m xs ys s).take most.toNat by rw [hzz]; exact HCO.out)
  have HO2 := Lib.hid HOO
  clear hzz HOO
  have HHeld := KS.out _ b2
  refine hK.out _ _ HHeld (fun _ => ?_)
  clear hK K
  try simp only [Act.put, List.setIfInBounds_toArray, List.set_cons_zero, List.set_cons_succ]
  refine wpAnyH_ready (rs := [5]) (by kernel_rfl) (by simp) (AllReadyH.cons rfl (fun K hK => ?_) AllReadyH.nil)
  go_simp
  refine HO2.out.mono ?_
  rintro e w3 ⟨A3, c3, us3, rfl, hc3, hr3, hk3, b3, na3⟩
  have hrr := hk3.rii hr3
  have B3 := b2.trans (b3.mono b2.size)
  have HR3 := Lib.hid hr3
  have HK3 := Lib.hid (show RowsK w3 (fun b => w.heap.size ≤ b) us3 zz from hk3.mono fun b hb => by
    have h1 := B0.size; have h2 := b2.size
    rcases hb with hb | ⟨o, e⟩
    · omega
    · cases e)
  have HNA3 := Lib.hid (show ∀ b o, A3 = some ⟨b, o, none⟩ → w.heap.size ≤ b from fun b o e => by have := na3 b o e; have h1 := B0.size; have h2 := b2.size; omega)
  clear hk3 hr3 hrr na3
  have HHeld := KS.out _ B3
  refine hK.out _ _ HHeld (fun _ => ?_)
  clear hK K
  try simp only [Act.put, List.setIfInBounds_toArray, List.set_cons_zero, List.set_cons_succ]
  refine takeD (i := 6) (some 6) (.slice A3 zz.length c3) rfl (by kernel_rfl) (by kernel_rfl) (by kernel_rfl) (by kernel_rfl) (fun _ _ _ h => h) (by assumption) (Or.inl ⟨by rfl, fun w hSw => by (try dsimp only at hSw); go_simp⟩) ?_
  simp only [Act.put, List.setIfInBounds_toArray, List.set_cons_zero, List.set_cons_succ]
  refine wpAnyH_done (by kernel_rfl) ?_ _
  go_wp2_with fail
  go_ret
  rw [← HZ.out]
  exact ⟨A3, c3, us3, rfl, hc3, HR3.out, HK3.out, B0.trans (B3.mono B0.size), HNA3.out⟩
theorem l13Keys_any (m : Mk) (A : Option Addr) (c : Nat) (xs : List Int) (B : Option Addr) (d : Nat) (ys : List Int) (s most : Int) (w : World) (h : RI w A xs) (g : RI w B ys)
    (hm : isMaker m = true) (hx : small xs) (hxl : (xs.length : Int) = m.c) (hs1 : 1 ≤ s) (hs2 : s ≤ 2) (hm0 : 0 ≤ most) (hm1 : most ≤ 1000000) :
    Calls Try.prog 97 #[.agg #[.int .i64 m.c, .int .i64 m.d, .int .i64 m.s, .int .i64 m.a, .int .i64 m.l], .agg #[.slice A xs.length c, .slice B ys.length d, .int .i64 s], .int .i64 most] w (RdII w ((changeKeys m xs ys s).take most.toNat))   :=
  (l13KeysK_any m A c xs B d ys s most w h g hm hx hxl hs1 hs2 hm0 hm1).mono fun _ _ h => h.rd
/-! ### CountChanges -/
def cChangesR (m : Mk) (xs ys : List Int) (s : Int) : Int × Int := if isProgF m xs ys s = true then (((changeKeys m xs ys s).length : Int), 0) else (0, 1)
theorem cch_no {m : Mk} {xs ys : List Int} {s : Int} (h : isProgF m xs ys s = false) : (0, 1) = cChangesR m xs ys s := by unfold cChangesR; rw [if_neg (by rw [h]; simp)]
theorem cch_yes {m : Mk} {xs ys : List Int} {s : Int} (h : isProgF m xs ys s = true) : (((changeKeys m xs ys s).length : Int), 0) = cChangesR m xs ys s := by unfold cChangesR; rw [if_pos h]
theorem prog_facts {m : Mk} {xs ys : List Int} {s : Int} (h : isProgF m xs ys s = true) : isMaker m = true ∧ (xs.length : Int) = m.c ∧ small xs ∧ 1 ≤ s ∧ s ≤ 2 := by
  unfold isProgF at h; rw [Bool.and_eq_true] at h
  have h2 := isProg_iff.1 h.2
  have h3 := key_small h.1 h2.1
  exact ⟨h.1, h3.1, h3.2, h2.2.2.2⟩
set_option maxRecDepth 100000 in
set_option maxHeartbeats 4000000 in
theorem specCountChanges_any (m : Mk) (A : Option Addr) (c : Nat) (xs : List Int) (B : Option Addr) (d : Nat) (ys : List Int) (s : Int) (w : World) (h : RI w A xs) (g : RI w B ys) (hcap : xs.length ≤ c) :
    Calls Try.prog 36 #[.agg #[.int .i64 m.c, .int .i64 m.d, .int .i64 m.s, .int .i64 m.a, .int .i64 m.l], .agg #[.slice A xs.length c, .slice B ys.length d, .int .i64 s]] w (ResNC w (cChangesR m xs ys s)) := by
  have B0 := ((Below.refl w.heap.size w).alloc (Nat.le_refl _) (.cells #[.int .i64 m.c, .int .i64 m.d, .int .i64 m.s, .int .i64 m.a, .int .i64 m.l] 25)).alloc (by simp only [World.size_alloc]; omega) (.cells #[.slice A xs.length c, .slice B ys.length d, .int .i64 s] 52)
  have bx : BoxC ((w.alloc (.cells #[.int .i64 m.c, .int .i64 m.d, .int .i64 m.s, .int .i64 m.a, .int .i64 m.l] 25)).alloc (.cells #[.slice A xs.length c, .slice B ys.length d, .int .i64 s] 52)) (w.heap.size + 1) 0 [.slice A xs.length c, .slice B ys.length d, .int .i64 s] := by simp [BoxC, Go.World.cell?_alloc_at]
  have bm : BoxC (w.alloc (.cells #[.int .i64 m.c, .int .i64 m.d, .int .i64 m.s, .int .i64 m.a, .int .i64 m.l] 25)) w.heap.size 0 [.int .i64 m.c, .int .i64 m.d, .int .i64 m.s, .int .i64 m.a, .int .i64 m.l] := by simp [BoxC, Go.World.cell?_alloc_at]
  have HP := specIsProgression_any m A c xs B d ys s ((w.alloc (.cells #[.int .i64 m.c, .int .i64 m.d, .int .i64 m.s, .int .i64 m.a, .int .i64 m.l] 25)).alloc (.cells #[.slice A xs.length c, .slice B ys.length d, .int .i64 s] 52)) (h.below B0) (g.below B0) hcap
  cases h1 : isProgF m xs ys s with
  | false =>
    have HR := Lib.hid (cch_no h1)
    rw [h1] at HP
    have HPP := Lib.hid HP; clear HP
    go_enter Try.func36, Try.ntmps36
    go_wp2_with fail
    refine HPP.out.mono ?_
    rintro e w1 ⟨rfl, b1⟩
    go_wp2_with fail
    go_ret2
    exact resNC_of HR.out (B0.trans (b1.mono B0.size))
  | true =>
    have HR := Lib.hid (cch_yes h1)
    have HF := Lib.hid (prog_facts h1)
    rw [h1] at HP
    have HPP := Lib.hid HP; clear HP
    have H1 := Lib.hid h1; clear h1
    have HFEW := Lib.hid (show (changeKeys m xs ys s).length ≤ 262144 from keys_few m HF.out.1 _)
    go_enter Try.func36, Try.ntmps36
    go_wp2_with fail
    refine HPP.out.mono ?_
    rintro e w1 ⟨rfl, b1⟩
    have B1 := B0.trans (b1.mono B0.size)
    have bM : Below (w.alloc (.cells #[.int .i64 m.c, .int .i64 m.d, .int .i64 m.s, .int .i64 m.a, .int .i64 m.l] 25)).heap.size (w.alloc (.cells #[.int .i64 m.c, .int .i64 m.d, .int .i64 m.s, .int .i64 m.a, .int .i64 m.l] 25)) w1 := ((Below.refl _ _).alloc (Nat.le_refl _) (.cells #[.slice A xs.length c, .slice B ys.length d, .int .i64 s] 52)).trans (b1.mono (by simp only [World.size_alloc]; omega))
    obtain ⟨q0, q1, q2, _⟩ := bx.below b1
    obtain ⟨p0, p1, p2, p3, p4, _⟩ := bm.below bM
    have HKK := l13Keys_any m A c xs B d ys s 1000000 w1 (h.below B1) (g.below B1) HF.out.1 HF.out.2.2.1 HF.out.2.1 HF.out.2.2.2.1 HF.out.2.2.2.2 (by omega) (by omega)
    rw [List.take_of_length_le (by have := HFEW.out; omega)] at HKK
    have HK := Lib.hid HKK; clear HKK
    go_wp2_with fail
    refine HK.out.mono ?_
    rintro e w3 ⟨A3, c3, rfl, hc3, r3, b3⟩
    have hle3 := r3.le
    go_wp2_with fail
    go_ret2
    exact resNC_of HR.out (B1.trans (b3.mono B1.size))
theorem changesAl (m : Mk) (g : Nat) (A : Option Addr) (c : Nat) (xs : List Int) (B : Option Addr) (d : Nat) (ys : List Int) (s : Int) (w : World) (h : RI w A xs) (k : RI w B ys) (hb : BoxC w g 0 [.slice A xs.length c, .slice B ys.length d, .int .i64 s]) (hd : m.d ≤ 8)
    (hx : small xs) (hxl : (xs.length : Int) = m.c) (hs1 : 1 ≤ s) (hs2 : s ≤ 2) : AlB 149 #[.pointer (some ⟨g, 0, none⟩)] (fits xs ys s) m w :=
  ⟨enters Try.func149 (by kernel_rfl) rfl, fun w' hw ch e h1 h2 h3 => by
    have hch : ch < xs.length := by omega
    refine (changesClo_any g A c xs B d ys s ch e w' (h.below hw) (k.below hw) (hb.below hw) hch hs1 hs2 (by omega) (by omega) (hx ch hch).1 (hx ch hch).2).mono ?_
    rintro e' w'' ⟨h1, rfl⟩
    exact ⟨h1, Below.refl _ _⟩⟩
set_option maxRecDepth 100000 in
set_option maxHeartbeats 4000000 in
theorem implCountChanges_any (m : Mk) (A : Option Addr) (c : Nat) (xs : List Int) (B : Option Addr) (d : Nat) (ys : List Int) (s : Int) (w : World) (h : RI w A xs) (g : RI w B ys) (hcap : xs.length ≤ c) :
    Calls Try.prog 35 #[.agg #[.int .i64 m.c, .int .i64 m.d, .int .i64 m.s, .int .i64 m.a, .int .i64 m.l], .agg #[.slice A xs.length c, .slice B ys.length d, .int .i64 s]] w (ResNC w (cChangesR m xs ys s)) := by
  have B0 := ((Below.refl w.heap.size w).alloc (Nat.le_refl _) (.cells #[.int .i64 m.c, .int .i64 m.d, .int .i64 m.s, .int .i64 m.a, .int .i64 m.l] 25)).alloc (by simp only [World.size_alloc]; omega) (.cells #[.slice A xs.length c, .slice B ys.length d, .int .i64 s] 52)
  have bx : BoxC ((w.alloc (.cells #[.int .i64 m.c, .int .i64 m.d, .int .i64 m.s, .int .i64 m.a, .int .i64 m.l] 25)).alloc (.cells #[.slice A xs.length c, .slice B ys.length d, .int .i64 s] 52)) (w.heap.size + 1) 0 [.slice A xs.length c, .slice B ys.length d, .int .i64 s] := by simp [BoxC, Go.World.cell?_alloc_at]
  have bm : BoxC (w.alloc (.cells #[.int .i64 m.c, .int .i64 m.d, .int .i64 m.s, .int .i64 m.a, .int .i64 m.l] 25)) w.heap.size 0 [.int .i64 m.c, .int .i64 m.d, .int .i64 m.s, .int .i64 m.a, .int .i64 m.l] := by simp [BoxC, Go.World.cell?_alloc_at]
  have HP := implIsProgression_any m A c xs B d ys s ((w.alloc (.cells #[.int .i64 m.c, .int .i64 m.d, .int .i64 m.s, .int .i64 m.a, .int .i64 m.l] 25)).alloc (.cells #[.slice A xs.length c, .slice B ys.length d, .int .i64 s] 52)) (h.below B0) (g.below B0) hcap
  cases h1 : isProgF m xs ys s with
  | false =>
    have HR := Lib.hid (cch_no h1)
    rw [h1] at HP
    have HPP := Lib.hid HP; clear HP
    go_enter Try.func35, Try.ntmps35
    go_wp2_with fail
    refine HPP.out.mono ?_
    rintro e w1 ⟨rfl, b1⟩
    go_wp2_with fail
    go_ret2
    exact resNC_of HR.out (B0.trans (b1.mono B0.size))
  | true =>
    have HR := Lib.hid (cch_yes h1)
    have HF := Lib.hid (prog_facts h1)
    rw [h1] at HP
    have HPP := Lib.hid HP; clear HP
    have H1 := Lib.hid h1; clear h1
    go_enter Try.func35, Try.ntmps35
    go_wp2_with fail
    refine HPP.out.mono ?_
    rintro e w1 ⟨rfl, b1⟩
    have B1 := B0.trans (b1.mono B0.size)
    have bM : Below (w.alloc (.cells #[.int .i64 m.c, .int .i64 m.d, .int .i64 m.s, .int .i64 m.a, .int .i64 m.l] 25)).heap.size (w.alloc (.cells #[.int .i64 m.c, .int .i64 m.d, .int .i64 m.s, .int .i64 m.a, .int .i64 m.l] 25)) w1 := ((Below.refl _ _).alloc (Nat.le_refl _) (.cells #[.slice A xs.length c, .slice B ys.length d, .int .i64 s] 52)).trans (b1.mono (by simp only [World.size_alloc]; omega))
    have KS := Lib.hid (show ∀ w' : World, Below w1.heap.size w1 w' → ((w'.cell? ⟨w.heap.size, 0, none⟩ = some (.int .i64 m.c) ∧ w'.cell? ⟨w.heap.size, 1, none⟩ = some (.int .i64 m.d) ∧ w'.cell? ⟨w.heap.size, 2, none⟩ = some (.int .i64 m.s) ∧ w'.cell? ⟨w.heap.size, 3, none⟩ = some (.int .i64 m.a) ∧ w'.cell? ⟨w.heap.size, 4, none⟩ = some (.int .i64 m.l) ∧ True) ∧ (w'.cell? ⟨w.heap.size + 1, 0, none⟩ = some (.slice A xs.length c) ∧ w'.cell? ⟨w.heap.size + 1, 1, none⟩ = some (.slice B ys.length d) ∧ w'.cell? ⟨w.heap.size + 1, 2, none⟩ = some (.int .i64 s) ∧ True)) from fun w' hw => ⟨(bm.below bM).below hw, (bx.below b1).below hw⟩)
    have hW := belowDrew0 w1
    have b2 := hW.alloc hW.size (.cells #[.slice A xs.length c, .slice B ys.length d, .int .i64 s] 52)
    have HAL := changesAl m w1.heap.size A c xs B d ys s (w1.drew.alloc (.cells #[.slice A xs.length c, .slice B ys.length d, .int .i64 s] 52)) (h.below (B1.trans (b2.mono B1.size))) (g.below (B1.trans (b2.mono B1.size))) (BoxC.new [.slice A xs.length c, .slice B ys.length d, .int .i64 s] rfl) (mk_bounds HF.out.1).2.2.2.1 HF.out.2.2.1 HF.out.2.1 HF.out.2.2.2.1 HF.out.2.2.2.2
    have HC := countKeys_any m HF.out.1 149 #[.pointer (some ⟨w1.heap.size, 0, none⟩)] (fits xs ys s) _ HAL
    obtain ⟨nk, hnk⟩ : ∃ nk : Nat, nk = (keysG m (fits xs ys s) [] m.c.toNat [] false).length := ⟨_, rfl⟩
    rw [← hnk] at HC
    have HNK := Lib.hid (show ((nk : Int), 0) = cChangesR m xs ys s by rw [← HR.out, hnk]; rfl)
    have HCC := Lib.hid HC
    have Hb2 := Lib.hid b2
    clear hnk HC HAL hW b2
    go_wp2_with fail
    refine wp_region_held_drew (S := (fun w' => (w'.cell? ⟨w.heap.size, 0, none⟩ = some (.int .i64 m.c) ∧ w'.cell? ⟨w.heap.size, 1, none⟩ = some (.int .i64 m.d) ∧ w'.cell? ⟨w.heap.size, 2, none⟩ = some (.int .i64 m.s) ∧ w'.cell? ⟨w.heap.size, 3, none⟩ = some (.int .i64 m.a) ∧ w'.cell? ⟨w.heap.size, 4, none⟩ = some (.int .i64 m.l) ∧ True) ∧ (w'.cell? ⟨w.heap.size + 1, 0, none⟩ = some (.slice A xs.length c) ∧ w'.cell? ⟨w.heap.size + 1, 1, none⟩ = some (.slice B ys.length d) ∧ w'.cell? ⟨w.heap.size + 1, 2, none⟩ = some (.int .i64 s) ∧ True))) (by kernel_rfl) (KS.out _ (belowDrew0 _)) (fun hHeld => ?_)
    refine takeD (i := 0) (some 10) (.agg #[.int .i64 m.c, .int .i64 m.d, .int .i64 m.s, .int .i64 m.a, .int .i64 m.l]) rfl (by kernel_rfl) (by kernel_rfl) (by kernel_rfl) (by kernel_rfl) (fun _ _ _ h => h) (by assumption) (Or.inl ⟨by rfl, fun w hSw => by (try dsimp only at hSw); go_simp⟩) ?_
    simp only [Act.put, List.setIfInBounds_toArray, List.set_cons_zero, List.set_cons_succ]
    refine takeD (i := 1) (some 11) (.agg #[.slice A xs.length c, .slice B ys.length d, .int .i64 s]) rfl (by kernel_rfl) (by kernel_rfl) (by kernel_rfl) (by kernel_rfl) (fun _ _ _ h => h) (by assumption) (Or.inl ⟨by rfl, fun w hSw => by (try dsimp only at hSw); go_simp⟩) ?_
    simp only [Act.put, List.setIfInBounds_toArray, List.set_cons_zero, List.set_cons_succ]
    refine wpAnyH_ready (rs := [2]) (by kernel_rfl) (by simp) (AllReadyH.cons rfl (fun K hK => ?_) AllReadyH.nil)
    go_simp
    refine (changes_any A c xs B d ys s _).mono ?_
    rintro e w2 ⟨rfl, rfl⟩
    have HHeld := KS.out _ Hb2.out
    refine hK.out _ _ HHeld (fun _ => ?_)
    clear hK K
    try simp only [Act.put, List.setIfInBounds_toArray, List.set_cons_zero, List.set_cons_succ]
    refine wpAnyH_ready (rs := [3]) (by kernel_rfl) (by simp) (AllReadyH.cons rfl (fun K hK => ?_) AllReadyH.nil)
    go_simp
    refine HCC.out.mono ?_
    rintro e w3 ⟨rfl, b3⟩
    have b3 := Hb2.out.trans (b3.mono Hb2.out.size)
    have HHeld := KS.out _ b3
    refine hK.out _ _ HHeld (fun _ => ?_)
    clear hK K
    try simp only [Act.put, List.setIfInBounds_toArray, List.set_cons_zero, List.set_cons_succ]
    refine takeD (i := 4) (some 4) (.int .i64 (nk : Int)) rfl (by kernel_rfl) (by kernel_rfl) (by kernel_rfl) (by kernel_rfl) (fun _ _ _ h => h) (by assumption) (Or.inl ⟨by rfl, fun w hSw => by (try dsimp only at hSw); go_simp⟩) ?_
    simp only [Act.put, List.setIfInBounds_toArray, List.set_cons_zero, List.set_cons_succ]
    refine takeD (i := 5) (some 5) (.int .i64 0) rfl (by kernel_rfl) (by kernel_rfl) (by kernel_rfl) (by kernel_rfl) (fun _ _ _ h => h) (by assumption) (Or.inl ⟨by rfl, fun w hSw => by (try dsimp only at hSw); go_simp⟩) ?_
    simp only [Act.put, List.setIfInBounds_toArray, List.set_cons_zero, List.set_cons_succ]
    refine wpAnyH_done (by kernel_rfl) ?_ _
    go_wp2_with fail
    go_ret2
    exact resNC_of HNK.out (B1.trans (b3.mono B1.size))
end Go.Proofs.Ythjfilhcfjpinaa
