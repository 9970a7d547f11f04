/- The library's Sort and Compact of a row of the call's own. -/
import Derived.Test.YtdedajohkdbdkaaGreatDoorMem
import Derived.Test.YtdedajohkdbdkaaGreatDoorLaySort
import Derived.Shelf.SortG.AssemblyIn
import Derived.Shelf.SlicesG.CompactI
import Derived.Sort.EveryDepth
import Derived.Sort.OwnSortedInts
import Derived.Test.YtdedajohkdbdkaaGreatDoorFKey
import Derived.Test.YtdedajohkdbdkaaGreatDoorFCodes
import Derived.Test.YtdedajohkdbdkaaGreatDoorFTable
namespace Go.Proofs.YtdedajohkdbdkaaGreatDoor
set_option linter.unusedVariables false
open Go.RowKit Go.Sort Go.Shelf
def sortI (xs : List Int) : List Int := xs.mergeSort fun x y => decide (x ≤ y)
theorem sortI_length (xs : List Int) : (sortI xs).length = xs.length := by simp [sortI]
theorem compact_length_le (xs : List Int) : (Lib.compact xs).length ≤ xs.length := by
  unfold Lib.compact Lib.compactUpTo
  rw [List.length_map]
  have := List.length_filter_le (Lib.keeps xs.toArray) (List.range xs.length)
  simpa using this
theorem sSort_any (v : Value) (xs : List Int) (B : Nat) (w : World) (ho : OV w B 2 v (ints xs)) (hn : ¬ v = .slice none 0 0) (hl : xs.length ≤ 1073741824) :
    Calls Tryz.prog 59 #[v] w fun e w' => e = .returned (.tuple #[]) ∧ OV w' B 2 v (ints (sortI xs)) ∧ w.grownBy w' v.ownBlock := by
  have ho2 := ho.2
  rw [ints_length] at ho2
  rcases ho2 with ⟨h, _⟩ | ⟨g, cap, cur, rfl, hB, hh, hnc, hm, hs, ht⟩
  · exact absurd h hn
  · have hg : g < w.heap.size := (Array.getElem?_eq_some_iff.1 hh).1
    have hH := holds_of_blockI (ss := xs) hh (by simpa [ints] using ht)
    have hc : Calls Tryz.prog 59 _ w _ := calls_of_every_depth fun D => AnySG.slices_Sort_int_in laySort D g 0 cap xs w hH hg (by omega)
    refine hc.mono ?_
    rintro e w' ⟨rfl, n, os, rfl⟩
    refine ⟨rfl, ?_, grownBy_sortedI _⟩
    have h1 := ownsRow_sortedI (n := n) (os := os) (ts := sortI xs) (sortI_length xs) hB hh hnc hm hs
    unfold OV
    rw [ints_length, sortI_length]
    exact h1
theorem sCompact_any (v : Value) (xs : List Int) (B : Nat) (w : World) (ho : OV w B 2 v (ints xs)) (hn : ¬ v = .slice none 0 0) (hl : xs.length ≤ 1073741824) :
    Calls Tryz.prog 60 #[v] w fun e w' => ∃ g cap, e = .returned (.slice (some ⟨g, 0, none⟩) (Lib.compact xs).length cap) ∧ v.ownBlock = some g ∧ OV w' B 2 (.slice (some ⟨g, 0, none⟩) (Lib.compact xs).length cap) (ints (Lib.compact xs)) ∧ w.grownBy w' v.ownBlock := by
  have ho2 := ho.2
  rw [ints_length] at ho2
  rcases ho2 with ⟨h, _⟩ | ⟨g, cap, cur, rfl, hB, hh, hnc, hm, hs, ht⟩
  · exact absurd h hn
  · have hg : g < w.heap.size := (Array.getElem?_eq_some_iff.1 hh).1
    have hH := holds_of_blockI (ss := xs) hh (by simpa [ints] using ht)
    have hc : Calls Tryz.prog 60 _ w _ := AnyG.slices_Compact_int layCompact g 0 cap xs w hH (by omega) hnc
    refine hc.mono ?_
    rintro e w' ⟨rfl, q, rfl⟩
    have hle := compact_length_le xs
    obtain ⟨ts, hts⟩ : ∃ ts, ts = Lib.compact xs ++ List.replicate (xs.length - (Lib.compact xs).length) 0 := ⟨_, rfl⟩
    have htl : ts.length = xs.length := by rw [hts]; simp; omega
    rw [← hts]
    have e0 : putRow (Value.int .i64) (Sort.ahead w q) g 0 ts.toArray = grow (putRow (Value.int .i64) (Sort.ahead w q) g 0 ts.toArray) #[] := by
      obtain ⟨W, hW⟩ : ∃ W, W = putRow (Value.int .i64) (Sort.ahead w q) g 0 ts.toArray := ⟨_, rfl⟩
      rw [← hW]; cases W; simp [grow]
    rw [e0]
    refine ⟨g, cap, rfl, rfl, ?_, grownBy_sortedI _⟩
    have h1 := ownsRow_sortedI (n := q) (os := #[]) (ts := ts) htl hB hh hnc hm hs
    rcases h1.2 with ⟨h', _⟩ | ⟨g', cap', cur', he, hB', hh', hnc', hm', hs', ht'⟩
    · cases h'
    · injection he with e1 e2 e3
      injection e1 with e1
      injection e1 with e1
      subst e1 e3
      refine ⟨by simp, .inr ⟨g, cap, cur', by rw [ints_length], hB, hh', by rw [ints_length]; omega, hm, hs', ?_⟩⟩
      rw [ints_length, Nat.mul_one]
      have := congrArg (List.take (Lib.compact xs).length) ht'
      rw [List.take_take, Nat.mul_one, Nat.min_eq_left hle] at this
      rw [this, hts]
      simp [ints]
end Go.Proofs.YtdedajohkdbdkaaGreatDoor

/- Contracts of hullOf (of the program) and l04Hull (of the reference). -/
namespace Go.Proofs.YtdedajohkdbdkaaGreatDoor
set_option linter.unusedVariables false
open Go.RowKit
/-- a lock in new memory; a lock that reads -/
def ResL (w : World) (l : List (List Int)) (e : Ending) (w' : World) : Prop := ∃ A c, e = .returned (.agg #[.slice A l.length c]) ∧ l.length ≤ c ∧ RII w' A l ∧ OII w' w.heap.size w'.heap.size (.slice A l.length c) l ∧ Below w.heap.size w w'
def RdL (w : World) (l : List (List Int)) (e : Ending) (w' : World) : Prop := ∃ A c, e = .returned (.agg #[.slice A l.length c]) ∧ l.length ≤ c ∧ RII w' A l ∧ Below w.heap.size w w'
def ResLC (w : World) (r : List (List Int) × Int) (e : Ending) (w' : World) : Prop := ∃ A c, e = .returned (.tuple #[.agg #[.slice A r.1.length c], .int .i64 r.2]) ∧ r.1.length ≤ c ∧ RII w' A r.1 ∧ OII w' w.heap.size w'.heap.size (.slice A r.1.length c) r.1 ∧ Below w.heap.size w w'
def RdLC (w : World) (r : List (List Int) × Int) (e : Ending) (w' : World) : Prop := ∃ A c, e = .returned (.tuple #[.agg #[.slice A r.1.length c], .int .i64 r.2]) ∧ r.1.length ≤ c ∧ RII w' A r.1 ∧ Below w.heap.size w w'
/-- the keys have as many cuts as there are chambers, each a depth -/
def allCuts (m : Mk) (ks : List (List Int)) : Prop := ∀ k (hk : k < ks.length), (ks[k].length : Int) = m.c ∧ allW 0 (m.d - 1) ks[k] = true
theorem allCuts_at {m : Mk} {ks : List (List Int)} (h : allCuts m ks) {k i : Nat} (hk : k < ks.length) (hi : (i : Int) < m.c) : ∃ hi : i < ks[k].length, 0 ≤ ks[k][i] ∧ ks[k][i] < m.d := by
  have h1 := h k hk
  have h2 : i < ks[k].length := by omega
  refine ⟨h2, ?_⟩
  have := h1.2
  unfold allW at this
  rw [List.all_eq_true] at this
  have := this _ (List.getElem_mem h2)
  simp only [inB, decide_eq_true_eq] at this
  omega
theorem col_in {m : Mk} {ks : List (List Int)} (h : allCuts m ks) {i : Nat} (hi : (i : Int) < m.c) : ∀ x ∈ colI ks i, 0 ≤ x ∧ x < (m.d.toNat : Int) := by
  intro x hx
  unfold colI at hx
  obtain ⟨k, hk, rfl⟩ := List.mem_map.1 hx
  obtain ⟨j, hj, rfl⟩ := List.getElem_of_mem hk
  obtain ⟨h2, h3⟩ := allCuts_at h hj hi
  rw [show ks[j].getD i 0 = ks[j][i] by simp [List.getD, List.getElem?_eq_getElem h2]]
  omega
/-- The hull of keys is a lock if there is a key. -/
theorem hull_lock {m : Mk} {ks : List (List Int)} (hm : isMaker m = true) (h : allCuts m ks) (h0 : 0 < ks.length) : isLockF m (hullF m.c.toNat m.d.toNat ks) = true := by
  have hb := mk_bounds hm
  unfold isLockF lockOK
  rw [hm, Bool.true_and, Bool.and_eq_true, List.all_eq_true, decide_eq_true_eq, hullF_length]
  refine ⟨fun s hs => ?_, by omega⟩
  obtain ⟨i, hi, rfl⟩ := List.getElem_of_mem hs
  rw [hullF_length] at hi
  rw [hullF_at hi]
  have hne : hullSet m.d.toNat (colI ks i) ≠ [] := by
    have hc : (colI ks i)[0]'(by rw [colI_length]; exact h0) ∈ hullSet m.d.toNat (colI ks i) := by
      have hmem := List.getElem_mem (l := colI ks i) (n := 0) (by rw [colI_length]; exact h0)
      exact mem_hullSet.2 ⟨col_in h (by omega) _ hmem, hmem⟩
    exact List.ne_nil_of_mem hc
  have hr := hullSet_rising m.d.toNat (colI ks i)
  have hin : ∀ x ∈ hullSet m.d.toNat (colI ks i), 0 ≤ x ∧ x < m.d := fun x hx => by have := (mem_hullSet.1 hx).1; omega
  generalize hullSet m.d.toNat (colI ks i) = s at *
  unfold setOK isRising
  rw [Bool.and_eq_true, decide_eq_true_eq, List.all_eq_true]
  refine ⟨by simpa using hne, fun j hj => ?_⟩
  have hj := List.mem_range.1 hj
  have h1 := hin _ (List.getElem_mem hj)
  match j, hj with
  | 0, hj => rw [risesAt_0 hj]; simp; omega
  | j + 1, hj =>
    rw [risesAt_s hj]
    have := List.pairwise_iff_getElem.1 hr j (j + 1) (by omega) hj (by omega)
    simp; omega
theorem hasCol_succ {ks : List (List Int)} {i j : Nat} (x : Int) (h : j < ks.length) (hi : i < ks[j].length) : hasI (colI (ks.take (j + 1)) i) x = (hasI (colI (ks.take j) i) x || (ks[j][i] == x)) := by
  rw [Bool.eq_iff_iff, Bool.or_eq_true, hasI_iff, hasI_iff, beq_iff_eq, colI_succ _ _ _ h, List.mem_append, List.mem_singleton, show ks[j].getD i 0 = ks[j][i] by simp [List.getD, List.getElem?_eq_getElem hi]]
  exact or_congr Iff.rfl eq_comm
theorem ownBlock_some {n c g : Nat} : (Value.slice (some ⟨g, 0, none⟩) n c).ownBlock = some g := rfl
set_option maxRecDepth 100000 in
set_option maxHeartbeats 8000000 in
theorem hullOf_any (m : Mk) (A : Option Addr) (c : Nat) (ks : List (List Int)) (w : World) (h : RII w A ks) (hm : isMaker m = true) (hks : allCuts m ks) (hl : ks.length ≤ 1048576) :
    Calls Tryz.prog 41 #[.agg #[.int .i64 m.c, .int .i64 m.d, .int .i64 m.s, .int .i64 m.a, .int .i64 m.l], .slice A ks.length c] w (ResL w (hullF m.c.toNat m.d.toNat ks)) := by
  have hmb := mk_bounds hm
  have c2 : 2 ≤ m.c := hmb.1
  have c6 : m.c ≤ 6 := hmb.2.1
  have d8 : m.d ≤ 8 := hmb.2.2.2.1
  have d2 : 2 ≤ m.d := hmb.2.2.1
  clear hmb
  have hle := h.le
  obtain ⟨w1, hw1⟩ : ∃ w1, w1 = ((w.alloc (.cells #[.int .i64 m.c, .int .i64 m.d, .int .i64 m.s, .int .i64 m.a, .int .i64 m.l] 25)).alloc (.cells #[.slice none 0 0] 41)).alloc (.cells #[.slice none 0 0] 41) := ⟨_, rfl⟩
  have B1 : Below w.heap.size w w1 := by rw [hw1]; exact (((Below.refl _ _).alloc (Nat.le_refl _) _).alloc (by simp only [World.size_alloc]; omega) _).alloc (by simp only [World.size_alloc]; omega) _
  have hz1 : w1.heap.size = w.heap.size + 3 := by rw [hw1]; simp
  have bk : w1.heap[w.heap.size + 1]? = some (.cells #[.slice none 0 0] 41 (0, 0)) := by
    have := heap_alloc_new (w.alloc (.cells #[.int .i64 m.c, .int .i64 m.d, .int .i64 m.s, .int .i64 m.a, .int .i64 m.l] 25)) (.cells #[.slice none 0 0] 41)
    rw [hw1]
    rw [Below.heap_alloc _ _ _ (by simp only [World.size_alloc]; omega)]; simpa using this
  have bl : w1.heap[w.heap.size + 2]? = some (.cells #[.slice none 0 0] 41 (0, 0)) := by
    have := heap_alloc_new ((w.alloc (.cells #[.int .i64 m.c, .int .i64 m.d, .int .i64 m.s, .int .i64 m.a, .int .i64 m.l] 25)).alloc (.cells #[.slice none 0 0] 41)) (.cells #[.slice none 0 0] 41)
    rw [hw1]; simpa using this
  have HBK := Lib.hid (And.intro bk bl); clear bk bl
  have HKS := Lib.hid hks; clear hks
  go_enter Tryz.func41, Tryz.ntmps41
  go_wp2_with fail
  rw [← hw1]
  clear hw1
  go_loopw [6, 7, 9, 13] (fun _ _ _ i wr => ∃ (k : Nat) (v0 : Value), (k : Int) ≤ m.c ∧ i = .int .i64 k ∧ wr.heap[w.heap.size + 2]? = some (.cells #[v0] 41 (0, 0)) ∧ OII wr (w.heap.size + 3) wr.heap.size v0 (hullF k m.d.toNat ks) ∧ Below (w.heap.size + 2) w1 wr) (fun _ _ _ i _ => (m.c - intOf i).toNat)
  case atStart => exact ⟨0, _, by omega, rfl, HBK.out.2, OII.nil, Below.refl _ _⟩
  case round =>
    obtain ⟨k, v0, hk, rfl, hbl, ho, hb⟩ := hrel
    have HO := Lib.hid ho
    have HBL := Lib.hid hbl
    have cl0 : wr.cell? ⟨w.heap.size + 2, 0, none⟩ = some v0 := by simp [World.cell?, hbl]
    clear ho hbl
    have hsz := hb.size
    have Bw := B1.trans (hb.mono (by omega))
    by_cases hlt : (k : Int) < m.c
    · obtain ⟨wo, rfl⟩ : ∃ wo : World, wo = wr := ⟨_, rfl⟩
      have HCO := Lib.hid (col_in HKS.out (i := k) (by omega))
      have HS := Lib.hid (hullF_succ k m.d.toNat ks)
      have KS := Lib.hid (show ∀ w' : World, Below wo.heap.size wo w' → w'.cell? ⟨w.heap.size + 2, 0, none⟩ = some v0 from fun w' hw => cell_in hw (by simp only; omega) cl0)
      go_wp2_with fail
      go_loopw [7, 9, 19] (fun u _ j wx => ∃ (n : Nat) (u0 : Value), n ≤ ks.length ∧ j = .int .i64 n ∧ u = u0 ∧ OV wx wo.heap.size 2 u0 (ints (colI (ks.take n) k)) ∧ ¬ u0 = .slice none 0 0 ∧ Below wo.heap.size wo wx) (fun _ _ j _ => ks.length - (intOf j).toNat)
      case atStart => exact ⟨0, _, by omega, rfl, rfl, by simpa [colI, ints] using OV.new0 (w := wo) (B := wo.heap.size) (e := 2) (Nat.le_refl _), by simp, (Below.refl _ _).alloc (Nat.le_refl _) _⟩
      case round =>
        obtain ⟨n, u0, hn, rfl, rfl, ho2, hnn, hb2⟩ := hrel
        have Bx := Bw.trans (hb2.mono (by omega))
        by_cases hlt2 : n < ks.length
        · obtain ⟨b, o, A', c', rfl, hc0, hcc, hr⟩ := (h.below Bx).at_ hlt2
          obtain ⟨hi, hv1, hv2⟩ := allCuts_at HKS.out hlt2 (i := k) (by omega)
          obtain ⟨b2, o2, rfl, hc2⟩ := hr.at_ hi
          have HT := Lib.hid (show ints (colI (ks.take (n + 1)) k) = ints (colI (ks.take n) k) ++ [.int .i64 ks[n][k]] by rw [colI_succ _ _ _ hlt2, ints_append, show ks[n].getD k 0 = ks[n][k] by simp [List.getD, List.getElem?_eq_getElem hi]]; rfl)
          go_wp2_with (at_builtin; refine wpList_app1 _ rfl _ _ _ rfl wo.heap.size 2 _ 8 Tryz.underlying44 info_int rfl (by omega) _ _ rfl (ho2.alloc _) _ _ rfl (one_cell _ _ _) rfl (by rw [ints_length, colI_length, List.length_take]; omega) (by have := hb2.size; simp; omega) ?_; intro v' w5 ho5 hg5 hn5 hat5)
          go_roundw
          case rel => exact ⟨n + 1, v', by omega, by go_num, rfl, by rw [HT.out]; exact ho5, hn5, (ho2.alloc _).own (Nat.le_refl _) (hb2.alloc (by have := hb2.size; omega) _) hg5 (by have := hb2.size; simp; omega)⟩
          case measure => simp [intOf]; omega
        · obtain rfl : n = ks.length := by omega
          rw [List.take_length] at ho2
          have hcl : (colI ks k).length ≤ 1073741824 := by rw [colI_length]; omega
          have HNN := Lib.hid hnn; clear hnn
          have HSO := Lib.hid (sSort_any u7 (colI ks k) wo.heap.size wr ho2 HNN.out hcl)
          have HB2 := Lib.hid hb2
          have hs2 := hb2.size
          clear ho2 hb2
          go_wp2_with fail
          refine HSO.out.mono ?_
          rintro e w6 ⟨rfl, ho6, hg6⟩
          have hb6 : Below wo.heap.size wo w6 := belowG HB2.out hg6 hs2 (fun g hg => (ho6.lt g hg).1)
          have cl6 := cell_in hb6 (by simp only; omega) cl0
          have hs6 := hb6.size
          obtain ⟨zs, hzs⟩ : ∃ zs, zs = hullSet m.d.toNat (colI ks k) := ⟨_, rfl⟩
          have HCM := sCompact_any u7 (sortI (colI ks k)) wo.heap.size w6.drew ho6 HNN.out (by rw [sortI_length]; exact hcl)
          rw [show Lib.compact (sortI (colI ks k)) = zs from by rw [hzs]; exact hull_sort HCO.out] at HCM
          rw [← hzs] at HS
          have HC := Lib.hid HCM
          have HB6 := Lib.hid hb6
          clear HCM hzs ho6 hg6 hb6
          go_wp2_with fail
          refine wp_region_held_drew (S := (fun _ => True)) (by kernel_rfl) (trivial) (fun hHeld => ?_)
          refine takeD (i := 0) (some 33) (.pointer (some ⟨w.heap.size + 2, 0, none⟩)) rfl (by kernel_rfl) (by kernel_rfl) (by kernel_rfl) (by kernel_rfl) (fun _ _ _ h => h) (by assumption) (Or.inl ⟨by rfl, fun w hSw => by (try dsimp only at hSw); go_simp⟩) ?_
          simp only [Act.put, List.setIfInBounds_toArray, List.set_cons_zero, List.set_cons_succ]
          refine takeD (i := 2) (some 35) (u7) rfl (by kernel_rfl) (by kernel_rfl) (by kernel_rfl) (by kernel_rfl) (fun _ _ _ h => h) (by assumption) (Or.inl ⟨by rfl, fun w hSw => by (try dsimp only at hSw); go_simp⟩) ?_
          simp only [Act.put, List.setIfInBounds_toArray, List.set_cons_zero, List.set_cons_succ]
          refine wpAnyH_ready (rs := [1, 3]) (by kernel_rfl) (by simp) (AllReadyH.cons rfl (fun K hK => ?_) (AllReadyH.cons rfl (fun K hK => ?_) AllReadyH.nil))
          · go_simp
            have HHeld := trivial
            refine hK.out _ _ HHeld (fun _ => ?_)
            clear hK K
            try simp only [Act.put, List.setIfInBounds_toArray, List.set_cons_zero, List.set_cons_succ]
            refine wpAnyH_ready (rs := [3]) (by kernel_rfl) (by simp) (AllReadyH.cons rfl (fun K hK => ?_) AllReadyH.nil)
            go_simp
            refine HC.out.mono ?_
            rintro e w7 ⟨g, cap, rfl, hg, ho7, hg7⟩
            have hb7 : Below wo.heap.size wo w7 := belowG (belowD HB6.out 1) hg7 hs6 (fun x hx => by rw [hx] at hg; cases hg; exact (ho7.lt _ rfl).1)
            have cl7 := cell_in hb7 (by simp only; omega) cl0
            have hs7 := hb7.size
            have hp7 : w.heap.size + 2 < w7.heap.size := by omega
            have HO7 := Lib.hid ho7; have HB7 := Lib.hid hb7
            clear ho7 hg7 hb7
            have HHeld := trivial
            refine hK.out _ _ HHeld (fun _ => ?_)
            clear hK K
            try simp only [Act.put, List.setIfInBounds_toArray, List.set_cons_zero, List.set_cons_succ]
            refine wpAnyH_ready (rs := [4]) (by kernel_rfl) (by simp) (AllReadyH.cons rfl (fun K hK => ?_) AllReadyH.nil)
            go_simp
            have HHeld := trivial
            refine hK.out _ _ HHeld (fun _ => ?_)
            clear hK K
            try simp only [Act.put, List.setIfInBounds_toArray, List.set_cons_zero, List.set_cons_succ]
            obtain ⟨us, k1, k2, k3, k4⟩ := HO.out.below HB7.out
            rw [hullF_length] at k1
            have hb8 : Below (w.heap.size + 3) wo (w7.alloc (.cells #[.slice (some ⟨g, 0, none⟩) zs.length cap] 44)) := (HB7.out.mono (by omega)).alloc (by omega) _
            refine wpAnyH_ready (rs := [5]) (by kernel_rfl) (by simp) (AllReadyH.cons rfl (fun K hK => ?_) AllReadyH.nil)
            refine step_app1 _ (by rfl) _ _ _ (by rfl) (w.heap.size + 3) 44 _ 24 Tryz.underlying26 info_sl rfl (by omega) _ us (by rfl) (k2.1.alloc _) _ _ (by rfl) (one_cell _ _ _) rfl (by omega) (by simp; omega) ?_
            intro v' w8 ho8 hg8 hn8 hat8
            have HN := OII.push1 (ys := zs) (by rw [hullF_length]; exact k1) k2 k3 k4 HO7.out (by omega) hs7 ho8 hg8
            have hB8 := (k2.1.alloc (.cells #[.slice (some ⟨g, 0, none⟩) zs.length cap] 44)).own (Nat.le_refl _) hb8 hg8 (by simp; omega)
            rw [← HS.out] at HN
            obtain ⟨Av, cv, hv', _⟩ := HN.reads
            rw [hullF_length] at hv'
            subst hv'
            have hz8 := (hB8.block (w.heap.size + 2) (by omega)).trans HBL.out
            have cl8 : w8.cell? ⟨w.heap.size + 2, 0, none⟩ = some v0 := by simp [World.cell?, hz8]
            have fz8 : w8.frozen? ⟨w.heap.size + 2, 0, none⟩ = false := by simp [World.frozen?, hz8]
            have HN8 := Lib.hid HN; have HB8 := Lib.hid hB8; have HZ8 := Lib.hid hz8
            clear HN hB8 hz8 ho8 hg8 hn8 hat8 k1 k2 k3 k4 hb8
            have HHeld := trivial
            refine hK.out _ _ HHeld (fun _ => ?_)
            clear hK K
            (try simp only [Act.put]); (try simp only [List.setIfInBounds_toArray]); (try simp only [List.set_cons_zero, List.set_cons_succ])
            refine takeD (i := 6) (some 39) (.pointer (some ⟨w.heap.size + 2, 0, none⟩)) rfl (by kernel_rfl) (by kernel_rfl) (by kernel_rfl) (by kernel_rfl) (fun _ _ _ h => h) (by assumption) (Or.inl ⟨by rfl, fun w hSw => by (try dsimp only at hSw); go_simp⟩) ?_
            (try simp only [Act.put]); (try simp only [List.setIfInBounds_toArray]); (try simp only [List.set_cons_zero, List.set_cons_succ])
            refine wpAnyH_ready (rs := [7]) (by kernel_rfl) (by simp) (AllReadyH.cons rfl (fun K hK => ?_) AllReadyH.nil)
            go_simp
            have HHeld := trivial
            refine hK.out _ _ HHeld (fun _ => ?_)
            clear hK K
            (try simp only [Act.put]); (try simp only [List.setIfInBounds_toArray]); (try simp only [List.set_cons_zero, List.set_cons_succ])
            refine wpAnyH_done (by kernel_rfl) ?_ _
            have HE := Lib.hid (show (w8.setCell ⟨w.heap.size + 2, 0, none⟩ (.slice Av (k + 1) cv)).heap[w.heap.size + 2]? = some (.cells #[.slice Av (k + 1) cv] 41 (0, 0)) by
              simp [World.setCell, Array.getElem?_modify, HZ8.out])
            clear cl8 fz8
            go_wp2_with fail
            go_roundw
            case rel => exact ⟨k + 1, _, by omega, by go_num, HE.out, by simpa using HN8.out.setLow (by simp only; omega), (hb.trans (HB8.out.mono (by omega))).setCell (by simp only; omega) _⟩
            case measure => simp [intOf]; omega
          · go_simp
            refine HC.out.mono ?_
            rintro e w7 ⟨g, cap, rfl, hg, ho7, hg7⟩
            have hb7 : Below wo.heap.size wo w7 := belowG (belowD HB6.out 1) hg7 hs6 (fun x hx => by rw [hx] at hg; cases hg; exact (ho7.lt _ rfl).1)
            have cl7 := cell_in hb7 (by simp only; omega) cl0
            have hs7 := hb7.size
            have hp7 : w.heap.size + 2 < w7.heap.size := by omega
            have HO7 := Lib.hid ho7; have HB7 := Lib.hid hb7
            clear ho7 hg7 hb7
            have HHeld := trivial
            refine hK.out _ _ HHeld (fun _ => ?_)
            clear hK K
            try simp only [Act.put, List.setIfInBounds_toArray, List.set_cons_zero, List.set_cons_succ]
            refine wpAnyH_ready (rs := [1, 4]) (by kernel_rfl) (by simp) (AllReadyH.cons rfl (fun K hK => ?_) (AllReadyH.cons rfl (fun K hK => ?_) AllReadyH.nil))
            · go_simp
              have HHeld := trivial
              refine hK.out _ _ HHeld (fun _ => ?_)
              clear hK K
              try simp only [Act.put, List.setIfInBounds_toArray, List.set_cons_zero, List.set_cons_succ]
              refine wpAnyH_ready (rs := [4]) (by kernel_rfl) (by simp) (AllReadyH.cons rfl (fun K hK => ?_) AllReadyH.nil)
              go_simp
              have HHeld := trivial
              refine hK.out _ _ HHeld (fun _ => ?_)
              clear hK K
              try simp only [Act.put, List.setIfInBounds_toArray, List.set_cons_zero, List.set_cons_succ]
              obtain ⟨us, k1, k2, k3, k4⟩ := HO.out.below HB7.out
              rw [hullF_length] at k1
              have hb8 : Below (w.heap.size + 3) wo (w7.alloc (.cells #[.slice (some ⟨g, 0, none⟩) zs.length cap] 44)) := (HB7.out.mono (by omega)).alloc (by omega) _
              refine wpAnyH_ready (rs := [5]) (by kernel_rfl) (by simp) (AllReadyH.cons rfl (fun K hK => ?_) AllReadyH.nil)
              refine step_app1 _ (by rfl) _ _ _ (by rfl) (w.heap.size + 3) 44 _ 24 Tryz.underlying26 info_sl rfl (by omega) _ us (by rfl) (k2.1.alloc _) _ _ (by rfl) (one_cell _ _ _) rfl (by omega) (by simp; omega) ?_
              intro v' w8 ho8 hg8 hn8 hat8
              have HN := OII.push1 (ys := zs) (by rw [hullF_length]; exact k1) k2 k3 k4 HO7.out (by omega) hs7 ho8 hg8
              have hB8 := (k2.1.alloc (.cells #[.slice (some ⟨g, 0, none⟩) zs.length cap] 44)).own (Nat.le_refl _) hb8 hg8 (by simp; omega)
              rw [← HS.out] at HN
              obtain ⟨Av, cv, hv', _⟩ := HN.reads
              rw [hullF_length] at hv'
              subst hv'
              have hz8 := (hB8.block (w.heap.size + 2) (by omega)).trans HBL.out
              have cl8 : w8.cell? ⟨w.heap.size + 2, 0, none⟩ = some v0 := by simp [World.cell?, hz8]
              have fz8 : w8.frozen? ⟨w.heap.size + 2, 0, none⟩ = false := by simp [World.frozen?, hz8]
              have HN8 := Lib.hid HN; have HB8 := Lib.hid hB8; have HZ8 := Lib.hid hz8
              clear HN hB8 hz8 ho8 hg8 hn8 hat8 k1 k2 k3 k4 hb8
              have HHeld := trivial
              refine hK.out _ _ HHeld (fun _ => ?_)
              clear hK K
              (try simp only [Act.put]); (try simp only [List.setIfInBounds_toArray]); (try simp only [List.set_cons_zero, List.set_cons_succ])
              refine takeD (i := 6) (some 39) (.pointer (some ⟨w.heap.size + 2, 0, none⟩)) rfl (by kernel_rfl) (by kernel_rfl) (by kernel_rfl) (by kernel_rfl) (fun _ _ _ h => h) (by assumption) (Or.inl ⟨by rfl, fun w hSw => by (try dsimp only at hSw); go_simp⟩) ?_
              (try simp only [Act.put]); (try simp only [List.setIfInBounds_toArray]); (try simp only [List.set_cons_zero, List.set_cons_succ])
              refine wpAnyH_ready (rs := [7]) (by kernel_rfl) (by simp) (AllReadyH.cons rfl (fun K hK => ?_) AllReadyH.nil)
              go_simp
              have HHeld := trivial
              refine hK.out _ _ HHeld (fun _ => ?_)
              clear hK K
              (try simp only [Act.put]); (try simp only [List.setIfInBounds_toArray]); (try simp only [List.set_cons_zero, List.set_cons_succ])
              refine wpAnyH_done (by kernel_rfl) ?_ _
              have HE := Lib.hid (show (w8.setCell ⟨w.heap.size + 2, 0, none⟩ (.slice Av (k + 1) cv)).heap[w.heap.size + 2]? = some (.cells #[.slice Av (k + 1) cv] 41 (0, 0)) by
                simp [World.setCell, Array.getElem?_modify, HZ8.out])
              clear cl8 fz8
              go_wp2_with fail
              go_roundw
              case rel => exact ⟨k + 1, _, by omega, by go_num, HE.out, by simpa using HN8.out.setLow (by simp only; omega), (hb.trans (HB8.out.mono (by omega))).setCell (by simp only; omega) _⟩
              case measure => simp [intOf]; omega
            · go_simp
              have HHeld := trivial
              refine hK.out _ _ HHeld (fun _ => ?_)
              clear hK K
              try simp only [Act.put, List.setIfInBounds_toArray, List.set_cons_zero, List.set_cons_succ]
              refine wpAnyH_ready (rs := [1]) (by kernel_rfl) (by simp) (AllReadyH.cons rfl (fun K hK => ?_) AllReadyH.nil)
              go_simp
              have HHeld := trivial
              refine hK.out _ _ HHeld (fun _ => ?_)
              clear hK K
              try simp only [Act.put, List.setIfInBounds_toArray, List.set_cons_zero, List.set_cons_succ]
              obtain ⟨us, k1, k2, k3, k4⟩ := HO.out.below HB7.out
              rw [hullF_length] at k1
              have hb8 : Below (w.heap.size + 3) wo (w7.alloc (.cells #[.slice (some ⟨g, 0, none⟩) zs.length cap] 44)) := (HB7.out.mono (by omega)).alloc (by omega) _
              refine wpAnyH_ready (rs := [5]) (by kernel_rfl) (by simp) (AllReadyH.cons rfl (fun K hK => ?_) AllReadyH.nil)
              refine step_app1 _ (by rfl) _ _ _ (by rfl) (w.heap.size + 3) 44 _ 24 Tryz.underlying26 info_sl rfl (by omega) _ us (by rfl) (k2.1.alloc _) _ _ (by rfl) (one_cell _ _ _) rfl (by omega) (by simp; omega) ?_
              intro v' w8 ho8 hg8 hn8 hat8
              have HN := OII.push1 (ys := zs) (by rw [hullF_length]; exact k1) k2 k3 k4 HO7.out (by omega) hs7 ho8 hg8
              have hB8 := (k2.1.alloc (.cells #[.slice (some ⟨g, 0, none⟩) zs.length cap] 44)).own (Nat.le_refl _) hb8 hg8 (by simp; omega)
              rw [← HS.out] at HN
              obtain ⟨Av, cv, hv', _⟩ := HN.reads
              rw [hullF_length] at hv'
              subst hv'
              have hz8 := (hB8.block (w.heap.size + 2) (by omega)).trans HBL.out
              have cl8 : w8.cell? ⟨w.heap.size + 2, 0, none⟩ = some v0 := by simp [World.cell?, hz8]
              have fz8 : w8.frozen? ⟨w.heap.size + 2, 0, none⟩ = false := by simp [World.frozen?, hz8]
              have HN8 := Lib.hid HN; have HB8 := Lib.hid hB8; have HZ8 := Lib.hid hz8
              clear HN hB8 hz8 ho8 hg8 hn8 hat8 k1 k2 k3 k4 hb8
              have HHeld := trivial
              refine hK.out _ _ HHeld (fun _ => ?_)
              clear hK K
              (try simp only [Act.put]); (try simp only [List.setIfInBounds_toArray]); (try simp only [List.set_cons_zero, List.set_cons_succ])
              refine takeD (i := 6) (some 39) (.pointer (some ⟨w.heap.size + 2, 0, none⟩)) rfl (by kernel_rfl) (by kernel_rfl) (by kernel_rfl) (by kernel_rfl) (fun _ _ _ h => h) (by assumption) (Or.inl ⟨by rfl, fun w hSw => by (try dsimp only at hSw); go_simp⟩) ?_
              (try simp only [Act.put]); (try simp only [List.setIfInBounds_toArray]); (try simp only [List.set_cons_zero, List.set_cons_succ])
              refine wpAnyH_ready (rs := [7]) (by kernel_rfl) (by simp) (AllReadyH.cons rfl (fun K hK => ?_) AllReadyH.nil)
              go_simp
              have HHeld := trivial
              refine hK.out _ _ HHeld (fun _ => ?_)
              clear hK K
              (try simp only [Act.put]); (try simp only [List.setIfInBounds_toArray]); (try simp only [List.set_cons_zero, List.set_cons_succ])
              refine wpAnyH_done (by kernel_rfl) ?_ _
              have HE := Lib.hid (show (w8.setCell ⟨w.heap.size + 2, 0, none⟩ (.slice Av (k + 1) cv)).heap[w.heap.size + 2]? = some (.cells #[.slice Av (k + 1) cv] 41 (0, 0)) by
                simp [World.setCell, Array.getElem?_modify, HZ8.out])
              clear cl8 fz8
              go_wp2_with fail
              go_roundw
              case rel => exact ⟨k + 1, _, by omega, by go_num, HE.out, by simpa using HN8.out.setLow (by simp only; omega), (hb.trans (HB8.out.mono (by omega))).setCell (by simp only; omega) _⟩
              case measure => simp [intOf]; omega
    · have HKC := Lib.hid (show k = m.c.toNat by omega)
      have hfz : wr.frozen? ⟨w.heap.size + 2, 0, none⟩ = false := by simp [World.frozen?, HBL.out]
      obtain ⟨A9, c9, hv9, hc9, hr9⟩ := HO.out.reads
      rw [hullF_length] at hv9 hc9
      subst hv9
      have lb := (hb.block (w.heap.size + 1) (by omega)).trans HBK.out.1
      have l0 : wr.cell? ⟨w.heap.size + 1, 0, none⟩ = some (.slice none 0 0) := by simp [World.cell?, lb]
      have l1 : wr.frozen? ⟨w.heap.size + 1, 0, none⟩ = false := by simp [World.frozen?, lb]
      have HBB := Lib.hid Bw
      have hkd : decide ((k : Int) < m.c) = false := decide_eq_false hlt
      clear hr9
      go_wp2_with fail
      (try simp only [Exit.inBlock, Exit.then])
      refine bodyPost_ret (results_cell_row rfl _ _ (w.heap.size + 1) 41 #[.slice A9 k c9] (0, 0) _ (by rfl) (by simp [World.setCell, Array.getElem?_modify, lb]) Tryz.underlying41 rfl (by kernel_rfl)) rfl ?_
      have ho9 := (HO.out.setLow (p := ⟨w.heap.size + 1, 0, none⟩) (u := .slice A9 k c9) (by simp only; omega)).wide (B' := w.heap.size) (C' := (wr.setCell ⟨w.heap.size + 1, 0, none⟩ (.slice A9 k c9)).heap.size) (by omega) (by simp)
      have hkc := HKC.out
      rw [hkc] at ho9 hc9 ⊢
      have hl9 : (hullF m.c.toNat m.d.toNat ks).length = m.c.toNat := hullF_length _ _ _
      refine ⟨A9, c9, by rw [hl9], by rw [hl9]; exact hc9, ho9.rii, by rw [hl9]; exact ho9, HBB.out.setCell (by simp only; omega) _⟩
set_option maxRecDepth 100000 in
set_option maxHeartbeats 8000000 in
theorem l04Hull_any (m : Mk) (A : Option Addr) (c : Nat) (ks : List (List Int)) (w : World) (h : RII w A ks) (hm : isMaker m = true) (hks : allCuts m ks) (hl : ks.length ≤ 1048576) :
    Calls Tryz.prog 62 #[.agg #[.int .i64 m.c, .int .i64 m.d, .int .i64 m.s, .int .i64 m.a, .int .i64 m.l], .slice A ks.length c] w (ResL w (hullF m.c.toNat m.d.toNat ks)) := by
  have hmb := mk_bounds hm
  have c2 : 2 ≤ m.c := hmb.1
  have c6 : m.c ≤ 6 := hmb.2.1
  have d8 : m.d ≤ 8 := hmb.2.2.2.1
  have d2 : 2 ≤ m.d := hmb.2.2.1
  clear hmb
  have hle := h.le
  obtain ⟨w1, hw1⟩ : ∃ w1, w1 = (w.alloc (.cells #[.int .i64 m.c, .int .i64 m.d, .int .i64 m.s, .int .i64 m.a, .int .i64 m.l] 25)).alloc (.cells #[.slice none 0 0] 41) := ⟨_, rfl⟩
  have B1 : Below w.heap.size w w1 := by rw [hw1]; exact ((Below.refl _ _).alloc (Nat.le_refl _) _).alloc (by simp only [World.size_alloc]; omega) _
  have hz1 : w1.heap.size = w.heap.size + 2 := by rw [hw1]; simp
  have bm : BoxC w1 w.heap.size 0 [.int .i64 m.c, .int .i64 m.d, .int .i64 m.s, .int .i64 m.a, .int .i64 m.l] := by
    have : BoxC (w.alloc (.cells #[.int .i64 m.c, .int .i64 m.d, .int .i64 m.s, .int .i64 m.a, .int .i64 m.l] 25)) w.heap.size 0 [.int .i64 m.c, .int .i64 m.d, .int .i64 m.s, .int .i64 m.a, .int .i64 m.l] := by simp [BoxC, Go.World.cell?_alloc_at]
    rw [hw1]
    exact this.below ((Below.refl _ _).alloc (Nat.le_refl _) _)
  have bk : w1.heap[w.heap.size + 1]? = some (.cells #[.slice none 0 0] 41 (0, 0)) := by
    have := heap_alloc_new (w.alloc (.cells #[.int .i64 m.c, .int .i64 m.d, .int .i64 m.s, .int .i64 m.a, .int .i64 m.l] 25)) (.cells #[.slice none 0 0] 41)
    rw [hw1]; simpa using this
  have HBM := Lib.hid bm; have HBK := Lib.hid bk; clear bm bk
  have HKS := Lib.hid hks; clear hks
  go_enter Tryz.func62, Tryz.ntmps62
  go_wp2_with fail
  rw [← hw1]
  clear hw1
  go_loopw [5, 6, 7, 8, 9, 10] (fun v i _ _ _ _ wr => ∃ (k : Nat) (v0 : Value), (k : Int) ≤ m.c ∧ i = .int .i64 k ∧ v = v0 ∧ OII wr (w.heap.size + 2) wr.heap.size v0 (hullF k m.d.toNat ks) ∧ Below (w.heap.size + 2) w1 wr) (fun _ i _ _ _ _ _ => (m.c - intOf i).toNat)
  case atStart => exact ⟨0, _, by omega, rfl, rfl, by simpa [hullF, hz1] using (OII.new0 (w := w1) (B := w.heap.size + 2) (by omega)).wide (Nat.le_refl _) (show w1.heap.size + 1 ≤ (w1.alloc (.cells #[] 44)).heap.size by simp), (Below.refl _ _).alloc (by omega) _⟩
  case round =>
    obtain ⟨k, v0, hk, rfl, rfl, ho, hb⟩ := hrel
    have HO := Lib.hid ho
    clear ho
    have hsz := hb.size
    have Bw := B1.trans (hb.mono (by omega))
    obtain ⟨q0, q1, _⟩ := HBM.out.keep fun i v hv => cell_in hb (by simp only; omega) hv
    by_cases hlt : (k : Int) < m.c
    · obtain ⟨wo, rfl⟩ : ∃ wo : World, wo = wr := ⟨_, rfl⟩
      have HS := Lib.hid (hullF_succ k m.d.toNat ks)
      have HQ := Lib.hid (show ∀ w' : World, Below wo.heap.size wo w' → w'.cell? ⟨w.heap.size, 0, none⟩ = some (.int .i64 m.c) ∧ w'.cell? ⟨w.heap.size, 1, none⟩ = some (.int .i64 m.d) from fun w' hw => ⟨cell_in hw (by simp only; omega) q0, cell_in hw (by simp only; omega) q1⟩)
      go_wp2_with fail
      clear q0 q1
      go_loopw [7, 8, 9, 10] (fun u d _ _ wx => ∃ (n : Nat) (u0 : Value), (n : Int) ≤ m.d ∧ d = .int .i64 n ∧ u = u0 ∧ OV wx wo.heap.size 2 u0 (ints (hullSet n (colI ks k))) ∧ Below wo.heap.size wo wx) (fun _ d _ _ _ => (m.d - intOf d).toNat)
      case atStart => exact ⟨0, _, by omega, rfl, rfl, by simpa [hullSet, seqI, ints] using OV.new0 (w := wo) (B := wo.heap.size) (e := 2) (Nat.le_refl _), (Below.refl _ _).alloc (Nat.le_refl _) _⟩
      case round =>
        obtain ⟨n, u0, hn, rfl, rfl, ho2, hb2⟩ := hrel
        obtain ⟨q0, q1⟩ := HQ.out _ hb2
        have Bx := Bw.trans (hb2.mono (by omega))
        by_cases hlt2 : (n : Int) < m.d
        · have HSS := Lib.hid (hullSet_succ n (colI ks k))
          have HHL := Lib.hid (hullSet_len n (colI ks k))
          have hsz2 := hb2.size
          have HO2 := Lib.hid ho2; have HB2 := Lib.hid hb2
          clear ho2 hb2
          go_wp2_with fail
          go_loop [9, 10] (fun x i => ∃ j : Nat, j ≤ ks.length ∧ i = .int .i64 j ∧ x = .bool (hasI (colI (ks.take j) k) n)) (fun _ i => ks.length - (intOf i).toNat)
          case atStart => exact ⟨0, by omega, rfl, by simp [colI, hasI]⟩
          case round =>
            obtain ⟨j, hj, rfl, rfl⟩ := hrel
            by_cases hlt3 : j < ks.length
            · obtain ⟨b, o, A', c', rfl, hc0, hcc, hr⟩ := (h.below Bx).at_ hlt3
              obtain ⟨hi, hv1, hv2⟩ := allCuts_at HKS.out hlt3 (i := k) (by omega)
              obtain ⟨b2, o2, rfl, hc2⟩ := hr.at_ hi
              have hs := Lib.hid (hasCol_succ (n : Int) hlt3 hi)
              cases hp : hasI (colI (ks.take j) k) n with
              | true =>
                go_wp2_with fail
                go_round
                case rel => exact ⟨j + 1, by omega, by go_num, by rw [hs.out, hp]; rfl⟩
                case measure => simp [intOf]; omega
              | false =>
                go_wp2_with fail
                go_round
                case rel => exact ⟨j + 1, by omega, by go_num, by rw [hs.out, hp]; rfl⟩
                case measure => simp [intOf]; omega
            · obtain rfl : j = ks.length := by omega
              rw [List.take_length]
              cases hp : hasI (colI ks k) n with
              | true =>
                have HT := Lib.hid (show ints (hullSet (n + 1) (colI ks k)) = ints (hullSet n (colI ks k)) ++ [.int .i64 (n : Int)] by rw [HSS.out, hp, if_pos rfl, ints_append]; rfl)
                go_wp2_with (at_builtin; refine wpList_app1 _ rfl _ _ _ rfl wo.heap.size 2 _ 8 Tryz.underlying44 info_int rfl (by omega) _ _ rfl (HO2.out.alloc _) _ _ rfl (one_cell _ _ _) rfl (by rw [ints_length]; have := HHL.out; omega) (by simp; omega) ?_; intro v' w5 ho5 hg5 hn5 hat5)
                go_roundw
                case rel => exact ⟨n + 1, v', by omega, by go_num, rfl, by rw [HT.out]; exact ho5, (HO2.out.alloc _).own (Nat.le_refl _) (HB2.out.alloc hsz2 _) hg5 (by simp; omega)⟩
                case measure => simp [intOf]; omega
              | false =>
                have HT := Lib.hid (show hullSet (n + 1) (colI ks k) = hullSet n (colI ks k) by rw [HSS.out, hp]; simp)
                go_wp2_with fail
                go_roundw
                case rel => exact ⟨n + 1, _, by omega, by go_num, rfl, by rw [HT.out]; exact HO2.out, HB2.out⟩
                case measure => simp [intOf]; omega
        · have hnd : n = m.d.toNat := by omega
          rw [hnd] at ho2
          have HNL : decide ((n : Int) < m.d) = false := decide_eq_false hlt2
          obtain ⟨zs, hzs⟩ : ∃ zs, zs = hullSet m.d.toNat (colI ks k) := ⟨_, rfl⟩
          rw [← hzs] at ho2 HS
          obtain ⟨A7, c7, rfl, hc7, hr7⟩ := ho2.toOR.readsI
          have HO7 := Lib.hid ho2
          have hs2 := hb2.size
          obtain ⟨us, k1, k2, k3, k4⟩ := HO.out.below hb2
          rw [hullF_length] at k1
          have HK := Lib.hid (And.intro k3 k4); clear k3 k4
          have HB2 := Lib.hid hb2
          clear hzs ho2 hr7 hnd hb2
          go_wp2_with (at_builtin; refine wpList_app1 _ rfl _ _ _ rfl (w.heap.size + 2) 44 _ 24 Tryz.underlying26 info_sl rfl (by omega) _ us rfl (k2.1.alloc _) _ _ rfl (one_cell _ _ _) rfl (by omega) (by simp; omega) ?_; intro v' w5 ho5 hg5 hn5 hat5)
          have HN := Lib.hid (OII.push1 (ys := zs) (by rw [hullF_length]; exact k1) k2 HK.out.1 HK.out.2 HO7.out (by omega) hs2 ho5 hg5)
          have HB5 := Lib.hid ((k2.1.alloc (.cells #[.slice A7 zs.length c7] 44)).own (Nat.le_refl _) ((hb.trans (HB2.out.mono (by omega))).alloc (by omega) _) hg5 (by simp; omega))
          clear ho5 hg5 hn5 hat5
          go_roundw
          case rel => exact ⟨k + 1, v', by omega, by go_num, rfl, by rw [HS.out]; exact HN.out, HB5.out⟩
          case measure => simp [intOf]; omega
    · have HKC := Lib.hid (show k = m.c.toNat by omega)
      obtain ⟨A9, c9, hv9, hc9, hr9⟩ := HO.out.reads
      rw [hullF_length] at hv9 hc9
      subst hv9
      have lb := (hb.block (w.heap.size + 1) (by omega)).trans HBK.out
      have l0 : wr.cell? ⟨w.heap.size + 1, 0, none⟩ = some (.slice none 0 0) := by simp [World.cell?, lb]
      have l1 : wr.frozen? ⟨w.heap.size + 1, 0, none⟩ = false := by simp [World.frozen?, lb]
      have HBB := Lib.hid Bw
      have hkd : decide ((k : Int) < m.c) = false := decide_eq_false hlt
      clear hr9
      go_wp2_with fail
      (try simp only [Exit.inBlock, Exit.then])
      refine bodyPost_ret (results_cell_row rfl _ _ (w.heap.size + 1) 41 #[.slice A9 k c9] (0, 0) _ (by rfl) (by simp [World.setCell, Array.getElem?_modify, lb]) Tryz.underlying41 rfl (by kernel_rfl)) rfl ?_
      have ho9 := (HO.out.setLow (p := ⟨w.heap.size + 1, 0, none⟩) (u := .slice A9 k c9) (by simp only; omega)).wide (B' := w.heap.size) (C' := (wr.setCell ⟨w.heap.size + 1, 0, none⟩ (.slice A9 k c9)).heap.size) (by omega) (by simp)
      have hkc := HKC.out
      rw [hkc] at ho9 hc9 ⊢
      have hl9 : (hullF m.c.toNat m.d.toNat ks).length = m.c.toNat := hullF_length _ _ _
      refine ⟨A9, c9, by rw [hl9], by rw [hl9]; exact hc9, ho9.rii, by rw [hl9]; exact ho9, HBB.out.setCell (by simp only; omega) _⟩
end Go.Proofs.YtdedajohkdbdkaaGreatDoor

/- Plain words for systems: the keys of a door, the locks, the false openings. No program. -/
namespace Go.Proofs.YtdedajohkdbdkaaGreatDoor
open Go.RowKit
theorem filter_one {α : Type} (p : α → Bool) (x : α) : [x].filter p = if p x = true then [x] else [] := by rw [List.filter_cons, List.filter_nil]
theorem map_ite {α β : Type} (f : α → β) (c : Prop) [Decidable c] (x : α) : (if c then [x] else []).map f = if c then [f x] else [] := by split <;> rfl
/-- of the rows i < n, those that open door d: their cuts -/
def keysForN (t cuts : List (List Int)) (d n : Nat) : List (List Int) := ((List.range n).filter fun i => oneAt d (t.getD i [])).map fun i => cuts.getD i []
def keysFor (t cuts : List (List Int)) (d : Nat) : List (List Int) := keysForN t cuts d cuts.length
theorem keysForN_succ (t cuts : List (List Int)) (d n : Nat) : keysForN t cuts d (n + 1) = keysForN t cuts d n ++ (if oneAt d (t.getD n []) = true then [cuts.getD n []] else []) := by
  unfold keysForN
  rw [List.range_succ, List.filter_append, List.map_append, filter_one, map_ite]
theorem keysForN_len (t cuts : List (List Int)) (d n : Nat) : (keysForN t cuts d n).length ≤ n := by
  unfold keysForN; rw [List.length_map]; have := List.length_filter_le (fun i => oneAt d (t.getD i [])) (List.range n); simpa using this
theorem keysFor_len (t cuts : List (List Int)) (d : Nat) : (keysFor t cuts d).length ≤ cuts.length := keysForN_len t cuts d cuts.length
theorem mem_keysFor {t cuts : List (List Int)} {d : Nat} {k : List Int} (h : k ∈ keysFor t cuts d) : k ∈ cuts := by
  unfold keysFor keysForN at h
  obtain ⟨i, hi, rfl⟩ := List.mem_map.1 h
  have := List.mem_range.1 (List.mem_filter.1 hi).1
  rw [getD_row this]; exact List.getElem_mem this
/-- of the numbers of rows those below n: their cuts -/
def pick (cuts : List (List Int)) (rl : List Int) : List (List Int) := (rl.filter fun x => decide (x < (cuts.length : Int))).map fun x => cuts.getD x.toNat []
theorem pick_succ (cuts : List (List Int)) (rl : List Int) (j : Nat) (h : j < rl.length) : pick cuts (rl.take (j + 1)) = pick cuts (rl.take j) ++ (if decide (rl[j] < (cuts.length : Int)) = true then [cuts.getD rl[j].toNat []] else []) := by
  unfold pick
  rw [List.take_succ_eq_append_getElem h, List.filter_append, List.map_append, filter_one, map_ite]
theorem pick_len (cuts : List (List Int)) (rl : List Int) : (pick cuts rl).length ≤ rl.length := by unfold pick; rw [List.length_map]; exact List.length_filter_le _ _
theorem selF_range (p : List Int → Bool) (t : List (List Int)) : ∀ k, k ≤ t.length → selF p (t.take k) = ((List.range k).filter fun i => p (t.getD i [])).map fun (i : Nat) => (i : Int)
  | 0, _ => by simp [selF]
  | k + 1, h => by
    rw [selF_succ p t k (by omega), selF_range p t k (by omega), List.range_succ, List.filter_append, List.map_append, filter_one, map_ite, getD_row (show k < t.length by omega)]
theorem range_filter_lt (p : Nat → Bool) (n : Nat) : ∀ r, (List.range (n + r)).filter (fun i => decide (i < n) && p i) = (List.range n).filter p
  | 0 => by
    refine List.filter_congr fun i hi => ?_
    have := List.mem_range.1 hi
    rw [decide_eq_true (show i < n by omega), Bool.true_and]
  | r + 1 => by
    rw [show n + (r + 1) = (n + r) + 1 by omega, List.range_succ, List.filter_append, range_filter_lt p n r, filter_one, decide_eq_false (show ¬ n + r < n by omega), Bool.false_and, if_neg (by simp), List.append_nil]
theorem pick_rowsFor {t cuts : List (List Int)} (d : Nat) (h : cuts.length ≤ t.length) : pick cuts (rowsForL t d) = keysFor t cuts d := by
  unfold rowsForL
  have e := selF_range (oneAt d) t t.length (Nat.le_refl _)
  rw [List.take_length] at e
  rw [e]
  unfold pick keysFor keysForN
  rw [List.filter_map, List.map_map, List.filter_filter]
  have h2 := range_filter_lt (fun i => oneAt d (t.getD i [])) cuts.length (t.length - cuts.length)
  rw [show cuts.length + (t.length - cuts.length) = t.length by omega] at h2
  rw [← h2]
  have e3 : ∀ i : Nat, (((fun x : Int => decide (x < (cuts.length : Int))) ∘ fun (i : Nat) => (i : Int)) i && oneAt d (t.getD i [])) = (decide (i < cuts.length) && oneAt d (t.getD i [])) := by
    intro i; simp
  rw [show (fun i : Nat => (((fun x : Int => decide (x < (cuts.length : Int))) ∘ fun (i : Nat) => (i : Int)) i && oneAt d (t.getD i []))) = fun i => (decide (i < cuts.length) && oneAt d (t.getD i [])) from funext e3]
  refine List.map_congr_left fun i _ => ?_
  simp
theorem rowsForL_nonneg {t : List (List Int)} {d : Nat} {j : Nat} (h : j < (rowsForL t d).length) : 0 ≤ (rowsForL t d)[j] := by
  have hm := List.getElem_mem h
  obtain ⟨x, _, hx⟩ := List.mem_map.1 (show (rowsForL t d)[j] ∈ (t.zipIdx.filter fun x => oneAt d x.1).map fun x => (x.2 : Int) from hm)
  omega
/-- the locks of the first n doors -/
def locksN (m : Mk) (t cuts : List (List Int)) (n : Nat) : List (List (List Int)) := (List.range n).map fun d => hullF m.c.toNat m.d.toNat (keysFor t cuts d)
def locksF (m : Mk) (t cuts : List (List Int)) : List (List (List Int)) := locksN m t cuts (t.headD []).length
theorem locksN_succ (m : Mk) (t cuts : List (List Int)) (n : Nat) : locksN m t cuts (n + 1) = locksN m t cuts n ++ [hullF m.c.toNat m.d.toNat (keysFor t cuts n)] := by
  unfold locksN; rw [List.range_succ, List.map_append]; rfl
theorem locksN_len (m : Mk) (t cuts : List (List Int)) (n : Nat) : (locksN m t cuts n).length = n := by simp [locksN]
theorem locksF_len (m : Mk) (t cuts : List (List Int)) : (locksF m t cuts).length = (t.headD []).length := locksN_len m t cuts _
theorem locksF_at {m : Mk} {t cuts : List (List Int)} {d : Nat} (h : d < (locksF m t cuts).length) : (locksF m t cuts)[d] = hullF m.c.toNat m.d.toNat (keysFor t cuts d) := by simp [locksF, locksN]
/-- a false opening -/
def isFault (t cuts : List (List Int)) (ls : List (List (List Int))) (k d : Nat) : Bool := (t.getD k []).getD d 0 == 0 && opensL (ls.getD d []) (cuts.getD k [])
def faultRow (t cuts : List (List Int)) (ls : List (List (List Int))) (k n : Nat) : List (List Int) := ((List.range n).filter (isFault t cuts ls k)).map fun (d : Nat) => [(k : Int), (d : Int)]
def faultsN (t cuts : List (List Int)) (ls : List (List (List Int))) (n : Nat) : List (List Int) := (List.range n).flatMap fun k => faultRow t cuts ls k ls.length
def faultsF (m : Mk) (t cuts : List (List Int)) : List (List Int) := faultsN t cuts (locksF m t cuts) cuts.length
theorem faultRow_succ (t cuts : List (List Int)) (ls : List (List (List Int))) (k n : Nat) : faultRow t cuts ls k (n + 1) = faultRow t cuts ls k n ++ (if isFault t cuts ls k n = true then [[(k : Int), (n : Int)]] else []) := by
  unfold faultRow
  rw [List.range_succ, List.filter_append, List.map_append, filter_one, map_ite]
theorem faultRow_len (t cuts : List (List Int)) (ls : List (List (List Int))) (k n : Nat) : (faultRow t cuts ls k n).length ≤ n := by
  unfold faultRow; rw [List.length_map]; have := List.length_filter_le (isFault t cuts ls k) (List.range n); simpa using this
theorem faultsN_succ (t cuts : List (List Int)) (ls : List (List (List Int))) (n : Nat) : faultsN t cuts ls (n + 1) = faultsN t cuts ls n ++ faultRow t cuts ls n ls.length := by
  unfold faultsN; rw [List.range_succ, List.flatMap_append]; simp
theorem faultsN_len (t cuts : List (List Int)) (ls : List (List (List Int))) : ∀ n, (faultsN t cuts ls n).length ≤ n * ls.length
  | 0 => by simp [faultsN]
  | n + 1 => by
    rw [faultsN_succ, List.length_append]
    have h1 := faultsN_len t cuts ls n
    have h2 := faultRow_len t cuts ls n ls.length
    rw [Nat.succ_mul]; omega
theorem isFault_in {t cuts : List (List Int)} {ls : List (List (List Int))} {k d : Nat} (hk : k < t.length) (hd : d < t[k].length) (hc : k < cuts.length) (hl : d < ls.length) : isFault t cuts ls k d = (t[k][d] == 0 && opensL ls[d] cuts[k]) := by
  unfold isFault
  rw [getD_row hk, getD_in hd, getD_row hc]
  rw [show ls.getD d [] = ls[d] by simp [List.getD, List.getElem?_eq_getElem hl]]
end Go.Proofs.YtdedajohkdbdkaaGreatDoor

/- Contracts of partLocks (of the program), l15Lock and l15Locks (of the reference). -/
namespace Go.Proofs.YtdedajohkdbdkaaGreatDoor
set_option linter.unusedVariables false
open Go.RowKit
/-- what holds of a system and partial cuts behind the test of their code -/
structure PartOK (m : Mk) (t cuts : List (List Int)) : Prop where
  mak : isMaker m = true
  t1 : 1 ≤ t.length
  t10 : t.length ≤ 10
  row : ∀ k (hk : k < t.length), t[k].length = (t.headD []).length ∧ 1 ≤ t[k].length ∧ t[k].length ≤ 12
  le : cuts.length ≤ t.length
  keys : ∀ k (hk : k < cuts.length), isKey m cuts[k] = true
theorem PartOK.cuts {m : Mk} {t cuts : List (List Int)} (h : PartOK m t cuts) {ks : List (List Int)} (hs : ∀ k ∈ ks, k ∈ cuts) : allCuts m ks := by
  intro k hk
  have h1 := hs _ (List.getElem_mem hk)
  obtain ⟨j, hj, e⟩ := List.getElem_of_mem h1
  have h2 := h.keys j hj
  rw [e] at h2
  have h3 := fault_zero_iff.1 (show fault m ks[k] = 0 by simpa [isKey] using h2)
  exact ⟨h3.1, h3.2.1⟩
theorem PartOK.width {m : Mk} {t cuts : List (List Int)} (h : PartOK m t cuts) {k j : Nat} (hk : k < t.length) (hj : j < t.length) : t[k].length = t[j].length := by rw [(h.row k hk).1, (h.row j hj).1]
theorem PartOK.head {m : Mk} {t cuts : List (List Int)} (h : PartOK m t cuts) {k : Nat} (hk : k < t.length) : (t.headD []).length = t[k].length := (h.row k hk).1.symm
set_option maxRecDepth 100000 in
set_option maxHeartbeats 8000000 in
theorem partLocks_any (m : Mk) (A : Option Addr) (c : Nat) (t : List (List Int)) (B : Option Addr) (d : Nat) (cuts : List (List Int)) (w : World) (h : RII w A t) (g : RII w B cuts) (hp : PartOK m t cuts) :
    Calls Tryz.prog 19 #[.agg #[.int .i64 m.c, .int .i64 m.d, .int .i64 m.s, .int .i64 m.a, .int .i64 m.l, .slice A t.length c], .slice B cuts.length d] w (ResLS w (locksF m t cuts)) := by
  have t1 := hp.t1
  have t10 := hp.t10
  have hle := hp.le
  have h0 : 0 < t.length := by omega
  have ht0 : t[0].length ≤ 12 := (hp.row 0 h0).2.2
  have HL := Lib.hid (show locksF m t cuts = locksN m t cuts t[0].length by unfold locksF; rw [hp.head h0])
  have HP := Lib.hid hp
  obtain ⟨w0, hw0⟩ : ∃ w0, w0 = w.alloc (.cells #[.int .i64 m.c, .int .i64 m.d, .int .i64 m.s, .int .i64 m.a, .int .i64 m.l, .slice A t.length c] 28) := ⟨_, rfl⟩
  have B0 : Below w.heap.size w w0 := by rw [hw0]; exact (Below.refl w.heap.size w).alloc (Nat.le_refl _) _
  have hz0 : w0.heap.size = w.heap.size + 1 := by rw [hw0]; simp
  have bx : BoxC w0 w.heap.size 0 [.int .i64 m.c, .int .i64 m.d, .int .i64 m.s, .int .i64 m.a, .int .i64 m.l, .slice A t.length c] := by rw [hw0]; simp [BoxC, Go.World.cell?_alloc_at]
  have HBX := Lib.hid bx
  obtain ⟨b, o, A', c', rfl, hc0, hcc, hr⟩ := h.at_ h0
  simp only [Nat.add_zero] at hc0
  have hrl := hr.le
  have hbw : b < w.heap.size := World.block_lt_of_cell? w _ hc0
  have hbw1 : b < w.heap.size + 1 := by omega
  clear hp bx
  go_enter Tryz.func19, Tryz.ntmps19
  go_wp2_with fail
  clear hc0
  rw [← hw0]
  clear hw0
  go_loopw [5, 6, 7, 9, 16] (fun v _ _ _ i wr => ∃ (k : Nat) (v0 : Value), k ≤ t[0].length ∧ i = .int .i64 k ∧ v = v0 ∧ OLS wr (w.heap.size + 1) wr.heap.size v0 (locksN m t cuts k) ∧ Below (w.heap.size + 1) w0 wr) (fun _ _ _ _ i _ => t[0].length - (intOf i).toNat)
  case atStart => exact ⟨0, _, by omega, rfl, rfl, by simpa [locksN, hz0] using (OLS.new0 (w := w0) (B := w.heap.size + 1) (by omega)).wide (Nat.le_refl _) (show w0.heap.size + 1 ≤ (w0.alloc (.cells #[] 41)).heap.size by simp), (Below.refl _ _).alloc (by omega) _⟩
  case round =>
    obtain ⟨k, v0, hk, rfl, rfl, ho, hb⟩ := hrel
    have HO := Lib.hid ho
    clear ho
    have hsz := hb.size
    have hws : w.heap.size < wr.heap.size := by omega
    have Bw := B0.trans (hb.mono (by omega))
    obtain ⟨q0, q1, q2, q3, q4, q5, _⟩ := HBX.out.keep fun i v hv => cell_in hb (by simp only; omega) hv
    by_cases hlt : k < t[0].length
    · obtain ⟨wo, rfl⟩ : ∃ wo : World, wo = wr := ⟨_, rfl⟩
      have HS := Lib.hid (locksN_succ m t cuts k)
      have HKL := Lib.hid (keysFor_len t cuts k)
      have HQ := Lib.hid (show ∀ w' : World, Below wo.heap.size wo w' → BoxC w' w.heap.size 0 [.int .i64 m.c, .int .i64 m.d, .int .i64 m.s, .int .i64 m.a, .int .i64 m.l, .slice (some ⟨b, o, none⟩) t.length c] from fun w' hw => (HBX.out.keep fun i v hv => cell_in hb (by simp only; omega) hv).below hw)
      obtain ⟨rl, hrlE⟩ : ∃ rl, rl = rowsForL t k := ⟨_, rfl⟩
      have HPK := Lib.hid (show pick cuts rl = keysFor t cuts k by rw [hrlE]; exact pick_rowsFor k HP.out.le)
      have HNN := Lib.hid (show ∀ j (hj : j < rl.length), 0 ≤ rl[j] by subst hrlE; exact fun j hj => rowsForL_nonneg hj)
      have HRF := fun W (hW : Below w.heap.size w W) => rowsFor_any m (some ⟨b, o, none⟩) c t k W (h.below hW) (fun j hj => by rw [HP.out.width hj h0]; exact hlt) (by omega)
      rw [← hrlE] at HRF
      have HRLL := Lib.hid (show rl.length ≤ 10 by rw [hrlE]; exact Nat.le_trans (selF_len (oneAt k) t) t10)
      have HR := Lib.hid HRF
      clear HRF hrlE
      go_wp2_with fail
      refine (HR.out _ (Bw.alloc (by omega) _)).mono ?_
      rintro e w2 ⟨A2, c2, rfl, hc2, r2, o2, b2⟩
      have hb2 : Below wo.heap.size wo w2 := ((Below.refl _ _).alloc (Nat.le_refl _) _).trans (b2.mono (by simp))
      have hov := (OV.new0 (w := wo) (B := wo.heap.size) (e := 44) (Nat.le_refl _)).below' b2
      have HOV := Lib.hid hov; have HR2 := Lib.hid (show OI w2 (wo.heap.size + 1) w2.heap.size (.slice A2 rl.length c2) rl by simpa using o2); have HB2 := Lib.hid hb2
      have hrl10 := HRLL.out
      clear hov o2 b2 r2 hb2 q0 q1 q2 q3 q4 q5
      go_wp2_with fail
      go_loopw [7, 9, 24] (fun u _ j wx => ∃ (n : Nat) (u0 : Value) (us : List Value), n ≤ rl.length ∧ j = .int .i64 n ∧ u = u0 ∧ OV wx wo.heap.size 44 u0 us ∧ RowsW w us (pick cuts (rl.take n)) ∧ Below wo.heap.size wo wx ∧ OI wx (wo.heap.size + 1) w2.heap.size (.slice A2 rl.length c2) rl ∧ w2.heap.size ≤ wx.heap.size ∧ ∀ g, u0.ownBlock = some g → g < wo.heap.size + 1 ∨ w2.heap.size ≤ g) (fun _ _ j _ => rl.length - (intOf j).toNat)
      case atStart => exact ⟨0, _, [], by omega, rfl, rfl, HOV.out, RowsW.nil, HB2.out, HR2.out, Nat.le_refl _, fun g hg => by simp [Value.ownBlock] at hg; omega⟩
      case round =>
        obtain ⟨n, u0, us, hn, rfl, rfl, ho2, hrw, hb2, hoR, hs2', hug⟩ := hrel
        have HO2 := Lib.hid ho2; have HRW := Lib.hid hrw
        have hus : us.length ≤ 10 := by rw [hrw.1]; have := pick_len cuts (rl.take n); rw [List.length_take] at this; omega
        have Bx := Bw.trans (hb2.mono (by omega))
        have hs2 := hb2.size
        have HUG := Lib.hid hug
        clear ho2 hrw hug
        by_cases hlt2 : n < rl.length
        · obtain ⟨bR, oR, rfl, hcR⟩ := (OI.ri hoR).at_ hlt2
          have hnn := HNN.out n hlt2
          obtain ⟨x, hx⟩ : ∃ x : Nat, rl[n] = (x : Int) := ⟨rl[n].toNat, by omega⟩
          have HSS := Lib.hid (pick_succ cuts rl n hlt2)
          rw [hx] at hcR HSS
          clear hnn
          by_cases hxc : x < cuts.length
          · have hxd : ((x : Int) < (cuts.length : Int)) := by omega
            have HSP := Lib.hid (show pick cuts (rl.take (n + 1)) = pick cuts (rl.take n) ++ [cuts[x]] by rw [HSS.out, if_pos (decide_eq_true hxd), Int.toNat_natCast, getD_row hxc])
            obtain ⟨bC, oC, AC, cC, rfl, hcC, hccC, hrC⟩ := g.at_ hxc
            have hcC' := cell_in Bx (World.block_lt_of_cell? w _ hcC) hcC
            have hgl := g.le
            have HRC := Lib.hid hrC
            have HXX := Lib.hid hx
            clear hcC hrC hx
            go_wp2_with (at_builtin; refine wpList_app1 _ rfl _ _ _ rfl wo.heap.size 44 _ 24 Tryz.underlying26 info_sl rfl (by omega) _ us rfl (HO2.out.alloc _) _ _ rfl (one_cell _ _ _) rfl (by omega) (by simp; omega) ?_; intro v' w5 ho5 hg5 hn5 hat5)
            have hb5 := (HO2.out.alloc (.cells #[.slice AC cuts[x].length cC] 44)).own (Nat.le_refl _) (hb2.alloc (by omega) _) hg5 (by simp; omega)
            have hoR5 : OI w5 (wo.heap.size + 1) w2.heap.size (.slice (some ⟨bR, oR, none⟩) rl.length c2) rl := hoR.keep fun g hg1 hg2 => (hg5.block g (by simp; omega) (fun e => by have := HUG.out g e.symm; omega)).trans (Below.heap_alloc wr _ g (by omega))
            have hug5 : ∀ g, v'.ownBlock = some g → g < wo.heap.size + 1 ∨ w2.heap.size ≤ g := fun g hg => by
              rcases hat5 with e | e
              · exact HUG.out g (e.symm.trans hg)
              · rw [hg] at e; injection e with e; simp at e; omega
            have hs5 : w2.heap.size ≤ w5.heap.size := by have := hg5.size; simp at this; omega
            go_roundw
            case rel => exact ⟨n + 1, v', us ++ [.slice AC cuts[x].length cC], by omega, by go_num, rfl, ho5, by rw [HSP.out]; exact HRW.out.snoc hccC HRC.out, hb5, hoR5, hs5, hug5⟩
            case measure => simp [intOf]; omega
          · have hxd : ¬ ((x : Int) < (cuts.length : Int)) := by omega
            have HSP := Lib.hid (show pick cuts (rl.take (n + 1)) = pick cuts (rl.take n) by rw [HSS.out, if_neg (by simpa using hxd), List.append_nil])
            have HXX := Lib.hid hx
            clear hx
            go_wp2_with fail
            go_roundw
            case rel => exact ⟨n + 1, _, us, by omega, by go_num, rfl, HO2.out, by rw [HSP.out]; exact HRW.out, hb2, hoR, hs2', HUG.out⟩
            case measure => simp [intOf]; omega
        · obtain rfl : n = rl.length := by omega
          have hrr := HRW.out
          rw [List.take_length, HPK.out] at hrr
          obtain ⟨ks, hks⟩ : ∃ ks, ks = keysFor t cuts k := ⟨_, rfl⟩
          rw [← hks] at hrr HS
          have HKL2 := Lib.hid (show ks.length ≤ 10 by rw [hks]; exact Nat.le_trans HKL.out (by omega))
          have HAC := Lib.hid (show allCuts m ks by rw [hks]; exact HP.out.cuts fun x hx => mem_keysFor hx)
          obtain ⟨A7, c7, hv7, hc7, hr7⟩ := HO2.out.reads
          have hul := hrr.1
          rw [hul] at hv7
          subst hv7
          have HHU := Lib.hid (hullOf_any m A7 c7 ks wr (hrr.rii Bx hr7) HP.out.mak HAC.out (by have := HKL2.out; omega))
          obtain ⟨l, hl⟩ : ∃ l, l = hullF m.c.toNat m.d.toNat ks := ⟨_, rfl⟩
          rw [← hl] at HHU HS
          obtain ⟨q0, q1, q2, q3, q4, q5, _⟩ := HQ.out _ hb2
          clear hl hks hr7 hrr hul HO2 HRW hoR HUG
          go_wp2_with fail
          refine HHU.out.mono ?_
          rintro e w3 ⟨A3, c3, rfl, hc3, r3, o3, b3⟩
          have hb3 : Below wo.heap.size wo w3 := hb2.trans (b3.mono hs2)
          obtain ⟨usL, f, hf⟩ := HO.out.below hb3
          have hul : usL.length ≤ 12 := by rw [hf.1, locksN_len]; omega
          have HF := Lib.hid hf
          have HO3 := Lib.hid (o3.wide hs2 (Nat.le_refl _))
          have hs3 := b3.size
          have hs3' : wo.heap.size ≤ w3.heap.size := by omega
          clear hf r3 o3 b3 q0 q1 q2 q3 q4 q5
          go_wp2_with (at_builtin; refine wpList_app1 _ rfl _ _ _ rfl (w.heap.size + 1) 41 _ 24 Tryz.underlying31 info_lock rfl (by omega) _ usL rfl (HF.out.2.1.1.alloc _) _ _ rfl (one_cell _ _ _) rfl (by omega) (by simp; omega) ?_; intro v' w5 ho5 hg5 hn5 hat5)
          have HN := Lib.hid (HF.out.push1 HO3.out (by omega) hs3' (Nat.le_refl _) hs3' ho5 hg5 hat5)
          have HB5 := Lib.hid ((HF.out.2.1.1.alloc (.cells #[.slice A3 l.length c3] 41)).own (Nat.le_refl _) ((hb.trans (hb3.mono (by omega))).alloc (by omega) _) hg5 (by simp; omega))
          clear ho5 hg5 hn5 hat5
          go_roundw
          case rel => exact ⟨k + 1, v', by omega, by go_num, rfl, by rw [HS.out]; exact HN.out, HB5.out⟩
          case measure => simp [intOf]; omega
    · obtain rfl : k = t[0].length := by omega
      obtain ⟨A9, c9, hv9, hc9, hr9⟩ := HO.out.reads
      have hl9 := locksN_len m t cuts t[0].length
      have HWW := Lib.hid (HO.out.wide (show w.heap.size ≤ w.heap.size + 1 by omega) (Nat.le_refl _))
      have HBB := Lib.hid Bw
      clear hv9
      go_wp2_with fail
      go_ret
      obtain ⟨A9, c9, hv9, hc9, hr9⟩ := HWW.out.reads
      have ho9 := HWW.out
      subst hv9
      rw [HL.out]
      exact ⟨A9, c9, rfl, hc9, hr9, ho9, HBB.out⟩
end Go.Proofs.YtdedajohkdbdkaaGreatDoor

/- Contracts of l15Lock and l15Locks (of the reference). -/
namespace Go.Proofs.YtdedajohkdbdkaaGreatDoor
set_option linter.unusedVariables false
open Go.RowKit
set_option maxRecDepth 100000 in
set_option maxHeartbeats 8000000 in
theorem l15Lock_any (m : Mk) (A : Option Addr) (c : Nat) (t : List (List Int)) (B : Option Addr) (d : Nat) (cuts : List (List Int)) (dd : Nat) (w : World) (h : RII w A t) (g : RII w B cuts) (hp : PartOK m t cuts) (hdd : dd < (t.headD []).length) :
    Calls Tryz.prog 43 #[.agg #[.int .i64 m.c, .int .i64 m.d, .int .i64 m.s, .int .i64 m.a, .int .i64 m.l, .slice A t.length c], .slice B cuts.length d, .int .i64 (dd : Int)] w (ResL w (hullF m.c.toNat m.d.toNat (keysFor t cuts dd))) := by
  have t10 := hp.t10
  have hle := hp.le
  have HDD := Lib.hid (show ∀ k (hk : k < t.length), dd < t[k].length from fun k hk => by rw [(hp.row k hk).1]; exact hdd)
  have HP := Lib.hid hp
  obtain ⟨w0, hw0⟩ : ∃ w0, w0 = (w.alloc (.cells #[.int .i64 m.c, .int .i64 m.d, .int .i64 m.s, .int .i64 m.a, .int .i64 m.l, .slice A t.length c] 28)).alloc (.cells #[.slice none 0 0] 41) := ⟨_, rfl⟩
  have B0 : Below w.heap.size w w0 := by rw [hw0]; exact ((Below.refl w.heap.size w).alloc (Nat.le_refl _) _).alloc (by simp only [World.size_alloc]; omega) _
  have hz0 : w0.heap.size = w.heap.size + 2 := by rw [hw0]; simp
  have bx : BoxC w0 w.heap.size 0 [.int .i64 m.c, .int .i64 m.d, .int .i64 m.s, .int .i64 m.a, .int .i64 m.l, .slice A t.length c] := by
    have : BoxC (w.alloc (.cells #[.int .i64 m.c, .int .i64 m.d, .int .i64 m.s, .int .i64 m.a, .int .i64 m.l, .slice A t.length c] 28)) w.heap.size 0 [.int .i64 m.c, .int .i64 m.d, .int .i64 m.s, .int .i64 m.a, .int .i64 m.l, .slice A t.length c] := by simp [BoxC, Go.World.cell?_alloc_at]
    rw [hw0]; exact this.below ((Below.refl _ _).alloc (Nat.le_refl _) _)
  have bk : w0.heap[w.heap.size + 1]? = some (.cells #[.slice none 0 0] 41 (0, 0)) := by
    have := heap_alloc_new (w.alloc (.cells #[.int .i64 m.c, .int .i64 m.d, .int .i64 m.s, .int .i64 m.a, .int .i64 m.l, .slice A t.length c] 28)) (.cells #[.slice none 0 0] 41)
    rw [hw0]; simpa using this
  have HBX := Lib.hid bx; have HBK := Lib.hid bk
  have hgl := g.le
  have htl := h.le
  clear hp bx bk hdd
  go_enter Tryz.func43, Tryz.ntmps43
  go_wp2_with fail
  rw [← hw0]
  clear hw0
  go_loopw [7, 8] (fun u i wx => ∃ (n : Nat) (u0 : Value) (us : List Value), n ≤ cuts.length ∧ i = .int .i64 n ∧ u = u0 ∧ OV wx (w.heap.size + 2) 44 u0 us ∧ RowsW w us (keysForN t cuts dd n) ∧ Below (w.heap.size + 2) w0 wx) (fun _ i _ => cuts.length - (intOf i).toNat)
  case atStart => exact ⟨0, _, [], by omega, rfl, rfl, by simpa [hz0] using OV.new0 (w := w0) (B := w.heap.size + 2) (e := 44) (by omega), RowsW.nil, (Below.refl _ _).alloc (by omega) _⟩
  case round =>
    obtain ⟨n, u0, us, hn, rfl, rfl, ho2, hrw, hb⟩ := hrel
    have hus : us.length ≤ 10 := by rw [hrw.1]; have := keysForN_len t cuts dd n; omega
    have hsz := hb.size
    have Bw := B0.trans (hb.mono (by omega))
    have hws : w.heap.size < wr.heap.size := by omega
    have hws1 : w.heap.size + 1 < wr.heap.size := by omega
    obtain ⟨q0, q1, q2, q3, q4, q5, _⟩ := HBX.out.keep fun i v hv => cell_in hb (by simp only; omega) hv
    have HO2 := Lib.hid ho2; have HRW := Lib.hid hrw
    clear ho2 hrw
    by_cases hlt : n < cuts.length
    · obtain ⟨bT, oT, AT, cT, rfl, hcT, hccT, hrT⟩ := (h.below Bw).at_ (show n < t.length by omega)
      have hdn := HDD.out n (by omega)
      obtain ⟨bR, oR, rfl, hcR⟩ := hrT.at_ hdn
      have hlR := hrT.le
      have hdi : ((dd : Int) < (t[n].length : Int)) := by omega
      have HSS := Lib.hid (show keysForN t cuts dd (n + 1) = keysForN t cuts dd n ++ (if (t[n][dd] == 1) = true then [cuts[n]] else []) by
        rw [keysForN_succ, getD_row (show n < t.length by omega), getD_row hlt, oneAt_in hdn])
      obtain ⟨y, hy⟩ : ∃ y, y = t[n][dd] := ⟨_, rfl⟩
      rw [← hy] at hcR HSS
      clear hy hrT
      cases hq : (y == 1) with
      | true =>
        have HSP := Lib.hid (show keysForN t cuts dd (n + 1) = keysForN t cuts dd n ++ [cuts[n]] by rw [HSS.out, hq, if_pos rfl])
        obtain ⟨bC, oC, AC, cC, rfl, hcC, hccC, hrC⟩ := g.at_ hlt
        have hcC' := cell_in Bw (World.block_lt_of_cell? w _ hcC) hcC
        have HRC := Lib.hid hrC
        clear hcC hrC
        go_wp2_with (at_builtin; refine wpList_app1 _ rfl _ _ _ rfl (w.heap.size + 2) 44 _ 24 Tryz.underlying26 info_sl rfl (by omega) _ us rfl (HO2.out.alloc _) _ _ rfl (one_cell _ _ _) rfl (by omega) (by simp; omega) ?_; intro v' w5 ho5 hg5 hn5 hat5)
        have hb5 := (HO2.out.alloc (.cells #[.slice AC cuts[n].length cC] 44)).own (Nat.le_refl _) (hb.alloc (by omega) _) hg5 (by simp; omega)
        go_roundw
        case rel => exact ⟨n + 1, v', us ++ [.slice AC cuts[n].length cC], by omega, by go_num, rfl, ho5, by rw [HSP.out]; exact HRW.out.snoc hccC HRC.out, hb5⟩
        case measure => simp [intOf]; omega
      | false =>
        have HSP := Lib.hid (show keysForN t cuts dd (n + 1) = keysForN t cuts dd n by rw [HSS.out, hq]; simp)
        go_wp2_with fail
        go_roundw
        case rel => exact ⟨n + 1, _, us, by omega, by go_num, rfl, HO2.out, by rw [HSP.out]; exact HRW.out, hb⟩
        case measure => simp [intOf]; omega
    · obtain rfl : n = cuts.length := by omega
      have hrr := HRW.out
      obtain ⟨ks, hks⟩ : ∃ ks, ks = keysFor t cuts dd := ⟨_, rfl⟩
      rw [show keysForN t cuts dd cuts.length = ks from hks.symm] at hrr
      have HAC := Lib.hid (show allCuts m ks by rw [hks]; exact HP.out.cuts fun x hx => mem_keysFor hx)
      obtain ⟨A7, c7, hv7, hc7, hr7⟩ := HO2.out.reads
      have hul := hrr.1
      rw [hul] at hv7
      subst hv7
      have hkl : ks.length ≤ 1048576 := by omega
      have HHU := Lib.hid (l04Hull_any m A7 c7 ks wr (hrr.rii Bw hr7) HP.out.mak HAC.out hkl)
      obtain ⟨l, hl⟩ : ∃ l, l = hullF m.c.toNat m.d.toNat ks := ⟨_, rfl⟩
      have HEQ := Lib.hid (show hullF m.c.toNat m.d.toNat (keysFor t cuts dd) = l by rw [hl, hks])
      rw [← hl] at HHU
      have lb := (hb.block (w.heap.size + 1) (by omega)).trans HBK.out
      have hB2 := Lib.hid Bw
      clear hl hks hr7 hrr hul HO2 HRW
      go_wp2_with fail
      refine HHU.out.mono ?_
      rintro e w3 ⟨A3, c3, rfl, hc3, r3, o3, b3⟩
      have lb3 := (b3.block (w.heap.size + 1) (by omega)).trans lb
      have l0 : w3.cell? ⟨w.heap.size + 1, 0, none⟩ = some (.slice none 0 0) := by simp [World.cell?, lb3]
      have l1 : w3.frozen? ⟨w.heap.size + 1, 0, none⟩ = false := by simp [World.frozen?, lb3]
      have HO3 := Lib.hid o3; have HB3 := Lib.hid (hB2.out.trans (b3.mono hB2.out.size))
      clear r3 o3 b3 lb q0 q1 q2 q3 q4 q5
      go_wp2_with fail
      (try simp only [Exit.inBlock, Exit.then])
      refine bodyPost_ret (results_cell_row rfl _ _ (w.heap.size + 1) 41 #[.slice A3 l.length c3] (0, 0) _ (by rfl) (by simp [World.setCell, Array.getElem?_modify, lb3]) Tryz.underlying41 rfl (by kernel_rfl)) rfl ?_
      have ho9 := (HO3.out.setLow (p := ⟨w.heap.size + 1, 0, none⟩) (u := .slice A3 l.length c3) (by simp only; omega)).wide (B' := w.heap.size) (C' := (w3.setCell ⟨w.heap.size + 1, 0, none⟩ (.slice A3 l.length c3)).heap.size) (by omega) (by simp)
      rw [HEQ.out]
      exact ⟨A3, c3, rfl, hc3, ho9.rii, ho9, HB3.out.setCell (by simp only; omega) _⟩
set_option maxRecDepth 100000 in
set_option maxHeartbeats 8000000 in
theorem l15Locks_any (m : Mk) (A : Option Addr) (c : Nat) (t : List (List Int)) (B : Option Addr) (d : Nat) (cuts : List (List Int)) (w : World) (h : RII w A t) (g : RII w B cuts) (hp : PartOK m t cuts) :
    Calls Tryz.prog 21 #[.agg #[.int .i64 m.c, .int .i64 m.d, .int .i64 m.s, .int .i64 m.a, .int .i64 m.l, .slice A t.length c], .slice B cuts.length d] w (ResLS w (locksF m t cuts)) := by
  have t1 := hp.t1
  have h0 : 0 < t.length := by omega
  have ht0 : t[0].length ≤ 12 := (hp.row 0 h0).2.2
  have HL := Lib.hid (show locksF m t cuts = locksN m t cuts t[0].length by unfold locksF; rw [hp.head h0])
  have HP := Lib.hid hp
  obtain ⟨w0, hw0⟩ : ∃ w0, w0 = w.alloc (.cells #[.int .i64 m.c, .int .i64 m.d, .int .i64 m.s, .int .i64 m.a, .int .i64 m.l, .slice A t.length c] 28) := ⟨_, rfl⟩
  have B0 : Below w.heap.size w w0 := by rw [hw0]; exact (Below.refl w.heap.size w).alloc (Nat.le_refl _) _
  have hz0 : w0.heap.size = w.heap.size + 1 := by rw [hw0]; simp
  have bx : BoxC w0 w.heap.size 0 [.int .i64 m.c, .int .i64 m.d, .int .i64 m.s, .int .i64 m.a, .int .i64 m.l, .slice A t.length c] := by rw [hw0]; simp [BoxC, Go.World.cell?_alloc_at]
  have HBX := Lib.hid bx
  clear hp bx
  go_enter Tryz.func21, Tryz.ntmps21
  go_wp2_with fail
  rw [← hw0]
  clear hw0
  go_loopw [5, 6] (fun v i wr => ∃ (k : Nat) (v0 : Value), k ≤ t[0].length ∧ i = .int .i64 k ∧ v = v0 ∧ OLS wr (w.heap.size + 1) wr.heap.size v0 (locksN m t cuts k) ∧ Below (w.heap.size + 1) w0 wr) (fun _ i _ => t[0].length - (intOf i).toNat)
  case atStart => exact ⟨0, _, by omega, rfl, rfl, by simpa [locksN, hz0] using (OLS.new0 (w := w0) (B := w.heap.size + 1) (by omega)).wide (Nat.le_refl _) (show w0.heap.size + 1 ≤ (w0.alloc (.cells #[] 41)).heap.size by simp), (Below.refl _ _).alloc (by omega) _⟩
  case round =>
    obtain ⟨k, v0, hk, rfl, rfl, ho, hb⟩ := hrel
    have HO := Lib.hid ho
    clear ho
    have hsz := hb.size
    have hws : w.heap.size < wr.heap.size := by omega
    have Bw := B0.trans (hb.mono (by omega))
    obtain ⟨q0, q1, q2, q3, q4, q5, _⟩ := HBX.out.keep fun i v hv => cell_in hb (by simp only; omega) hv
    obtain ⟨b, o, A', c', rfl, hc0, hcc, hr⟩ := (h.below Bw).at_ h0
    simp only [Nat.add_zero] at hc0
    have hrl := hr.le
    by_cases hlt : k < t[0].length
    · have HS := Lib.hid (locksN_succ m t cuts k)
      have HHU := Lib.hid (fun W (hW : Below w.heap.size w W) => l15Lock_any m (some ⟨b, o, none⟩) c t B d cuts k W (h.below hW) (g.below hW) HP.out (by rw [HP.out.head h0]; exact hlt))
      obtain ⟨l, hl⟩ : ∃ l, l = hullF m.c.toNat m.d.toNat (keysFor t cuts k) := ⟨_, rfl⟩
      rw [← hl] at HHU HS
      clear hl
      go_wp2_with fail
      refine (HHU.out _ Bw).mono ?_
      rintro e w3 ⟨A3, c3, rfl, hc3, r3, o3, b3⟩
      obtain ⟨usL, f, hf⟩ := HO.out.below b3
      have hul : usL.length ≤ 12 := by rw [hf.1, locksN_len]; omega
      have HF := Lib.hid hf
      have HO3 := Lib.hid o3
      have hs3 := b3.size
      have HB3 := Lib.hid b3
      clear hf r3 o3 b3 q0 q1 q2 q3 q4 q5 hc0
      go_wp2_with (at_builtin; refine wpList_app1 _ rfl _ _ _ rfl (w.heap.size + 1) 41 _ 24 Tryz.underlying31 info_lock rfl (by omega) _ usL rfl (HF.out.2.1.1.alloc _) _ _ rfl (one_cell _ _ _) rfl (by omega) (by simp; omega) ?_; intro v' w5 ho5 hg5 hn5 hat5)
      have HN := Lib.hid (HF.out.push1 HO3.out (by omega) hs3 (Nat.le_refl _) hs3 ho5 hg5 hat5)
      have HB5 := Lib.hid ((HF.out.2.1.1.alloc (.cells #[.slice A3 l.length c3] 41)).own (Nat.le_refl _) ((hb.trans (HB3.out.mono (by omega))).alloc (by omega) _) hg5 (by simp; omega))
      clear ho5 hg5 hn5 hat5
      go_roundw
      case rel => exact ⟨k + 1, v', by omega, by go_num, rfl, by rw [HS.out]; exact HN.out, HB5.out⟩
      case measure => simp [intOf]; omega
    · obtain rfl : k = t[0].length := by omega
      have HWW := Lib.hid (HO.out.wide (show w.heap.size ≤ w.heap.size + 1 by omega) (Nat.le_refl _))
      have HBB := Lib.hid Bw
      go_wp2_with fail
      go_ret
      obtain ⟨A9, c9, hv9, hc9, hr9⟩ := HWW.out.reads
      have ho9 := HWW.out
      subst hv9
      rw [HL.out]
      exact ⟨A9, c9, rfl, hc9, hr9, ho9, HBB.out⟩
end Go.Proofs.YtdedajohkdbdkaaGreatDoor

/- Contracts of partFaults (of the program). -/
namespace Go.Proofs.YtdedajohkdbdkaaGreatDoor
set_option linter.unusedVariables false
open Go.RowKit
/-- The state of the collection of false openings: the list v0, the locks, what lies below. -/
structure FaultSt (N0 N2 : Nat) (w0 : World) (AL : Option Addr) (cL : Nat) (ls : List (List (List Int))) (wr : World) (v0 : Value) (xss : List (List Int)) : Prop where
  own : OII wr N0 wr.heap.size v0 xss
  loc : OLS wr (N0 + 1) N2 (.slice AL ls.length cL) ls
  le : N2 ≤ wr.heap.size
  bk : ∀ g, v0.ownBlock = some g → g < N0 + 1 ∨ N2 ≤ g
  bel : Below N0 w0 wr
theorem FaultSt.next {N0 N2 : Nat} {w0 wr w' : World} {AL : Option Addr} {cL : Nat} {ls : List (List (List Int))} {v0 : Value} {xss : List (List Int)} (h : FaultSt N0 N2 w0 AL cL ls wr v0 xss) (h2 : N0 ≤ N2) (hb : Below wr.heap.size wr w') : FaultSt N0 N2 w0 AL cL ls w' v0 xss :=
  ⟨(h.own.below hb).wide (Nat.le_refl _) hb.size, h.loc.below (hb.mono h.le), Nat.le_trans h.le hb.size, h.bk, h.bel.trans (hb.mono (Nat.le_trans h2 h.le))⟩
/-- One more pair. -/
theorem FaultSt.push {N0 N2 : Nat} {w0 wr w' : World} {AL : Option Addr} {cL : Nat} {ls : List (List (List Int))} {v0 v' : Value} {us : List Value} {xss : List (List Int)} {k d : Int} (h : FaultSt N0 N2 w0 AL cL ls wr v0 xss) (h2 : N0 + 1 ≤ N2)
    (h1 : us.length = xss.length) (k2 : OR wr N0 wr.heap.size 44 v0 us) (k3 : ∀ j (hj : j < xss.length), ∃ u, us[j]? = some u ∧ OR wr N0 wr.heap.size 2 u (ints xss[j]))
    (k4 : ∀ (i j : Nat) (u u' : Value), i ≠ j → us[i]? = some u → us[j]? = some u' → ∀ g, u.ownBlock = some g → u'.ownBlock ≠ some g)
    (ho : OV w' N0 44 v' (us ++ [.slice (some ⟨wr.heap.size, 0, none⟩) 2 2]))
    (hg : ((wr.alloc (.cells #[.int .i64 k, .int .i64 d] 2)).alloc (.cells #[.slice (some ⟨wr.heap.size, 0, none⟩) 2 2] 44)).grownBy w' v0.ownBlock)
    (hat : v'.ownBlock = v0.ownBlock ∨ v'.ownBlock = some ((wr.alloc (.cells #[.int .i64 k, .int .i64 d] 2)).alloc (.cells #[.slice (some ⟨wr.heap.size, 0, none⟩) 2 2] 44)).heap.size) : FaultSt N0 N2 w0 AL cL ls w' v' (xss ++ [[k, d]]) := by
  have hle := h.le
  have b1 := (Below.refl wr.heap.size wr).alloc (Nat.le_refl _) (.cells #[.int .i64 k, .int .i64 d] 2)
  have b2 := b1.alloc (by simp only [World.size_alloc]; omega) (.cells #[.slice (some ⟨wr.heap.size, 0, none⟩) 2 2] 44)
  have hu : OV (wr.alloc (.cells #[.int .i64 k, .int .i64 d] 2)) wr.heap.size 2 (.slice (some ⟨wr.heap.size, 0, none⟩) 2 2) (ints [k, d]) := by
    have := OV.new (w := wr) (B := wr.heap.size) (e := 2) #[.int .i64 k, .int .i64 d] (Nat.le_refl _) (by simp [maxLen])
    simpa [ints] using this
  have hN := OII.push1 (w := wr.alloc (.cells #[.int .i64 k, .int .i64 d] 2)) (C := wr.heap.size) (ys := [k, d]) h1 (k2.below b1) (fun j hj => by obtain ⟨u, a, b⟩ := k3 j hj; exact ⟨u, a, b.below b1⟩) k4 hu (by omega) (by simp) ho hg
  have hsz := hg.size
  simp only [World.size_alloc] at hsz
  have kp : ∀ g, g < wr.heap.size → v0.ownBlock ≠ some g → w'.heap[g]? = wr.heap[g]? := fun g hl hn => (hg.block g (by simp only [World.size_alloc]; omega) (Ne.symm hn)).trans (b2.block g hl)
  refine ⟨hN, h.loc.keep fun g hg1 hg2 => kp g (by omega) fun e => by have := h.bk g e; omega, by omega, fun g hgv => ?_, ?_⟩
  · rcases hat with e | e
    · exact h.bk g (e.symm.trans hgv)
    · rw [hgv] at e; injection e with e; simp only [World.size_alloc] at e; omega
  · exact h.bel.trans (belowG (b2.mono (by omega)) hg (by simp only [World.size_alloc]; omega) (fun g hg1 => (k2.1.lt g hg1).1))
theorem FaultSt.open_ {N0 N2 : Nat} {w0 wr : World} {AL : Option Addr} {cL : Nat} {ls : List (List (List Int))} {v0 : Value} {xss : List (List Int)} (h : FaultSt N0 N2 w0 AL cL ls wr v0 xss) :
    ∃ us : List Value, us.length = xss.length ∧ OR wr N0 wr.heap.size 44 v0 us ∧ (∀ j (hj : j < xss.length), ∃ u, us[j]? = some u ∧ OR wr N0 wr.heap.size 2 u (ints xss[j])) ∧
      ∀ (i j : Nat) (u u' : Value), i ≠ j → us[i]? = some u → us[j]? = some u' → ∀ g, u.ownBlock = some g → u'.ownBlock ≠ some g := h.own
theorem PartOK.len {m : Mk} {t cuts : List (List Int)} (h : PartOK m t cuts) {k : Nat} (hk : k < cuts.length) : (cuts[k].length : Int) = m.c := by
  have h3 := fault_zero_iff.1 (show fault m cuts[k] = 0 by have := h.keys k hk; simpa [isKey] using this)
  exact h3.1
theorem PartOK.lock_len {m : Mk} {t cuts : List (List Int)} (h : PartOK m t cuts) {d : Nat} (hd : d < (locksF m t cuts).length) : ((locksF m t cuts)[d].length : Int) = m.c := by
  rw [locksF_at hd, hullF_length]
  have := mk_bounds h.mak
  omega
theorem faults_few {m : Mk} {t cuts : List (List Int)} (h : PartOK m t cuts) {k n : Nat} (hk : k ≤ cuts.length) (hn : n ≤ (locksF m t cuts).length) : (faultsN t cuts (locksF m t cuts) k ++ faultRow t cuts (locksF m t cuts) k n).length ≤ 1000 := by
  rw [List.length_append]
  have h1 := faultsN_len t cuts (locksF m t cuts) k
  have h2 := faultRow_len t cuts (locksF m t cuts) k n
  have h3 : (locksF m t cuts).length ≤ 12 := by
    rw [locksF_len]
    have h0 : 0 < t.length := by have := h.t1; omega
    rw [h.head h0]; exact (h.row 0 h0).2.2
  have h4 := h.t10; have h5 := h.le
  have h6 : k * (locksF m t cuts).length ≤ 10 * 12 := Nat.mul_le_mul (by omega) h3
  omega
end Go.Proofs.YtdedajohkdbdkaaGreatDoor

/- Contracts of l15False (of the reference). -/
namespace Go.Proofs.YtdedajohkdbdkaaGreatDoor
set_option linter.unusedVariables false
open Go.RowKit
/-- One more pair in a list of pairs of the call's own. -/
theorem pairs_push {N0 : Nat} {wr w' : World} {v0 v' : Value} {us : List Value} {xss : List (List Int)} {k d : Int} (h2 : N0 ≤ wr.heap.size)
    (h1 : us.length = xss.length) (k2 : OR wr N0 wr.heap.size 44 v0 us) (k3 : ∀ j (hj : j < xss.length), ∃ u, us[j]? = some u ∧ OR wr N0 wr.heap.size 2 u (ints xss[j]))
    (k4 : ∀ (i j : Nat) (u u' : Value), i ≠ j → us[i]? = some u → us[j]? = some u' → ∀ g, u.ownBlock = some g → u'.ownBlock ≠ some g)
    (ho : OV w' N0 44 v' (us ++ [.slice (some ⟨wr.heap.size, 0, none⟩) 2 2]))
    (hg : ((wr.alloc (.cells #[.int .i64 k, .int .i64 d] 2)).alloc (.cells #[.slice (some ⟨wr.heap.size, 0, none⟩) 2 2] 44)).grownBy w' v0.ownBlock) :
    OII w' N0 w'.heap.size v' (xss ++ [[k, d]]) ∧ ∀ a, Below N0 a wr → Below N0 a w' := by
  have b1 := (Below.refl wr.heap.size wr).alloc (Nat.le_refl _) (.cells #[.int .i64 k, .int .i64 d] 2)
  have b2 := b1.alloc (by simp only [World.size_alloc]; omega) (.cells #[.slice (some ⟨wr.heap.size, 0, none⟩) 2 2] 44)
  have hu : OV (wr.alloc (.cells #[.int .i64 k, .int .i64 d] 2)) wr.heap.size 2 (.slice (some ⟨wr.heap.size, 0, none⟩) 2 2) (ints [k, d]) := by
    have := OV.new (w := wr) (B := wr.heap.size) (e := 2) #[.int .i64 k, .int .i64 d] (Nat.le_refl _) (by simp [maxLen])
    simpa [ints] using this
  exact ⟨OII.push1 (w := wr.alloc (.cells #[.int .i64 k, .int .i64 d] 2)) (C := wr.heap.size) (ys := [k, d]) h1 (k2.below b1) (fun j hj => by obtain ⟨u, a, b⟩ := k3 j hj; exact ⟨u, a, b.below b1⟩) k4 hu h2 (by simp) ho hg,
    fun a ha => ha.trans (belowG (b2.mono h2) hg (by simp only [World.size_alloc]; omega) (fun g hg1 => (k2.1.lt g hg1).1))⟩
end Go.Proofs.YtdedajohkdbdkaaGreatDoor
