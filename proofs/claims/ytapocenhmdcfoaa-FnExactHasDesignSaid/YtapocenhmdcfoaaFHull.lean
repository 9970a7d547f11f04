/- Contracts of hullOf (of the program) and l04Hull (of the reference). -/
import Derived.Test.YtapocenhmdcfoaaFSort
import Derived.Test.YtapocenhmdcfoaaFFault
import Derived.Test.YtapocenhmdcfoaaFLock
import Derived.Test.YtapocenhmdcfoaaRegion
namespace Go.Proofs.Ytapocenhmdcfoaa
set_option linter.unusedVariables false
open Go.RowKit
/-- a lock in new memory; a lock that reads -/
def ResL (w : World) (l : List (List Int)) (e : Ending) (w' : World) : Prop := ∃ A c, e = .returned (.agg #[.slice A l.length c]) ∧ l.length ≤ c ∧ RII w' A l ∧ OII w' w.heap.size w'.heap.size (.slice A l.length c) l ∧ Below w.heap.size w w'
def RdL (w : World) (l : List (List Int)) (e : Ending) (w' : World) : Prop := ∃ A c, e = .returned (.agg #[.slice A l.length c]) ∧ l.length ≤ c ∧ RII w' A l ∧ Below w.heap.size w w'
def ResLC (w : World) (r : List (List Int) × Int) (e : Ending) (w' : World) : Prop := ∃ A c, e = .returned (.tuple #[.agg #[.slice A r.1.length c], .int .i64 r.2]) ∧ r.1.length ≤ c ∧ RII w' A r.1 ∧ OII w' w.heap.size w'.heap.size (.slice A r.1.length c) r.1 ∧ Below w.heap.size w w'
def RdLC (w : World) (r : List (List Int) × Int) (e : Ending) (w' : World) : Prop := ∃ A c, e = .returned (.tuple #[.agg #[.slice A r.1.length c], .int .i64 r.2]) ∧ r.1.length ≤ c ∧ RII w' A r.1 ∧ Below w.heap.size w w'
/-- the keys have as many cuts as there are chambers, each a depth -/
def allCuts (m : Mk) (ks : List (List Int)) : Prop := ∀ k (hk : k < ks.length), (ks[k].length : Int) = m.c ∧ allW 0 (m.d - 1) ks[k] = true
theorem allCuts_at {m : Mk} {ks : List (List Int)} (h : allCuts m ks) {k i : Nat} (hk : k < ks.length) (hi : (i : Int) < m.c) : ∃ hi : i < ks[k].length, 0 ≤ ks[k][i] ∧ ks[k][i] < m.d := by
  have h1 := h k hk
  have h2 : i < ks[k].length := by omega
  refine ⟨h2, ?_⟩
  have := h1.2
  unfold allW at this
  rw [List.all_eq_true] at this
  have := this _ (List.getElem_mem h2)
  simp only [inB, decide_eq_true_eq] at this
  omega
theorem col_in {m : Mk} {ks : List (List Int)} (h : allCuts m ks) {i : Nat} (hi : (i : Int) < m.c) : ∀ x ∈ colI ks i, 0 ≤ x ∧ x < (m.d.toNat : Int) := by
  intro x hx
  unfold colI at hx
  obtain ⟨k, hk, rfl⟩ := List.mem_map.1 hx
  obtain ⟨j, hj, rfl⟩ := List.getElem_of_mem hk
  obtain ⟨h2, h3⟩ := allCuts_at h hj hi
  rw [show ks[j].getD i 0 = ks[j][i] by simp [List.getD, List.getElem?_eq_getElem h2]]
  omega
theorem hasCol_succ {ks : List (List Int)} {i j : Nat} (x : Int) (h : j < ks.length) (hi : i < ks[j].length) : hasI (colI (ks.take (j + 1)) i) x = (hasI (colI (ks.take j) i) x || (ks[j][i] == x)) := by
  rw [Bool.eq_iff_iff, Bool.or_eq_true, hasI_iff, hasI_iff, beq_iff_eq, colI_succ _ _ _ h, List.mem_append, List.mem_singleton, show ks[j].getD i 0 = ks[j][i] by simp [List.getD, List.getElem?_eq_getElem hi]]
  exact or_congr Iff.rfl eq_comm
theorem ownBlock_some {n c g : Nat} : (Value.slice (some ⟨g, 0, none⟩) n c).ownBlock = some g := rfl
set_option maxRecDepth 100000 in
set_option maxHeartbeats 8000000 in
theorem hullOf_any (m : Mk) (A : Option Addr) (c : Nat) (ks : List (List Int)) (w : World) (h : RII w A ks) (hm : isMaker m = true) (hks : allCuts m ks) (hl : ks.length ≤ 1048576) :
    Calls Try.prog 224 #[.agg #[.int .i64 m.c, .int .i64 m.d, .int .i64 m.s, .int .i64 m.a, .int .i64 m.l], .slice A ks.length c] w (ResL w (hullF m.c.toNat m.d.toNat ks)) := by
  have hmb := mk_bounds hm
  have c2 : 2 ≤ m.c := hmb.1
  have c6 : m.c ≤ 6 := hmb.2.1
  have d8 : m.d ≤ 8 := hmb.2.2.2.1
  have d2 : 2 ≤ m.d := hmb.2.2.1
  clear hmb
  have hle := h.le
  obtain ⟨w1, hw1⟩ : ∃ w1, w1 = ((w.alloc (.cells #[.int .i64 m.c, .int .i64 m.d, .int .i64 m.s, .int .i64 m.a, .int .i64 m.l] 29)).alloc (.cells #[.slice none 0 0] 75)).alloc (.cells #[.slice none 0 0] 75) := ⟨_, rfl⟩
  have B1 : Below w.heap.size w w1 := by rw [hw1]; exact (((Below.refl _ _).alloc (Nat.le_refl _) _).alloc (by simp only [World.size_alloc]; omega) _).alloc (by simp only [World.size_alloc]; omega) _
  have hz1 : w1.heap.size = w.heap.size + 3 := by rw [hw1]; simp
  have bk : w1.heap[w.heap.size + 1]? = some (.cells #[.slice none 0 0] 75 (0, 0)) := by
    have := heap_alloc_new (w.alloc (.cells #[.int .i64 m.c, .int .i64 m.d, .int .i64 m.s, .int .i64 m.a, .int .i64 m.l] 29)) (.cells #[.slice none 0 0] 75)
    rw [hw1]
    rw [Below.heap_alloc _ _ _ (by simp only [World.size_alloc]; omega)]; simpa using this
  have bl : w1.heap[w.heap.size + 2]? = some (.cells #[.slice none 0 0] 75 (0, 0)) := by
    have := heap_alloc_new ((w.alloc (.cells #[.int .i64 m.c, .int .i64 m.d, .int .i64 m.s, .int .i64 m.a, .int .i64 m.l] 29)).alloc (.cells #[.slice none 0 0] 75)) (.cells #[.slice none 0 0] 75)
    rw [hw1]; simpa using this
  have HBK := Lib.hid (And.intro bk bl); clear bk bl
  have HKS := Lib.hid hks; clear hks
  go_enter Try.func224, Try.ntmps224
  go_wp2_with fail
  rw [← hw1]
  clear hw1
  go_loopw [6, 7, 9, 13] (fun _ _ _ i wr => ∃ (k : Nat) (v0 : Value), (k : Int) ≤ m.c ∧ i = .int .i64 k ∧ wr.heap[w.heap.size + 2]? = some (.cells #[v0] 75 (0, 0)) ∧ OII wr (w.heap.size + 3) wr.heap.size v0 (hullF k m.d.toNat ks) ∧ Below (w.heap.size + 2) w1 wr) (fun _ _ _ i _ => (m.c - intOf i).toNat)
  case atStart => exact ⟨0, _, by omega, rfl, HBK.out.2, OII.nil, Below.refl _ _⟩
  case round =>
    obtain ⟨k, v0, hk, rfl, hbl, ho, hb⟩ := hrel
    have HO := Lib.hid ho
    have HBL := Lib.hid hbl
    have cl0 : wr.cell? ⟨w.heap.size + 2, 0, none⟩ = some v0 := by simp [World.cell?, hbl]
    clear ho hbl
    have hsz := hb.size
    have Bw := B1.trans (hb.mono (by omega))
    by_cases hlt : (k : Int) < m.c
    · obtain ⟨wo, rfl⟩ : ∃ wo : World, wo = wr := ⟨_, rfl⟩
      have HCO := Lib.hid (col_in HKS.out (i := k) (by omega))
      have HS := Lib.hid (hullF_succ k m.d.toNat ks)
      have KS := Lib.hid (show ∀ w' : World, Below wo.heap.size wo w' → w'.cell? ⟨w.heap.size + 2, 0, none⟩ = some v0 from fun w' hw => cell_in hw (by simp only; omega) cl0)
      go_wp2_with fail
      go_loopw [7, 9, 19] (fun u _ j wx => ∃ (n : Nat) (u0 : Value), n ≤ ks.length ∧ j = .int .i64 n ∧ u = u0 ∧ OV wx wo.heap.size 2 u0 (ints (colI (ks.take n) k)) ∧ ¬ u0 = .slice none 0 0 ∧ Below wo.heap.size wo wx) (fun _ _ j _ => ks.length - (intOf j).toNat)
      case atStart => exact ⟨0, _, by omega, rfl, rfl, by simpa [colI, ints] using OV.new0 (w := wo) (B := wo.heap.size) (e := 2) (Nat.le_refl _), by simp, (Below.refl _ _).alloc (Nat.le_refl _) _⟩
      case round =>
        obtain ⟨n, u0, hn, rfl, rfl, ho2, hnn, hb2⟩ := hrel
        have Bx := Bw.trans (hb2.mono (by omega))
        by_cases hlt2 : n < ks.length
        · obtain ⟨b, o, A', c', rfl, hc0, hcc, hr⟩ := (h.below Bx).at_ hlt2
          obtain ⟨hi, hv1, hv2⟩ := allCuts_at HKS.out hlt2 (i := k) (by omega)
          obtain ⟨b2, o2, rfl, hc2⟩ := hr.at_ hi
          have HT := Lib.hid (show ints (colI (ks.take (n + 1)) k) = ints (colI (ks.take n) k) ++ [.int .i64 ks[n][k]] by rw [colI_succ _ _ _ hlt2, ints_append, show ks[n].getD k 0 = ks[n][k] by simp [List.getD, List.getElem?_eq_getElem hi]]; rfl)
          go_wp2_with (at_builtin; refine wpList_app1 _ rfl _ _ _ rfl wo.heap.size 2 _ 8 Try.underlying56 info_int rfl (by omega) _ _ rfl (ho2.alloc _) _ _ rfl (one_cell _ _ _) rfl (by rw [ints_length, colI_length, List.length_take]; omega) (by have := hb2.size; simp; omega) ?_; intro v' w5 ho5 hg5 hn5 hat5)
          go_roundw
          case rel => exact ⟨n + 1, v', by omega, by go_num, rfl, by rw [HT.out]; exact ho5, hn5, (ho2.alloc _).own (Nat.le_refl _) (hb2.alloc (by have := hb2.size; omega) _) hg5 (by have := hb2.size; simp; omega)⟩
          case measure => simp [intOf]; omega
        · obtain rfl : n = ks.length := by omega
          rw [List.take_length] at ho2
          have hcl : (colI ks k).length ≤ 1073741824 := by rw [colI_length]; omega
          have HNN := Lib.hid hnn; clear hnn
          have HSO := Lib.hid (sSort_any u7 (colI ks k) wo.heap.size wr ho2 HNN.out hcl)
          have HB2 := Lib.hid hb2
          have hs2 := hb2.size
          clear ho2 hb2
          go_wp2_with fail
          refine HSO.out.mono ?_
          rintro e w6 ⟨rfl, ho6, hg6⟩
          have hb6 : Below wo.heap.size wo w6 := belowG HB2.out hg6 hs2 (fun g hg => (ho6.lt g hg).1)
          have cl6 := cell_in hb6 (by simp only; omega) cl0
          have hs6 := hb6.size
          obtain ⟨zs, hzs⟩ : ∃ zs, zs = hullSet m.d.toNat (colI ks k) := ⟨_, rfl⟩
          have HCM := sCompact_any u7 (sortI (colI ks k)) wo.heap.size w6.drew ho6 HNN.out (by rw [sortI_length]; exact hcl)
          rw [show Lib.compact (sortI (colI ks k)) = zs from by rw [hzs]; exact hull_sort HCO.out] at HCM
          rw [← hzs] at HS
          have HC := Lib.hid HCM
          have HB6 := Lib.hid hb6
          clear HCM hzs ho6 hg6 hb6
          go_wp2_with fail
          refine wp_region_held_drew (S := (fun _ => True)) (by kernel_rfl) (trivial) (fun hHeld => ?_)
          refine takeD (i := 0) (some 33) (.pointer (some ⟨w.heap.size + 2, 0, none⟩)) rfl (by kernel_rfl) (by kernel_rfl) (by kernel_rfl) (by kernel_rfl) (fun _ _ _ h => h) (by assumption) (Or.inl ⟨by rfl, fun w hSw => by (try dsimp only at hSw); go_simp⟩) ?_
          simp only [Act.put, List.setIfInBounds_toArray, List.set_cons_zero, List.set_cons_succ]
          refine takeD (i := 2) (some 35) (u7) rfl (by kernel_rfl) (by kernel_rfl) (by kernel_rfl) (by kernel_rfl) (fun _ _ _ h => h) (by assumption) (Or.inl ⟨by rfl, fun w hSw => by (try dsimp only at hSw); go_simp⟩) ?_
          simp only [Act.put, List.setIfInBounds_toArray, List.set_cons_zero, List.set_cons_succ]
          refine wpAnyH_ready (rs := [1, 3]) (by kernel_rfl) (by simp) (AllReadyH.cons rfl (fun K hK => ?_) (AllReadyH.cons rfl (fun K hK => ?_) AllReadyH.nil))
          · go_simp
            have HHeld := trivial
            refine hK.out _ _ HHeld (fun _ => ?_)
            clear hK K
            try simp only [Act.put, List.setIfInBounds_toArray, List.set_cons_zero, List.set_cons_succ]
            refine wpAnyH_ready (rs := [3]) (by kernel_rfl) (by simp) (AllReadyH.cons rfl (fun K hK => ?_) AllReadyH.nil)
            go_simp
            refine HC.out.mono ?_
            rintro e w7 ⟨g, cap, rfl, hg, ho7, hg7⟩
            have hb7 : Below wo.heap.size wo w7 := belowG (belowD HB6.out 1) hg7 hs6 (fun x hx => by rw [hx] at hg; cases hg; exact (ho7.lt _ rfl).1)
            have cl7 := cell_in hb7 (by simp only; omega) cl0
            have hs7 := hb7.size
            have hp7 : w.heap.size + 2 < w7.heap.size := by omega
            have HO7 := Lib.hid ho7; have HB7 := Lib.hid hb7
            clear ho7 hg7 hb7
            have HHeld := trivial
            refine hK.out _ _ HHeld (fun _ => ?_)
            clear hK K
            try simp only [Act.put, List.setIfInBounds_toArray, List.set_cons_zero, List.set_cons_succ]
            refine wpAnyH_ready (rs := [4]) (by kernel_rfl) (by simp) (AllReadyH.cons rfl (fun K hK => ?_) AllReadyH.nil)
            go_simp
            have HHeld := trivial
            refine hK.out _ _ HHeld (fun _ => ?_)
            clear hK K
            try simp only [Act.put, List.setIfInBounds_toArray, List.set_cons_zero, List.set_cons_succ]
            obtain ⟨us, k1, k2, k3, k4⟩ := HO.out.below HB7.out
            rw [hullF_length] at k1
            have hb8 : Below (w.heap.size + 3) wo (w7.alloc (.cells #[.slice (some ⟨g, 0, none⟩) zs.length cap] 56)) := (HB7.out.mono (by omega)).alloc (by omega) _
            refine wpAnyH_ready (rs := [5]) (by kernel_rfl) (by simp) (AllReadyH.cons rfl (fun K hK => ?_) AllReadyH.nil)
            refine step_app1 _ (by rfl) _ _ _ (by rfl) (w.heap.size + 3) 56 _ 24 Try.underlying24 info_sl rfl (by omega) _ us (by rfl) (k2.1.alloc _) _ _ (by rfl) (one_cell _ _ _) rfl (by omega) (by simp; omega) ?_
            intro v' w8 ho8 hg8 hn8 hat8
            have HN := OII.push1 (ys := zs) (by rw [hullF_length]; exact k1) k2 k3 k4 HO7.out (by omega) hs7 ho8 hg8
            have hB8 := (k2.1.alloc (.cells #[.slice (some ⟨g, 0, none⟩) zs.length cap] 56)).own (Nat.le_refl _) hb8 hg8 (by simp; omega)
            rw [← HS.out] at HN
            obtain ⟨Av, cv, hv', _⟩ := HN.reads
            rw [hullF_length] at hv'
            subst hv'
            have hz8 := (hB8.block (w.heap.size + 2) (by omega)).trans HBL.out
            have cl8 : w8.cell? ⟨w.heap.size + 2, 0, none⟩ = some v0 := by simp [World.cell?, hz8]
            have fz8 : w8.frozen? ⟨w.heap.size + 2, 0, none⟩ = false := by simp [World.frozen?, hz8]
            have HN8 := Lib.hid HN; have HB8 := Lib.hid hB8; have HZ8 := Lib.hid hz8
            clear HN hB8 hz8 ho8 hg8 hn8 hat8 k1 k2 k3 k4 hb8
            have HHeld := trivial
            refine hK.out _ _ HHeld (fun _ => ?_)
            clear hK K
            (try simp only [Act.put]); (try simp only [List.setIfInBounds_toArray]); (try simp only [List.set_cons_zero, List.set_cons_succ])
            refine takeD (i := 6) (some 39) (.pointer (some ⟨w.heap.size + 2, 0, none⟩)) rfl (by kernel_rfl) (by kernel_rfl) (by kernel_rfl) (by kernel_rfl) (fun _ _ _ h => h) (by assumption) (Or.inl ⟨by rfl, fun w hSw => by (try dsimp only at hSw); go_simp⟩) ?_
            (try simp only [Act.put]); (try simp only [List.setIfInBounds_toArray]); (try simp only [List.set_cons_zero, List.set_cons_succ])
            refine wpAnyH_ready (rs := [7]) (by kernel_rfl) (by simp) (AllReadyH.cons rfl (fun K hK => ?_) AllReadyH.nil)
            go_simp
            have HHeld := trivial
            refine hK.out _ _ HHeld (fun _ => ?_)
            clear hK K
            (try simp only [Act.put]); (try simp only [List.setIfInBounds_toArray]); (try simp only [List.set_cons_zero, List.set_cons_succ])
            refine wpAnyH_done (by kernel_rfl) ?_ _
            have HE := Lib.hid (show (w8.setCell ⟨w.heap.size + 2, 0, none⟩ (.slice Av (k + 1) cv)).heap[w.heap.size + 2]? = some (.cells #[.slice Av (k + 1) cv] 75 (0, 0)) by
              simp [World.setCell, Array.getElem?_modify, HZ8.out])
            clear cl8 fz8
            go_wp2_with fail
            go_roundw
            case rel => exact ⟨k + 1, _, by omega, by go_num, HE.out, by simpa using HN8.out.setLow (by simp only; omega), (hb.trans (HB8.out.mono (by omega))).setCell (by simp only; omega) _⟩
            case measure => simp [intOf]; omega
          · go_simp
            refine HC.out.mono ?_
            rintro e w7 ⟨g, cap, rfl, hg, ho7, hg7⟩
            have hb7 : Below wo.heap.size wo w7 := belowG (belowD HB6.out 1) hg7 hs6 (fun x hx => by rw [hx] at hg; cases hg; exact (ho7.lt _ rfl).1)
            have cl7 := cell_in hb7 (by simp only; omega) cl0
            have hs7 := hb7.size
            have hp7 : w.heap.size + 2 < w7.heap.size := by omega
            have HO7 := Lib.hid ho7; have HB7 := Lib.hid hb7
            clear ho7 hg7 hb7
            have HHeld := trivial
            refine hK.out _ _ HHeld (fun _ => ?_)
            clear hK K
            try simp only [Act.put, List.setIfInBounds_toArray, List.set_cons_zero, List.set_cons_succ]
            refine wpAnyH_ready (rs := [1, 4]) (by kernel_rfl) (by simp) (AllReadyH.cons rfl (fun K hK => ?_) (AllReadyH.cons rfl (fun K hK => ?_) AllReadyH.nil))
            · go_simp
              have HHeld := trivial
              refine hK.out _ _ HHeld (fun _ => ?_)
              clear hK K
              try simp only [Act.put, List.setIfInBounds_toArray, List.set_cons_zero, List.set_cons_succ]
              refine wpAnyH_ready (rs := [4]) (by kernel_rfl) (by simp) (AllReadyH.cons rfl (fun K hK => ?_) AllReadyH.nil)
              go_simp
              have HHeld := trivial
              refine hK.out _ _ HHeld (fun _ => ?_)
              clear hK K
              try simp only [Act.put, List.setIfInBounds_toArray, List.set_cons_zero, List.set_cons_succ]
              obtain ⟨us, k1, k2, k3, k4⟩ := HO.out.below HB7.out
              rw [hullF_length] at k1
              have hb8 : Below (w.heap.size + 3) wo (w7.alloc (.cells #[.slice (some ⟨g, 0, none⟩) zs.length cap] 56)) := (HB7.out.mono (by omega)).alloc (by omega) _
              refine wpAnyH_ready (rs := [5]) (by kernel_rfl) (by simp) (AllReadyH.cons rfl (fun K hK => ?_) AllReadyH.nil)
              refine step_app1 _ (by rfl) _ _ _ (by rfl) (w.heap.size + 3) 56 _ 24 Try.underlying24 info_sl rfl (by omega) _ us (by rfl) (k2.1.alloc _) _ _ (by rfl) (one_cell _ _ _) rfl (by omega) (by simp; omega) ?_
              intro v' w8 ho8 hg8 hn8 hat8
              have HN := OII.push1 (ys := zs) (by rw [hullF_length]; exact k1) k2 k3 k4 HO7.out (by omega) hs7 ho8 hg8
              have hB8 := (k2.1.alloc (.cells #[.slice (some ⟨g, 0, none⟩) zs.length cap] 56)).own (Nat.le_refl _) hb8 hg8 (by simp; omega)
              rw [← HS.out] at HN
              obtain ⟨Av, cv, hv', _⟩ := HN.reads
              rw [hullF_length] at hv'
              subst hv'
              have hz8 := (hB8.block (w.heap.size + 2) (by omega)).trans HBL.out
              have cl8 : w8.cell? ⟨w.heap.size + 2, 0, none⟩ = some v0 := by simp [World.cell?, hz8]
              have fz8 : w8.frozen? ⟨w.heap.size + 2, 0, none⟩ = false := by simp [World.frozen?, hz8]
              have HN8 := Lib.hid HN; have HB8 := Lib.hid hB8; have HZ8 := Lib.hid hz8
              clear HN hB8 hz8 ho8 hg8 hn8 hat8 k1 k2 k3 k4 hb8
              have HHeld := trivial
              refine hK.out _ _ HHeld (fun _ => ?_)
              clear hK K
              (try simp only [Act.put]); (try simp only [List.setIfInBounds_toArray]); (try simp only [List.set_cons_zero, List.set_cons_succ])
              refine takeD (i := 6) (some 39) (.pointer (some ⟨w.heap.size + 2, 0, none⟩)) rfl (by kernel_rfl) (by kernel_rfl) (by kernel_rfl) (by kernel_rfl) (fun _ _ _ h => h) (by assumption) (Or.inl ⟨by rfl, fun w hSw => by (try dsimp only at hSw); go_simp⟩) ?_
              (try simp only [Act.put]); (try simp only [List.setIfInBounds_toArray]); (try simp only [List.set_cons_zero, List.set_cons_succ])
              refine wpAnyH_ready (rs := [7]) (by kernel_rfl) (by simp) (AllReadyH.cons rfl (fun K hK => ?_) AllReadyH.nil)
              go_simp
              have HHeld := trivial
              refine hK.out _ _ HHeld (fun _ => ?_)
              clear hK K
              (try simp only [Act.put]); (try simp only [List.setIfInBounds_toArray]); (try simp only [List.set_cons_zero, List.set_cons_succ])
              refine wpAnyH_done (by kernel_rfl) ?_ _
              have HE := Lib.hid (show (w8.setCell ⟨w.heap.size + 2, 0, none⟩ (.slice Av (k + 1) cv)).heap[w.heap.size + 2]? = some (.cells #[.slice Av (k + 1) cv] 75 (0, 0)) by
                simp [World.setCell, Array.getElem?_modify, HZ8.out])
              clear cl8 fz8
              go_wp2_with fail
              go_roundw
              case rel => exact ⟨k + 1, _, by omega, by go_num, HE.out, by simpa using HN8.out.setLow (by simp only; omega), (hb.trans (HB8.out.mono (by omega))).setCell (by simp only; omega) _⟩
              case measure => simp [intOf]; omega
            · go_simp
              have HHeld := trivial
              refine hK.out _ _ HHeld (fun _ => ?_)
              clear hK K
              try simp only [Act.put, List.setIfInBounds_toArray, List.set_cons_zero, List.set_cons_succ]
              refine wpAnyH_ready (rs := [1]) (by kernel_rfl) (by simp) (AllReadyH.cons rfl (fun K hK => ?_) AllReadyH.nil)
              go_simp
              have HHeld := trivial
              refine hK.out _ _ HHeld (fun _ => ?_)
              clear hK K
              try simp only [Act.put, List.setIfInBounds_toArray, List.set_cons_zero, List.set_cons_succ]
              obtain ⟨us, k1, k2, k3, k4⟩ := HO.out.below HB7.out
              rw [hullF_length] at k1
              have hb8 : Below (w.heap.size + 3) wo (w7.alloc (.cells #[.slice (some ⟨g, 0, none⟩) zs.length cap] 56)) := (HB7.out.mono (by omega)).alloc (by omega) _
              refine wpAnyH_ready (rs := [5]) (by kernel_rfl) (by simp) (AllReadyH.cons rfl (fun K hK => ?_) AllReadyH.nil)
              refine step_app1 _ (by rfl) _ _ _ (by rfl) (w.heap.size + 3) 56 _ 24 Try.underlying24 info_sl rfl (by omega) _ us (by rfl) (k2.1.alloc _) _ _ (by rfl) (one_cell _ _ _) rfl (by omega) (by simp; omega) ?_
              intro v' w8 ho8 hg8 hn8 hat8
              have HN := OII.push1 (ys := zs) (by rw [hullF_length]; exact k1) k2 k3 k4 HO7.out (by omega) hs7 ho8 hg8
              have hB8 := (k2.1.alloc (.cells #[.slice (some ⟨g, 0, none⟩) zs.length cap] 56)).own (Nat.le_refl _) hb8 hg8 (by simp; omega)
              rw [← HS.out] at HN
              obtain ⟨Av, cv, hv', _⟩ := HN.reads
              rw [hullF_length] at hv'
              subst hv'
              have hz8 := (hB8.block (w.heap.size + 2) (by omega)).trans HBL.out
              have cl8 : w8.cell? ⟨w.heap.size + 2, 0, none⟩ = some v0 := by simp [World.cell?, hz8]
              have fz8 : w8.frozen? ⟨w.heap.size + 2, 0, none⟩ = false := by simp [World.frozen?, hz8]
              have HN8 := Lib.hid HN; have HB8 := Lib.hid hB8; have HZ8 := Lib.hid hz8
              clear HN hB8 hz8 ho8 hg8 hn8 hat8 k1 k2 k3 k4 hb8
              have HHeld := trivial
              refine hK.out _ _ HHeld (fun _ => ?_)
              clear hK K
              (try simp only [Act.put]); (try simp only [List.setIfInBounds_toArray]); (try simp only [List.set_cons_zero, List.set_cons_succ])
              refine takeD (i := 6) (some 39) (.pointer (some ⟨w.heap.size + 2, 0, none⟩)) rfl (by kernel_rfl) (by kernel_rfl) (by kernel_rfl) (by kernel_rfl) (fun _ _ _ h => h) (by assumption) (Or.inl ⟨by rfl, fun w hSw => by (try dsimp only at hSw); go_simp⟩) ?_
              (try simp only [Act.put]); (try simp only [List.setIfInBounds_toArray]); (try simp only [List.set_cons_zero, List.set_cons_succ])
              refine wpAnyH_ready (rs := [7]) (by kernel_rfl) (by simp) (AllReadyH.cons rfl (fun K hK => ?_) AllReadyH.nil)
              go_simp
              have HHeld := trivial
              refine hK.out _ _ HHeld (fun _ => ?_)
              clear hK K
              (try simp only [Act.put]); (try simp only [List.setIfInBounds_toArray]); (try simp only [List.set_cons_zero, List.set_cons_succ])
              refine wpAnyH_done (by kernel_rfl) ?_ _
              have HE := Lib.hid (show (w8.setCell ⟨w.heap.size + 2, 0, none⟩ (.slice Av (k + 1) cv)).heap[w.heap.size + 2]? = some (.cells #[.slice Av (k + 1) cv] 75 (0, 0)) by
                simp [World.setCell, Array.getElem?_modify, HZ8.out])
              clear cl8 fz8
              go_wp2_with fail
              go_roundw
              case rel => exact ⟨k + 1, _, by omega, by go_num, HE.out, by simpa using HN8.out.setLow (by simp only; omega), (hb.trans (HB8.out.mono (by omega))).setCell (by simp only; omega) _⟩
              case measure => simp [intOf]; omega
    · have HKC := Lib.hid (show k = m.c.toNat by omega)
      have hfz : wr.frozen? ⟨w.heap.size + 2, 0, none⟩ = false := by simp [World.frozen?, HBL.out]
      obtain ⟨A9, c9, hv9, hc9, hr9⟩ := HO.out.reads
      rw [hullF_length] at hv9 hc9
      subst hv9
      have lb := (hb.block (w.heap.size + 1) (by omega)).trans HBK.out.1
      have l0 : wr.cell? ⟨w.heap.size + 1, 0, none⟩ = some (.slice none 0 0) := by simp [World.cell?, lb]
      have l1 : wr.frozen? ⟨w.heap.size + 1, 0, none⟩ = false := by simp [World.frozen?, lb]
      have HBB := Lib.hid Bw
      have hkd : decide ((k : Int) < m.c) = false := decide_eq_false hlt
      clear hr9
      go_wp2_with fail
      (try simp only [Exit.inBlock, Exit.then])
      refine bodyPost_ret (results_cell_row rfl _ _ (w.heap.size + 1) 75 #[.slice A9 k c9] (0, 0) _ (by rfl) (by simp [World.setCell, Array.getElem?_modify, lb]) Try.underlying75 rfl (by kernel_rfl)) rfl ?_
      have ho9 := (HO.out.setLow (p := ⟨w.heap.size + 1, 0, none⟩) (u := .slice A9 k c9) (by simp only; omega)).wide (B' := w.heap.size) (C' := (wr.setCell ⟨w.heap.size + 1, 0, none⟩ (.slice A9 k c9)).heap.size) (by omega) (by simp)
      have hkc := HKC.out
      rw [hkc] at ho9 hc9 ⊢
      have hl9 : (hullF m.c.toNat m.d.toNat ks).length = m.c.toNat := hullF_length _ _ _
      refine ⟨A9, c9, by rw [hl9], by rw [hl9]; exact hc9, ho9.rii, by rw [hl9]; exact ho9, HBB.out.setCell (by simp only; omega) _⟩
set_option maxRecDepth 100000 in
set_option maxHeartbeats 8000000 in
theorem l04Hull_any (m : Mk) (A : Option Addr) (c : Nat) (ks : List (List Int)) (w : World) (h : RII w A ks) (hm : isMaker m = true) (hks : allCuts m ks) (hl : ks.length ≤ 1048576) :
    Calls Try.prog 230 #[.agg #[.int .i64 m.c, .int .i64 m.d, .int .i64 m.s, .int .i64 m.a, .int .i64 m.l], .slice A ks.length c] w (ResL w (hullF m.c.toNat m.d.toNat ks)) := by
  have hmb := mk_bounds hm
  have c2 : 2 ≤ m.c := hmb.1
  have c6 : m.c ≤ 6 := hmb.2.1
  have d8 : m.d ≤ 8 := hmb.2.2.2.1
  have d2 : 2 ≤ m.d := hmb.2.2.1
  clear hmb
  have hle := h.le
  obtain ⟨w1, hw1⟩ : ∃ w1, w1 = (w.alloc (.cells #[.int .i64 m.c, .int .i64 m.d, .int .i64 m.s, .int .i64 m.a, .int .i64 m.l] 29)).alloc (.cells #[.slice none 0 0] 75) := ⟨_, rfl⟩
  have B1 : Below w.heap.size w w1 := by rw [hw1]; exact ((Below.refl _ _).alloc (Nat.le_refl _) _).alloc (by simp only [World.size_alloc]; omega) _
  have hz1 : w1.heap.size = w.heap.size + 2 := by rw [hw1]; simp
  have bm : BoxC w1 w.heap.size 0 [.int .i64 m.c, .int .i64 m.d, .int .i64 m.s, .int .i64 m.a, .int .i64 m.l] := by
    have : BoxC (w.alloc (.cells #[.int .i64 m.c, .int .i64 m.d, .int .i64 m.s, .int .i64 m.a, .int .i64 m.l] 29)) w.heap.size 0 [.int .i64 m.c, .int .i64 m.d, .int .i64 m.s, .int .i64 m.a, .int .i64 m.l] := by simp [BoxC, Go.World.cell?_alloc_at]
    rw [hw1]
    exact this.below ((Below.refl _ _).alloc (Nat.le_refl _) _)
  have bk : w1.heap[w.heap.size + 1]? = some (.cells #[.slice none 0 0] 75 (0, 0)) := by
    have := heap_alloc_new (w.alloc (.cells #[.int .i64 m.c, .int .i64 m.d, .int .i64 m.s, .int .i64 m.a, .int .i64 m.l] 29)) (.cells #[.slice none 0 0] 75)
    rw [hw1]; simpa using this
  have HBM := Lib.hid bm; have HBK := Lib.hid bk; clear bm bk
  have HKS := Lib.hid hks; clear hks
  go_enter Try.func230, Try.ntmps230
  go_wp2_with fail
  rw [← hw1]
  clear hw1
  go_loopw [5, 6, 7, 8, 9, 10] (fun v i _ _ _ _ wr => ∃ (k : Nat) (v0 : Value), (k : Int) ≤ m.c ∧ i = .int .i64 k ∧ v = v0 ∧ OII wr (w.heap.size + 2) wr.heap.size v0 (hullF k m.d.toNat ks) ∧ Below (w.heap.size + 2) w1 wr) (fun _ i _ _ _ _ _ => (m.c - intOf i).toNat)
  case atStart => exact ⟨0, _, by omega, rfl, rfl, by simpa [hullF, hz1] using (OII.new0 (w := w1) (B := w.heap.size + 2) (by omega)).wide (Nat.le_refl _) (show w1.heap.size + 1 ≤ (w1.alloc (.cells #[] 56)).heap.size by simp), (Below.refl _ _).alloc (by omega) _⟩
  case round =>
    obtain ⟨k, v0, hk, rfl, rfl, ho, hb⟩ := hrel
    have HO := Lib.hid ho
    clear ho
    have hsz := hb.size
    have Bw := B1.trans (hb.mono (by omega))
    obtain ⟨q0, q1, _⟩ := HBM.out.keep fun i v hv => cell_in hb (by simp only; omega) hv
    by_cases hlt : (k : Int) < m.c
    · obtain ⟨wo, rfl⟩ : ∃ wo : World, wo = wr := ⟨_, rfl⟩
      have HS := Lib.hid (hullF_succ k m.d.toNat ks)
      have HQ := Lib.hid (show ∀ w' : World, Below wo.heap.size wo w' → w'.cell? ⟨w.heap.size, 0, none⟩ = some (.int .i64 m.c) ∧ w'.cell? ⟨w.heap.size, 1, none⟩ = some (.int .i64 m.d) from fun w' hw => ⟨cell_in hw (by simp only; omega) q0, cell_in hw (by simp only; omega) q1⟩)
      go_wp2_with fail
      clear q0 q1
      go_loopw [7, 8, 9, 10] (fun u d _ _ wx => ∃ (n : Nat) (u0 : Value), (n : Int) ≤ m.d ∧ d = .int .i64 n ∧ u = u0 ∧ OV wx wo.heap.size 2 u0 (ints (hullSet n (colI ks k))) ∧ Below wo.heap.size wo wx) (fun _ d _ _ _ => (m.d - intOf d).toNat)
      case atStart => exact ⟨0, _, by omega, rfl, rfl, by simpa [hullSet, seqI, ints] using OV.new0 (w := wo) (B := wo.heap.size) (e := 2) (Nat.le_refl _), (Below.refl _ _).alloc (Nat.le_refl _) _⟩
      case round =>
        obtain ⟨n, u0, hn, rfl, rfl, ho2, hb2⟩ := hrel
        obtain ⟨q0, q1⟩ := HQ.out _ hb2
        have Bx := Bw.trans (hb2.mono (by omega))
        by_cases hlt2 : (n : Int) < m.d
        · have HSS := Lib.hid (hullSet_succ n (colI ks k))
          have HHL := Lib.hid (hullSet_len n (colI ks k))
          have hsz2 := hb2.size
          have HO2 := Lib.hid ho2; have HB2 := Lib.hid hb2
          clear ho2 hb2
          go_wp2_with fail
          go_loop [9, 10] (fun x i => ∃ j : Nat, j ≤ ks.length ∧ i = .int .i64 j ∧ x = .bool (hasI (colI (ks.take j) k) n)) (fun _ i => ks.length - (intOf i).toNat)
          case atStart => exact ⟨0, by omega, rfl, by simp [colI, hasI]⟩
          case round =>
            obtain ⟨j, hj, rfl, rfl⟩ := hrel
            by_cases hlt3 : j < ks.length
            · obtain ⟨b, o, A', c', rfl, hc0, hcc, hr⟩ := (h.below Bx).at_ hlt3
              obtain ⟨hi, hv1, hv2⟩ := allCuts_at HKS.out hlt3 (i := k) (by omega)
              obtain ⟨b2, o2, rfl, hc2⟩ := hr.at_ hi
              have hs := Lib.hid (hasCol_succ (n : Int) hlt3 hi)
              cases hp : hasI (colI (ks.take j) k) n with
              | true =>
                go_wp2_with fail
                go_round
                case rel => exact ⟨j + 1, by omega, by go_num, by rw [hs.out, hp]; rfl⟩
                case measure => simp [intOf]; omega
              | false =>
                go_wp2_with fail
                go_round
                case rel => exact ⟨j + 1, by omega, by go_num, by rw [hs.out, hp]; rfl⟩
                case measure => simp [intOf]; omega
            · obtain rfl : j = ks.length := by omega
              rw [List.take_length]
              cases hp : hasI (colI ks k) n with
              | true =>
                have HT := Lib.hid (show ints (hullSet (n + 1) (colI ks k)) = ints (hullSet n (colI ks k)) ++ [.int .i64 (n : Int)] by rw [HSS.out, hp, if_pos rfl, ints_append]; rfl)
                go_wp2_with (at_builtin; refine wpList_app1 _ rfl _ _ _ rfl wo.heap.size 2 _ 8 Try.underlying56 info_int rfl (by omega) _ _ rfl (HO2.out.alloc _) _ _ rfl (one_cell _ _ _) rfl (by rw [ints_length]; have := HHL.out; omega) (by simp; omega) ?_; intro v' w5 ho5 hg5 hn5 hat5)
                go_roundw
                case rel => exact ⟨n + 1, v', by omega, by go_num, rfl, by rw [HT.out]; exact ho5, (HO2.out.alloc _).own (Nat.le_refl _) (HB2.out.alloc hsz2 _) hg5 (by simp; omega)⟩
                case measure => simp [intOf]; omega
              | false =>
                have HT := Lib.hid (show hullSet (n + 1) (colI ks k) = hullSet n (colI ks k) by rw [HSS.out, hp]; simp)
                go_wp2_with fail
                go_roundw
                case rel => exact ⟨n + 1, _, by omega, by go_num, rfl, by rw [HT.out]; exact HO2.out, HB2.out⟩
                case measure => simp [intOf]; omega
        · have hnd : n = m.d.toNat := by omega
          rw [hnd] at ho2
          have HNL : decide ((n : Int) < m.d) = false := decide_eq_false hlt2
          obtain ⟨zs, hzs⟩ : ∃ zs, zs = hullSet m.d.toNat (colI ks k) := ⟨_, rfl⟩
          rw [← hzs] at ho2 HS
          obtain ⟨A7, c7, rfl, hc7, hr7⟩ := ho2.toOR.readsI
          have HO7 := Lib.hid ho2
          have hs2 := hb2.size
          obtain ⟨us, k1, k2, k3, k4⟩ := HO.out.below hb2
          rw [hullF_length] at k1
          have HK := Lib.hid (And.intro k3 k4); clear k3 k4
          have HB2 := Lib.hid hb2
          clear hzs ho2 hr7 hnd hb2
          go_wp2_with (at_builtin; refine wpList_app1 _ rfl _ _ _ rfl (w.heap.size + 2) 56 _ 24 Try.underlying24 info_sl rfl (by omega) _ us rfl (k2.1.alloc _) _ _ rfl (one_cell _ _ _) rfl (by omega) (by simp; omega) ?_; intro v' w5 ho5 hg5 hn5 hat5)
          have HN := Lib.hid (OII.push1 (ys := zs) (by rw [hullF_length]; exact k1) k2 HK.out.1 HK.out.2 HO7.out (by omega) hs2 ho5 hg5)
          have HB5 := Lib.hid ((k2.1.alloc (.cells #[.slice A7 zs.length c7] 56)).own (Nat.le_refl _) ((hb.trans (HB2.out.mono (by omega))).alloc (by omega) _) hg5 (by simp; omega))
          clear ho5 hg5 hn5 hat5
          go_roundw
          case rel => exact ⟨k + 1, v', by omega, by go_num, rfl, by rw [HS.out]; exact HN.out, HB5.out⟩
          case measure => simp [intOf]; omega
    · have HKC := Lib.hid (show k = m.c.toNat by omega)
      obtain ⟨A9, c9, hv9, hc9, hr9⟩ := HO.out.reads
      rw [hullF_length] at hv9 hc9
      subst hv9
      have lb := (hb.block (w.heap.size + 1) (by omega)).trans HBK.out
      have l0 : wr.cell? ⟨w.heap.size + 1, 0, none⟩ = some (.slice none 0 0) := by simp [World.cell?, lb]
      have l1 : wr.frozen? ⟨w.heap.size + 1, 0, none⟩ = false := by simp [World.frozen?, lb]
      have HBB := Lib.hid Bw
      have hkd : decide ((k : Int) < m.c) = false := decide_eq_false hlt
      clear hr9
      go_wp2_with fail
      (try simp only [Exit.inBlock, Exit.then])
      refine bodyPost_ret (results_cell_row rfl _ _ (w.heap.size + 1) 75 #[.slice A9 k c9] (0, 0) _ (by rfl) (by simp [World.setCell, Array.getElem?_modify, lb]) Try.underlying75 rfl (by kernel_rfl)) rfl ?_
      have ho9 := (HO.out.setLow (p := ⟨w.heap.size + 1, 0, none⟩) (u := .slice A9 k c9) (by simp only; omega)).wide (B' := w.heap.size) (C' := (wr.setCell ⟨w.heap.size + 1, 0, none⟩ (.slice A9 k c9)).heap.size) (by omega) (by simp)
      have hkc := HKC.out
      rw [hkc] at ho9 hc9 ⊢
      have hl9 : (hullF m.c.toNat m.d.toNat ks).length = m.c.toNat := hullF_length _ _ _
      refine ⟨A9, c9, by rw [hl9], by rw [hl9]; exact hc9, ho9.rii, by rw [hl9]; exact ho9, HBB.out.setCell (by simp only; omega) _⟩
end Go.Proofs.Ytapocenhmdcfoaa
