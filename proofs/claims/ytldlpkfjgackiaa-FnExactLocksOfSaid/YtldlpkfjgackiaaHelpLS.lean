/- Contracts of the statements' helpers on lists of locks. -/
import Derived.Test.YtldlpkfjgackiaaHelpL
import Derived.Test.YtldlpkfjgackiaaMemLS
import Derived.Test.YtldlpkfjgackiaaRegion
namespace Go.Proofs.Ytldlpkfjgackiaa
set_option linter.unusedVariables false
open Go.RowKit
def numLS : Int → List (List (List Int)) → List (List (List Int))
  | _, [] => []
  | k, l :: r => numII k l :: numLS (k + sumLen l) r
def sumLS (ls : List (List (List Int))) : Nat := (ls.map sumLen).sum
theorem sumLS_succ (ls : List (List (List Int))) (k : Nat) (h : k < ls.length) : sumLS (ls.take (k + 1)) = sumLS (ls.take k) + sumLen ls[k] := by
  unfold sumLS; rw [List.take_succ_eq_append_getElem h]; simp only [List.map_append, List.sum_append, List.map_cons, List.map_nil, List.sum_cons, List.sum_nil, Nat.add_zero]
theorem sumLS_le (ls : List (List (List Int))) (k : Nat) (h : k < ls.length) : sumLS (ls.take k) + sumLen ls[k] ≤ sumLS ls := by
  rw [← sumLS_succ ls k h]
  conv => rhs; rw [← List.take_append_drop (k + 1) ls]
  unfold sumLS; simp only [List.map_append, List.sum_append]; omega
theorem numLS_length : ∀ (ls : List (List (List Int))) (k : Int), (numLS k ls).length = ls.length
  | [], _ => rfl
  | l :: r, k => by simp [numLS, numLS_length r]
theorem numLS_append : ∀ (a b : List (List (List Int))) (k : Int), numLS k (a ++ b) = numLS k a ++ numLS (k + sumLS a) b
  | [], b, k => by simp [numLS, sumLS]
  | l :: r, b, k => by
    simp only [List.cons_append, numLS, numLS_append r b]
    rw [show k + (sumLen l : Int) + (sumLS r : Int) = k + (sumLS (l :: r) : Int) by simp [sumLS]; omega]
theorem numLS_at (ls : List (List (List Int))) (k : Int) (j : Nat) (h : j < ls.length) : (numLS k ls)[j]? = some (numII (k + sumLS (ls.take j)) ls[j]) := by
  conv => lhs; rw [← List.take_append_drop j ls, numLS_append, List.drop_eq_getElem_cons h]
  rw [List.getElem?_append_right (by rw [numLS_length]; simp; omega), numLS_length]
  simp [numLS, show j - min j ls.length = 0 by omega]
theorem numLS_set (ls : List (List (List Int))) (K : Int) (k : Nat) (h : k < ls.length) :
    (numLS K (ls.take k) ++ ls.drop k).set k (numII (K + sumLS (ls.take k)) ls[k]) = numLS K (ls.take (k + 1)) ++ ls.drop (k + 1) := by
  have hl : (numLS K (ls.take k)).length = k := by rw [numLS_length]; simp; omega
  rw [List.set_append, hl, if_neg (by omega), Nat.sub_self, List.drop_eq_getElem_cons h, List.set_cons_zero, List.take_succ_eq_append_getElem h, numLS_append]
  simp only [numLS, List.append_assoc, List.cons_append, List.nil_append]
theorem numLS_mid (ls : List (List (List Int))) (K : Int) (k : Nat) (h : k < ls.length) : (numLS K (ls.take k) ++ ls.drop k)[k]? = some ls[k] := by
  have hl : (numLS K (ls.take k)).length = k := by rw [numLS_length]; simp; omega
  rw [List.getElem?_append_right (by omega), hl, Nat.sub_self, List.drop_eq_getElem_cons h]; rfl
theorem mem_sumLS {ls : List (List (List Int))} {k : Nat} (h : k < ls.length) : sumLen ls[k] ≤ sumLS ls := by have := sumLS_le ls k h; omega
/-- One lock of the list has been written in its own blocks. -/
theorem OLSf.set {w w' : World} {B C : Nat} {v u : Value} {us : List Value} {f : Nat → Nat × Nat} {ls : List (List (List Int))} {l : List (List Int)} (h : OLSf w B C v us f ls) {k : Nat} (hk : k < ls.length) (hu : us[k]? = some u)
    (ho : OII w' (f k).1 (f k).2 u l) (hon : Only (f k).1 (f k).2 w w') (hC : C ≤ w.heap.size) : OLSf w' B C v us f (ls.set k l) := by
  obtain ⟨h1, h2, h3, h4, h5⟩ := h
  refine ⟨by simp [h1], ⟨?_, h2.2⟩, fun j hj => ?_, fun i j hij hj => h4 i j hij (by simpa using hj), fun g hg j hj => h5 g hg j (by simpa using hj)⟩
  · refine h2.1.same fun g hg => hon.block g (h2.1.lt g hg).2 ?_
    have := h5 g hg k hk; omega
  · have hj0 : j < ls.length := by simpa using hj
    by_cases hjk : j = k
    · subst hjk
      obtain ⟨u0, hu0, _, hb1, hb2⟩ := h3 j hj0
      exact ⟨u, hu, by simpa using ho, hb1, hb2⟩
    · obtain ⟨u0, hu0, ho0, hb1, hb2⟩ := h3 j hj0
      have e : (ls.set k l)[j]'hj = ls[j] := by rw [List.getElem_set]; simp [Ne.symm hjk]
      refine ⟨u0, hu0, ?_, hb1, hb2⟩
      rw [e]
      refine ho0.only hon ?_
      rcases Nat.lt_or_gt_of_ne hjk with h | h
      · exact .inl (h4 j k h hk)
      · exact .inr (h4 k j h hj0)
set_option maxRecDepth 100000 in
set_option maxHeartbeats 4000000 in
theorem eqLS_t (A B : Option Addr) (c d : Nat) (ls : List (List (List Int))) (w : World) (h : RLS w A ls) (g : RLS w B ls) :
    Calls Try.prog 57 #[.slice A ls.length c, .slice B ls.length d] w fun e w' => e = .returned (.bool true) ∧ Below w.heap.size w w' := by
  have hle := h.le
  go_enter Try.func57, Try.ntmps57
  go_wp2_with fail
  go_loopw [5] (fun i wr => ∃ k : Nat, k ≤ ls.length ∧ i = .int .i64 k ∧ Below w.heap.size w wr) (fun i _ => ls.length - (intOf i).toNat)
  case atStart => exact ⟨0, by omega, rfl, Below.refl _ _⟩
  case round =>
    obtain ⟨k, hk, rfl, hb⟩ := hrel
    by_cases hlt : k < ls.length
    · obtain ⟨b, o, A', c', rfl, hc, hcc, hr⟩ := (h.below hb).at_ hlt
      obtain ⟨b2, o2, A2, c2, rfl, hc2, hcc2, hr2⟩ := (g.below hb).at_ hlt
      have i0 : (0 : Int) ≤ (k : Int) := by omega
      have i1 : (k : Int) < (ls.length : Int) := by omega
      have KS := Lib.hid (show ∀ w' : World, Below wr.heap.size wr w' → (w'.cell? ⟨b, o + k, none⟩ = some (.slice A' ls[k].length c') ∧ w'.cell? ⟨b2, o2 + k, none⟩ = some (.slice A2 ls[k].length c2)) from fun w' hw => ⟨cell_in hw (World.block_lt_of_cell? wr _ hc) hc, cell_in hw (World.block_lt_of_cell? wr _ hc2) hc2⟩)
      have HE := Lib.hid (fun (W : World) (hW : Below wr.heap.size wr W) => eqL_t A' A2 c' c2 ls[k] W (hr.below hW) (hr2.below hW))
      clear hc hc2
      go_wp2_with fail
      refine wp_region_held_drew (S := (fun w' => w'.cell? ⟨b, o + k, none⟩ = some (.slice A' ls[k].length c') ∧ w'.cell? ⟨b2, o2 + k, none⟩ = some (.slice A2 ls[k].length c2))) (by kernel_rfl) (KS.out _ (belowDrew0 _)) (fun hHeld => ?_)
      refine takeD (i := 0) (some 17) (.slice (some ⟨b, o, none⟩) ls.length c) rfl (by kernel_rfl) (by kernel_rfl) (by kernel_rfl) (by kernel_rfl) (fun _ _ _ h => h) (by assumption) (Or.inl ⟨by rfl, fun w hSw => by (try dsimp only at hSw); go_simp⟩) ?_
      simp only [Act.put, List.setIfInBounds_toArray, List.set_cons_zero, List.set_cons_succ]
      refine takeD (i := 1) (some 18) (.int .i64 (k : Int)) rfl (by kernel_rfl) (by kernel_rfl) (by kernel_rfl) (by kernel_rfl) (fun _ _ _ h => h) (by assumption) (Or.inl ⟨by rfl, fun w hSw => by (try dsimp only at hSw); go_simp⟩) ?_
      simp only [Act.put, List.setIfInBounds_toArray, List.set_cons_zero, List.set_cons_succ]
      refine takeD (i := 2) (some 19) (.pointer (some ⟨b, o + k, none⟩)) rfl (by kernel_rfl) (by kernel_rfl) (by kernel_rfl) (by kernel_rfl) (fun _ _ _ h => h) (by assumption) (Or.inl ⟨by rfl, fun w hSw => by (try dsimp only at hSw); go_simp⟩) ?_
      simp only [Act.put, List.setIfInBounds_toArray, List.set_cons_zero, List.set_cons_succ]
      refine takeD (i := 3) (some 20) (.agg #[.slice A' ls[k].length c']) rfl (by kernel_rfl) (by kernel_rfl) (by kernel_rfl) (by kernel_rfl) (fun _ _ _ h => h) (by assumption) (Or.inl ⟨by rfl, fun w hSw => by (try dsimp only at hSw); go_simp⟩) ?_
      simp only [Act.put, List.setIfInBounds_toArray, List.set_cons_zero, List.set_cons_succ]
      refine takeD (i := 4) (some 21) (.slice (some ⟨b2, o2, none⟩) ls.length d) rfl (by kernel_rfl) (by kernel_rfl) (by kernel_rfl) (by kernel_rfl) (fun _ _ _ h => h) (by assumption) (Or.inl ⟨by rfl, fun w hSw => by (try dsimp only at hSw); go_simp⟩) ?_
      simp only [Act.put, List.setIfInBounds_toArray, List.set_cons_zero, List.set_cons_succ]
      refine takeD (i := 5) (some 22) (.int .i64 (k : Int)) rfl (by kernel_rfl) (by kernel_rfl) (by kernel_rfl) (by kernel_rfl) (fun _ _ _ h => h) (by assumption) (Or.inl ⟨by rfl, fun w hSw => by (try dsimp only at hSw); go_simp⟩) ?_
      simp only [Act.put, List.setIfInBounds_toArray, List.set_cons_zero, List.set_cons_succ]
      refine takeD (i := 6) (some 23) (.pointer (some ⟨b2, o2 + k, none⟩)) rfl (by kernel_rfl) (by kernel_rfl) (by kernel_rfl) (by kernel_rfl) (fun _ _ _ h => h) (by assumption) (Or.inl ⟨by rfl, fun w hSw => by (try dsimp only at hSw); go_simp⟩) ?_
      simp only [Act.put, List.setIfInBounds_toArray, List.set_cons_zero, List.set_cons_succ]
      refine takeD (i := 7) (some 24) (.agg #[.slice A2 ls[k].length c2]) rfl (by kernel_rfl) (by kernel_rfl) (by kernel_rfl) (by kernel_rfl) (fun _ _ _ h => h) (by assumption) (Or.inl ⟨by rfl, fun w hSw => by (try dsimp only at hSw); go_simp⟩) ?_
      simp only [Act.put, List.setIfInBounds_toArray, List.set_cons_zero, List.set_cons_succ]
      refine wpAnyH_ready (rs := [8]) (by kernel_rfl) (by simp) (AllReadyH.cons rfl (fun K hK => ?_) AllReadyH.nil)
      go_simp
      refine (HE.out _ (belowDrew0 _)).mono ?_
      rintro e w3 ⟨rfl, b3'⟩
      have b3 := belowDrew b3'
      clear b3'
      have HHeld := KS.out _ b3
      refine hK.out _ _ HHeld (fun _ => ?_)
      clear hK K
      try simp only [Act.put, List.setIfInBounds_toArray, List.set_cons_zero, List.set_cons_succ]
      refine takeD (i := 9) (some 26) (.bool false) rfl (by kernel_rfl) (by kernel_rfl) (by kernel_rfl) (by kernel_rfl) (fun _ _ _ h => h) (by assumption) (Or.inl ⟨by rfl, fun w hSw => by (try dsimp only at hSw); go_simp⟩) ?_
      simp only [Act.put, List.setIfInBounds_toArray, List.set_cons_zero, List.set_cons_succ]
      refine wpAnyH_done (by kernel_rfl) ?_ _
      go_wp2_with fail
      go_roundw
      case rel => exact ⟨k + 1, by omega, by go_num, hb.trans (b3.mono hb.size)⟩
      case measure => simp [intOf]; omega
    · obtain rfl : k = ls.length := by omega
      go_wp2_with fail
      go_ret
      exact ⟨rfl, hb⟩
set_option maxRecDepth 100000 in
set_option maxHeartbeats 4000000 in
theorem markLS_t (v : Value) (ls : List (List (List Int))) (B C : Nat) (K : Int) (w : World) (h : OLS w B C v ls) (hn : ls.length ≤ 4194304) (hm : sumLS ls ≤ 1048576) (h0 : 0 ≤ K) (h1 : K ≤ 1048576) (hC : C ≤ w.heap.size) (hmm : ∀ k (hk : k < ls.length), ls[k].length ≤ 4194304) :
    Calls Try.prog 58 #[v, .int .i64 K] w fun e w' => e = .returned (.int .i64 (K + sumLS ls)) ∧ OLS w' B C v (numLS K ls) ∧ Only B C w w' := by
  obtain ⟨us, f, hf⟩ := h
  obtain ⟨A, c, rfl, hc, hrv⟩ := hf.2.1.1.reads
  have hul := hf.1
  rw [hul] at hc ⊢
  have HF := Lib.hid hf
  have HMM := Lib.hid hmm
  have HUL := Lib.hid hul
  clear hf hrv hmm hul
  go_enter Try.func58, Try.ntmps58
  go_wp2_with fail
  go_loopw [1, 5] (fun m i wr => ∃ k : Nat, k ≤ ls.length ∧ i = .int .i64 k ∧ m = .int .i64 (K + sumLS (ls.take k)) ∧ OLSf wr B C (.slice A us.length c) us f (numLS K (ls.take k) ++ ls.drop k) ∧ Only B C w wr) (fun _ i _ => ls.length - (intOf i).toNat)
  case atStart => exact ⟨0, by omega, rfl, by simp [sumLS], by simpa [numLS] using HF.out, Only.refl _ _ _⟩
  case round =>
    obtain ⟨k, hk, rfl, rfl, hf, hon⟩ := hrel
    by_cases hlt : k < ls.length
    · have hkl : k < (numLS K (ls.take k) ++ ls.drop k).length := by rw [List.length_append, numLS_length]; simp; omega
      obtain ⟨u, hu, ho, hb1, hb2⟩ := hf.2.2.1 k hkl
      have hmid : (numLS K (ls.take k) ++ ls.drop k)[k] = ls[k] := by have := numLS_mid ls K k hlt; rw [List.getElem?_eq_getElem hkl] at this; exact Option.some.inj this
      rw [hmid] at ho
      have hs := sumLS_le ls k hlt
      have HSS := Lib.hid (sumLS_succ ls k hlt)
      have hmk := HMM.out k hlt
      have hCw := hon.size
      have HMK := Lib.hid (markII_t u ls[k] (f k).1 (f k).2 (K + sumLS (ls.take k)) wr ho hmk (by omega) (by omega) (by omega))
      obtain ⟨A9, c9, hv9, hc9, hrv⟩ := hf.2.1.1.reads
      injection hv9 with ea eb ec
      subst ea ec
      obtain ⟨b, o, rfl, hcell⟩ := hrv.at_ (k := k) (by rw [HUL.out]; exact hlt)
      have hcu : us[k]'(by rw [HUL.out]; exact hlt) = u := by rw [List.getElem?_eq_getElem (by rw [HUL.out]; exact hlt)] at hu; exact Option.some.inj hu
      rw [hcu] at hcell
      obtain ⟨A1, c1, rfl, hc1, hr1⟩ := ho.reads
      have HFF := Lib.hid hf; have HU := Lib.hid hu
      obtain ⟨q, hq⟩ : ∃ q : Nat, q = sumLS (ls.take k) := ⟨_, rfl⟩
      obtain ⟨s2, hs2⟩ : ∃ s2 : Nat, s2 = sumLen ls[k] := ⟨_, rfl⟩
      have HRES := Lib.hid (show K + (q : Int) + (s2 : Int) = K + (sumLS (ls.take (k + 1)) : Int) by rw [HSS.out, hq, hs2]; omega)
      have HB12 := Lib.hid (And.intro hb1 hb2)
      rw [← hq, ← hs2] at HMK
      rw [← hq]
      rw [← hq, ← hs2] at hs
      have HQ := Lib.hid hq
      clear hq hs2 hf hu hcu hrv ho hr1 hmid
      go_wp2_with fail
      refine HMK.out.mono ?_
      rintro e w3 ⟨rfl, ho3, hon3⟩
      have HSET := Lib.hid (HFF.out.set hkl HU.out ho3 hon3 (by omega))
      have HON := Lib.hid (show Only B C w w3 from hon.trans ⟨hon3.os, hon3.tape, hon3.output, hon3.size, fun g hg hj => hon3.block g hg (by have := HB12.out; omega)⟩)
      clear ho3 hon3
      go_wp2_with fail
      go_roundw
      case rel => exact ⟨k + 1, by omega, by go_num, by rw [HRES.out], by have := HSET.out; rw [HQ.out, numLS_set ls K k hlt] at this; exact this, HON.out⟩
      case measure => simp [intOf]; omega
    · obtain rfl : k = ls.length := by omega
      rw [List.take_length, List.drop_length, List.append_nil] at hf
      rw [List.take_length]
      go_wp2_with fail
      go_ret
      exact ⟨rfl, ⟨us, f, by rw [← HUL.out]; exact hf⟩, hon⟩
set_option maxRecDepth 100000 in
set_option maxHeartbeats 4000000 in
theorem heldLS_t (A : Option Addr) (c : Nat) (ls : List (List (List Int))) (K : Int) (w : World) (h : RLS w A (numLS K ls)) (hn : ls.length ≤ 4194304) (hm : sumLS ls ≤ 1048576) (h0 : 0 ≤ K) (h1 : K ≤ 1048576) (hmm : ∀ k (hk : k < ls.length), ls[k].length ≤ 4194304) :
    Calls Try.prog 59 #[.slice A ls.length c, .int .i64 K] w fun e w' => e = .returned (.int .i64 (K + sumLS ls)) ∧ Below w.heap.size w w' := by
  have HMM := Lib.hid hmm; clear hmm
  go_enter Try.func59, Try.ntmps59
  go_wp2_with fail
  go_loopw [1, 5] (fun m i wr => ∃ k : Nat, k ≤ ls.length ∧ i = .int .i64 k ∧ m = .int .i64 (K + sumLS (ls.take k)) ∧ Below w.heap.size w wr) (fun _ i _ => ls.length - (intOf i).toNat)
  case atStart => exact ⟨0, by omega, rfl, by simp [sumLS], Below.refl _ _⟩
  case round =>
    obtain ⟨k, hk, rfl, rfl, hb⟩ := hrel
    by_cases hlt : k < ls.length
    · have hkl : k < (numLS K ls).length := by rw [numLS_length]; exact hlt
      obtain ⟨b, o, A', c', rfl, hc, hcc, hr⟩ := (h.below hb).at_ hkl
      have he : (numLS K ls)[k] = numII (K + sumLS (ls.take k)) ls[k] := by have := numLS_at ls K k hlt; rw [List.getElem?_eq_getElem hkl] at this; exact Option.some.inj this
      rw [he] at hc hr hcc
      rw [numII_length] at hc hcc
      have hs := sumLS_le ls k hlt
      have hmk := HMM.out k hlt
      have HSS := Lib.hid (sumLS_succ ls k hlt)
      have HMK := Lib.hid (heldII_t A' c' ls[k] (K + sumLS (ls.take k)) wr hr hmk (by omega) (by omega) (by omega))
      obtain ⟨q, hq⟩ : ∃ q : Nat, q = sumLS (ls.take k) := ⟨_, rfl⟩
      obtain ⟨s2, hs2⟩ : ∃ s2 : Nat, s2 = sumLen ls[k] := ⟨_, rfl⟩
      have HRES := Lib.hid (show K + (q : Int) + (s2 : Int) = K + (sumLS (ls.take (k + 1)) : Int) by rw [HSS.out, hq, hs2]; omega)
      rw [← hq, ← hs2] at HMK
      rw [← hq]
      rw [← hq, ← hs2] at hs
      have t1 : ¬ K + (q : Int) + (s2 : Int) < 0 := by omega
      clear hq hs2 he hr
      go_wp2_with fail
      refine HMK.out.mono ?_
      rintro e w3 ⟨rfl, b3⟩
      go_wp2_with fail
      go_roundw
      case rel => exact ⟨k + 1, by omega, by go_num, by rw [HRES.out], hb.trans (b3.mono hb.size)⟩
      case measure => simp [intOf]; omega
    · obtain rfl : k = ls.length := by omega
      rw [List.take_length]
      go_wp2_with fail
      go_ret
      exact ⟨rfl, hb⟩
end Go.Proofs.Ytldlpkfjgackiaa
