/- Contract of l11Choices. -/
import Derived.Test.YthjfilhcfjpinaaFSets
namespace Go.Proofs.Ythjfilhcfjpinaa
set_option linter.unusedVariables false
open Go.RowKit
theorem upto_bound (k n f : Nat) (hn : n ≤ 10) (hf : f ≤ n) : (upto k n f).length ≤ 1024 := by
  have := upto_len k n (choices_len k) f hf
  have h10 : 2 ^ n ≤ 2 ^ 10 := Nat.pow_le_pow_right (by omega) hn
  have hp := Nat.two_pow_pos (n - f)
  omega
theorem ints_snoc (xs : List Int) (x : Int) : ints (xs ++ [x]) = ints xs ++ [.int .i64 x] := by rw [ints_append]; rfl
set_option maxRecDepth 100000 in
set_option maxHeartbeats 8000000 in
theorem l11Choices_go : ∀ (k n : Nat) (K N : Int) (w : World), K = k → N = n → n ≤ 10 → k ≤ 10 → Calls Try.prog 111 #[.int .i64 N, .int .i64 K] w (ResII w (choices k n))
  | 0, n, K, N, w, hK, hN, hn, hk => by
    obtain rfl : K = 0 := by omega
    clear hK hN
    go_enter Try.func111, Try.ntmps111
    go_wp2_with fail
    go_ret
    exact resII_own OII.one0 (Nat.le_refl _) (by simp) (((Below.refl w.heap.size w).alloc (Nat.le_refl _) _).alloc (by simp) _)
  | k + 1, n, K, N, w, hK, hN, hn, hk => by
    obtain rfl : K = (k : Int) + 1 := by omega
    obtain rfl : N = (n : Int) := hN
    clear hK
    have IH := Lib.hid (l11Choices_go k)
    have t2 : ((k : Int) + 1 == 0) = false := by simp; omega
    go_enter Try.func111, Try.ntmps111
    go_wp2_with fail
    go_loopw [5, 6, 7, 8, 9, 10] (fun v f _ _ _ _ wr => ∃ g : Nat, f = .int .i64 g ∧ g ≤ n - k ∧ OII wr w.heap.size wr.heap.size v (upto k n g) ∧ Below w.heap.size w wr) (fun _ f _ _ _ _ _ => n - (intOf f).toNat)
    case atStart => exact ⟨0, rfl, by omega, (OII.new0 (w := w) (Nat.le_refl _)).wide (Nat.le_refl _) (by simp), (Below.refl _ _).alloc (Nat.le_refl _) _⟩
    case round =>
      obtain ⟨g, rfl, hg, ho, hb⟩ := hrel
      have HO := Lib.hid ho; clear ho
      by_cases hlt : g + (k + 1) ≤ n
      · have i0 : (g : Int) + ((k : Int) + 1) ≤ (n : Int) := by omega
        obtain ⟨wo, rfl⟩ : ∃ wo : World, wo = wr := ⟨_, rfl⟩
        go_wp2_with fail
        refine (IH.out (n - g - 1) _ _ _ (by omega) (by omega) (by omega) (by omega)).mono ?_
        rintro e w1 ⟨A1, c1, rfl, hc1, r1, o1, b1⟩
        have HN := Lib.hid (Nat.le_trans (choices_len k (n - g - 1)) (Nat.pow_le_pow_right (by omega) (show n - g - 1 ≤ 10 by omega)))
        have HU := Lib.hid (upto_bound k n g hn (by omega))
        have HUS := Lib.hid (upto_succ k n g)
        have HO1 := Lib.hid o1; clear o1
        generalize hR : choices k (n - g - 1) = R at *
        have HRR := Lib.hid hR; clear hR
        have hl1 := r1.le
        have HOut := Lib.hid (HO.out.below b1)
        have hvo : ∀ g, u5.ownBlock = some g → g < wo.heap.size ∨ w1.heap.size ≤ g := by
          obtain ⟨us, k1, k2, k3, k4⟩ := HO.out
          exact fun g hg => .inl (k2.2 g hg)
        have HVO := Lib.hid hvo; clear hvo
        have Bw := hb.trans (b1.mono hb.size)
        go_wp2_with fail
        go_loopw [5, 8, 9, 10] (fun v i _ _ wx => ∃ j : Nat, i = .int .i64 j ∧ j ≤ R.length ∧ OII wx w.heap.size wx.heap.size v (upto k n g ++ (R.take j).map (shiftL g)) ∧ (∀ g, v.ownBlock = some g → g < wo.heap.size ∨ w1.heap.size ≤ g) ∧ OII wx wo.heap.size w1.heap.size (.slice A1 R.length c1) R ∧ w1.heap.size ≤ wx.heap.size ∧ Below w.heap.size w wx) (fun _ i _ _ _ => R.length - (intOf i).toNat)
        case atStart => exact ⟨0, rfl, by omega, by simpa using HOut.out.wide (Nat.le_refl _) b1.size, HVO.out, HO1.out, Nat.le_refl _, Bw⟩
        case round =>
          obtain ⟨j, rfl, hj, ho2, hvo2, hr1, hsz1, hb3⟩ := hrel
          have HV2 := Lib.hid hvo2; have HR1 := Lib.hid hr1
          have r1' := OII.rii hr1
          clear hvo2 hr1
          have HO2 := Lib.hid ho2; clear ho2
          by_cases hjl : j < R.length
          · obtain ⟨b, o, A2, c2, rfl, hcell, hcc, hr2⟩   := r1'.at_ hjl
            have HTK := Lib.hid (show upto k n g ++ (R.take (j + 1)).map (shiftL g) = (upto k n g ++ (R.take j).map (shiftL g)) ++ [shiftL g R[j]] by rw [List.take_succ_eq_append_getElem hjl, List.map_append, List.append_assoc]; rfl)
            have hmem : R[j] ∈ choices k (n - g - 1) := by rw [HRR.out]; exact List.getElem_mem hjl
            have HM := Lib.hid ((mem_choices _ _ _).1 hmem); clear hmem
            have hrl : R[j].length ≤ 10 := by rw [HM.out.1]; omega
            have HLen := Lib.hid (show (upto k n g ++ (R.take j).map (shiftL g)).length ≤ 4096 by rw [List.length_append, List.length_map, List.length_take]; have := HU.out; have := HN.out; omega)
            have hle2 := hr2.le
            obtain ⟨wp, rfl⟩ : ∃ wp : World, wp = wr := ⟨_, rfl⟩
            have hsz := hb3.size
            have HTbl := Lib.hid (show ∀ W : World, Below wp.heap.size wp W → ∃ A3 c3, W.cell? ⟨b, o + j, none⟩ = some (.slice A3 R[j].length c3) ∧ R[j].length ≤ c3 ∧ RI W A3 R[j] from fun W hW => (r1'.below hW).cell hjl)
            have h1new : OV (wp.alloc (.cells #[.int .i64 (g : Int)] 2)) wp.heap.size 2 (.slice (some ⟨wp.heap.size, 0, none⟩) 1 1) (ints [(g : Int)]) := by
              have := OV.new (w := wp) (B := wp.heap.size) (e := 2) #[.int .i64 (g : Int)] (Nat.le_refl _) (by simp [maxLen])
              simpa [ints] using this
            go_wp2_with fail
            go_loopw [9, 10] (fun v i wx => ∃ q : Nat, i = .int .i64 q ∧ q ≤ R[j].length ∧ OV wx wp.heap.size 2 v (ints ((g : Int) :: (R[j].take q).map (fun x => x + (g : Int) + 1))) ∧ Below wp.heap.size wp wx) (fun _ i _ => R[j].length - (intOf i).toNat)
            case atStart => exact ⟨0, rfl, by omega, by simpa using h1new, (Below.refl _ _).alloc (Nat.le_refl _) _⟩
            case round =>
              obtain ⟨q, rfl, hq, ho4, hb4⟩ := hrel
              obtain ⟨A3, c3, hcell3, hcc3, hr3⟩ := HTbl.out wr hb4
              have hs4 := hb4.size
              by_cases hql : q < R[j].length
              · obtain ⟨b5, o5, rfl, hc5⟩ := hr3.at_ hql
                have hin : ∀ (l : List Int) (lo : Int), Inc lo ((n - g - 1 : Nat) : Int) l → 0 ≤ lo → ∀ i (hi : i < l.length), 0 ≤ l[i] ∧ l[i] ≤ 10 := by
                  intro l
                  induction l with
                  | nil => intro _ _ _ i hi; simp at hi
                  | cons x r ih =>
                    intro lo h h0 i hi
                    cases i with
                    | zero => have := h.1; have := h.2.1; simp; omega
                    | succ i => simpa using ih _ h.2.2 (by have := h.1; omega) i (by simpa using hi)
                have hv := hin R[j] 0 HM.out.2 (by omega) q hql
                have v1 := hv.1; have v2 := hv.2
                clear hv hin
                have HT2 := Lib.hid (show ints ((g : Int) :: (R[j].take (q + 1)).map (fun x => x + (g : Int) + 1)) = ints ((g : Int) :: (R[j].take q).map (fun x => x + (g : Int) + 1)) ++ [.int .i64 (R[j][q] + (g : Int) + 1)] by rw [List.take_succ_eq_append_getElem hql, List.map_append, ← List.cons_append, ints_append]; rfl)
                have HL2 := Lib.hid (show (ints ((g : Int) :: (R[j].take q).map (fun x => x + (g : Int) + 1))).length ≤ 100 by rw [ints_length, List.length_cons, List.length_map, List.length_take]; omega)
                generalize hX : R[j][q] = X at *
                have HX := Lib.hid hX; clear hX
                go_wp2_with (at_builtin; refine wpList_app1 _ rfl _ _ _ rfl wp.heap.size 2 _ 8 Try.underlying38 info_int rfl (by omega) _ _ rfl (ho4.alloc _) _ _ rfl (one_cell _ _ _) rfl (by have := HL2.out; omega) (by simp; omega) ?_; intro v' w3 ho3 hg3 hn3 hat3)
                go_roundw
                case rel => exact ⟨q + 1, by go_num, by omega, by rw [HT2.out]; exact ho3, (ho4.alloc _).own (Nat.le_refl _) (hb4.alloc (by omega) _) hg3 (by simp; omega)⟩
                case measure => simp [intOf]; omega
              · obtain rfl : q = R[j].length := by omega
                have hou : OV wr wp.heap.size 2 u9 (ints (shiftL g R[j])) := by rw [List.take_length] at ho4; exact ho4
                obtain ⟨us, k1, k2, k3, k4⟩ := HO2.out.below hb4
                have hul : us.length ≤ 4096 := by rw [k1]; exact HLen.out
                obtain ⟨A9, n9, c9, rfl⟩ : ∃ A n c, u9 = .slice A n c := by obtain ⟨A9, c9, e9, _, _⟩ := hou.reads; exact ⟨_, _, _, e9⟩
                have HK := Lib.hid (And.intro k3 k4); clear k3 k4
                have HL := Lib.hid k1; clear k1
                go_wp2_with (at_builtin; refine wpList_app1 _ rfl _ _ _ rfl w.heap.size 38 _ 24 Try.underlying26 info_sl rfl (by omega) _ us rfl (k2.1.alloc _) _ _ rfl (one_cell _ _ _) rfl (by omega) (by simp; omega) ?_; intro v' w3 ho3 hg3 hn3 hat3)
                have Hg3 := Lib.hid hg3; have Hat := Lib.hid hat3; have Ho3 := Lib.hid ho3
                clear hg3 hat3 ho3 hn3
                go_roundw
                case rel =>
                  refine ⟨j + 1, by go_num, by omega, ?_, ?_, ?_, ?_, ?_⟩
                  · have := OII.push1 (ys := shiftL g R[j]) HL.out k2 HK.out.1 HK.out.2 hou hsz (by omega) Ho3.out Hg3.out
                    rw [HTK.out]; exact this
                  · intro g' hg'
                    rcases Hat.out with e | e
                    · exact HV2.out g' (e.symm.trans hg')
                    · have hg2 := e.symm.trans hg'; injection hg2 with hg2; simp at hg2; omega
                  · have h1 := (HR1.out.below (hb4.mono hsz1)).below ((Below.refl w1.heap.size wr).alloc (by omega) (.cells #[.slice A9 n9 c9] 38))
                    exact h1.grown Hg3.out (by simp; omega) HV2.out
                  · have := Hg3.out.size; simp at this; omega
                  · exact (k2.1.alloc _).own (Nat.le_refl _) ((hb3.trans (hb4.mono hsz)).alloc (by omega) _) Hg3.out (by simp; omega)
                case measure => simp [intOf]; omega
          · obtain rfl : j = R.length := by omega
            have HE := Lib.hid (show upto k n g ++ (R.take R.length).map (shiftL g) = upto k n (g + 1) by rw [List.take_length, HUS.out])
            go_wp2_with fail
            go_roundw
            case rel => exact ⟨g + 1, by go_num, by omega, by have := HO2.out; rw [HE.out] at this; exact this, hb3⟩
            case measure => simp [intOf]; omega
      · have i0 : (n : Int) < (g : Int) + ((k : Int) + 1) := by omega
        have i1 : decide ((g : Int) + ((k : Int) + 1) ≤ (n : Int)) = false := decide_eq_false (by omega)
        obtain ⟨A, c, rfl, hc, hr⟩ := HO.out.reads
        have HE := Lib.hid (show choices (k + 1) n = upto k n g by rw [choices_succ]; congr 1; omega)
        go_wp2_with fail
        go_ret
        rw [HE.out]
        exact resII_own HO.out (Nat.le_refl _) (Nat.le_refl _) hb
end Go.Proofs.Ythjfilhcfjpinaa
