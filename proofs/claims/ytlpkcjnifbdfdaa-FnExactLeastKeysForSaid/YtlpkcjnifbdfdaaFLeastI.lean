/- Contract of the program's LeastKeysFor. -/
import Derived.Test.YtlpkcjnifbdfdaaFLeastK
import Derived.Outline
namespace Go.Proofs.Ytlpkcjnifbdfdaa
set_option linter.unusedVariables false
open Go.RowKit
set_option maxRecDepth 100000 in
set_option maxHeartbeats 1000000 in
theorem lkClo2_any (bt bd : Nat) (A : Option Addr) (c : Nat) (t : List (List Int)) (k d : Int) (w : World) (h : RII w A t) (ct : w.cell? ⟨bt, 0, none⟩ = some (.slice A t.length c)) (cd : w.cell? ⟨bd, 0, none⟩ = some (.int .i64 d))
    (hk : 0 ≤ k ∧ k < t.length) (hd : 0 ≤ d ∧ ∀ j (hj : j < t.length), d < t[j].length) :
    Calls Try.prog 94 #[.int .i64 k, .pointer (some ⟨bt, 0, none⟩), .pointer (some ⟨bd, 0, none⟩)] w fun e w' => e = .returned (.bool (oneIn t d k)) ∧ ∃ n, w' = w.drewN n := by
  obtain ⟨kn, rfl⟩ := Int.eq_ofNat_of_zero_le hk.1
  obtain ⟨dn, rfl⟩ := Int.eq_ofNat_of_zero_le hd.1
  have hkn : kn < t.length := by omega
  have hdn : dn < t[kn].length := by have := hd.2 kn hkn; omega
  obtain ⟨b, o, A2, c2, rfl, hc, hcc, hr⟩ := h.at_ hkn
  obtain ⟨b2, o2, rfl, hc2⟩ := hr.at_ hdn
  have l1 := h.le
  have l2 := hr.le
  have HP := Lib.hid (oneIn_at hkn hdn)
  have j2 : (0 : Int) ≤ (kn : Int) := by omega
  have j3 : (kn : Int) < (t.length : Int) := by omega
  have j4 : (0 : Int) ≤ (dn : Int) := by omega
  have j5 : (dn : Int) < (t[kn].length : Int) := by omega
  clear hk hd
  go_enter Try.func94, Try.ntmps94
  go_wp2_with fail
  go_quiet (fail)
  go_wp2_with fail
  go_ret
  exact ⟨retB HP.out.symm, _, rfl⟩
theorem lkClo2_enters : Enters Try.prog 94 := enters Try.func94 (by kernel_rfl) rfl
set_option maxRecDepth 100000 in
set_option maxHeartbeats 1000000 in
theorem lkClo1_any (bk bt : Nat) (A B : Option Addr) (c c2 : Nat) (t : List (List Int)) (ks : List Int) (d : Int) (w : World) (h : RII w A t) (g : RI w B ks) (ck : w.cell? ⟨bk, 0, none⟩ = some (.slice B ks.length c2)) (ct : w.cell? ⟨bt, 0, none⟩ = some (.slice A t.length c))
    (hk : ∀ j (hj : j < ks.length), 0 ≤ ks[j] ∧ ks[j] < t.length) (hd : 0 ≤ d ∧ ∀ j (hj : j < t.length), d < t[j].length) :
    Calls Try.prog 92 #[.int .i64 d, .pointer (some ⟨bk, 0, none⟩), .pointer (some ⟨bt, 0, none⟩)] w fun e w' => e = .returned (.bool (!ks.any (oneIn t d))) ∧ Below w.heap.size w w' := by
  have B0 : Below w.heap.size w (w.alloc (.cells #[.int .i64 d] 2)) := (Below.refl _ _).alloc (Nat.le_refl _) _
  have lk := World.block_lt_of_cell? w _ ck
  have lt' := World.block_lt_of_cell? w _ ct
  have HC := Lib.hid (sContainsFunc_any 94 #[.pointer (some ⟨bt, 0, none⟩), .pointer (some ⟨w.heap.size, 0, none⟩)] B c2 ks (oneIn t d) (w.alloc (.cells #[.int .i64 d] 2)) (g.below B0) lkClo2_enters (fun j hj W hW => by
    have hb := B0.trans (hW.mono B0.size)
    refine (lkClo2_any bt w.heap.size A c t ks[j] d W (h.below hb) ((hb.cell lt').trans ct) ?_ (hk j hj) hd).mono ?_
    · have hn : (w.alloc (.cells #[.int .i64 d] 2)).cell? ⟨w.heap.size, 0, none⟩ = some (.int .i64 d) := one_cell _ _ _
      exact (hW.cell (World.block_lt_of_cell? _ _ hn)).trans hn
    · rintro e W' ⟨rfl, n, rfl⟩
      exact ⟨rfl, belowD (Below.refl _ _) n⟩))
  clear hk hd
  go_enter Try.func92, Try.ntmps92
  go_wp2_with fail
  refine HC.out.mono ?_
  rintro e w1 ⟨rfl, b1⟩
  go_wp2_with fail
  go_ret
  exact ⟨rfl, B0.trans (b1.mono B0.size)⟩
theorem lkClo1_enters : Enters Try.prog 92 := enters Try.func92 (by kernel_rfl) rfl
theorem members_range {n s : Nat} (hn : n ≤ 64) (hs : s < 2 ^ n) : ∀ j (hj : j < (membersF s).length), 0 ≤ (membersF s)[j] ∧ (membersF s)[j] < n := by
  have h := members_in hn hs
  simp only [allChoices, List.mem_flatMap, List.mem_range] at h
  obtain ⟨k, _, h⟩ := h
  exact choice_in h
def BestV (w : World) (B : Nat) (v : Value) : Option (List Int) → Prop
  | none => v = .slice none 0 0
  | some l => ∃ a c, v = .slice (some a) l.length c ∧ RI w (some a) l ∧ OV w B 2 v (ints l)
theorem BestV.below {w w' : World} {B : Nat} {v : Value} {ob : Option (List Int)} (h : BestV w B v ob) (hb : Below w.heap.size w w') : BestV w' B v ob := by
  cases ob with
  | none => exact h
  | some l => obtain ⟨a, c, e, hr, ho⟩ := h; exact ⟨a, c, e, hr.below hb, ho.below' hb⟩
theorem any_all_not {α : Type} (p : α → Bool) (xs : List α) : (xs.any fun x => !p x) = !xs.all p := by
  induction xs with
  | nil => rfl
  | cons a r ih => simp only [List.any_cons, List.all_cons, ih]; cases p a <;> rfl
set_option maxRecDepth 100000 in
set_option maxHeartbeats 8000000 in
theorem implLeastKeys_any (A : Option Addr) (c : Nat) (t : List (List Int)) (D : Option Addr) (ce : Nat) (ds : List Int) (w : World) (h : RII w A t) (p : RI w D ds) :
    Calls Try.prog 51 #[.slice A t.length c, .slice D ds.length ce] w (ResIC w (leastKeys t ds)) := by
  have B0 : Below w.heap.size w (w.alloc (.cells #[.slice A t.length c] 33)) := (Below.refl _ _).alloc (Nat.le_refl _) _
  have CT := fun W (h : RII W A t) => tableCode_any A none c 0 t [] W h RI.nil
  simp only [List.length_nil] at CT
  have HCT := Lib.hid CT; clear CT
  cases h1 : isTable t with
  | false =>
    have hc1 : tableCode t [] = 1 := by simp [tableCode, h1]
    have HR := Lib.hid (lk_1 (ds := ds) h1)
    go_enter Try.func51, Try.ntmps51
    go_wp2_with fail
    refine (HCT.out _ (h.below B0)).mono ?_
    rw [hc1]
    rintro e w1 ⟨rfl, rfl⟩
    go_wp2_with fail
    go_ret2
    exact resIC_nil HR.out B0
  | true =>
  have hc1 : tableCode t [] = 0 := by simp [tableCode, h1, allW]
  have hT := isTable_get h1
  have hT1 := hT.1; have hT2 := hT.2.1
  have h0 : 0 < t.length := by omega
  have HT := Lib.hid hT.2.2
  have hd0 := headD_len h0
  clear hT
  obtain ⟨b, o, A2, c2, rfl, hc, hcc, hr⟩ := h.at_ h0
  simp only [Nat.add_zero] at hc
  have hbw := World.block_lt_of_cell? w _ hc
  cases h2 : isRising (t.headD []).length ds with
  | false =>
    have HR := Lib.hid (lk_2 h1 h2)
    rw [hd0] at h2
    clear hd0
    go_enter Try.func51, Try.ntmps51
    go_wp2_with fail
    refine (HCT.out _ (h.below B0)).mono ?_
    rw [hc1]
    rintro e w1 ⟨rfl, rfl⟩
    go_wp2_with fail
    refine (implIsRising_any D ce ds _ _ (p.below B0)).mono ?_
    rw [h2]
    rintro e w2 ⟨rfl, n2, rfl⟩
    go_wp2_with fail
    go_ret2
    exact resIC_nil HR.out (belowD B0 _)
  | true =>
    have H4 := Lib.hid (lk_4 (ds := ds) h1 h2); have HZ := Lib.hid (fun l => lk_0 (ds := ds) (l := l) h1 h2)
    rw [hd0] at h2
    have HDs := Lib.hid (show ∀ k (hk : k < ds.length), 0 ≤ ds[k] ∧ ∀ j (hj : j < t.length), ds[k] < t[j].length from fun k hk => by
      have h3 := rising_in h2 hk
      exact ⟨h3.1, fun j hj => by rw [(HT.out j hj).1, hd0]; exact h3.2⟩)
    clear hd0
    go_enter Try.func51, Try.ntmps51
    go_wp2_with fail
    refine (HCT.out _ (h.below B0)).mono ?_
    rw [hc1]
    rintro e w1 ⟨rfl, rfl⟩
    go_wp2_with fail
    refine (implIsRising_any D ce ds _ _ (p.below B0)).mono ?_
    rw [h2]
    rintro e w2 ⟨rfl, n2, rfl⟩
    have hpow : wrap64 ((2 : Int) ^ t.length) = ((2 ^ t.length : Nat) : Int) := by
      have h10 : 2 ^ t.length ≤ 2 ^ 10 := Nat.pow_le_pow_right (by omega) hT2
      have e : ((2 : Int) ^ t.length) = ((2 ^ t.length : Nat) : Int) := by simp
      rw [e]
      clear e
      rw [show (2 : Nat) ^ 10 = 1024 from rfl] at h10
      generalize 2 ^ t.length = M at *
      exact IntWalk.wrap64_in _ ⟨by omega, by omega⟩
    have hN10 : 2 ^ t.length ≤ 1024 := by
      have h10 : 2 ^ t.length ≤ 2 ^ 10 := Nat.pow_le_pow_right (by omega) hT2
      exact h10
    have HMR := Lib.hid (fun s (hs : s < 2 ^ t.length) => members_range (show t.length ≤ 64 by omega) hs)
    have HBE := Lib.hid (best_eq (openAll t ds) (show t.length ≤ 64 by omega))
    generalize hN : 2 ^ t.length = N at *
    have HN := Lib.hid hN; clear hN
    have H1 := Lib.hid h1; have H2 := Lib.hid h2; have HC1 := Lib.hid hc1; clear h1 h2 hc1
    have hcT : (w.alloc (.cells #[.slice (some ⟨b, o, none⟩) t.length c] 33)).cell? ⟨w.heap.size, 0, none⟩ = some (.slice (some ⟨b, o, none⟩) t.length c) := one_cell _ _ _
    have HcT := Lib.hid hcT; clear hcT
    go_wp2_with fail
    rw [hpow]
    clear hpow
    go_loopw [7, 8, 9, 10, 26] (fun v _ _ _ i wr => ∃ s : Nat, i = .int .i64 s ∧ s ≤ N ∧ BestV wr w.heap.size v (bestUpto (openAll t ds) s) ∧ Below (w.alloc (.cells #[.slice (some ⟨b, o, none⟩) t.length c] 33)).heap.size (w.alloc (.cells #[.slice (some ⟨b, o, none⟩) t.length c] 33)) wr) (fun _ _ _ _ i _ => N - (intOf i).toNat)
    case atStart => exact ⟨0, rfl, by omega, rfl, belowD (Below.refl _ _) _⟩
    case round =>
      obtain ⟨s, rfl, hs, hbv, hb⟩ := hrel
      have HBV := Lib.hid hbv; clear hbv
      have Bw := B0.trans (hb.mono B0.size)
      have hbsz := hb.size
      by_cases hlt : s < N
      · obtain ⟨wo, rfl⟩ : ∃ wo : World, wo = wr := ⟨_, rfl⟩
        go_wp2_with fail
        refine (members_any s wo (by omega)).mono ?_
        rintro e w3 ⟨a3, c3, rfl, hc3, r3, o3, b3⟩
        have HM := HMR.out s hlt
        have HST := Lib.hid (show bestUpto (openAll t ds) (s + 1) = bestStep (openAll t ds) (bestUpto (openAll t ds) s) (membersF s) from rfl)
        generalize hKS : membersF s = ks at *
        have HKS := Lib.hid hKS; clear hKS
        have B3 := Bw.trans (b3.mono Bw.size)
        have HB3 := Lib.hid (hb.trans (b3.mono hb.size))
        have BX : Below w3.heap.size w3 (w3.alloc (.cells #[.slice (some a3) ks.length c3] 22)) := (Below.refl _ _).alloc (Nat.le_refl _) _
        have HBV3 := Lib.hid ((HBV.out.below b3).below BX)
        have BX4 := B3.trans (BX.mono B3.size)
        have hs3 := b3.size
        simp only [World.size_alloc] at hbsz
        have hcK : (w3.alloc (.cells #[.slice (some a3) ks.length c3] 22)).cell? ⟨w3.heap.size, 0, none⟩ = some (.slice (some a3) ks.length c3) := one_cell _ _ _
        have hcT3 : (w3.alloc (.cells #[.slice (some a3) ks.length c3] 22)).cell? ⟨w.heap.size, 0, none⟩ = some (.slice (some ⟨b, o, none⟩) t.length c) := by
          have := (HB3.out.cell (World.block_lt_of_cell? _ _ HcT.out)).trans HcT.out
          exact (BX.cell (World.block_lt_of_cell? _ _ this)).trans this
        have HCF := Lib.hid (sContainsFunc_any 92 #[.pointer (some ⟨w3.heap.size, 0, none⟩), .pointer (some ⟨w.heap.size, 0, none⟩)] D ce ds (fun d => !ks.any (oneIn t d)) (w3.alloc (.cells #[.slice (some a3) ks.length c3] 22)) (p.below BX4) lkClo1_enters (fun j hj W hW => by
          have hBW := BX4.trans (hW.mono BX4.size)
          exact lkClo1_any w3.heap.size w.heap.size (some ⟨b, o, none⟩) (some a3) c c3 t ks ds[j] W (h.below hBW) ((r3.below BX).below hW) ((hW.cell (World.block_lt_of_cell? _ _ hcK)).trans hcK) ((hW.cell (World.block_lt_of_cell? _ _ hcT3)).trans hcT3) HM (HDs.out j hj)))
        rw [any_all_not] at HCF
        have HcK := Lib.hid hcK; have HcT3 := Lib.hid hcT3; have HHM := Lib.hid HM; have O3 := Lib.hid o3
        clear hcK hcT3 HM o3
        cases hok : (ds.all fun d => ks.any (oneIn t d)) with
        | false =>
          have HO := Lib.hid (show openAll t ds ks = false from hok)
          rw [hok] at HCF
          clear hok
          have HE := Lib.hid (show bestUpto (openAll t ds) (s + 1) = bestUpto (openAll t ds) s by rw [HST.out]; unfold bestStep; cases bestUpto (openAll t ds) s <;> simp [HO.out])
          go_wp2_with fail
          refine HCF.out.mono ?_
          rintro e w5 ⟨rfl, b5⟩
          go_wp2_with fail
          go_roundw
          case rel => exact ⟨s + 1, by go_num, by omega, by rw [HE.out]; exact HBV3.out.below b5, (HB3.out.trans (BX.mono HB3.out.size)).trans (b5.mono (Nat.le_trans HB3.out.size BX.size))⟩
          case measure => simp [intOf]; omega
        | true =>
          have HO := Lib.hid (show openAll t ds ks = true from hok)
          rw [hok] at HCF
          clear hok
          cases hbu : bestUpto (openAll t ds) s with
          | none =>
            have HV := HBV.out
            rw [hbu] at HV
            subst HV
            have HE := Lib.hid (show bestUpto (openAll t ds) (s + 1) = some ks by rw [HST.out, hbu]; simp [bestStep, HO.out])
            clear hbu
            have hq := fun w : World => Go.Lib.run_eql_slice_nil (P := Try.prog) w 22 2 none 0 0 0 0 Try.underlying22
            simp only [Option.isNone_none] at hq
            go_wp2_with fail
            refine HCF.out.mono ?_
            rintro e w5 ⟨rfl, b5⟩
            have cK5 := (b5.cell (World.block_lt_of_cell? _ _ HcK.out)).trans HcK.out
            go_wp2_with fail
            go_roundw
            case rel => exact ⟨s + 1, by go_num, by omega, by rw [HE.out]; exact ⟨a3, c3, rfl, (r3.below BX).below b5, (((O3.out.1.mono (by omega)).below' BX).below' b5)⟩, (HB3.out.trans (BX.mono HB3.out.size)).trans (b5.mono (Nat.le_trans HB3.out.size BX.size))⟩
            case measure => simp [intOf]; omega
          | some bl =>
            have HV := HBV3.out
            rw [hbu] at HV
            obtain ⟨ab, cb, rfl, hrb, hob⟩ := HV
            have HOB := Lib.hid hob; clear hob
            have hq := fun w : World => Go.Lib.run_eql_slice_nil (P := Try.prog) w 22 2 (some ab) bl.length cb 0 0 Try.underlying22
            simp only [Option.isNone_some] at hq
            cases hfw : fewer ks bl with
            | true =>
              have HE := Lib.hid (show bestUpto (openAll t ds) (s + 1) = some ks by rw [HST.out, hbu]; simp [bestStep, HO.out, hfw])
              clear hbu
              go_wp2_with fail
              refine HCF.out.mono ?_
              rintro e w5 ⟨rfl, b5⟩
              have cK5 := (b5.cell (World.block_lt_of_cell? _ _ HcK.out)).trans HcK.out
              go_wp2_with fail
              refine (fewerOrLess_any (some a3) (some ab) c3 cb ks bl w5 ((r3.below BX).below b5) (hrb.below b5)).mono ?_
              rw [hfw]
              rintro e w6 ⟨rfl, rfl⟩
              go_wp2_with fail
              go_roundw
              case rel => exact ⟨s + 1, by go_num, by omega, by rw [HE.out]; exact ⟨a3, c3, rfl, (r3.below BX).below b5, (((O3.out.1.mono (by omega)).below' BX).below' b5)⟩, (HB3.out.trans (BX.mono HB3.out.size)).trans (b5.mono (Nat.le_trans HB3.out.size BX.size))⟩
              case measure => simp [intOf]; omega
            | false =>
              have HE := Lib.hid (show bestUpto (openAll t ds) (s + 1) = some bl by rw [HST.out, hbu]; simp [bestStep, HO.out, hfw])
              clear hbu
              go_wp2_with fail
              refine HCF.out.mono ?_
              rintro e w5 ⟨rfl, b5⟩
              have cK5 := (b5.cell (World.block_lt_of_cell? _ _ HcK.out)).trans HcK.out
              go_wp2_with fail
              refine (fewerOrLess_any (some a3) (some ab) c3 cb ks bl w5 ((r3.below BX).below b5) (hrb.below b5)).mono ?_
              rw [hfw]
              rintro e w6 ⟨rfl, rfl⟩
              go_wp2_with fail
              go_roundw
              case rel => exact ⟨s + 1, by go_num, by omega, by rw [HE.out]; exact ⟨ab, cb, rfl, hrb.below b5, HOB.out.below' b5⟩, (HB3.out.trans (BX.mono HB3.out.size)).trans (b5.mono (Nat.le_trans HB3.out.size BX.size))⟩
              case measure => simp [intOf]; omega
      · obtain rfl : s = N := by omega
        cases hbu : bestUpto (openAll t ds) s with
        | none =>
          have HV := HBV.out
          rw [hbu] at HV
          subst HV
          have HR := Lib.hid (H4.out (by rw [← HBE.out]; exact hbu))
          have hq := fun w : World => Go.Lib.run_eql_slice_nil (P := Try.prog) w 22 2 none 0 0 0 0 Try.underlying22
          simp only [Option.isNone_none] at hq
          clear hbu
          go_wp2_with fail
          go_ret2
          exact resIC_nil HR.out Bw
        | some bl =>
          have HV := HBV.out
          rw [hbu] at HV
          obtain ⟨ab, cb, rfl, hrb, hob⟩ := HV
          have HOB := Lib.hid hob; clear hob
          have HR := Lib.hid (HZ.out bl (by rw [← HBE.out]; exact hbu))
          have hq := fun w : World => Go.Lib.run_eql_slice_nil (P := Try.prog) w 22 2 (some ab) bl.length cb 0 0 Try.underlying22
          simp only [Option.isNone_some] at hq
          clear hbu
          go_wp2_with fail
          go_ret2
          exact resIC_own HR.out HOB.out (Nat.le_refl _) Bw
end Go.Proofs.Ytlpkcjnifbdfdaa
