/- Contracts of HarmlessDepths, of the program. -/
import Derived.Test.YthjfilhcfjpinaaFFirst
import Derived.Test.YthjfilhcfjpinaaFFrees
namespace Go.Proofs.Ythjfilhcfjpinaa
set_option linter.unusedVariables false
open Go.RowKit
def withAl (l : List (List Int)) (k : Nat) (d : Int) (ch : Nat) (x : Int) : Bool := if ch = k then x == d else frees l ch x
def noneWith (m : Mk) (l : List (List Int)) (k : Nat) (d : Int) : Bool := ((((keysG m (withAl l k d) [] m.c.toNat [] false).take 1).length : Int) == 0)
def harmAt (m : Mk) (l : List (List Int)) (k : Nat) (d : Int) : Bool := !frees l k d && noneWith m l k d
def harmSet (m : Mk) (l : List (List Int)) (k n : Nat) : List Int := (depths 0 (n : Int)).filter (harmAt m l k)
def harmL (m : Mk) (l : List (List Int)) (n : Nat) : List (List Int) := (List.range n).map fun k => harmSet m l k m.d.toNat
theorem harmSet_succ (m : Mk) (l : List (List Int)) (k n : Nat) : harmSet m l k (n + 1) = harmSet m l k n ++ (if harmAt m l k n = true then [(n : Int)] else []) := by
  unfold harmSet
  have e : depths 0 (((n + 1 : Nat) : Int)) = depths 0 (n : Int) ++ [(n : Int)] := by
    unfold depths
    rw [show (((n + 1 : Nat) : Int) - 0).toNat = n + 1 by omega, show ((n : Int) - 0).toNat = n by omega, List.range_succ, List.map_append]
    simp
  rw [e, List.filter_append, List.filter_cons]; rfl
theorem harmSet_len (m : Mk) (l : List (List Int)) (k n : Nat) : (harmSet m l k n).length ≤ n := by
  unfold harmSet; refine Nat.le_trans (List.length_filter_le _ _) ?_; simp [depths]
theorem harmL_succ (m : Mk) (l : List (List Int)) (k : Nat) : harmL m l (k + 1) = harmL m l k ++ [harmSet m l k m.d.toNat] := by
  unfold harmL; rw [List.range_succ, List.map_append]; rfl
theorem harmL_len (m : Mk) (l : List (List Int)) (n : Nat) : (harmL m l n).length = n := by simp [harmL]
def harmR (m : Mk) (l al : List (List Int)) : List (List Int) × Int := if allowedC m l al [] = 0 then (harmL m l l.length, 0) else ([], allowedC m l al [])
theorem harm_no {m : Mk} {l al : List (List Int)} (h : allowedC m l al [] ≠ 0) : ([], allowedC m l al []) = harmR m l al := by unfold harmR; rw [if_neg h]
theorem harm_yes {m : Mk} {l al : List (List Int)} (h : allowedC m l al [] = 0) : (harmL m l l.length, 0) = harmR m l al := by unfold harmR; rw [if_pos h]
set_option maxHeartbeats 1000000 in
theorem withClo_any (ga gd gf gl : Nat) (D : Option Addr) (q : Nat) (l : List (List Int)) (k : Nat) (d : Int) (ch : Nat) (x : Int) (w : World) (h : RII w D l) (ca : w.cell? ⟨ga, 0, none⟩ = some (.int .i64 (k : Int))) (cd : w.cell? ⟨gd, 0, none⟩ = some (.int .i64 d))
    (cf : w.cell? ⟨gf, 0, none⟩ = some (.func (.func 135) #[] #[.pointer (some ⟨gl, 0, none⟩)])) (cl : w.cell? ⟨gl, 0, none⟩ = some (.slice D l.length q)) (hch : ch < l.length) :
    Calls Try.prog 84 #[.int .i64 (ch : Int), .int .i64 x, .pointer (some ⟨ga, 0, none⟩), .pointer (some ⟨gd, 0, none⟩), .pointer (some ⟨gf, 0, none⟩)] w fun e w' => e = .returned (.bool (withAl l k d ch x)) ∧ Below w.heap.size w w' := by
  have hent : Enters Try.prog 135 := enters Try.func135 (by kernel_rfl) rfl
  have HF := Lib.hid (freesClo_any gl D q l ch x w h cl hch)
  unfold Enters at hent
  by_cases e : ch = k
  · have HR := Lib.hid (show withAl l k d ch x = (x == d) by unfold withAl; rw [if_pos e])
    have hq : ((ch : Int) == (k : Int)) = true := by simp [e]
    have E := Lib.hid e; clear e
    go_enter Try.func84, Try.ntmps84
    go_wp2_with fail
    go_ret
    exact ⟨retB HR.out.symm, Below.refl _ _⟩
  · have HR := Lib.hid (show withAl l k d ch x = frees l ch x by unfold withAl; rw [if_neg e])
    have hq : ((ch : Int) == (k : Int)) = false := by simp; omega
    have E := Lib.hid e; clear e
    go_enter Try.func84, Try.ntmps84
    go_wp2_with fail
    refine HF.out.mono ?_
    rintro e w1 ⟨rfl, b1⟩
    go_wp2_with fail
    go_ret
    exact ⟨retB HR.out.symm, b1⟩
theorem withAlB (m : Mk) (ga gd gf gl : Nat) (D : Option Addr) (q : Nat) (l : List (List Int)) (k : Nat) (d : Int) (w : World) (h : RII w D l) (ca : w.cell? ⟨ga, 0, none⟩ = some (.int .i64 (k : Int))) (cd : w.cell? ⟨gd, 0, none⟩ = some (.int .i64 d))
    (cf : w.cell? ⟨gf, 0, none⟩ = some (.func (.func 135) #[] #[.pointer (some ⟨gl, 0, none⟩)])) (cl : w.cell? ⟨gl, 0, none⟩ = some (.slice D l.length q)) (hl : (l.length : Int) = m.c) :
    AlB 84 #[.pointer (some ⟨ga, 0, none⟩), .pointer (some ⟨gd, 0, none⟩), .pointer (some ⟨gf, 0, none⟩)] (withAl l k d) m w :=
  ⟨enters Try.func84 (by kernel_rfl) rfl, fun w' hw ch x h1 _ _ => withClo_any ga gd gf gl D q l k d ch x w' (h.below hw) (cell_in hw (World.block_lt_of_cell? w _ ca) ca) (cell_in hw (World.block_lt_of_cell? w _ cd) cd) (cell_in hw (World.block_lt_of_cell? w _ cf) cf) (cell_in hw (World.block_lt_of_cell? w _ cl) cl) (by omega)⟩
set_option maxRecDepth 100000 in
set_option maxHeartbeats 8000000 in
theorem implHarmlessDepths_any (m : Mk) (D : Option Addr) (q : Nat) (l : List (List Int)) (A : Option Addr) (c : Nat) (al : List (List Int)) (w : World) (h : RII w D l) (g : RII w A al) :
    Calls Try.prog 21 #[.agg #[.int .i64 m.c, .int .i64 m.d, .int .i64 m.s, .int .i64 m.a, .int .i64 m.l], .agg #[.slice D l.length q], .slice A al.length c] w (ResIIC w (harmR m l al)) := by
  have B0 := ((Below.refl w.heap.size w).alloc (Nat.le_refl _) (.cells #[.int .i64 m.c, .int .i64 m.d, .int .i64 m.s, .int .i64 m.a, .int .i64 m.l] 25)).alloc (by simp only [World.size_alloc]; omega) (.cells #[.slice D l.length q] 28)
  have bx : BoxC ((w.alloc (.cells #[.int .i64 m.c, .int .i64 m.d, .int .i64 m.s, .int .i64 m.a, .int .i64 m.l] 25)).alloc (.cells #[.slice D l.length q] 28)) (w.heap.size + 1) 0 [.slice D l.length q] := by simp [BoxC, Go.World.cell?_alloc_at]
  have bm : BoxC ((w.alloc (.cells #[.int .i64 m.c, .int .i64 m.d, .int .i64 m.s, .int .i64 m.a, .int .i64 m.l] 25)).alloc (.cells #[.slice D l.length q] 28)) w.heap.size 0 [.int .i64 m.c, .int .i64 m.d, .int .i64 m.s, .int .i64 m.a, .int .i64 m.l] := by
    have : BoxC (w.alloc (.cells #[.int .i64 m.c, .int .i64 m.d, .int .i64 m.s, .int .i64 m.a, .int .i64 m.l] 25)) w.heap.size 0 [.int .i64 m.c, .int .i64 m.d, .int .i64 m.s, .int .i64 m.a, .int .i64 m.l] := by simp [BoxC, Go.World.cell?_alloc_at]
    exact this.below ((Below.refl _ _).alloc (Nat.le_refl _) _)
  have HLL := Lib.hid (allowedCode_any m D q l A c al none 0 [] ((w.alloc (.cells #[.int .i64 m.c, .int .i64 m.d, .int .i64 m.s, .int .i64 m.a, .int .i64 m.l] 25)).alloc (.cells #[.slice D l.length q] 28)) (h.below B0) (g.below B0) RII.nil (by simp))
  have hle := h.le
  by_cases h1 : allowedC m l al [] = 0
  rotate_left
  · have HN := Lib.hid (harm_no h1)
    have t1 : (allowedC m l al [] != 0) = true := by simpa using h1
    have H1 := Lib.hid h1; clear h1
    go_enter Try.func21, Try.ntmps21
    go_wp2_with fail
    refine HLL.out.mono ?_
    rintro e w1 ⟨rfl, b1⟩
    go_wp2_with fail
    go_ret2
    exact resIIC_nil HN.out (B0.trans (b1.mono B0.size))
  have HY := Lib.hid (harm_yes h1)
  have hlk := (allowedC_0 h1).1
  have hm := isLock_mk hlk
  have hmb := mk_bounds hm
  have d2 : 2 ≤ m.d := hmb.2.2.1
  have d8 : m.d ≤ 8 := hmb.2.2.2.1
  have hl6 : l.length ≤ 6 := by have := isLock_len hlk; have := hmb.2.1; omega
  clear hmb
  have HLK := Lib.hid hlk; have HMK := Lib.hid hm
  clear hlk hm
  rw [h1] at HLL
  have H1 := Lib.hid h1; clear h1
  have HBX := Lib.hid (And.intro bx bm); clear bx bm
  go_enter Try.func21, Try.ntmps21
  go_wp2_with fail
  refine HLL.out.mono ?_
  rintro e w1 ⟨rfl, b1⟩
  have B1 := B0.trans (b1.mono B0.size)
  have s1 : w.heap.size + 2 ≤ w1.heap.size := by have := b1.size; simp only [World.size_alloc] at this; omega
  obtain ⟨q0, _⟩ := HBX.out.1.below b1
  have s2 : w.heap.size + 1 < w1.heap.size := by omega
  have s3 : w.heap.size < w1.heap.size := by omega
  go_wp2_with fail
  obtain ⟨w2, hw2⟩ : ∃ w2, w2 = ((w1.alloc (.cells #[] 38)).alloc (.cells #[.slice D l.length q] 28)).alloc (.cells #[.func (.func 135) #[] #[.pointer (some ⟨w1.heap.size + 1, 0, none⟩)]] 95) := ⟨_, rfl⟩
  have b2 : Below w1.heap.size w1 w2 := by rw [hw2]; exact (((Below.refl _ _).alloc (Nat.le_refl _) _).alloc (by simp only [World.size_alloc]; omega) _).alloc (by simp only [World.size_alloc]; omega) _
  have hz2 : w2.heap.size = w1.heap.size + 3 := by rw [hw2]; simp
  have cl2 : w2.cell? ⟨w1.heap.size + 1, 0, none⟩ = some (.slice D l.length q) := by
    rw [hw2, World.cell?_alloc_lt _ _ _ (by simp only [World.size_alloc]; omega), World.cell?_alloc_at (hn := by simp)]; rfl
  have cf2 : w2.cell? ⟨w1.heap.size + 2, 0, none⟩ = some (.func (.func 135) #[] #[.pointer (some ⟨w1.heap.size + 1, 0, none⟩)]) := by
    rw [hw2, World.cell?_alloc_at (hn := by simp)]; rfl
  have ho2 : OII w2 w1.heap.size w2.heap.size (.slice (some ⟨w1.heap.size, 0, none⟩) 0 0) (harmL m l 0) := by
    have h0 := (OII.new0 (w := w1) (Nat.le_refl _)).below (((Below.refl (w1.heap.size + 1) (w1.alloc (.cells #[] 38))).alloc (by simp only [World.size_alloc]; omega) (.cells #[.slice D l.length q] 28)).alloc (by simp only [World.size_alloc]; omega) (.cells #[.func (.func 135) #[] #[.pointer (some ⟨w1.heap.size + 1, 0, none⟩)]] 95))
    rw [← hw2] at h0
    exact h0.wide (Nat.le_refl _) (by omega)
  have HW2 := Lib.hid hw2
  have HP := Lib.hid (show ∀ W : World, KeepF (fun x => x = w1.heap.size) w2 W → Below w1.heap.size w1 W ∧ W.cell? ⟨w1.heap.size + 1, 0, none⟩ = some (.slice D l.length q) ∧ W.cell? ⟨w1.heap.size + 2, 0, none⟩ = some (.func (.func 135) #[] #[.pointer (some ⟨w1.heap.size + 1, 0, none⟩)]) from fun W hW =>
    ⟨b2.trans (hW.toBelow (by omega) (fun x hx e => by omega)), (hW.cell (p := ⟨w1.heap.size + 1, 0, none⟩) (by simp only; omega) (by simp only; omega)).trans cl2, (hW.cell (p := ⟨w1.heap.size + 2, 0, none⟩) (by simp only; omega) (by simp only; omega)).trans cf2⟩)
  have HO2 := Lib.hid ho2
  have HM1 := Lib.hid (HBX.out.2.below b1)
  have HL1 := Lib.hid (HBX.out.1.below b1)
  clear hw2 cl2 cf2 ho2 b2
  refine (frees_any D q l _).mono ?_
  rintro e w2' ⟨rfl, rfl⟩
  go_wp2_with fail
  have hentF : Enters Try.prog 135 := enters Try.func135 (by kernel_rfl) rfl
  have hlm : (l.length : Int) = m.c := isLock_len HLK.out
  have HLM := Lib.hid hlm; clear hlm
  unfold Enters at hentF
  clear q0
  go_loopw [9, 11, 12, 13, 14, 28] (fun v _ _ _ _ i wr => ∃ (k : Nat) (v0 : Value), k ≤ l.length ∧ i = .int .i64 k ∧ v = v0 ∧ OII wr w1.heap.size wr.heap.size v0 (harmL m l k) ∧ (∀ g, v0.ownBlock = some g → g = w1.heap.size ∨ w2.heap.size ≤ g) ∧ KeepF (fun x => x = w1.heap.size) w2 wr) (fun _ _ _ _ _ i _ => l.length - (intOf i).toNat)
  case atStart =>
    refine ⟨0, _, by omega, rfl, rfl, ?_, fun g e => ?_, ?_⟩
    · rw [← HW2.out]; exact HO2.out
    · simp [Value.ownBlock] at e; omega
    · rw [← HW2.out]; exact KeepF.refl _ _
  case round =>
    obtain ⟨k, v0, hk, rfl, rfl, ho, hv, hkeep⟩ := hrel
    have HO := Lib.hid ho; have HV := Lib.hid hv; have HKP := Lib.hid hkeep
    clear ho hv
    have hszk := hkeep.size
    obtain ⟨Bk, clk, cfk⟩ := HP.out _ hkeep
    have HBk := Lib.hid Bk; have HCL := Lib.hid clk; have HCF := Lib.hid cfk
    have HM := Lib.hid (HM1.out.below Bk)
    have l0 := (HL1.out.below Bk)
    clear hkeep Bk clk cfk
    obtain ⟨wo, rfl⟩ : ∃ wo : World, wo = wr := ⟨_, rfl⟩
    by_cases hlt : k < l.length
    · have i0 : (k : Int) < (l.length : Int) := by omega
      obtain ⟨q0, q1, q2, q3, q4, _⟩ := HM.out
      have s4 : w.heap.size < wo.heap.size := by omega
      have s5 : w.heap.size < wo.heap.size + 1 := by omega
      have HSK := Lib.hid (harmL_succ m l k)
      clear l0
      go_wp2_with fail
      clear q0 q1 q2 q3 q4
      go_loopw [12, 13, 14, 34] (fun u _ _ i wx => ∃ (n : Nat) (u0 : Value), (n : Int) ≤ m.d ∧ i = .int .i64 n ∧ u = u0 ∧ OV wx (wo.heap.size + 1) 2 u0 (ints (harmSet m l k n)) ∧ Below (wo.heap.size + 1) (wo.alloc (.cells #[.int .i64 (k : Int)] 3)) wx) (fun _ _ _ i _ => (m.d - intOf i).toNat)
      case atStart => exact ⟨0, _, by omega, rfl, rfl, by simpa [harmSet, depths, ints] using OV.new0 (w := wo.alloc (.cells #[.int .i64 (k : Int)] 3)) (B := wo.heap.size + 1) (e := 2) (by simp), (Below.refl _ _).alloc (by simp) _⟩
      case round =>
        obtain ⟨n, u0, hn, rfl, rfl, hou, hbx⟩ := hrel
        have HOU := Lib.hid hou; have HBX2 := Lib.hid hbx
        have hszx := hbx.size
        simp only [World.size_alloc] at hszx
        have hbo : Below wo.heap.size wo wr := ((Below.refl _ _).alloc (Nat.le_refl _) (.cells #[.int .i64 (k : Int)] 3)).trans (hbx.mono (by omega))
        have HBO := Lib.hid hbo
        have HLN := Lib.hid (harmSet_len m l k n)
        have HSN := Lib.hid (harmSet_succ m l k n)
        by_cases hlt2 : (n : Int) < m.d
        · have ca' : wr.cell? ⟨wo.heap.size, 0, none⟩ = some (.int .i64 (k : Int)) := cell_in hbx (by simp only; omega) (by rw [World.cell?_alloc_at (hn := rfl)]; rfl)
          have cf := cell_in hbo (by simp only; omega) HCF.out
          have cl := cell_in hbo (by simp only; omega) HCL.out
          have Bx := HBk.out.trans (hbo.mono (by omega))
          have hD := h.below (B1.trans (Bx.mono (by omega)))
          obtain ⟨wd, hwd⟩ : ∃ wd, wd = wr.alloc (.cells #[.int .i64 (n : Int)] 2) := ⟨_, rfl⟩
          have bd : Below wr.heap.size wr wd := by rw [hwd]; exact (Below.refl _ _).alloc (Nat.le_refl _) _
          have cad := cell_in bd (by simp only; omega) ca'
          have cfd := cell_in bd (by simp only; omega) cf
          have cld := cell_in bd (by simp only; omega) cl
          have cdd : wd.cell? ⟨wr.heap.size, 0, none⟩ = some (.int .i64 (n : Int)) := by rw [hwd, World.cell?_alloc_at (hn := rfl)]; rfl
          have hFR := freesClo_any (w1.heap.size + 1) D q l k (n : Int) wd (hD.below bd) cld hlt
          have HWITH := Lib.hid (fun (W : World) (hW : Below wd.heap.size wd W) => withAlB m wo.heap.size wr.heap.size (w1.heap.size + 2) (w1.heap.size + 1) D q l k (n : Int) W ((hD.below bd).below hW) (cell_in hW (World.block_lt_of_cell? wd _ cad) cad) (cell_in hW (World.block_lt_of_cell? wd _ cdd) cdd) (cell_in hW (World.block_lt_of_cell? wd _ cfd) cfd) (cell_in hW (World.block_lt_of_cell? wd _ cld) cld) HLM.out)
          have HMD := Lib.hid (fun (W : World) (hW : Below wd.heap.size wd W) => (HM.out.below (hbo.trans ((bd.trans (hW.mono bd.size)).mono hbo.size))))
          have HBD := Lib.hid bd
          have HCDD := Lib.hid cdd
          have t1 : wo.heap.size < wr.heap.size := by omega
          have t2 : w1.heap.size + 2 < wr.heap.size := by omega
          have t3 : w1.heap.size + 1 + 1 < wr.heap.size := by omega
          have cf' : wr.cell? ⟨w1.heap.size + 1 + 1, 0, none⟩ = some (.func (.func 135) #[] #[.pointer (some ⟨w1.heap.size + 1, 0, none⟩)]) := cf
          clear cfd cld cad cdd hD Bx cl bd hou hbx hbo cf
          cases hfr : frees l k (n : Int) with
          | true =>
            rw [hfr] at hFR
            have HFR := Lib.hid hFR; clear hFR
            have HT := Lib.hid (show harmSet m l k (n + 1) = harmSet m l k n by rw [HSN.out]; unfold harmAt; rw [hfr]; simp)
            go_wp2_with fail
            rw [← hwd]
            clear hwd
            refine HFR.out.mono ?_
            rintro e w3 ⟨rfl, b3⟩
            have HB3 := Lib.hid (HBD.out.trans (b3.mono HBD.out.size))
            clear ca' cf'
            go_wp2_with fail
            go_roundw
            case rel => exact ⟨n + 1, u12, by omega, by go_num, rfl, by rw [HT.out]; exact HOU.out.below' HB3.out, HBX2.out.trans (HB3.out.mono (by omega))⟩
            case measure => simp [intOf]; omega
          | false =>
            rw [hfr] at hFR
            have HFR := Lib.hid hFR; clear hFR
            obtain ⟨fk, hfk⟩ : ∃ fk, fk = (keysG m (withAl l k (n : Int)) [] m.c.toNat [] false).take 1 := ⟨_, rfl⟩
            have HFK := Lib.hid (show harmAt m l k (n : Int) = ((fk.length : Int) == 0) by unfold harmAt noneWith; rw [hfr, hfk]; rfl)
            have HFS := Lib.hid (fun (W : World) (hW : Below wd.heap.size wd W) => by
              have := firstKeys_any m HMK.out 84 #[.pointer (some ⟨wo.heap.size, 0, none⟩), .pointer (some ⟨wr.heap.size, 0, none⟩), .pointer (some ⟨w1.heap.size + 2, 0, none⟩)] (withAl l k (n : Int)) 1 (by omega) W (HWITH.out W hW)
              rw [← hfk] at this
              exact this)
            clear hfk
            cases hz : ((fk.length : Int) == 0) with
            | true =>
              have HT := Lib.hid (show ints (harmSet m l k (n + 1)) = ints (harmSet m l k n) ++ [.int .i64 (n : Int)] by rw [HSN.out, HFK.out, hz, if_pos rfl, ints_append]; rfl)
              go_wp2_with fail
              rw [← hwd]
              clear hwd
              refine HFR.out.mono ?_
              rintro e w3 ⟨rfl, b3⟩
              obtain ⟨q0, q1, q2, q3, q4, _⟩ := HMD.out w3 b3
              have HB3 := Lib.hid (HBD.out.trans (b3.mono HBD.out.size))
              have HF3 := Lib.hid (HFS.out w3 b3)
              clear ca' cf'
              go_wp2_with fail
              refine HF3.out.mono ?_
              rintro e w4 ⟨A4, c4, rfl, hc4, r4, o4, b4⟩
              have hle4 := r4.le
              have HB4 := Lib.hid (HB3.out.trans (b4.mono HB3.out.size))
              have hB4 := HB4.out.size
              have cd4 : w4.cell? ⟨wr.heap.size, 0, none⟩ = some (.int .i64 (n : Int)) := cell_in (b3.trans (b4.mono b3.size)) (World.block_lt_of_cell? wd _ HCDD.out) HCDD.out
              have hou4 := HOU.out.below' HB4.out
              go_wp2_with (at_builtin; refine wpList_app1 _ rfl _ _ _ rfl (wo.heap.size + 1) 2 _ 8 Try.underlying38 info_int rfl (by omega) _ _ rfl (hou4.alloc _) _ _ rfl (one_cell _ _ _) rfl (by rw [ints_length]; have := HLN.out; omega) (by simp; omega) ?_; intro v' w5 ho5 hg5 hn5 hat5)
              go_roundw
              case rel => exact ⟨n + 1, v', by omega, by go_num, rfl, by rw [HT.out]; exact ho5, (hou4.alloc _).own (Nat.le_refl _) ((HBX2.out.trans (HB4.out.mono (by omega))).alloc (by omega) _) hg5 (by simp; omega)⟩
              case measure => simp [intOf]; omega
            | false =>
              have HT := Lib.hid (show harmSet m l k (n + 1) = harmSet m l k n by rw [HSN.out, HFK.out, hz]; simp)
              go_wp2_with fail
              rw [← hwd]
              clear hwd
              refine HFR.out.mono ?_
              rintro e w3 ⟨rfl, b3⟩
              obtain ⟨q0, q1, q2, q3, q4, _⟩ := HMD.out w3 b3
              have HB3 := Lib.hid (HBD.out.trans (b3.mono HBD.out.size))
              have HF3 := Lib.hid (HFS.out w3 b3)
              clear ca' cf'
              go_wp2_with fail
              refine HF3.out.mono ?_
              rintro e w4 ⟨A4, c4, rfl, hc4, r4, o4, b4⟩
              have hle4 := r4.le
              have HB4 := Lib.hid (HB3.out.trans (b4.mono HB3.out.size))
              go_wp2_with fail
              go_roundw
              case rel => exact ⟨n + 1, u12, by omega, by go_num, rfl, by rw [HT.out]; exact HOU.out.below' HB4.out, HBX2.out.trans (HB4.out.mono (by omega))⟩
              case measure => simp [intOf]; omega
        · have hnd : n = m.d.toNat := by omega
          have hND : decide ((n : Int) < m.d) = false := decide_eq_false hlt2
          obtain ⟨zs, hzs⟩ : ∃ zs, zs = harmSet m l k m.d.toNat := ⟨_, rfl⟩
          rw [hnd, ← hzs] at hou
          rw [← hzs] at HSK
          clear hzs hnd
          obtain ⟨A7, c7, rfl, hc7, hr7⟩ : ∃ A7 c7, u12 = .slice A7 zs.length c7 ∧ zs.length ≤ c7 ∧ RI wr A7 zs := by
            obtain ⟨A9, c9, e9, h9, h9r⟩ := hou.reads
            rw [ints_length] at e9 h9
            exact ⟨A9, c9, e9, h9, h9r⟩
          obtain ⟨us, k1, k2, k3, k4⟩ := HO.out.below hbo
          have hul : us.length ≤ 6 := by rw [k1, harmL_len]; omega
          have HK := Lib.hid (And.intro k3 k4); clear k3 k4
          have HL := Lib.hid k1; clear k1
          go_wp2_with (at_builtin; refine wpList_app1 _ rfl _ _ _ rfl w1.heap.size 38 _ 24 Try.underlying26 info_sl rfl (by omega) _ us rfl (k2.1.alloc _) _ _ rfl (one_cell _ _ _) rfl (by omega) (by simp; omega) ?_; intro v' w5 ho5 hg5 hn5 hat5)
          have HN := Lib.hid (OII.push1 (ys := zs) HL.out k2 HK.out.1 HK.out.2 (hou.mono (by omega)) (by omega) (by omega) ho5 hg5)
          have hs5 := hg5.size
          simp only [World.size_alloc] at hs5
          have HV5 := Lib.hid (show ∀ g, v'.ownBlock = some g → g = w1.heap.size ∨ w2.heap.size ≤ g from fun g e => by
            rcases hat5 with e1 | e1
            · exact HV.out g (e1.symm.trans e)
            · have := e1.symm.trans e; injection this with this; simp at this; right; omega)
          have HK5 := Lib.hid (((HKP.out.trans (KeepF.ofBelow (F := fun _ => False) hbo) (fun _ _ e => e.elim)).alloc (.cells #[.slice A7 zs.length c7] 38)).grown hg5 HV.out)
          clear ho5 hg5 hn5 hat5
          go_roundw
          case rel => exact ⟨k + 1, v', by omega, by go_num, rfl, by rw [HSK.out]; exact HN.out, HV5.out, HK5.out⟩
          case measure => simp [intOf]; omega
    · obtain rfl : k = l.length := by omega
      clear l0
      go_wp2_with fail
      go_ret2
      exact resIIC_own HY.out HO.out (by omega) (Nat.le_refl _) (B1.trans (HBk.out.mono (by omega)))
end Go.Proofs.Ythjfilhcfjpinaa
