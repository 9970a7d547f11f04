/- Contracts of OpenDoors, on both sides. -/
import Derived.Test.YtdedajohkdbdkaaGreatFGhost
namespace Go.Proofs.YtdedajohkdbdkaaGreat
set_option linter.unusedVariables false
open Go.RowKit
def doorsN (ls : List (List (List Int))) (key : List Int) (n : Nat) : List Int := ((List.range n).filter fun d => opensL (ls.getD d []) key).map fun (d : Nat) => (d : Int)
theorem doorsN_succ (ls : List (List (List Int))) (key : List Int) (n : Nat) : doorsN ls key (n + 1) = doorsN ls key n ++ (if opensL (ls.getD n []) key = true then [(n : Int)] else []) := by
  unfold doorsN; rw [List.range_succ, List.filter_append, List.map_append, filter_one, map_ite]
theorem doorsN_len (ls : List (List (List Int))) (key : List Int) (n : Nat) : (doorsN ls key n).length ≤ n := by
  unfold doorsN; rw [List.length_map]; have := List.length_filter_le (fun d => opensL (ls.getD d []) key) (List.range n); simpa using this
def doorsF (m : Mk) (t cuts : List (List Int)) (key : List Int) : List Int := doorsN (locksF m t cuts) key (locksF m t cuts).length
theorem locksF_few {m : Mk} {t cuts : List (List Int)} (h : PartOK m t cuts) : (locksF m t cuts).length ≤ 12 := by
  rw [locksF_len]
  have h0 : 0 < t.length := by have := h.t1; omega
  rw [h.head h0]; exact (h.row 0 h0).2.2
theorem key_len {m : Mk} {key : List Int} (h : isKey m key = true) : (key.length : Int) = m.c := (fault_zero_iff.1 (show fault m key = 0 by simpa [isKey] using h)).1
def openDoorsR (m : Mk) (t cuts : List (List Int)) (key : List Int) : List Int × Int := if partC m t cuts = 0 then (if isKey m key = true then (doorsF m t cuts key, 0) else ([], 2)) else ([], partC m t cuts)
theorem od_no {m : Mk} {t cuts : List (List Int)} {key : List Int} (h : partC m t cuts ≠ 0) : ([], partC m t cuts) = openDoorsR m t cuts key := by unfold openDoorsR; rw [if_neg h]
theorem od_bad {m : Mk} {t cuts : List (List Int)} {key : List Int} (h : partC m t cuts = 0) (h2 : isKey m key = false) : ([], 2) = openDoorsR m t cuts key := by unfold openDoorsR; rw [if_pos h, h2]; rfl
theorem od_yes {m : Mk} {t cuts : List (List Int)} {key : List Int} (h : partC m t cuts = 0) (h2 : isKey m key = true) : (doorsF m t cuts key, 0) = openDoorsR m t cuts key := by unfold openDoorsR; rw [if_pos h, if_pos h2]
/-- The state of the collection of doors: the list v0 of the call's own, the locks (from L1 to L2 - 1), what lies below. -/
structure DoorSt (N0 L1 L2 : Nat) (w0 : World) (AL : Option Addr) (cL : Nat) (ls : List (List (List Int))) (wr : World) (v0 : Value) (xs : List Int) : Prop where
  own : OV wr N0 2 v0 (ints xs)
  loc : OLS wr L1 L2 (.slice AL ls.length cL) ls
  le : L2 ≤ wr.heap.size
  n0 : N0 ≤ wr.heap.size
  bk : ∀ g, v0.ownBlock = some g → g < L1 ∨ L2 ≤ g
  bel : Below N0 w0 wr
theorem DoorSt.next {N0 L1 L2 : Nat} {w0 wr w' : World} {AL : Option Addr} {cL : Nat} {ls : List (List (List Int))} {v0 : Value} {xs : List Int} (h : DoorSt N0 L1 L2 w0 AL cL ls wr v0 xs) (hb : Below wr.heap.size wr w') : DoorSt N0 L1 L2 w0 AL cL ls w' v0 xs :=
  ⟨h.own.below' hb, h.loc.below (hb.mono h.le), Nat.le_trans h.le hb.size, Nat.le_trans h.n0 hb.size, h.bk, h.bel.trans (hb.mono h.n0)⟩
theorem DoorSt.push {N0 L1 L2 : Nat} {w0 wr w' : World} {AL : Option Addr} {cL : Nat} {ls : List (List (List Int))} {v0 v' : Value} {xs : List Int} {d : Int} (h : DoorSt N0 L1 L2 w0 AL cL ls wr v0 xs)
    (ho : OV w' N0 2 v' (ints xs ++ [.int .i64 d])) (hg : (wr.alloc (.cells #[.int .i64 d] 2)).grownBy w' v0.ownBlock)
    (hat : v'.ownBlock = v0.ownBlock ∨ v'.ownBlock = some (wr.alloc (.cells #[.int .i64 d] 2)).heap.size) : DoorSt N0 L1 L2 w0 AL cL ls w' v' (xs ++ [d]) := by
  have hle := h.le
  have hn0 := h.n0
  have b1 := (Below.refl wr.heap.size wr).alloc (Nat.le_refl _) (.cells #[.int .i64 d] 2)
  have hsz := hg.size
  simp only [World.size_alloc] at hsz
  have kp : ∀ g, g < wr.heap.size → v0.ownBlock ≠ some g → w'.heap[g]? = wr.heap[g]? := fun g hl hn => (hg.block g (by simp only [World.size_alloc]; omega) (Ne.symm hn)).trans (b1.block g hl)
  refine ⟨by rw [ints_append]; exact ho, h.loc.keep fun g hg1 hg2 => kp g (by omega) fun e => by have := h.bk g e; omega, by omega, by omega, fun g hgv => ?_, ?_⟩
  · rcases hat with e | e
    · exact h.bk g (e.symm.trans hgv)
    · rw [hgv] at e; injection e with e; simp only [World.size_alloc] at e; omega
  · exact (h.own.alloc _).own (Nat.le_refl _) (h.bel.alloc (by omega) _) hg (by simp; omega)
set_option maxRecDepth 100000 in
set_option maxHeartbeats 8000000 in
theorem implOpenDoors_any (m : Mk) (A : Option Addr) (c : Nat) (t : List (List Int)) (B : Option Addr) (d : Nat) (cuts : List (List Int)) (K : Option Addr) (q : Nat) (key : List Int) (w : World) (h : RII w A t) (g : RII w B cuts) (kk : RI w K key) (hq : key.length ≤ q) :
    Calls Tryz.prog 34 #[.agg #[.int .i64 m.c, .int .i64 m.d, .int .i64 m.s, .int .i64 m.a, .int .i64 m.l, .slice A t.length c], .slice B cuts.length d, .slice K key.length q] w (ResIC w (openDoorsR m t cuts key)) := by
  have B0 := (Below.refl w.heap.size w).alloc (Nat.le_refl _) (.cells #[.int .i64 m.c, .int .i64 m.d, .int .i64 m.s, .int .i64 m.a, .int .i64 m.l, .slice A t.length c] 45)
  have bx : BoxC (w.alloc (.cells #[.int .i64 m.c, .int .i64 m.d, .int .i64 m.s, .int .i64 m.a, .int .i64 m.l, .slice A t.length c] 45)) w.heap.size 0 [.int .i64 m.c, .int .i64 m.d, .int .i64 m.s, .int .i64 m.a, .int .i64 m.l, .slice A t.length c] := by simp [BoxC, Go.World.cell?_alloc_at]
  have HCC := Lib.hid (partCode_any m A c t B d cuts (w.alloc (.cells #[.int .i64 m.c, .int .i64 m.d, .int .i64 m.s, .int .i64 m.a, .int .i64 m.l, .slice A t.length c] 45)) (h.below B0) (g.below B0))
  have hs0 := B0.size
  by_cases h1 : partC m t cuts = 0
  rotate_left
  · have HN := Lib.hid (od_no (key := key) h1)
    have t1 : (partC m t cuts != 0) = true := by simpa using h1
    have H1 := Lib.hid h1; clear h1
    go_enter Tryz.func34, Tryz.ntmps34
    go_wp2_with fail
    refine HCC.out.mono ?_
    rintro e w1 ⟨rfl, b1⟩
    go_wp2_with fail
    go_ret2
    exact resIC_nil HN.out (B0.trans (b1.mono B0.size))
  have HP := Lib.hid (partC_0 h1)
  rw [h1] at HCC
  have HK := Lib.hid (fun (W : World) (hW : Below w.heap.size w W) => isKey_any m K q key W (kk.below hW) hq HP.out.mak)
  cases h2 : isKey m key with
  | false =>
    rw [h2] at HK
    have HN := Lib.hid (od_bad h1 h2)
    have H1 := Lib.hid (And.intro h1 h2); clear h1 h2
    go_enter Tryz.func34, Tryz.ntmps34
    go_wp2_with fail
    refine HCC.out.mono ?_
    rintro e w1 ⟨rfl, b1⟩
    have B1 := B0.trans (b1.mono B0.size)
    obtain ⟨q0, q1, q2, q3, q4, q5, _⟩ := bx.below b1
    go_wp2_with fail
    refine (HK.out _ B1).mono ?_
    rintro e w2 ⟨rfl, b2⟩
    go_wp2_with fail
    go_ret2
    exact resIC_nil HN.out (B1.trans (b2.mono B1.size))
  | true =>
    rw [h2] at HK
    have HN := Lib.hid (od_yes h1 h2)
    have HKL := Lib.hid (key_len h2)
    have H1 := Lib.hid (And.intro h1 h2); clear h1 h2
    obtain ⟨ls, hls⟩ : ∃ ls, ls = locksF m t cuts := ⟨_, rfl⟩
    have HLL := Lib.hid (show ∀ n (hn : n < ls.length), (ls[n].length : Int) = m.c by subst hls; exact fun n hn => HP.out.lock_len hn)
    have hl12 : ls.length ≤ 12 := by rw [hls]; exact locksF_few HP.out
    have HE := Lib.hid (show doorsF m t cuts key = doorsN ls key ls.length by rw [hls]; rfl)
    have HPL := fun W (hW : Below w.heap.size w W) => partLocks_any m A c t B d cuts W (h.below hW) (g.below hW) HP.out
    rw [← hls] at HPL
    have HPLL := Lib.hid HPL
    clear hls HPL
    go_enter Tryz.func34, Tryz.ntmps34
    go_wp2_with fail
    refine HCC.out.mono ?_
    rintro e w1 ⟨rfl, b1⟩
    have B1 := B0.trans (b1.mono B0.size)
    have bx1 := bx.below b1
    obtain ⟨q0, q1, q2, q3, q4, q5, _⟩ := bx.below b1
    go_wp2_with fail
    refine (HK.out _ B1).mono ?_
    rintro e w2 ⟨rfl, b2⟩
    have B2 := B1.trans (b2.mono B1.size)
    have hs1 := b1.size
    have hs2 := b2.size
    have hs2' : w.heap.size ≤ w2.heap.size := B2.size
    clear q0 q1 q2 q3 q4 q5
    obtain ⟨q0, q1, q2, q3, q4, q5, _⟩ := bx1.below b2
    have hws : w.heap.size < w2.heap.size := by simp only [World.size_alloc] at hs1; omega
    go_wp2_with fail
    have BA := B2.alloc (by omega) (.cells #[] 2)
    refine (HPLL.out _ BA).mono ?_
    rintro e w3 ⟨AL, cL, rfl, hcL, rL, oL, bL⟩
    have hs3 := bL.size
    simp only [World.size_alloc] at hs3 oL
    have st3 : DoorSt w2.heap.size (w2.heap.size + 1) w3.heap.size w2 AL cL ls w3 (.slice (some ⟨w2.heap.size, 0, none⟩) 0 0) (doorsN ls key 0) :=
      ⟨by simpa [doorsN, ints] using (OV.new0 (w := w2) (B := w2.heap.size) (e := 2) (Nat.le_refl _)).below' bL, oL, Nat.le_refl _, by omega, fun g hg => by simp [Value.ownBlock] at hg; omega, ((Below.refl _ _).alloc (Nat.le_refl _) _).trans (bL.mono (by simp))⟩
    have HST3 := Lib.hid st3
    have hls1 := rL.le
    clear rL oL bL st3 HPLL BA
    go_wp2_with fail
    go_loopw [9, 10, 11, 28] (fun v _ _ i wr => ∃ (n : Nat) (v0 : Value), n ≤ ls.length ∧ i = .int .i64 n ∧ v = v0 ∧ DoorSt w2.heap.size (w2.heap.size + 1) w3.heap.size w2 AL cL ls wr v0 (doorsN ls key n)) (fun _ _ _ i _ => ls.length - (intOf i).toNat)
    case atStart => exact ⟨0, _, by omega, rfl, rfl, HST3.out⟩
    case round =>
      obtain ⟨n, v0, hn, rfl, rfl, hst⟩ := hrel
      have HST := Lib.hid hst
      have Bw := B2.trans (hst.bel.mono hs2')
      by_cases hlt : n < ls.length
      · obtain ⟨bL, oL, A', c', rfl, hcl, hccl, hrl⟩ := (OLS.rls hst.loc).at_ hlt
        have HSR := Lib.hid (show doorsN ls key (n + 1) = doorsN ls key n ++ (if opensL ls[n] key = true then [(n : Int)] else []) by rw [doorsN_succ, getD_lock hlt])
        have hlen : key.length ≤ ls[n].length := by have := HLL.out n hlt; have := HKL.out; omega
        have HOP := fun W (hW : Below wr.heap.size wr W) => opens_any A' c' ls[n] K q key W (hrl.below hW) (kk.below (Bw.trans (hW.mono Bw.size))) hlen
        have HF1 := Lib.hid (doorsN_len ls key n)
        have HA1 := Lib.hid ((Below.refl wr.heap.size wr).alloc (Nat.le_refl _) (.cells #[.slice A' ls[n].length c'] 28))
        clear hst
        cases hop : opensL ls[n] key with
        | true =>
          rw [hop] at HOP
          have HOO := Lib.hid HOP
          have HSP := Lib.hid (show doorsN ls key (n + 1) = doorsN ls key n ++ [(n : Int)] by rw [HSR.out, hop]; rfl)
          clear HOP hop hrl
          go_wp2_with fail
          refine (HOO.out _ ((Below.refl _ _).alloc (Nat.le_refl _) _)).mono ?_
          rintro e w4 ⟨rfl, b4⟩
          have hst4 := HST.out.next (HA1.out.trans (b4.mono (by simp)))
          have HS4 := Lib.hid hst4
          have ho4 := hst4.own
          have hn4 := hst4.n0
          have hul : (ints (doorsN ls key n)).length ≤ 1000 := by rw [ints_length]; have := HF1.out; omega
          clear hst4 hcl
          go_wp2_with (at_builtin; refine wpList_app1 _ rfl _ _ _ rfl w2.heap.size 2 _ 8 Tryz.underlying33 info_int rfl (by omega) _ _ rfl (ho4.alloc _) _ _ rfl (one_cell _ _ _) rfl (by omega) (by simp; omega) ?_; intro v' w5 ho5 hg5 hn5 hat5)
          have HN := Lib.hid (HS4.out.push ho5 hg5 hat5)
          clear ho5 hg5 hn5 hat5
          go_roundw
          case rel => exact ⟨n + 1, v', by omega, by go_num, rfl, by rw [HSP.out]; exact HN.out⟩
          case measure => simp [intOf]; omega
        | false =>
          rw [hop] at HOP
          have HOO := Lib.hid HOP
          have HSP := Lib.hid (show doorsN ls key (n + 1) = doorsN ls key n by rw [HSR.out, hop]; simp)
          clear HOP hop hrl
          go_wp2_with fail
          refine (HOO.out _ ((Below.refl _ _).alloc (Nat.le_refl _) _)).mono ?_
          rintro e w4 ⟨rfl, b4⟩
          have HS4 := Lib.hid (HST.out.next (HA1.out.trans (b4.mono (by simp))))
          clear hcl
          go_wp2_with fail
          go_roundw
          case rel => exact ⟨n + 1, _, by omega, by go_num, rfl, by rw [HSP.out]; exact HS4.out⟩
          case measure => simp [intOf]; omega
      · obtain rfl : n = ls.length := by omega
        have HBB := Lib.hid Bw
        go_wp2_with fail
        go_ret2
        exact resIC_own (by rw [← HE.out]; exact HN.out) HST.out.own hs2' HBB.out
set_option maxRecDepth 100000 in
set_option maxHeartbeats 8000000 in
theorem l16Doors_any (m : Mk) (A : Option Addr) (c : Nat) (t : List (List Int)) (B : Option Addr) (d : Nat) (cuts : List (List Int)) (K : Option Addr) (q : Nat) (key : List Int) (w : World) (h : RII w A t) (g : RII w B cuts) (kk : RI w K key) (hp : PartOK m t cuts) (hkl : (key.length : Int) = m.c) :
    Calls Tryz.prog 89 #[.agg #[.int .i64 m.c, .int .i64 m.d, .int .i64 m.s, .int .i64 m.a, .int .i64 m.l, .slice A t.length c], .slice B cuts.length d, .slice K key.length q] w (ResI w (doorsF m t cuts key)) := by
  have B0 := (Below.refl w.heap.size w).alloc (Nat.le_refl _) (.cells #[.int .i64 m.c, .int .i64 m.d, .int .i64 m.s, .int .i64 m.a, .int .i64 m.l, .slice A t.length c] 45)
  have hs0 := B0.size
  obtain ⟨ls, hls⟩ : ∃ ls, ls = locksF m t cuts := ⟨_, rfl⟩
  have HP := Lib.hid hp
  have HKL := Lib.hid hkl; clear hp hkl
  have HLL := Lib.hid (show ∀ n (hn : n < ls.length), (ls[n].length : Int) = m.c by subst hls; exact fun n hn => HP.out.lock_len hn)
  have hl12 : ls.length ≤ 12 := by rw [hls]; exact locksF_few HP.out
  have HE := Lib.hid (show doorsF m t cuts key = doorsN ls key ls.length by rw [hls]; rfl)
  have HPL := fun W (hW : Below w.heap.size w W) => l15Locks_any m A c t B d cuts W (h.below hW) (g.below hW) HP.out
  rw [← hls] at HPL
  have HPLL := Lib.hid HPL
  clear hls HPL
  go_enter Tryz.func89, Tryz.ntmps89
  go_wp2_with fail
  refine (HPLL.out _ B0).mono ?_
  rintro e w3 ⟨AL, cL, rfl, hcL, rL, oL, bL⟩
  have B3 := B0.trans (bL.mono B0.size)
  have hs3 := bL.size
  simp only [World.size_alloc] at hs3
  have st3 : DoorSt w3.heap.size w.heap.size w3.heap.size w3 AL cL ls (w3.alloc (.cells #[] 2)) (.slice (some ⟨w3.heap.size, 0, none⟩) 0 0) (doorsN ls key 0) :=
    ⟨by simpa [doorsN, ints] using (OV.new0 (w := w3) (B := w3.heap.size) (e := 2) (Nat.le_refl _)), (oL.wide (by simp) (Nat.le_refl _)).below ((Below.refl _ _).alloc (Nat.le_refl _) _), by simp, by simp, fun g hg => by simp [Value.ownBlock] at hg; omega, (Below.refl _ _).alloc (Nat.le_refl _) _⟩
  have HST3 := Lib.hid st3
  have hls1 := rL.le
  clear rL oL bL st3 HPLL
  go_wp2_with fail
  go_loopw [8, 9] (fun v i wr => ∃ (n : Nat) (v0 : Value), n ≤ ls.length ∧ i = .int .i64 n ∧ v = v0 ∧ DoorSt w3.heap.size w.heap.size w3.heap.size w3 AL cL ls wr v0 (doorsN ls key n)) (fun _ i _ => ls.length - (intOf i).toNat)
  case atStart => exact ⟨0, _, by omega, rfl, rfl, HST3.out⟩
  case round =>
    obtain ⟨n, v0, hn, rfl, rfl, hst⟩ := hrel
    have HST := Lib.hid hst
    have Bw := B3.trans (hst.bel.mono (by omega))
    by_cases hlt : n < ls.length
    · obtain ⟨bL, oL, A', c', rfl, hcl, hccl, hrl⟩ := (OLS.rls hst.loc).at_ hlt
      have HSR := Lib.hid (show doorsN ls key (n + 1) = doorsN ls key n ++ (if opensL ls[n] key = true then [(n : Int)] else []) by rw [doorsN_succ, getD_lock hlt])
      have hlen : key.length ≤ ls[n].length := by have := HLL.out n hlt; have := HKL.out; omega
      have HOP := l04Opens_any A' c' ls[n] K q key wr hrl (kk.below Bw) hlen
      have HF1 := Lib.hid (doorsN_len ls key n)
      clear hst
      cases hop : opensL ls[n] key with
      | true =>
        rw [hop] at HOP
        have HOO := Lib.hid HOP
        have HSP := Lib.hid (show doorsN ls key (n + 1) = doorsN ls key n ++ [(n : Int)] by rw [HSR.out, hop]; rfl)
        clear HOP hop hrl
        go_wp2_with fail
        refine HOO.out.mono ?_
        rintro e w4 ⟨rfl, b4⟩
        have hst4 := HST.out.next b4
        have HS4 := Lib.hid hst4
        have ho4 := hst4.own
        have hn4 := hst4.n0
        have hul : (ints (doorsN ls key n)).length ≤ 1000 := by rw [ints_length]; have := HF1.out; omega
        clear hst4 hcl
        go_wp2_with (at_builtin; refine wpList_app1 _ rfl _ _ _ rfl w3.heap.size 2 _ 8 Tryz.underlying33 info_int rfl (by omega) _ _ rfl (ho4.alloc _) _ _ rfl (one_cell _ _ _) rfl (by omega) (by simp; omega) ?_; intro v' w5 ho5 hg5 hn5 hat5)
        have HN := Lib.hid (HS4.out.push ho5 hg5 hat5)
        clear ho5 hg5 hn5 hat5
        go_roundw
        case rel => exact ⟨n + 1, v', by omega, by go_num, rfl, by rw [HSP.out]; exact HN.out⟩
        case measure => simp [intOf]; omega
      | false =>
        rw [hop] at HOP
        have HOO := Lib.hid HOP
        have HSP := Lib.hid (show doorsN ls key (n + 1) = doorsN ls key n by rw [HSR.out, hop]; simp)
        clear HOP hop hrl
        go_wp2_with fail
        refine HOO.out.mono ?_
        rintro e w4 ⟨rfl, b4⟩
        have HS4 := Lib.hid (HST.out.next b4)
        clear hcl
        go_wp2_with fail
        go_roundw
        case rel => exact ⟨n + 1, _, by omega, by go_num, rfl, by rw [HSP.out]; exact HS4.out⟩
        case measure => simp [intOf]; omega
    · obtain rfl : n = ls.length := by omega
      have HBB := Lib.hid Bw
      go_wp2_with fail
      go_ret
      rw [HE.out]
      exact resI_own HST.out.own (by omega) HBB.out
set_option maxRecDepth 100000 in
set_option maxHeartbeats 8000000 in
theorem specOpenDoors_any (m : Mk) (A : Option Addr) (c : Nat) (t : List (List Int)) (B : Option Addr) (d : Nat) (cuts : List (List Int)) (K : Option Addr) (q : Nat) (key : List Int) (w : World) (h : RII w A t) (g : RII w B cuts) (kk : RI w K key) (hq : key.length ≤ q) :
    Calls Tryz.prog 35 #[.agg #[.int .i64 m.c, .int .i64 m.d, .int .i64 m.s, .int .i64 m.a, .int .i64 m.l, .slice A t.length c], .slice B cuts.length d, .slice K key.length q] w (ResIC w (openDoorsR m t cuts key)) := by
  have B0 := (Below.refl w.heap.size w).alloc (Nat.le_refl _) (.cells #[.int .i64 m.c, .int .i64 m.d, .int .i64 m.s, .int .i64 m.a, .int .i64 m.l, .slice A t.length c] 45)
  have bx : BoxC (w.alloc (.cells #[.int .i64 m.c, .int .i64 m.d, .int .i64 m.s, .int .i64 m.a, .int .i64 m.l, .slice A t.length c] 45)) w.heap.size 0 [.int .i64 m.c, .int .i64 m.d, .int .i64 m.s, .int .i64 m.a, .int .i64 m.l, .slice A t.length c] := by simp [BoxC, Go.World.cell?_alloc_at]
  have HCC := Lib.hid (l16Code_any m A c t B d cuts (w.alloc (.cells #[.int .i64 m.c, .int .i64 m.d, .int .i64 m.s, .int .i64 m.a, .int .i64 m.l, .slice A t.length c] 45)) (h.below B0) (g.below B0))
  have hs0 := B0.size
  by_cases h1 : partC m t cuts = 0
  rotate_left
  · have HN := Lib.hid (od_no (key := key) h1)
    have t1 : (partC m t cuts != 0) = true := by simpa using h1
    have t2 : (partC m t cuts == 0) = false := by simpa using h1
    have H1 := Lib.hid h1; clear h1
    go_enter Tryz.func35, Tryz.ntmps35
    go_wp2_with fail
    refine HCC.out.mono ?_
    rintro e w1 ⟨rfl, b1⟩
    go_wp2_with fail
    go_ret2
    exact resIC_nil HN.out (B0.trans (b1.mono B0.size))
  have HP := Lib.hid (partC_0 h1)
  rw [h1] at HCC
  have HK := Lib.hid (fun (W : World) (hW : Below w.heap.size w W) => l02Fault_any m K q key W (kk.below hW) hq HP.out.mak)
  cases h2 : isKey m key with
  | false =>
    have hz : (fault m key != 0) = true := by unfold isKey at h2; simpa using h2
    have HN := Lib.hid (od_bad h1 h2)
    have H1 := Lib.hid (And.intro h1 h2); clear h1 h2
    go_enter Tryz.func35, Tryz.ntmps35
    go_wp2_with fail
    refine HCC.out.mono ?_
    rintro e w1 ⟨rfl, b1⟩
    have B1 := B0.trans (b1.mono B0.size)
    obtain ⟨q0, q1, q2, q3, q4, q5, _⟩ := bx.below b1
    go_wp2_with fail
    refine (HK.out _ B1).mono ?_
    rintro e w2 ⟨rfl, b2⟩
    go_wp2_with fail
    go_ret2
    exact resIC_nil HN.out (B1.trans (b2.mono B1.size))
  | true =>
    have hz : (fault m key != 0) = false := by unfold isKey at h2; simpa using h2
    have HN := Lib.hid (od_yes h1 h2)
    have HD := Lib.hid (fun (W : World) (hW : Below w.heap.size w W) => l16Doors_any m A c t B d cuts K q key W (h.below hW) (g.below hW) (kk.below hW) HP.out (key_len h2))
    have H1 := Lib.hid (And.intro h1 h2); clear h1 h2
    obtain ⟨ds, hds⟩ : ∃ ds, ds = doorsF m t cuts key := ⟨_, rfl⟩
    rw [← hds] at HN HD
    clear hds
    go_enter Tryz.func35, Tryz.ntmps35
    go_wp2_with fail
    refine HCC.out.mono ?_
    rintro e w1 ⟨rfl, b1⟩
    have B1 := B0.trans (b1.mono B0.size)
    have HB1 := Lib.hid (bx.below b1)
    obtain ⟨q0, q1, q2, q3, q4, q5, _⟩ := HB1.out
    go_wp2_with fail
    refine (HK.out _ B1).mono ?_
    rintro e w2 ⟨rfl, b2⟩
    have B2 := B1.trans (b2.mono B1.size)
    clear q0 q1 q2 q3 q4 q5
    obtain ⟨q0, q1, q2, q3, q4, q5, _⟩ := HB1.out.below (b2.mono (Nat.le_refl _))
    go_wp2_with fail
    refine (HD.out _ B2).mono ?_
    rintro e w3 ⟨A3, c3, rfl, hc3, r3, o3, b3⟩
    have HB3 := Lib.hid (B2.trans (b3.mono B2.size))
    have HO3 := Lib.hid (And.intro r3 (o3.wide B2.size (Nat.le_refl _)))
    clear r3 o3 b3
    go_wp2_with fail
    go_ret2
    rw [← HN.out]
    exact ⟨A3, c3, rfl, hc3, HO3.out.1, HO3.out.2, HB3.out⟩
end Go.Proofs.YtdedajohkdbdkaaGreat
