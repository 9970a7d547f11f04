/- Contracts of the draws of buildings, plans and tables: l09Under, l09Doors, l10May, l10Access; l09Valid, l10DrawNodes, l10Valid, l11Valid, l11Draw, l11DrawKey. -/
import Derived.Test.YtdedajohkdbdkaaGreatDoorDr
namespace Go.Proofs.YtdedajohkdbdkaaGreatDoor
set_option linter.unusedVariables false
open Go.RowKit
def bools (xs : List Bool) : List Value := xs.map Value.bool
theorem bools_length (xs : List Bool) : (bools xs).length = xs.length := by simp [bools]
theorem bools_at {w : World} {D : Option Addr} {ds : List Bool} (h : RV w D (bools ds)) {k : Nat} (hk : k < ds.length) : ∃ b o, D = some ⟨b, o, none⟩ ∧ w.cell? ⟨b, o + k, none⟩ = some (.bool ds[k]) := by
  obtain ⟨b, o, rfl, hc⟩ := h.at_ (k := k) (by rw [bools_length]; exact hk)
  exact ⟨b, o, rfl, by rw [hc]; simp [bools]⟩
/-- a truth among the first k -/
def anyT (ds : List Bool) (k : Nat) : Prop := ∃ j, ∃ hj : j < ds.length, j < k ∧ ds[j] = true
/-- some truth, new memory -/
def RdB (Q : Bool → Prop) (w : World) (e : Ending) (w' : World) : Prop := ∃ b, e = .returned (.bool b) ∧ Q b ∧ Below w.heap.size w w'
/-- the parents of a building: each node but the root lies under a node ahead of it -/
def ParOK (ps : List Int) : Prop := 1 ≤ ps.length ∧ ps.length ≤ 100 ∧ ∀ k (hk : k < ps.length), (k = 0 → ps[k] = -1) ∧ (0 < k → 0 ≤ ps[k] ∧ ps[k] < k)
/-- a building that reads, in new memory -/
structure RBld (B : Nat) (w : World) (P D : Option Addr) (ps : List Int) (ds : List Bool) : Prop where
  par : RIn B w P ps
  drs : RV w D (bools ds)
  nfd : NF (fun g => g < B) D ds.length
theorem RBld.keepF {B : Nat} {F : Nat → Prop} {w w' : World} {P D : Option Addr} {ps : List Int} {ds : List Bool} (h : RBld B w P D ps ds) (k : KeepF F w w') (hF : ∀ g, F g → g < B) : RBld B w' P D ps ds :=
  ⟨h.par.keepF k hF, h.drs.keepN k (by rw [bools_length]; exact h.nfd.mono hF), h.nfd⟩
theorem RBld.dr {B S : Nat} {A : Option Addr} {c : Nat} {bs : List Int} {w w' : World} {P D : Option Addr} {ps : List Int} {ds : List Bool} (h : RBld B w P D ps ds) (hS : S < B) (d : Dr S A c bs w w') : RBld B w' P D ps ds := h.keepF d.keep (fun g e => by omega)
theorem RBld.mono {B B' : Nat} {w : World} {P D : Option Addr} {ps : List Int} {ds : List Bool} (h : RBld B w P D ps ds) (hB : B' ≤ B) : RBld B' w P D ps ds := ⟨h.par.mono hB, h.drs, h.nfd.mono fun g e => by omega⟩
set_option maxRecDepth 100000 in
set_option maxHeartbeats 2000000 in
theorem l09Under_any (P D : Option Addr) (cp cd nd : Nat) (ps : List Int) (node other : Int) (w : World) (h : RI w P ps) (hp : ParOK ps) (hn : node < ps.length) :
    Calls Tryz.prog 111 #[.agg #[.slice P ps.length cp, .slice D nd cd], .int .i64 node, .int .i64 other] w (RdB (fun b => other = 0 → 0 ≤ node → b = true) w) := by
  have B0 := (Below.refl w.heap.size w).alloc (Nat.le_refl _) (.cells #[.slice P ps.length cp, .slice D nd cd] 103)
  have hr := h.below B0
  have hle := h.le
  go_enter Tryz.func111, Tryz.ntmps111
  go_wp2_with fail
  go_loop [1] (fun i => ∃ k : Int, i = .int .i64 k ∧ k < ps.length ∧ (other = 0 → 0 ≤ node → 0 ≤ k)) (fun i => (intOf i + 1).toNat)
  case atStart => exact ⟨node, rfl, hn, fun _ h => h⟩
  case round =>
    obtain ⟨k, rfl, hk, he⟩ := hrel
    have HE := Lib.hid he; clear he
    by_cases h0 : k ≥ 0
    · obtain ⟨j, rfl⟩ : ∃ j : Nat, k = (j : Int) := ⟨k.toNat, by omega⟩
      have hj : j < ps.length := by omega
      by_cases ho : (j : Int) = other
      · have ho' : ((j : Int) == other) = true := by simpa using ho
        clear ho
        go_wp2_with fail
        go_ret
        exact ⟨true, rfl, fun _ _ => rfl, B0⟩
      · have ho' : ((j : Int) == other) = false := by simpa using ho
        have hpk := hp.2.2 j hj
        obtain ⟨b, o, rfl, hc⟩ := hr.at_ hj
        have hlt : ps[j] < (j : Int) := by
          by_cases hj0 : j = 0
          · have := hpk.1 hj0; omega
          · have := hpk.2 (by omega); omega
        have HR := Lib.hid (show other = 0 → 0 ≤ node → 0 ≤ ps[j] from fun e _ => (hpk.2 (by omega)).1)
        obtain ⟨y, hy⟩ : ∃ y, y = ps[j] := ⟨_, rfl⟩
        rw [← hy] at hc hlt HR
        have i0 : (0 : Int) ≤ (j : Int) := by omega
        have i1 : (j : Int) < (ps.length : Int) := by omega
        clear ho hpk hy
        go_wp2_with fail
        go_round
        case rel => exact ⟨y, rfl, by omega, HR.out⟩
        case measure => simp [intOf]; omega
    · have h0' : decide (k ≥ 0) = false := decide_eq_false h0
      have HR := Lib.hid (show other = 0 → 0 ≤ node → False from fun e h => by have := HE.out e h; omega)
      go_wp2_with fail
      go_ret
      exact ⟨false, rfl, fun e h => (HR.out e h).elim, B0⟩
set_option maxRecDepth 100000 in
set_option maxHeartbeats 2000000 in
theorem l10May_any (P D R : Option Addr) (cp cd nd cr : Nat) (ps ns : List Int) (door : Int) (w : World) (h : RI w P ps) (hr : RI w R ns) (hp : ParOK ps) (hn : door < ps.length) :
    Calls Tryz.prog 88 #[.agg #[.slice P ps.length cp, .slice D nd cd], .slice R ns.length cr, .int .i64 door] w (RdB (fun _ => True) w) := by
  have B0 := (Below.refl w.heap.size w).alloc (Nat.le_refl _) (.cells #[.slice P ps.length cp, .slice D nd cd] 103)
  have bx : BoxC (w.alloc (.cells #[.slice P ps.length cp, .slice D nd cd] 103)) w.heap.size 0 [.slice P ps.length cp, .slice D nd cd] := by simp [BoxC, Go.World.cell?_alloc_at]
  have hle := hr.le
  go_enter Tryz.func88, Tryz.ntmps88
  go_wp2_with fail
  go_loopw [7] (fun i wr => ∃ k : Nat, k ≤ ns.length ∧ i = .int .i64 k ∧ Below (w.alloc (.cells #[.slice P ps.length cp, .slice D nd cd] 103)).heap.size (w.alloc (.cells #[.slice P ps.length cp, .slice D nd cd] 103)) wr) (fun i _ => ns.length - (intOf i).toNat)
  case atStart => exact ⟨0, by omega, rfl, Below.refl _ _⟩
  case round =>
    obtain ⟨k, hkl, rfl, hb⟩ := hrel
    have Bw := B0.trans (hb.mono B0.size)
    by_cases hlt : k < ns.length
    · obtain ⟨b, o, rfl, hc⟩ := (hr.below Bw).at_ hlt
      have i0 : (0 : Int) ≤ (k : Int) := by omega
      have i1 : (k : Int) < (ns.length : Int) := by omega
      have KS := Lib.hid (show ∀ w' : World, Below wr.heap.size wr w' → ((w'.cell? ⟨w.heap.size, 0, none⟩ = some (.slice P ps.length cp) ∧ w'.cell? ⟨w.heap.size, 1, none⟩ = some (.slice D nd cd) ∧ True) ∧ w'.cell? ⟨b, o + k, none⟩ = some (.int .i64 ns[k])) from fun w' hw =>
        ⟨bx.keep fun i v hv => cell_in (hb.trans (hw.mono hb.size)) (by simp) hv, cell_in hw (World.block_lt_of_cell? wr _ hc) hc⟩)
      have E5 := Lib.hid (fun W (hW : Below wr.heap.size wr W) => l09Under_any P D cp cd nd ps door ns[k] W ((h.below Bw).below hW) hp hn)
      go_wp2_with fail
      go_region_held3 (fun w' => (w'.cell? ⟨w.heap.size, 0, none⟩ = some (.slice P ps.length cp) ∧ w'.cell? ⟨w.heap.size, 1, none⟩ = some (.slice D nd cd) ∧ True) ∧ w'.cell? ⟨b, o + k, none⟩ = some (.int .i64 ns[k])) (first | (refine KS.out _ ?_; first | assumption | exact belowDrew0 _))
        (first | (go_at_call 111; refine (E5.out _ (belowDrew0 _)).mono ?_; rintro e w2 ⟨b, rfl, _, b2⟩; have b2 := belowDrew b2))
      cases b with
      | true =>
        go_wp2_with fail
        go_ret
        exact ⟨true, rfl, trivial, Bw.trans (b2.mono Bw.size)⟩
      | false =>
        go_wp2_with fail
        go_roundw
        case rel => exact ⟨k + 1, by omega, by go_num, hb.trans (b2.mono hb.size)⟩
        case measure => simp [intOf]; omega
    · go_wp2_with fail
      go_ret
      exact ⟨false, rfl, trivial, Bw⟩
set_option maxRecDepth 100000 in
set_option maxHeartbeats 2000000 in
theorem l09Doors_any (P D : Option Addr) (cp cd : Nat) (ps : List Int) (ds : List Bool) (w : World) (h : RI w P ps) (g : RV w D (bools ds)) (hp : ParOK ps) (hl : ds.length = ps.length) :
    Calls Tryz.prog 87 #[.agg #[.slice P ps.length cp, .slice D ds.length cd], .int .i64 0] w fun e w' => ∃ A c xs, e = .returned (.slice A (List.length xs) c) ∧ xs.length ≤ c ∧ RI w' A xs ∧ (∀ x ∈ xs, 0 ≤ x ∧ x < ps.length) ∧ (anyT ds ds.length → 0 < xs.length) ∧ xs.length ≤ ds.length ∧ Below w.heap.size w w' := by
  have B0 := (Below.refl w.heap.size w).alloc (Nat.le_refl _) (.cells #[.slice P ps.length cp, .slice D ds.length cd] 103)
  obtain ⟨w1, hw1⟩ : ∃ w1, w1 = w.alloc (.cells #[.slice P ps.length cp, .slice D ds.length cd] 103) := ⟨_, rfl⟩
  have bx : BoxC w1 w.heap.size 0 [.slice P ps.length cp, .slice D ds.length cd] := by rw [hw1]; simp [BoxC, Go.World.cell?_alloc_at]
  have hz1 : w1.heap.size = w.heap.size + 1 := by rw [hw1]; simp
  rw [← hw1] at B0
  have HBX := Lib.hid bx; clear bx
  have hle : ds.length ≤ 100 := by have := hp.2.1; omega
  have HL := Lib.hid hl; clear hl
  go_enter Tryz.func87, Tryz.ntmps87
  go_wp2_with fail
  rw [← hw1]
  clear hw1
  go_loopw [5, 6] (fun v i wr => ∃ (k : Nat) (xs : List Int), k ≤ ds.length ∧ xs.length ≤ k ∧ i = .int .i64 k ∧ OV wr w1.heap.size 2 v (ints xs) ∧ Hid (∀ x ∈ xs, 0 ≤ x ∧ x < (ps.length : Int)) ∧ Hid (anyT ds k → 0 < xs.length) ∧ Below w1.heap.size w1 wr) (fun _ i _ => ds.length - (intOf i).toNat)
  case atStart => exact ⟨0, [], by omega, by simp, rfl, by rw [← hz1]; simpa [ints] using OV.new0 (w := w1) (B := w1.heap.size) (e := 2) (Nat.le_refl _), Lib.hid (by simp), Lib.hid (fun ⟨j, _, hj, _⟩ => by omega), (Below.refl _ _).alloc (Nat.le_refl _) _⟩
  case round =>
    obtain ⟨k, xs, hk, hxl, rfl, ho, hx, hy, hb⟩ := hrel
    have Bw := B0.trans (hb.mono (by omega))
    have hsz := hb.size
    obtain ⟨q0, q1, _⟩ := HBX.out.keep fun i v hv => cell_in hb (by simp only; omega) hv
    simp only [Nat.zero_add] at q1
    have HO := Lib.hid ho; clear ho
    by_cases hlt : k < ds.length
    · obtain ⟨b, o, rfl, hc⟩ := bools_at (RV.below g Bw) hlt
      have i0 : (0 : Int) ≤ (k : Int) := by omega
      have i1 : (k : Int) < (ds.length : Int) := by omega
      have HD := Lib.hid (show ∀ j (hj : j < ds.length), j < k + 1 → ds[j] = true → j < k ∨ ds[k] = true from fun j hj hjk hd => by
        rcases Nat.lt_or_ge j k with h1 | h1
        · exact .inl h1
        · have : j = k := by omega
          subst this; exact .inr hd)
      cases hd : ds[k] with
      | false =>
        rw [hd] at hc HD
        clear hd
        go_wp2_with fail
        go_roundw
        case rel => exact ⟨k + 1, xs, by omega, by omega, by go_num, HO.out, hx, Lib.hid (fun ⟨j, hj, hjk, hdj⟩ => hy.out ⟨j, hj, (by rcases HD.out j hj hjk hdj with h | h; exact h; cases h), hdj⟩), hb⟩
        case measure => simp [intOf]; omega
      | true =>
        rw [hd] at hc
        clear hd HD
        have E5 := Lib.hid (l09Under_any P (some ⟨b, o, none⟩) cp cd ds.length ps (k : Int) 0 wr (h.below Bw) hp (by have := HL.out; omega))
        go_wp2_with fail
        refine E5.out.mono ?_
        rintro e w2 ⟨b2, rfl, hq, hb2⟩
        have hq' := hq (by simp) (by omega)
        subst hq'
        have ho2 := HO.out.below' hb2
        have hsz2 := hb2.size
        have hb12 := hb.trans (hb2.mono hsz)
        clear q0 q1 hc hq
        go_wp2_with (at_builtin; refine wpList_app1 _ rfl _ _ _ rfl w1.heap.size 2 _ 8 Tryz.underlying44 info_int rfl (by omega) _ _ rfl (ho2.alloc _) _ _ rfl (one_cell _ _ _) rfl (by rw [ints_length]; omega) (by simp; omega) ?_; intro v' w4 ho4 hg4 hn4 hat4)
        go_roundw
        case rel => exact ⟨k + 1, xs ++ [(k : Int)], by omega, by simp; omega, by go_num, by rw [ints_append]; exact ho4, Lib.hid (fun x hx2 => by rcases List.mem_append.1 hx2 with h | h; exact hx.out x h; simp at h; have := HL.out; omega), Lib.hid (fun _ => by simp), (hb12.alloc (by omega) _).grown hg4 (by simp; omega) (fun g hg => (ho2.lt g hg).1)⟩
        case measure => simp [intOf]; omega
    · obtain rfl : k = ds.length := by omega
      obtain ⟨A', c', rfl, hc', hr'⟩ := HO.out.reads
      rw [ints_length] at hc' ⊢
      go_wp2_with fail
      go_ret
      exact ⟨A', c', xs, rfl, hc', hr', hx.out, hy.out, hxl, Bw⟩
theorem OII.dr {S : Nat} {A : Option Addr} {c : Nat} {bs : List Int} {w w' : World} {B C : Nat} {v : Value} {xss : List (List Int)} (h : OII w B C v xss) (hS : S < B) (hC : C ≤ w.heap.size) (d : Dr S A c bs w w') : OII w' B C v xss :=
  h.keep fun g h1 h2 => d.keep.block g (by omega) (by omega)
/-- a table of the call's own, as a nest in growth -/
theorem OII.nest {w : World} {B C : Nat} {v : Value} {xss : List (List Int)} (h : OII w B C v xss) : ∃ us, NEST B w v us xss := by
  obtain ⟨us, h1, h2, h3, h4⟩ := h
  refine ⟨us, h1, h2.1, fun j hj => ?_⟩
  obtain ⟨u, hu, ho⟩ := h3 j hj
  obtain ⟨A', c', rfl, hc', hr'⟩ := ho.readsI
  refine ⟨A', c', hu, hc', hr', fun h0 b o e hf => ?_⟩
  have hbk : (Value.slice A' xss[j].length c').ownBlock = some b := by rw [e]; rfl
  rcases hf with hf | hf
  · have := (ho.1.lt b hbk).1; omega
  · obtain ⟨cs, fr, hh, _⟩ := ho.1.block_ty hbk
    obtain ⟨cs2, fr2, hh2, _⟩ := h2.1.block_ty hf
    rw [hh] at hh2
    injection hh2 with hh2
    injection hh2 with _ ht
    exact absurd ht (by decide)
/-- a table of the call's own, built so far -/
structure TAB (B : Nat) (w : World) (v : Value) (xss : List (List Int)) : Prop where
  own : OII w B w.heap.size v xss
  rows : ∀ r ∈ xss, 0 < r.length
theorem TAB.below {B : Nat} {w w' : World} {v : Value} {xss : List (List Int)} (h : TAB B w v xss) (hb : Below w.heap.size w w') : TAB B w' v xss := ⟨(h.own.below hb).wide (Nat.le_refl _) hb.size, h.rows⟩
theorem TAB.dr {S : Nat} {A : Option Addr} {c : Nat} {bs : List Int} {B : Nat} {w w' : World} {v : Value} {xss : List (List Int)} (h : TAB B w v xss) (hS : S < B) (d : Dr S A c bs w w') : TAB B w' v xss := ⟨(h.own.dr hS (Nat.le_refl _) d).wide (Nat.le_refl _) d.size, h.rows⟩
/-- one more row, of new memory (from C on); what was there (below C) has not turned since -/
theorem TAB.push {B C : Nat} {w w' : World} {v v' u : Value} {us : List Value} {xss : List (List Int)} {ys : List Int} {o : Obj} (h1 : us.length = xss.length) (h2 : OR w B C 44 v us)
    (h3 : ∀ j (hj : j < xss.length), ∃ u, us[j]? = some u ∧ OR w B C 2 u (ints xss[j])) (h4 : ∀ (i j : Nat) (u u' : Value), i ≠ j → us[i]? = some u → us[j]? = some u' → ∀ g, u.ownBlock = some g → u'.ownBlock ≠ some g)
    (hr : ∀ r ∈ xss, 0 < r.length) (h0 : 0 < ys.length) (hu : OV w C 2 u (ints ys)) (hBC : B ≤ C) (hC : C ≤ w.heap.size) (ho : OV w' B 44 v' (us ++ [u])) (hg : (w.alloc o).grownBy w' v.ownBlock) : TAB B w' v' (xss ++ [ys]) :=
  ⟨OII.push1 h1 h2 h3 h4 hu hBC hC ho hg, fun r hr' => by rcases List.mem_append.1 hr' with h | h; exact hr r h; simp at h; rw [h]; exact h0⟩
set_option maxRecDepth 100000 in
set_option maxHeartbeats 4000000 in
theorem l10Access_any (P D R : Option Addr) (cp cd cr : Nat) (ps : List Int) (ds : List Bool) (rr : List (List Int)) (w : World) (h : RI w P ps) (g : RV w D (bools ds)) (q : RII w R rr) (hp : ParOK ps) (hl : ds.length = ps.length) (hd : anyT ds ds.length) (hrr : rr.length ≤ 100) :
    Calls Tryz.prog 75 #[.agg #[.slice P ps.length cp, .slice D ds.length cd, .slice R rr.length cr]] w fun e w' => ∃ v xss, e = .returned v ∧ TAB w.heap.size w' v xss ∧ xss.length = rr.length ∧ Below w.heap.size w w' := by
  have B0 := (Below.refl w.heap.size w).alloc (Nat.le_refl _) (.cells #[.slice P ps.length cp, .slice D ds.length cd, .slice R rr.length cr] 105)
  obtain ⟨w1, hw1⟩ : ∃ w1, w1 = w.alloc (.cells #[.slice P ps.length cp, .slice D ds.length cd, .slice R rr.length cr] 105) := ⟨_, rfl⟩
  have bx : BoxC w1 w.heap.size 0 [.slice P ps.length cp, .slice D ds.length cd, .slice R rr.length cr] := by rw [hw1]; simp [BoxC, Go.World.cell?_alloc_at]
  have hz1 : w1.heap.size = w.heap.size + 1 := by rw [hw1]; simp
  rw [← hw1] at B0
  have HBX := Lib.hid bx
  have E0 := Lib.hid (l09Doors_any P D cp cd ps ds w1 (h.below B0) (RV.below g B0) hp hl)
  have HL := Lib.hid hl; clear hl
  obtain ⟨q0, q1, q2, _⟩ := bx
  simp only [Nat.zero_add] at q1 q2
  go_enter Tryz.func75, Tryz.ntmps75
  go_wp2_with fail
  rw [← hw1]
  clear hw1
  refine E0.out.mono ?_
  rintro e w2 ⟨A, c, xs, rfl, hc, hrx, hxs, hx0, hxl, hb2⟩
  have HXS := Lib.hid hxs; have HX0 := Lib.hid (hx0 hd); have HRX := Lib.hid hrx
  have hle := hrx.le
  have hx100 : xs.length ≤ 100 := by have := hp.2.1; have := HL.out; omega
  have HB2 := Lib.hid hb2
  have hsz2 := hb2.size
  clear q0 q1 q2 hxs hx0 hrx hd
  go_wp2_with fail
  go_loopw [4, 5, 6, 7] (fun v i _ _ wr => ∃ (k : Nat) (xss : List (List Int)), k ≤ rr.length ∧ i = .int .i64 k ∧ xss.length = k ∧ TAB w2.heap.size wr v xss ∧ Below w2.heap.size w2 wr) (fun _ i _ _ _ => rr.length - (intOf i).toNat)
  case atStart => exact ⟨0, [], by omega, rfl, rfl, ⟨by simpa using OII.new0 (w := w2) (B := w2.heap.size) (Nat.le_refl _), by simp⟩, (Below.refl _ _).alloc (Nat.le_refl _) _⟩
  case round =>
    obtain ⟨k, xss, hk, rfl, hxk, hT, hb⟩ := hrel
    have HT := Lib.hid hT; have HXK := Lib.hid hxk
    clear hT hxk
    obtain ⟨wo, rfl⟩ : ∃ wo : World, wo = wr := ⟨_, rfl⟩
    have Bo := B0.trans ((HB2.out.trans (hb.mono hsz2)).mono B0.size)
    have BX := Lib.hid (HBX.out.keep fun i v hv => cell_in (HB2.out.trans (hb.mono hsz2)) (by simp only; omega) hv)
    obtain ⟨q0, q1, q2, _⟩ := BX.out
    simp only [Nat.zero_add] at q1 q2
    have hso := hb.size
    by_cases hlt : k < rr.length
    · have i0 : (0 : Int) ≤ (k : Int) := by omega
      have i1 : (k : Int) < (rr.length : Int) := by omega
      go_wp2_with fail
      clear q0 q1 q2
      go_loopw [6, 7] (fun u j wx => ∃ (n : Nat) (ys : List Int), n ≤ xs.length ∧ j = .int .i64 n ∧ ys.length = n ∧ OV wx wo.heap.size 2 u (ints ys) ∧ Below wo.heap.size wo wx) (fun _ j _ => xs.length - (intOf j).toNat)
      case atStart => exact ⟨0, [], by omega, rfl, rfl, OV.new0 (w := wo) (Nat.le_refl _), (Below.refl _ _).alloc (Nat.le_refl _) _⟩
      case round =>
        obtain ⟨n, ys, hn, rfl, hyn, ho2, hbx⟩ := hrel
        have HO2 := Lib.hid ho2; have HYN := Lib.hid hyn
        clear ho2 hyn
        have Bx := Bo.trans (hbx.mono Bo.size)
        have hsx := hbx.size
        by_cases hlt2 : n < xs.length
        · obtain ⟨bR, oR, A', c', rfl, hcR, hccR, hrR⟩ := (q.below Bx).at_ hlt
          obtain ⟨bX, oX, rfl, hcX⟩ := (HRX.out.below (hb.trans (hbx.mono hso))).at_ hlt2
          have j0 : (0 : Int) ≤ (n : Int) := by omega
          have j1 : (n : Int) < (xs.length : Int) := by omega
          have KS := Lib.hid (show ∀ w' : World, Below wr.heap.size wr w' → ((w'.cell? ⟨w.heap.size, 0, none⟩ = some (.slice P ps.length cp) ∧ w'.cell? ⟨w.heap.size, 1, none⟩ = some (.slice D ds.length cd) ∧ w'.cell? ⟨w.heap.size, 2, none⟩ = some (.slice (some ⟨bR, oR, none⟩) rr.length cr) ∧ True) ∧ w'.cell? ⟨bR, oR + k, none⟩ = some (.slice A' rr[k].length c') ∧ w'.cell? ⟨bX, oX + n, none⟩ = some (.int .i64 xs[n])) from fun w' hw =>
            ⟨BX.out.keep fun i v hv => cell_in (hbx.trans (hw.mono hsx)) (by simp only; omega) hv, cell_in hw (World.block_lt_of_cell? wr _ hcR) hcR, cell_in hw (World.block_lt_of_cell? wr _ hcX) hcX⟩)
          have HXN := Lib.hid (HXS.out xs[n] (List.getElem_mem hlt2))
          have E5 := Lib.hid (fun W (hW : Below wr.heap.size wr W) => l10May_any P D A' cp cd ds.length c' ps rr[k] xs[n] W ((h.below Bx).below hW) (hrR.below hW) hp HXN.out.2)
          clear hcR hcX hrR
          go_wp2_with fail
          go_region_held3 (fun w' => (w'.cell? ⟨w.heap.size, 0, none⟩ = some (.slice P ps.length cp) ∧ w'.cell? ⟨w.heap.size, 1, none⟩ = some (.slice D ds.length cd) ∧ w'.cell? ⟨w.heap.size, 2, none⟩ = some (.slice (some ⟨bR, oR, none⟩) rr.length cr) ∧ True) ∧ w'.cell? ⟨bR, oR + k, none⟩ = some (.slice A' rr[k].length c') ∧ w'.cell? ⟨bX, oX + n, none⟩ = some (.int .i64 xs[n])) (first | (refine KS.out _ ?_; first | assumption | exact belowDrew0 _))
            (first | (go_at_call 88; refine (E5.out _ (belowDrew0 _)).mono ?_; rintro e w3 ⟨b, rfl, _, b2⟩; have b2 := belowDrew b2))
          have ho3 := HO2.out.below' b2
          have hb3 := hbx.trans (b2.mono hsx)
          have hyn := HYN.out
          have hs3 := b2.size
          cases b with
          | true =>
            go_wp2_with (at_builtin; refine wpList_app1 _ rfl _ _ _ rfl wo.heap.size 2 _ 8 Tryz.underlying44 info_int rfl (by omega) _ _ rfl (ho3.alloc _) _ _ rfl (one_cell _ _ _) rfl (by rw [ints_length]; omega) (by simp; omega) ?_; intro v' w4 ho4 hg4 hn4 hat4)
            go_roundw
            case rel => exact ⟨n + 1, ys ++ [1], by omega, by go_num, by simp; omega, by rw [ints_append]; exact ho4, (hb3.alloc (by omega) _).grown hg4 (by simp; omega) (fun g hg => (ho3.lt g hg).1)⟩
            case measure => simp [intOf]; omega
          | false =>
            go_wp2_with (at_builtin; refine wpList_app1 _ rfl _ _ _ rfl wo.heap.size 2 _ 8 Tryz.underlying44 info_int rfl (by omega) _ _ rfl (ho3.alloc _) _ _ rfl (one_cell _ _ _) rfl (by rw [ints_length]; omega) (by simp; omega) ?_; intro v' w4 ho4 hg4 hn4 hat4)
            go_roundw
            case rel => exact ⟨n + 1, ys ++ [0], by omega, by go_num, by simp; omega, by rw [ints_append]; exact ho4, (hb3.alloc (by omega) _).grown hg4 (by simp; omega) (fun g hg => (ho3.lt g hg).1)⟩
            case measure => simp [intOf]; omega
        · have hnx : n = xs.length := by omega
          have H0 := Lib.hid (show 0 < ys.length by have := HX0.out; have := HYN.out; omega)
          subst hnx
          obtain ⟨K7, c7, rfl, hc7, _⟩ := HO2.out.reads
          rw [ints_length]
          have hOw := HO2.out
          rw [ints_length] at hOw
          have HO3 := Lib.hid hOw; clear hOw
          obtain ⟨us, k1, k2, k3, k4⟩ := HT.out.own.below hbx
          have HXR := Lib.hid HT.out.rows
          have HK := Lib.hid (And.intro k3 k4)
          have HK1 := Lib.hid k1
          have hus : us.length ≤ 100 := by have := HXK.out; omega
          clear k3 k4 k1 hc7
          go_wp2_with (at_builtin; refine wpList_app1 _ rfl _ _ _ rfl w2.heap.size 44 _ 24 Tryz.underlying26 info_sl rfl (by omega) _ us rfl (k2.1.alloc _) _ _ rfl (one_cell _ _ _) rfl (by omega) (by simp; omega) ?_; intro v' w5 ho5 hg5 hn5 hat5)
          have HN := Lib.hid (TAB.push HK1.out k2 HK.out.1 HK.out.2 HXR.out H0.out HO3.out hso hsx ho5 hg5)
          have HB5 := Lib.hid (((hb.trans (hbx.mono hso)).alloc (by omega) (.cells #[.slice K7 ys.length c7] 44)).grown hg5 (by simp; omega) (fun g hg => (k2.1.lt g hg).1))
          clear ho5 hg5 hn5 hat5
          go_roundw
          case rel => exact ⟨k + 1, xss ++ [ys], by omega, by go_num, by have := HXK.out; simp; omega, HN.out, HB5.out⟩
          case measure => simp [intOf]; omega
    · have hkr : k = rr.length := by omega
      subst hkr
      go_wp2_with fail
      go_ret
      exact ⟨_, xss, rfl, ⟨HT.out.own.wide (by omega) (Nat.le_refl _), HT.out.rows⟩, HXK.out, Bo⟩
end Go.Proofs.YtdedajohkdbdkaaGreatDoor

/- Contracts of the draws of buildings and plans: l09Valid, l10DrawNodes, l10Valid. -/
namespace Go.Proofs.YtdedajohkdbdkaaGreatDoor
set_option linter.unusedVariables false
open Go.RowKit
theorem keep_two (w : World) (g : Nat) (a b : Value) : KeepF (fun x => x = g) w ((w.setCell ⟨g, 0, none⟩ a).setCell ⟨g, 1, none⟩ b) :=
  ((KeepF.refl (fun x => x = g) w).setCell (p := ⟨g, 0, none⟩) (.inl rfl) a).setCell (p := ⟨g, 1, none⟩) (.inl rfl) b
theorem keep_three (w : World) (g : Nat) (a b c : Value) : KeepF (fun x => x = g) w (((w.setCell ⟨g, 0, none⟩ a).setCell ⟨g, 1, none⟩ b).setCell ⟨g, 2, none⟩ c) :=
  (keep_two w g a b).setCell (p := ⟨g, 2, none⟩) (.inl rfl) c
theorem boxC_of_heap {w : World} {g : Nat} {cs : Array Value} {t : TypeId} {fr : Nat × Nat} (h : w.heap[g]? = some (.cells cs t fr)) (i : Nat) (v : Value) (hv : cs[i]? = some v) : w.cell? ⟨g, i, none⟩ = some v := by
  simp only [World.cell?, h]; exact hv
theorem frozen_of_heap {w : World} {g : Nat} {cs : Array Value} {t : TypeId} (h : w.heap[g]? = some (.cells cs t (0, 0))) (i : Nat) : w.frozen? ⟨g, i, none⟩ = false := by
  simp [World.frozen?, h]
/-- two slices of one's own do not share a block -/
def Sep (v u : Value) : Prop := ∀ g, v.ownBlock = some g → u.ownBlock ≠ some g
theorem Sep.symm {v u : Value} (h : Sep v u) : Sep u v := fun g h1 h2 => h g h2 h1
theorem Sep.app {w : World} {B e : Nat} {v v' u : Value} {us : List Value} (h : Sep v u) (hu : OV w B e u us) {o : Obj} (hat : v'.ownBlock = v.ownBlock ∨ v'.ownBlock = some (w.alloc o).heap.size) : Sep v' u := by
  intro g hg hu'
  rcases hat with hat | hat
  · exact h g (hat ▸ hg) hu'
  · rw [hat] at hg; injection hg with hg
    have := (hu.lt g hu').2
    simp at hg; omega
theorem OV.sepTy {w : World} {B B' e e' : Nat} {v u : Value} {us vs : List Value} (h : OV w B e v us) (k : OV w B' e' u vs) (he : e ≠ e') : Sep v u := by
  intro g hg hu
  obtain ⟨cs, fr, hh, _⟩ := h.block_ty hg
  obtain ⟨cs2, fr2, hh2, _⟩ := k.block_ty hu
  rw [hh] at hh2
  injection hh2 with hh2
  injection hh2 with _ ht
  exact absurd ht he
theorem OV.other {w w' : World} {B e : Nat} {v u : Value} {us : List Value} (h : OV w B e u us) (hs : Sep v u) {o : Obj} (hg : (w.alloc o).grownBy w' v.ownBlock) : OV w' B e u us :=
  (h.alloc o).same fun g hu => hg.block g ((h.alloc o).lt g hu).2 (fun e => hs g e.symm hu)
theorem info_bool : (Tryz.prog.info? 4).map (fun i => (i.zero, i.size, i.bytes)) = some (some (.bool false), 1, 1) := by kernel_rfl
theorem bools_append (xs ys : List Bool) : bools (xs ++ ys) = bools xs ++ bools ys := by simp [bools]
theorem parOK_snoc {ps : List Int} {x : Int} (h : ParOK ps) (h0 : 0 ≤ x) (h1 : x < ps.length) (hl : ps.length < 100) : ParOK (ps ++ [x]) := by
  refine ⟨by simp, by simp; omega, fun k hk => ?_⟩
  by_cases hkl : k < ps.length
  · rw [List.getElem_append_left hkl]; exact h.2.2 k hkl
  · have : k = ps.length := by simp at hk; omega
    subst this
    have := h.1
    simp
    refine ⟨fun e => by subst e; simp at this, fun _ => ⟨h0, h1⟩⟩
theorem parOK_one : ParOK [-1] := ⟨by simp, by simp, fun k hk => by
  have : k = 0 := by simp at hk; omega
  subst this; simp⟩
theorem Dr.app {S : Nat} {A : Option Addr} {c : Nat} {bs : List Int} {ws w w' : World} {B e : Nat} {v : Value} {us : List Value} (d : Dr S A c bs ws w) (h : OV w B e v us) (hB : ws.heap.size ≤ B) {o : Obj} (hg : (w.alloc o).grownBy w' v.ownBlock) : Dr S A c bs ws w' :=
  (d.alloc o).grow hg (fun g hg => by have := (h.lt g hg).1; omega)
theorem anyT_snoc {ds : List Bool} {k : Nat} (hk : ds.length = k) (b : Bool) (hb : b = true) : anyT (ds ++ [b]) (k + 1) := ⟨k, by simp; omega, by omega, by subst hk hb; simp⟩
/-- a drawn building -/
def ResB (S : Nat) (A : Option Addr) (c : Nat) (bs : List Int) (w : World) (e : Ending) (w' : World) : Prop :=
  ∃ P cp ps D cd ds, e = .returned (.agg #[.slice P (List.length ps) cp, .slice D (List.length ds) cd]) ∧ RBld w.heap.size w' P D ps ds ∧ ParOK ps ∧ ds.length = ps.length ∧ anyT ds ds.length ∧ Dr S A c bs w w'
set_option maxRecDepth 100000 in
set_option maxHeartbeats 4000000 in
theorem l09Valid_any (S : Nat) (A : Option Addr) (c : Nat) (bs : List Int) (w : World) (h : Src S A c bs w) :
    Calls Tryz.prog 89 #[.pointer (some ⟨S, 0, none⟩)] w (ResB S A c bs w) := by
  obtain ⟨w0, hw0⟩ : ∃ w0, w0 = w.alloc (.cells #[.slice none 0 0, .slice none 0 0] 103) := ⟨_, rfl⟩
  have D0 : Dr S A c bs w w0 := by rw [hw0]; exact (Dr.refl h).alloc _
  have hz0 : w0.heap.size = w.heap.size + 1 := by rw [hw0]; simp
  have hbk : w0.heap[w.heap.size]? = some (.cells #[.slice none 0 0, .slice none 0 0] 103 (0, 0)) := by
    have := heap_alloc_new w (.cells #[.slice none 0 0, .slice none 0 0] 103)
    rw [hw0]; simpa using this
  have hSl : S < w.heap.size := h.xl
  have HBK := Lib.hid hbk; have HD0 := Lib.hid D0
  have HN0 := Lib.hid (l01Next_dr D0.src 9)
  clear h hbk D0
  go_enter Tryz.func89, Tryz.ntmps89
  go_wp2_with fail
  rw [← hw0]
  clear hw0
  refine HN0.out.mono ?_
  rintro e w1 ⟨r, rfl, hr0, hr1, hD1, hz1⟩
  have HD1 := Lib.hid (HD0.out.trans hD1)
  have HBK1 := Lib.hid ((hD1.keep.block w.heap.size (by omega) (by omega)).trans HBK.out)
  have hrb : r < 9 := by omega
  have hw1 : w.heap.size < w1.heap.size := by omega
  clear hD1 hz1 hr1 hz0
  obtain ⟨wc, hwc⟩ : ∃ wc, wc = ((w1.alloc (.cells #[.int .i64 (-1)] 2)).alloc (.cells #[.bool false] 4)).alloc (.cells #[.int .i64 0] 2) := ⟨_, rfl⟩
  have HP := Lib.hid (show OV wc w1.heap.size 2 (.slice (some ⟨w1.heap.size, 0, none⟩) 1 1) (ints [-1]) from by
    rw [hwc]; exact ((OV.new (w := w1) (B := w1.heap.size) (e := 2) #[.int .i64 (-1)] (Nat.le_refl _) (by simp [maxLen])).alloc _).alloc _)
  have HQ := Lib.hid (show OV wc w1.heap.size 4 (.slice (some ⟨w1.heap.size + 1, 0, none⟩) 1 1) (bools [false]) from by
    have := (OV.new (w := w1.alloc (.cells #[.int .i64 (-1)] 2)) (B := w1.heap.size) (e := 4) #[.bool false] (by simp) (by simp [maxLen])).alloc (.cells #[.int .i64 0] 2)
    rw [hwc]; simpa [bools] using this)
  have HG := Lib.hid (show OV wc w1.heap.size 2 (.slice (some ⟨w1.heap.size + 1 + 1, 0, none⟩) 1 1) (ints [0]) from by
    have := OV.new (w := (w1.alloc (.cells #[.int .i64 (-1)] 2)).alloc (.cells #[.bool false] 4)) (B := w1.heap.size) (e := 2) #[.int .i64 0] (by simp; omega) (by simp [maxLen])
    rw [hwc]; simpa [ints] using this)
  have HDC := Lib.hid (show Dr S A c bs w1 wc by rw [hwc]; exact (((Dr.refl HD1.out.src).alloc _).alloc _).alloc _)
  go_wp2_with fail
  rw [← hwc]
  clear hwc
  go_loopw [4, 5, 6, 7, 8] (fun p d g i _ wr => ∃ (k : Nat) (ps : List Int) (ds : List Bool) (gs : List Int), i = .int .i64 k ∧ 1 ≤ k ∧ (k : Int) ≤ 2 + r ∧ ps.length = k ∧ ds.length = k ∧ gs.length ≤ k ∧ 0 < gs.length ∧ Hid (∀ x ∈ gs, 0 ≤ x ∧ x < (k : Int)) ∧ Hid (ParOK ps) ∧ Hid ((k : Int) = 2 + r → anyT ds k) ∧
    OV wr w1.heap.size 2 p (ints ps) ∧ OV wr w1.heap.size 4 d (bools ds) ∧ OV wr w1.heap.size 2 g (ints gs) ∧ Sep p g ∧ Dr S A c bs w1 wr) (fun _ _ _ i _ _ => (2 + r - intOf i).toNat)
  case atStart => exact ⟨1, [-1], [false], [0], rfl, by omega, by omega, rfl, rfl, by simp, by simp, Lib.hid (by simp), Lib.hid parOK_one, Lib.hid (fun h => by omega), HP.out, HQ.out, HG.out, fun g h1 h2 => by simp [Value.ownBlock] at h1 h2; omega, HDC.out⟩
  case round =>
    obtain ⟨k, ps, ds, gs, rfl, hk1, hkr, hpl, hdl, hgl, hg0, hgs, hps, han, hop, hod, hog, hsep, hD⟩ := hrel
    have HOP := Lib.hid hop; have HOD := Lib.hid hod; have HOG := Lib.hid hog; have HSEP := Lib.hid hsep; have HD := Lib.hid hD
    have HPL := Lib.hid hpl; have HDL := Lib.hid hdl
    obtain ⟨Ag, cg, rfl, hcg, hrg⟩ := hog.reads
    obtain ⟨Ap, cp, rfl, hcp, hrp⟩ := hop.reads
    obtain ⟨Ad, cd, rfl, hcd, hrd⟩ := hod.reads
    rw [ints_length, ints_length, bools_length] at *
    clear hop hod hog hsep hD hpl hdl
    by_cases hlt : (k : Int) < 2 + r
    · have HN := Lib.hid (l01Next_dr HD.out.src gs.length)
      clear hrp hrd
      have i0 : (0 : Int) ≤ (k : Int) := by omega
      go_wp2_with fail
      refine HN.out.mono ?_
      rintro e w3 ⟨r7, rfl, h70, h71, hD3, hz3⟩
      obtain ⟨j, rfl⟩ : ∃ j : Nat, r7 = (j : Int) := ⟨r7.toNat, by omega⟩
      have hj : j < gs.length := by omega
      have hS1 : S < w1.heap.size := by omega
      have hog3 := HOG.out.dr hS1 hD3
      have hop3 := HOP.out.dr hS1 hD3
      have HOD3 := Lib.hid (HOD.out.dr hS1 hD3)
      have HOG3 := Lib.hid hog3
      have HD3 := Lib.hid (HD.out.trans hD3)
      obtain ⟨b, o, e, hcj⟩ := (RI.keepN (F := fun _ => False) (show RI w3 Ag gs from by obtain ⟨A', c', e', _, hr'⟩ := hog3.reads; injection e' with e'; subst e'; exact hr') (KeepF.refl _ _) (fun _ _ _ _ h => h)).at_ hj
      subst e
      have HX := Lib.hid (hgs.out gs[j] (List.getElem_mem hj))
      obtain ⟨x, hx⟩ : ∃ x, x = gs[j] := ⟨_, rfl⟩
      rw [← hx] at hcj HX
      have hw13 : w1.heap.size ≤ w3.heap.size := HD3.out.size
      have j0 : (0 : Int) ≤ (j : Int) := by omega
      have j1 : (j : Int) < (gs.length : Int) := by omega
      clear h71 h70 hD3 hz3 hog3 hx
      by_cases hlast : (k : Int) = 2 + r - 1
      · have hl' : ((k : Int) == 2 + r - 1) = true := by simpa using hlast
        have HLA := Lib.hid hlast; clear hlast
        have hdl : ds.length ≤ 12 := by have := HDL.out; omega
        have hpl : ps.length ≤ 12 := by have := HPL.out; omega
        go_wp2_with (at_builtin; first
          | (refine wpList_app1 _ rfl _ _ _ rfl w1.heap.size 2 _ 8 Tryz.underlying44 info_int rfl (by omega) _ _ rfl (hop3.alloc _) _ _ rfl (one_cell _ _ _) rfl (by rw [ints_length]; omega) (by simp; omega) ?_; intro v4 w4 ho4 hg4 hn4 hat4; have hod4 := HOD3.out.other (hop3.sepTy HOD3.out (by decide)) hg4; have hog4 := HOG3.out.other HSEP.out hg4; have hD4 := HD3.out.app hop3 (Nat.le_refl _) hg4)
          | (refine wpList_app1 _ rfl _ _ _ rfl w1.heap.size 4 _ 1 Tryz.underlying101 info_bool rfl (by omega) _ (bools ds) rfl (hod4.alloc _) _ _ rfl (one_cell _ _ _) rfl (by rw [bools_length]; omega) (by have := hD4.size; simp; omega) ?_; intro v5 w5 ho5 hg5 hn5 hat5))
        go_roundw
        case rel => exact ⟨k + 1, ps ++ [x], ds ++ [true], gs, by go_num, by omega, by omega, by have := HPL.out; simp; omega, by have := HDL.out; simp; omega, by omega, by omega, Lib.hid (fun y hy => by have := hgs.out y hy; omega), Lib.hid (parOK_snoc hps.out HX.out.1 (by have := HX.out.2; have := HPL.out; omega) (by omega)), Lib.hid (fun _ => anyT_snoc HDL.out true rfl),
          by rw [ints_append]; exact OV.other ho4 ((ho4.sepTy hod4 (by decide)).symm) hg5, by rw [bools_append]; exact ho5, hog4.other (hod4.sepTy hog4 (by decide)) hg5, HSEP.out.app HOG3.out hat4, hD4.app hod4 (Nat.le_refl _) hg5⟩
        case measure => simp [intOf]; omega
      · have hl' : ((k : Int) == 2 + r - 1) = false := by simpa using hlast
        have HLA := Lib.hid (show (k : Int) + 1 < 2 + r by omega); clear hlast
        have hdl : ds.length ≤ 12 := by have := HDL.out; omega
        have hpl : ps.length ≤ 12 := by have := HPL.out; omega
        go_wp2_with (at_builtin; refine wpList_app1 _ rfl _ _ _ rfl w1.heap.size 2 _ 8 Tryz.underlying44 info_int rfl (by omega) _ _ rfl (hop3.alloc _) _ _ rfl (one_cell _ _ _) rfl (by rw [ints_length]; omega) (by simp; omega) ?_; intro v4 w4 ho4 hg4 hn4 hat4)
        have hod4 := HOD3.out.other (hop3.sepTy HOD3.out (by decide)) hg4
        have hog4 := HOG3.out.other HSEP.out hg4
        have HD4 := Lib.hid (HD3.out.app hop3 (Nat.le_refl _) hg4)
        have HSEP4 := Lib.hid (HSEP.out.app HOG3.out hat4)
        refine (l01Next_dr HD4.out.src 3).mono ?_
        rintro e w5 ⟨r8, rfl, h80, h81, hD5, hz5⟩
        have HD5 := Lib.hid (HD4.out.trans hD5)
        have hop5 := Lib.hid (ho4.dr hS1 hD5)
        have hod5 := hod4.dr hS1 hD5
        have HOG5 := Lib.hid (hog4.dr hS1 hD5)
        have hw15 : w1.heap.size ≤ w5.heap.size := HD5.out.size
        have hgl12 : gs.length ≤ 12 := by omega
        clear h81 hD5 hz5 ho4 hg4 hn4 hat4 hod4 hog4 hop3 hcj
        by_cases h8 : r8 > 0
        · have h8' : 0 < r8 := h8
          go_wp2_with (at_builtin; refine wpList_app1 _ rfl _ _ _ rfl w1.heap.size 4 _ 1 Tryz.underlying101 info_bool rfl (by omega) _ (bools ds) rfl (hod5.alloc _) _ _ rfl (one_cell _ _ _) rfl (by rw [bools_length]; omega) (by simp; omega) ?_; intro v6 w6 ho6 hg6 hn6 hat6)
          go_roundw
          case rel => exact ⟨k + 1, ps ++ [x], ds ++ [true], gs, by go_num, by omega, by omega, by have := HPL.out; simp; omega, by have := HDL.out; simp; omega, by omega, by omega, Lib.hid (fun y hy => by have := hgs.out y hy; omega), Lib.hid (parOK_snoc hps.out HX.out.1 (by have := HX.out.2; have := HPL.out; omega) (by omega)), Lib.hid (fun _ => anyT_snoc HDL.out true rfl),
            by rw [ints_append]; exact OV.other hop5.out ((hop5.out.sepTy hod5 (by decide)).symm) hg6, by rw [bools_append]; exact ho6, HOG5.out.other (hod5.sepTy HOG5.out (by decide)) hg6, HSEP4.out, HD5.out.app hod5 (Nat.le_refl _) hg6⟩
          case measure => simp [intOf]; omega
        · have h8' : decide (r8 > 0) = false := decide_eq_false h8
          go_wp2_with (at_builtin; first
            | (refine wpList_app1 _ rfl _ _ _ rfl w1.heap.size 4 _ 1 Tryz.underlying101 info_bool rfl (by omega) _ (bools ds) rfl (hod5.alloc _) _ _ rfl (one_cell _ _ _) rfl (by rw [bools_length]; omega) (by simp; omega) ?_; intro v6 w6 ho6 hg6 hn6 hat6; have hog6 := HOG5.out.other (hod5.sepTy HOG5.out (by decide)) hg6; have hD6 := HD5.out.app hod5 (Nat.le_refl _) hg6; have hw16 := hD6.size)
            | (refine wpList_app1 _ rfl _ _ _ rfl w1.heap.size 2 _ 8 Tryz.underlying44 info_int rfl (by omega) _ _ rfl (hog6.alloc _) _ _ rfl (one_cell _ _ _) rfl (by rw [ints_length]; omega) (by simp; omega) ?_; intro v7 w7 ho7 hg7 hn7 hat7))
          have hop6 := OV.other hop5.out ((hop5.out.sepTy hod5 (by decide)).symm) hg6
          go_roundw
          case rel => exact ⟨k + 1, ps ++ [x], ds ++ [false], gs ++ [(k : Int)], by go_num, by omega, by omega, by have := HPL.out; simp; omega, by have := HDL.out; simp; omega, by simp; omega, by simp, Lib.hid (fun y hy => by rcases List.mem_append.1 hy with h | h; have := hgs.out y h; omega; simp at h; omega), Lib.hid (parOK_snoc hps.out HX.out.1 (by have := HX.out.2; have := HPL.out; omega) (by omega)), Lib.hid (fun e => by have := HLA.out; omega),
            by rw [ints_append]; exact hop6.other HSEP4.out.symm hg7, by rw [bools_append]; exact OV.other ho6 ((ho6.sepTy hog6 (by decide)).symm) hg7, by rw [ints_append]; exact ho7, (HSEP4.out.symm.app hop6 hat7).symm, hD6.app hog6 (Nat.le_refl _) hg7⟩
          case measure => simp [intOf]; omega
    · have hlt' : decide ((k : Int) < 2 + r) = false := decide_eq_false hlt
      have HKR := Lib.hid (show (k : Int) = 2 + r by omega)
      have lb := (HD.out.keep.block w.heap.size hw1 (by omega)).trans HBK1.out
      have n0 := boxC_of_heap lb 0 _ rfl
      have n1 := boxC_of_heap lb 1 _ rfl
      have m0 := frozen_of_heap lb
      have l0 := m0 0; have l1 := m0 1
      have HLB := Lib.hid lb
      clear lb m0 hrp hrd hrg hlt
      go_wp2_with fail
      have lb := HLB.out
      refine bodyPost_ret (results_cell_row rfl _ _ w.heap.size 103 #[.slice Ap ps.length cp, .slice Ad ds.length cd] (0, 0) _ (by rfl) (by simp [World.setCell, Array.getElem?_modify, lb]) Tryz.underlying103 rfl (by kernel_rfl)) rfl ?_
      have kf := keep_two wr w.heap.size (.slice Ap ps.length cp) (.slice Ad ds.length cd)
      have hw1' := hw1
      have p1 := RIn.ofOI (HOP.out.keepF kf (fun g hg e => by have := (HOP.out.lt g hg).1; omega))
      have d0 := HOD.out.keepF kf (fun g hg e => by have := (HOD.out.lt g hg).1; omega)
      have d1 : RV ((wr.setCell ⟨w.heap.size, 0, none⟩ (.slice Ap ps.length cp)).setCell ⟨w.heap.size, 1, none⟩ (.slice Ad ds.length cd)) Ad (bools ds) := by
        obtain ⟨A', c', e, _, hr⟩ := d0.reads
        injection e with e1; subst e1; exact hr
      have HDR := HD1.out.trans HD.out
      exact ⟨Ap, cp, ps, Ad, cd, ds, rfl, ⟨p1.mono (by omega), d1, fun h0 b o e e' => by have := (d0.lt b (by rw [e]; rfl)).1; omega⟩, hps.out, by have := HPL.out; have := HDL.out; omega, by have := HDL.out; rw [this]; exact han.out HKR.out, HDR.keepF kf (fun g e => by omega)⟩
/-- a drawn list of the call's own -/
def ResOI (n : Nat) (S : Nat) (A : Option Addr) (c : Nat) (bs : List Int) (w : World) (e : Ending) (w' : World) : Prop :=
  ∃ v xs, e = .returned v ∧ OV w' w.heap.size 2 v (ints xs) ∧ xs.length ≤ n ∧ Dr S A c bs w w'
set_option maxRecDepth 100000 in
set_option maxHeartbeats 4000000 in
theorem l10DrawNodes_any (S : Nat) (A : Option Addr) (c : Nat) (bs : List Int) (P D : Option Addr) (cp nd cd : Nat) (ps : List Int) (w : World) (h : Src S A c bs w) (hp : ParOK ps) :
    Calls Tryz.prog 90 #[.pointer (some ⟨S, 0, none⟩), .agg #[.slice P ps.length cp, .slice D nd cd]] w (ResOI 101 S A c bs w) := by
  obtain ⟨w0, hw0⟩ : ∃ w0, w0 = w.alloc (.cells #[.slice P ps.length cp, .slice D nd cd] 103) := ⟨_, rfl⟩
  have HD0 := Lib.hid (show Dr S A c bs w w0 by rw [hw0]; exact (Dr.refl h).alloc _)
  have hz0 : w0.heap.size = w.heap.size + 1 := by rw [hw0]; simp
  have bx : BoxC w0 w.heap.size 0 [.slice P ps.length cp, .slice D nd cd] := by rw [hw0]; simp [BoxC, Go.World.cell?_alloc_at]
  have HBX := Lib.hid bx; clear bx
  have hSl : S < w.heap.size := h.xl
  have hp1 := hp.1; have hp2 := hp.2.1
  go_enter Tryz.func90, Tryz.ntmps90
  go_wp2_with fail
  rw [← hw0]
  clear hw0
  go_loopw [5, 6] (fun v i wr => ∃ (k : Nat) (xs : List Int), i = .int .i64 k ∧ k ≤ ps.length ∧ xs.length ≤ k ∧ OV wr w0.heap.size 2 v (ints xs) ∧ Dr S A c bs w0 wr) (fun _ i _ => ps.length - (intOf i).toNat)
  case atStart => exact ⟨0, [], rfl, by omega, by simp, by rw [← hz0]; exact OV.new0 (w := w0) (Nat.le_refl _), (Dr.refl HD0.out.src).alloc _⟩
  case round =>
    obtain ⟨k, xs, rfl, hk, hxl, ho, hD⟩ := hrel
    have HO := Lib.hid ho; have HD := Lib.hid hD
    obtain ⟨q0, _⟩ := HBX.out.dr (by omega) (by omega) HD.out
    have hsz := HD.out.size
    clear hD
    by_cases hlt : k < ps.length
    · have HN := Lib.hid (l01Next_dr HD.out.src 4)
      go_wp2_with fail
      refine HN.out.mono ?_
      rintro e w3 ⟨r, rfl, h0, h1, hD3, hz3⟩
      have ho3 := HO.out.dr (show S < w0.heap.size by omega) hD3
      have HD3 := Lib.hid (HD.out.trans hD3)
      have hsz3 := HD3.out.size
      clear hD3 hz3 h1
      by_cases hr0 : r = 0
      · subst hr0
        go_wp2_with (at_builtin; refine wpList_app1 _ rfl _ _ _ rfl w0.heap.size 2 _ 8 Tryz.underlying44 info_int rfl (by omega) _ _ rfl (ho3.alloc _) _ _ rfl (one_cell _ _ _) rfl (by rw [ints_length]; omega) (by simp; omega) ?_; intro v' w4 ho4 hg4 hn4 hat4)
        go_roundw
        case rel => exact ⟨k + 1, xs ++ [(k : Int)], by go_num, by omega, by simp; omega, by rw [ints_append]; exact ho4, HD3.out.app ho3 (Nat.le_refl _) hg4⟩
        case measure => simp [intOf]; omega
      · have hr0' : (r == 0) = false := by simpa using hr0
        go_wp2_with fail
        go_roundw
        case rel => exact ⟨k + 1, xs, by go_num, by omega, by omega, ho3, HD3.out⟩
        case measure => simp [intOf]; omega
    · have hkp : k = ps.length := by omega
      subst hkp
      obtain ⟨K, q, rfl, hq, hr⟩ := ho.reads
      rw [ints_length] at hq ⊢
      have hO : OV wr w0.heap.size 2 (.slice K xs.length q) (ints xs) := by have := HO.out; rw [ints_length] at this; exact this
      have HO1 := Lib.hid hO
      clear hr ho hO HO
      by_cases hx0 : xs.length = 0
      · have hx0' : ((xs.length : Int) == 0) = true := by simp [hx0]
        have HN := Lib.hid (l01Next_dr HD.out.src (ps.length : Int))
        have HX0 := Lib.hid hx0
        clear hx0
        go_wp2_with fail
        refine HN.out.mono ?_
        rintro e w3 ⟨r, rfl, h0, h1, hD3, hz3⟩
        have ho3 := HO1.out.dr (show S < w0.heap.size by omega) hD3
        have HD3 := Lib.hid (HD.out.trans hD3)
        have hsz3 := HD3.out.size
        clear hD3 hz3 h1
        go_wp2_with (at_builtin; refine wpList_app1 _ rfl _ _ _ rfl w0.heap.size 2 _ 8 Tryz.underlying44 info_int rfl (by omega) _ _ rfl (ho3.alloc _) _ _ rfl (one_cell _ _ _) rfl (by rw [ints_length]; omega) (by simp; omega) ?_; intro v' w4 ho4 hg4 hn4 hat4)
        go_ret
        exact ⟨_, xs ++ [r], rfl, by rw [ints_append]; exact ho4.mono (by omega), by simp; omega, HD0.out.trans (HD3.out.app ho3 (Nat.le_refl _) hg4)⟩
      · have hx0' : ((xs.length : Int) == 0) = false := by rw [beq_eq_false_iff_ne]; omega
        go_wp2_with fail
        go_ret
        exact ⟨_, xs, rfl, HO1.out.mono (by omega), by omega, HD0.out.trans HD.out⟩
/-- a drawn plan -/
def ResP (S : Nat) (A : Option Addr) (c : Nat) (bs : List Int) (w : World) (e : Ending) (w' : World) : Prop :=
  ∃ P cp ps D cd ds R cr rr, e = .returned (.agg #[.slice P (List.length ps) cp, .slice D (List.length ds) cd, .slice R (List.length rr) cr]) ∧ RBld w.heap.size w' P D ps ds ∧ ParOK ps ∧ ds.length = ps.length ∧ anyT ds ds.length ∧ RIIb w.heap.size w' R rr ∧ 1 ≤ rr.length ∧ rr.length ≤ 4 ∧ Dr S A c bs w w'
set_option maxRecDepth 100000 in
set_option maxHeartbeats 4000000 in
theorem l10Valid_any (S : Nat) (A : Option Addr) (c : Nat) (bs : List Int) (w : World) (h : Src S A c bs w) :
    Calls Tryz.prog 76 #[.pointer (some ⟨S, 0, none⟩)] w (ResP S A c bs w) := by
  obtain ⟨w0, hw0⟩ : ∃ w0, w0 = w.alloc (.cells #[.slice none 0 0, .slice none 0 0, .slice none 0 0] 105) := ⟨_, rfl⟩
  have D0 : Dr S A c bs w w0 := by rw [hw0]; exact (Dr.refl h).alloc _
  have hz0 : w0.heap.size = w.heap.size + 1 := by rw [hw0]; simp
  have hbk : w0.heap[w.heap.size]? = some (.cells #[.slice none 0 0, .slice none 0 0, .slice none 0 0] 105 (0, 0)) := by
    have := heap_alloc_new w (.cells #[.slice none 0 0, .slice none 0 0, .slice none 0 0] 105)
    rw [hw0]; simpa using this
  have hSl : S < w.heap.size := h.xl
  have HBK := Lib.hid hbk; have HD0 := Lib.hid D0
  have HN0 := Lib.hid (l09Valid_any S A c bs w0 D0.src)
  clear h hbk D0
  go_enter Tryz.func76, Tryz.ntmps76
  go_wp2_with fail
  rw [← hw0]
  clear hw0
  refine HN0.out.mono ?_
  rintro e w1 ⟨P, cp, ps, D, cd, ds, rfl, hR, hps, hdl, han, hD1⟩
  have HR1 := Lib.hid hR; have HPS := Lib.hid (And.intro hps (And.intro hdl han))
  have HBK1 := Lib.hid ((hD1.keep.block w.heap.size (by omega) (by omega)).trans HBK.out)
  have HD1 := Lib.hid (HD0.out.trans hD1)
  have hw1 : w.heap.size < w1.heap.size := by have := hD1.size; omega
  have HZ0 := Lib.hid hz0
  clear hR hps hdl han hD1 hz0
  obtain ⟨w2, hw2⟩ : ∃ w2, w2 = w1.alloc (.cells #[.slice P ps.length cp, .slice D ds.length cd] 103) := ⟨_, rfl⟩
  have HD2 := Lib.hid (show Dr S A c bs w1 w2 by rw [hw2]; exact (Dr.refl HD1.out.src).alloc _)
  have hz2 : w2.heap.size = w1.heap.size + 1 := by rw [hw2]; simp
  have bx : BoxC w2 w1.heap.size 0 [.slice P ps.length cp, .slice D ds.length cd] := by rw [hw2]; simp [BoxC, Go.World.cell?_alloc_at]
  have HBX := Lib.hid bx; clear bx
  obtain ⟨w3, hw3⟩ : ∃ w3, w3 = w2.alloc (.cells #[] 44) := ⟨_, rfl⟩
  have HD3 := Lib.hid (show Dr S A c bs w2 w3 by rw [hw3]; exact (Dr.refl HD2.out.src).alloc _)
  have HO3 := Lib.hid (show NEST w2.heap.size w3 (.slice (some ⟨w2.heap.size, 0, none⟩) 0 0) [] [] by rw [hw3]; exact NEST.new0 (Nat.le_refl _))
  have HN3 := Lib.hid (l01Next_dr HD3.out.src 4)
  have hS2 : S < w2.heap.size := by omega
  go_wp2_with fail
  rw [← hw2, ← hw3]
  clear hw2 hw3
  refine HN3.out.mono ?_
  rintro e w4 ⟨r, rfl, h0, h1, hD4, hz4⟩
  have HO4 := Lib.hid (HO3.out.dr hS2 hD4)
  have HD4 := Lib.hid (HD3.out.trans hD4)
  have hrb : r < 4 := by omega
  clear hD4 hz4 h1
  go_wp2_with fail

  go_loopw [4, 5] (fun v i wr => ∃ (q : Int) (us : List Value) (rr : List (List Int)), i = .int .i64 q ∧ 0 ≤ q ∧ rr.length + q ≤ 4 ∧ 1 ≤ rr.length + q ∧ NEST w2.heap.size wr v us rr ∧ Dr S A c bs w2 wr) (fun _ i _ => (intOf i).toNat)
  case atStart => exact ⟨1 + r, [], [], rfl, by omega, by simp; omega, by simp; omega, by rw [← hz2]; exact HO4.out, HD4.out⟩
  case round =>
    obtain ⟨q, us, rr, rfl, hq0, hq4, hq1, hN, hD⟩ := hrel
    have HN := Lib.hid hN; have HD := Lib.hid hD
    have hsz := HD.out.size
    have HB := Lib.hid ((HBX.out.dr (by omega) (by omega) HD.out))
    obtain ⟨x0, x1, _⟩ := HB.out
    simp only [Nat.zero_add] at x1
    have hul : us.length ≤ 4 := by have := hN.len; omega
    clear hN hD
    by_cases hlt : q > 0
    · have hlt1 : 0 < q := hlt
      have HE := Lib.hid (l10DrawNodes_any S A c bs P D cp ds.length cd ps wr HD.out.src HPS.out.1)
      go_wp2_with fail
      refine HE.out.mono ?_
      rintro e w5 ⟨u, xs, rfl, hou, hxl, hD5⟩
      obtain ⟨K, k, rfl, hk, hrk⟩ := RIn.ofOI' hou
      have HOU := Lib.hid hou
      have hN5 := HN.out.dr hS2 hD5
      have hnf := hN5.row_nf hou hsz xs.length
      have HN5 := Lib.hid hN5
      have HRK := Lib.hid hrk; have HNF := Lib.hid hnf
      have HD5 := Lib.hid (HD.out.trans hD5)
      have hsz5 := HD5.out.size
      clear hD5 hN5 hrk hnf hou x0 x1
      go_wp2_with (at_builtin; refine wpList_app1 _ rfl _ _ _ rfl w2.heap.size 44 _ 24 Tryz.underlying26 info_sl rfl (by omega) _ us rfl (HN5.out.own.alloc _) _ _ rfl (one_cell _ _ _) rfl (by omega) (by simp; omega) ?_; intro v' w6 ho6 hg6 hn6 hat6)
      have HN6 := Lib.hid (HN5.out.push hk HRK.out.1 HNF.out ho6 hg6 hat6)
      have HD6 := Lib.hid (HD5.out.app HN5.out.own (Nat.le_refl _) hg6)
      clear ho6 hg6 hn6 hat6
      go_roundw
      case rel => exact ⟨q - 1, _, _, by go_num, by omega, by simp; omega, by simp; omega, HN6.out, HD6.out⟩
      case measure => simp [intOf]; omega
    · have hlt' : decide (q > 0) = false := decide_eq_false hlt
      have hq00 : q = 0 := by omega
      subst hq00
      obtain ⟨R, cr, rfl, hcr, hrr⟩ := HN.out.riib
      have HRR := Lib.hid hrr
      have lb := (HD.out.keep.block w.heap.size (by omega) (by omega)).trans ((HD2.out.keep.block w.heap.size hw1 (by omega)).trans HBK1.out)
      have n0 := boxC_of_heap lb 0 _ rfl
      have n1 := boxC_of_heap lb 1 _ rfl
      have n2 := boxC_of_heap lb 2 _ rfl
      have m0 := frozen_of_heap lb
      have l0 := m0 0; have l1 := m0 1; have l2 := m0 2
      have HLB := Lib.hid lb
      clear lb m0 hrr hlt
      go_wp2_with fail
      have lb := HLB.out
      refine bodyPost_ret (results_cell_row rfl _ _ w.heap.size 105 #[.slice P ps.length cp, .slice D ds.length cd, .slice R rr.length cr] (0, 0) _ (by rfl) (by simp [World.setCell, Array.getElem?_modify, lb]) Tryz.underlying105 rfl (by kernel_rfl)) rfl ?_
      have kf := keep_three wr w.heap.size (.slice P ps.length cp) (.slice D ds.length cd) (.slice R rr.length cr)
      have hz2' := hz2
      have h1' := hw1
      have HDR := (HD1.out.trans HD2.out).trans HD.out
      have hb1 := ((HR1.out.mono (show w.heap.size + 1 ≤ w0.heap.size by have := HZ0.out; omega)).dr (by omega) HD2.out).dr (by omega) HD.out
      exact ⟨P, cp, ps, D, cd, ds, R, cr, rr, rfl, (hb1.keepF kf (fun g e => by omega)).mono (by omega), HPS.out.1, HPS.out.2.1, HPS.out.2.2, (HRR.out.keepB kf (fun g e => by omega)).mono (fun g e => by omega), by omega, by omega, HDR.keepF kf (fun g e => by omega)⟩

end Go.Proofs.YtdedajohkdbdkaaGreatDoor

/- Contracts of the draws of tables: l11Valid, l11Draw, l11DrawKey. -/
namespace Go.Proofs.YtdedajohkdbdkaaGreatDoor
set_option linter.unusedVariables false
open Go.RowKit
/-- l01Pick of numbers that are built for the call -/
theorem l01Pick_new {S : Nat} {A : Option Addr} {c : Nat} {bs : List Int} {w : World} (h : Src S A c bs w) (xs : List Int) (h0 : 0 < xs.length) (hm : xs.length ≤ 100) :
    Calls Tryz.prog 37 #[.pointer (some ⟨S, 0, none⟩), .slice (some ⟨w.heap.size, 0, none⟩) xs.length xs.length] (w.alloc (.cells (ints xs).toArray 2)) fun e w' => ∃ r, e = .returned (.int .i64 r) ∧ r ∈ xs ∧ Dr S A c bs w w' ∧ w'.heap.size = w.heap.size + 1 := by
  have hd := (Dr.refl h).alloc (.cells (ints xs).toArray 2)
  have ho : RI (w.alloc (.cells (ints xs).toArray 2)) (some ⟨w.heap.size, 0, none⟩) xs := by
    have := OV.new (w := w) (B := w.heap.size) (e := 2) (ints xs).toArray (Nat.le_refl _) (by simp [maxLen, ints]; omega)
    obtain ⟨A', c', e, _, hr⟩ := this.reads
    injection e with e1 _ _; subst e1
    exact hr
  refine (l01Pick_any S A c bs _ xs.length xs _ hd.src ho (fun _ b o e e' => by injection e with e; injection e with e1 _ _; have := h.xl; omega) h0).mono ?_
  rintro e w' ⟨r, he, hr, hS, hK, hz⟩
  exact ⟨r, he, hr, hd.next hS hK, by rw [hz]; simp⟩
/-- a table opened at row k: where its cells lie, and a store into that row -/
theorem TAB.open_ {B : Nat} {w : World} {v : Value} {xss : List (List Int)} (h : TAB B w v xss) {k : Nat} (hk : k < xss.length) :
    ∃ gT cT g c, v = .slice (some ⟨gT, 0, none⟩) xss.length cT ∧ xss.length ≤ cT ∧ B ≤ gT ∧ gT < w.heap.size ∧ w.cell? ⟨gT, k, none⟩ = some (.slice (some ⟨g, 0, none⟩) xss[k].length c) ∧ xss[k].length ≤ c ∧ B ≤ g ∧ g < w.heap.size ∧ g ≠ gT ∧
      (∀ i (hi : i < xss[k].length), w.cell? ⟨g, i, none⟩ = some (.int .i64 xss[k][i])) ∧ (∀ i, w.frozen? ⟨g, i, none⟩ = false) ∧ ∀ i x, TAB B (w.setCell ⟨g, i, none⟩ (.int .i64 x)) v (xss.set k (xss[k].set i x)) := by
  obtain ⟨us, h1, h2, h3, h4⟩ := h.own
  have hrow := h.rows _ (List.getElem_mem hk)
  obtain ⟨u, hu, ho⟩ := h3 k hk
  obtain ⟨g, c, rfl, hg1, hg2, hc, hcell, hfr⟩ := ho.1.open1 hrow
  have hv := h2.1
  obtain ⟨gT, cT, rfl, hgT1, hgT2⟩ := World.ownsRow.form hv (by omega)
  have hcT : us.length ≤ cT := by
    obtain ⟨A', c', e, hc', _⟩ := hv.reads
    injection e with _ _ e3; omega
  have hhd := World.ownsRow.cells hv (g := gT) rfl k _ hu
  rw [Addr.add_lit] at hhd
  simp only [Nat.zero_add] at hhd
  have hne : g ≠ gT := by
    rintro rfl
    obtain ⟨cs, fr, hh, _⟩ := ho.1.block_ty (g := g) rfl
    obtain ⟨cs2, fr2, hh2, _⟩ := hv.block_ty (g := g) rfl
    rw [hh] at hh2
    injection hh2 with hh2
    injection hh2 with _ ht
    exact absurd ht (by decide)
  refine ⟨gT, cT, g, c, by rw [h1], by omega, hgT1, hgT2, hhd, hc, hg1, hg2, hne, hcell, hfr, fun i x => ⟨?_, fun r hr => ?_⟩⟩
  · have hput := OV.put ho.1 rfl i x
    have hg : w.grownBy (w.setCell ⟨g, i, none⟩ (.int .i64 x)) (Value.slice (some ⟨g, 0, none⟩) xss[k].length c).ownBlock :=
      ⟨rfl, rfl, rfl, by simp, fun j hj e => Below.heap_setCell _ _ _ _ (fun e' => e (by subst e'; rfl))⟩
    have hset := OIIu.set ⟨h1, h2, h3, h4⟩ hk hu (ys := xss[k].set i x) ⟨hput, fun g' e => ho.2 g' e⟩ hg
    have := hset.ex
    rw [World.size_setCell]
    exact this
  · rcases List.mem_or_eq_of_mem_set hr with hr | hr
    · exact h.rows r hr
    · subst hr; rw [List.length_set]; exact hrow
/-- a drawn table -/
def ResTab (S : Nat) (A : Option Addr) (c : Nat) (bs : List Int) (w : World) (e : Ending) (w' : World) : Prop :=
  ∃ v xss, e = .returned v ∧ TAB w.heap.size w' v xss ∧ 1 ≤ xss.length ∧ xss.length ≤ 4 ∧ Dr S A c bs w w'
set_option maxRecDepth 100000 in
set_option maxHeartbeats 4000000 in
theorem l11Valid_any (S : Nat) (A : Option Addr) (c : Nat) (bs : List Int) (w : World) (h : Src S A c bs w) :
    Calls Tryz.prog 56 #[.pointer (some ⟨S, 0, none⟩)] w (ResTab S A c bs w) := by
  have hSl : S < w.heap.size := h.xl
  have HN0 := Lib.hid (l01Next_dr h 3)
  clear h
  go_enter Tryz.func56, Tryz.ntmps56
  go_wp2_with fail
  refine HN0.out.mono ?_
  rintro e w1 ⟨r, rfl, h0, h1, hD1, hz1⟩
  have HD1 := Lib.hid hD1
  by_cases hr : r = 0
  · subst hr
    have HP := Lib.hid (l10Valid_any S A c bs w1 hD1.src)
    clear hD1 h1
    go_wp2_with fail
    refine HP.out.mono ?_
    rintro e w2 ⟨P, cp, ps, D, cd, ds, R, cr, rr, rfl, hB, hps, hdl, han, hrr, hr1, hr4, hD2⟩
    have HA := Lib.hid (l10Access_any P D R cp cd cr ps ds rr w2 hB.par.1 hB.drs hrr.rii hps hdl han (by omega))
    have HD2 := Lib.hid (HD1.out.trans hD2)
    clear hB hps hdl han hrr hD2
    go_wp2_with fail
    refine HA.out.mono ?_
    rintro e w3 ⟨v, xss, rfl, hT, hxl, hb3⟩
    have HT := Lib.hid hT; have HXL := Lib.hid hxl
    clear hT hxl
    go_wp2_with fail
    go_ret
    have hx := HXL.out
    have hw2 := HD2.out.size
    exact ⟨_, xss, rfl, ⟨HT.out.own.wide hw2 (Nat.le_refl _), HT.out.rows⟩, by omega, by omega, HD2.out.below hb3⟩
  · have hr' : (r == 0) = false := by simpa using hr
    have HN1 := Lib.hid (l01Next_dr hD1.src 4)
    clear hD1 h1 hr hz1
    go_wp2_with fail
    refine HN1.out.mono ?_
    rintro e w2 ⟨r4, rfl, h40, h41, hD2, hz2⟩
    have HD2 := Lib.hid (HD1.out.trans hD2)
    have HN2 := Lib.hid (l01Next_dr hD2.src 5)
    have h4b : r4 < 4 := by omega
    clear hD2 h41 hz2
    go_wp2_with fail
    refine HN2.out.mono ?_
    rintro e w3 ⟨r5, rfl, h50, h51, hD3, hz3⟩
    have HD3 := Lib.hid (HD2.out.trans hD3)
    have h5b : r5 < 5 := by omega
    have hw3 : w.heap.size ≤ w3.heap.size := HD3.out.size
    clear hD3 h51 hz3
    go_wp2_with fail
    go_loopw [5, 6, 7, 8] (fun v i _ _ wr => ∃ (k : Nat) (xss : List (List Int)), i = .int .i64 k ∧ (k : Int) ≤ 1 + r4 ∧ xss.length = k ∧ TAB w3.heap.size wr v xss ∧ Dr S A c bs w3 wr) (fun _ i _ _ _ => (1 + r4 - intOf i).toNat)
    case atStart => exact ⟨0, [], rfl, by omega, rfl, ⟨by simpa using OII.new0 (w := w3) (B := w3.heap.size) (Nat.le_refl _), by simp⟩, (Dr.refl HD3.out.src).alloc _⟩
    case round =>
      obtain ⟨k, xss, rfl, hk, hxk, hT, hD⟩ := hrel
      have HT := Lib.hid hT; have HXK := Lib.hid hxk; have HD := Lib.hid hD
      have hso := hD.size
      clear hT hxk hD
      by_cases hlt : (k : Int) < 1 + r4
      · obtain ⟨wo, rfl⟩ : ∃ wo : World, wo = wr := ⟨_, rfl⟩
        have hSo : S < wo.heap.size := by omega
        go_wp2_with fail
        go_loopw [7, 8] (fun u j wx => ∃ (n : Nat) (ys : List Int), j = .int .i64 n ∧ (n : Int) ≤ 1 + r5 ∧ ys.length = n ∧ OV wx wo.heap.size 2 u (ints ys) ∧ Dr S A c bs wo wx) (fun _ j _ => (1 + r5 - intOf j).toNat)
        case atStart => exact ⟨0, [], rfl, by omega, rfl, OV.new0 (w := wo) (Nat.le_refl _), (Dr.refl HD.out.src).alloc _⟩
        case round =>
          obtain ⟨n, ys, rfl, hn, hyn, ho2, hDx⟩ := hrel
          have HO2 := Lib.hid ho2; have HYN := Lib.hid hyn; have HDX := Lib.hid hDx
          have hsx := hDx.size
          clear ho2 hyn hDx
          by_cases hlt2 : (n : Int) < 1 + r5
          · have HP := Lib.hid (show Calls Tryz.prog 37 #[.pointer (some ⟨S, 0, none⟩), .slice (some ⟨wr.heap.size, 0, none⟩) 3 3] (wr.alloc (.cells #[.int .i64 0, .int .i64 1, .int .i64 1] 2)) _ from l01Pick_new HDX.out.src [0, 1, 1] (by simp) (by simp))
            go_wp2_with fail
            refine HP.out.mono ?_
            rintro e w4 ⟨x, rfl, hx, hD4, hz4⟩
            have ho4 := HO2.out.dr hSo hD4
            have HD4 := Lib.hid (HDX.out.trans hD4)
            have hs4 := HD4.out.size
            have hyn : ys.length ≤ 5 := by have := HYN.out; omega
            clear hx hD4 hz4
            go_wp2_with (at_builtin; refine wpList_app1 _ rfl _ _ _ rfl wo.heap.size 2 _ 8 Tryz.underlying44 info_int rfl (by omega) _ _ rfl (ho4.alloc _) _ _ rfl (one_cell _ _ _) rfl (by rw [ints_length]; omega) (by simp; omega) ?_; intro v' w5 ho5 hg5 hn5 hat5)
            go_roundw
            case rel => exact ⟨n + 1, ys ++ [x], by go_num, by omega, by have := HYN.out; simp; omega, by rw [ints_append]; exact ho5, HD4.out.app ho4 (Nat.le_refl _) hg5⟩
            case measure => simp [intOf]; omega
          · have hlt2' : decide ((n : Int) < 1 + r5) = false := decide_eq_false hlt2
            have H0 := Lib.hid (show 0 < ys.length by have := HYN.out; omega)
            obtain ⟨K7, c7, rfl, hc7, _⟩ := HO2.out.reads
            rw [ints_length]
            have hOw := HO2.out
            rw [ints_length] at hOw
            have HO3 := Lib.hid hOw; clear hOw
            obtain ⟨us, k1, k2, k3, k4⟩ := HT.out.own.dr (by omega) (Nat.le_refl _) HDX.out
            have HXR := Lib.hid HT.out.rows
            have HK := Lib.hid (And.intro k3 k4)
            have HK1 := Lib.hid k1
            have hus : us.length ≤ 100 := by have := HXK.out; omega
            clear k3 k4 k1 hc7
            go_wp2_with (at_builtin; refine wpList_app1 _ rfl _ _ _ rfl w3.heap.size 44 _ 24 Tryz.underlying26 info_sl rfl (by omega) _ us rfl (k2.1.alloc _) _ _ rfl (one_cell _ _ _) rfl (by omega) (by simp; omega) ?_; intro v' w5 ho5 hg5 hn5 hat5)
            have HN := Lib.hid (TAB.push HK1.out k2 HK.out.1 HK.out.2 HXR.out H0.out HO3.out hso hsx ho5 hg5)
            have HD5 := Lib.hid ((HD.out.trans HDX.out).app k2.1 (Nat.le_refl _) hg5)
            clear ho5 hg5 hn5 hat5
            go_roundw
            case rel => exact ⟨k + 1, xss ++ [ys], by go_num, by omega, by have := HXK.out; simp; omega, HN.out, HD5.out⟩
            case measure => simp [intOf]; omega
      · have hlt' : decide ((k : Int) < 1 + r4) = false := decide_eq_false hlt
        have hx := HXK.out
        clear hx
        go_wp2_with fail
        go_ret
        have hx := HXK.out
        exact ⟨_, xss, rfl, ⟨HT.out.own.wide hw3 (Nat.le_refl _), HT.out.rows⟩, by omega, by omega, HD3.out.trans HD.out⟩
end Go.Proofs.YtdedajohkdbdkaaGreatDoor

/- Contracts of l11Draw, l11DrawKey and of the draws of tables that stand on them. -/
namespace Go.Proofs.YtdedajohkdbdkaaGreatDoor
set_option linter.unusedVariables false
open Go.RowKit
theorem one_cell2 (w : World) (o : Obj) (v : Value) (t : TypeId) : ((w.alloc o).alloc (.cells #[v] t)).cell? ⟨w.heap.size + 1, 0, none⟩ = some v := by
  have := one_cell (w.alloc o) v t
  rw [World.size_alloc] at this
  exact this
theorem madeCells_zero (n : Nat) : madeCells #[.int .i64 0] n = (ints (List.replicate n 0)).toArray := by
  apply Array.toList_inj.1
  rw [toList_madeCells_one]; simp [ints]
/-- a table of one row of zeros -/
theorem zeros_nest (B : Nat) (w : World) (n : Nat) (hn : n ≤ 20) (hB : B ≤ w.heap.size) :
    RIIb B ((w.alloc (.cells (ints (List.replicate n 0)).toArray 2)).alloc (.cells #[.slice (some ⟨w.heap.size, 0, none⟩) n n] 44)) (some ⟨w.heap.size + 1, 0, none⟩) [List.replicate n 0] := by
  have h1 := OV.new (w := w) (B := B) (e := 2) (ints (List.replicate n 0)).toArray hB (by simp [maxLen, ints]; omega)
  have hz : (ints (List.replicate n 0)).toArray.size = n := by simp [ints]
  rw [hz] at h1
  have h2 := OV.new (w := w.alloc (.cells (ints (List.replicate n 0)).toArray 2)) (B := B) (e := 44) #[.slice (some ⟨w.heap.size, 0, none⟩) n n] (by simp; omega) (by simp [maxLen])
  have h3 := h1.alloc (.cells #[.slice (some ⟨w.heap.size, 0, none⟩) n n] 44)
  obtain ⟨A', c', e, _, hr⟩ := h2.reads
  injection e with e1 _ _; subst e1
  rw [World.size_alloc] at hr
  have h4 := RIn.ofOI (xs := List.replicate n 0) h3
  refine ⟨[.slice (some ⟨w.heap.size, 0, none⟩) n n], rfl, hr, fun _ b o e e' => by injection e with e; injection e with e1 _ _; omega, fun j hj => ?_⟩
  have : j = 0 := by simp at hj; omega
  subst this
  refine ⟨some ⟨w.heap.size, 0, none⟩, n, by simp, by simp, h4.1, h4.2⟩
def sliceLen : Value → Nat
  | .slice _ n _ => n
  | _ => 0
/-- a drawn table that reads -/
def ResTT (S : Nat) (A : Option Addr) (c : Nat) (bs : List Int) (w : World) (e : Ending) (w' : World) : Prop :=
  ∃ T d xss, e = .returned (.slice T (List.length xss) d) ∧ xss.length ≤ d ∧ RIIb w.heap.size w' T xss ∧ xss.length ≤ 20 ∧ Dr S A c bs w w'
set_option maxRecDepth 100000 in
set_option maxHeartbeats 8000000 in
theorem l11Draw_any (S : Nat) (A : Option Addr) (c : Nat) (bs : List Int) (w : World) (h : Src S A c bs w) :
    Calls Tryz.prog 39 #[.pointer (some ⟨S, 0, none⟩)] w (ResTT S A c bs w) := by
  have hSl : S < w.heap.size := h.xl
  have HN0 := Lib.hid (l11Valid_any S A c bs w h)
  clear h
  go_enter Tryz.func39, Tryz.ntmps39
  go_wp2_with fail
  refine HN0.out.mono ?_
  rintro e w1 ⟨v, xss, rfl, hT, hx1, hx4, hD1⟩
  have HD1 := Lib.hid hD1; have HT := Lib.hid hT
  have HN1 := Lib.hid (l01Next_dr hD1.src 30)
  clear hT hD1
  go_wp2_with fail
  refine HN1.out.mono ?_
  rintro e w2 ⟨r, rfl, r0, r1, hD2, hz2⟩
  have HT2 := Lib.hid (HT.out.dr hSl hD2)
  have HD2 := Lib.hid (HD1.out.trans hD2)
  have hs2 : w.heap.size ≤ w2.heap.size := HD2.out.size
  clear hD2 r1 hz2
  have FIN := Lib.hid (fun (w' : World) (v' : Value) (yss : List (List Int)) (hT : TAB w.heap.size w' v' yss) (hd : Dr S A c bs w w') (hl : yss.length ≤ 20) => show ∃ T d xss, Ending.returned v' = .returned (.slice T (List.length xss) d) ∧ xss.length ≤ d ∧ RIIb w.heap.size w' T xss ∧ xss.length ≤ 20 ∧ Dr S A c bs w w' from by
    obtain ⟨us, hn⟩ := hT.own.nest
    obtain ⟨K, q, rfl, hq, hr⟩ := hn.riib
    exact ⟨K, q, yss, rfl, hq, hr, hl, hd⟩)
  by_cases q0 : r = 0
  · subst q0
    obtain ⟨gT, cT, g, cg, rfl, hcT, hgT, hgT2, hhd, hcg, hg, hg2, hne, hcell, hfr, hput⟩ := HT2.out.open_ (k := 0) (by omega)
    have i0 : (0 : Int) < (xss.length : Int) := by omega
    have hxne : xss ≠ [] := by rintro rfl; simp at hx1
    have hx0 : 0 < xss[0].length := HT2.out.rows _ (List.getElem_mem _)
    have i1 : (0 : Int) < (xss[0].length : Int) := by omega
    clear hfr hput hcell
    obtain ⟨n0, hn0⟩ : ∃ n, n = xss[0].length := ⟨_, rfl⟩
    rw [← hn0] at hhd hcg hx0 i1
    have HNN0 := Lib.hid hn0
    have KS := Lib.hid (show ∀ w' : World, KeepF (fun g => g = S) w2 w' → w'.cell? ⟨gT, 0, none⟩ = some (.slice (some ⟨g, 0, none⟩) n0 cg) from fun w' hw => (hw.cell (p := ⟨gT, 0, none⟩) hgT2 (by simp only; omega)).trans hhd)
    clear hn0
    go_wp2_with fail
    refine wp_region_held_drew (S := (fun w' => w'.cell? ⟨gT, 0, none⟩ = some (.slice (some ⟨g, 0, none⟩) n0 cg))) (by kernel_rfl) (KS.out _ (KeepF.ofBelow (belowDrew0 _))) (fun hHeld => ?_)
    refine takeD (i := 0) (some 10) (.slice (some ⟨gT, 0, none⟩) xss.length cT) rfl (by kernel_rfl) (by kernel_rfl) (by kernel_rfl) (by kernel_rfl) (fun _ _ _ h => h) (by assumption) (Or.inl ⟨by rfl, fun w hSw => by (try dsimp only at hSw); go_simp⟩) ?_
    simp only [Act.put, List.setIfInBounds_toArray, List.set_cons_zero, List.set_cons_succ]
    refine takeD (i := 1) (some 11) (.pointer (some ⟨gT, 0, none⟩)) rfl (by kernel_rfl) (by kernel_rfl) (by kernel_rfl) (by kernel_rfl) (fun _ _ _ h => h) (by assumption) (Or.inl ⟨by rfl, fun w hSw => by (try dsimp only at hSw); go_simp⟩) ?_
    simp only [Act.put, List.setIfInBounds_toArray, List.set_cons_zero, List.set_cons_succ]
    refine takeD (i := 2) (some 12) (.slice (some ⟨g, 0, none⟩) n0 cg) rfl (by kernel_rfl) (by kernel_rfl) (by kernel_rfl) (by kernel_rfl) (fun _ _ _ h => h) (by assumption) (Or.inl ⟨by rfl, fun w hSw => by (try dsimp only at hSw); go_simp⟩) ?_
    simp only [Act.put, List.setIfInBounds_toArray, List.set_cons_zero, List.set_cons_succ]
    refine takeD (i := 3) (some 13) (.pointer (some ⟨S, 0, none⟩)) rfl (by kernel_rfl) (by kernel_rfl) (by kernel_rfl) (by kernel_rfl) (fun _ _ _ h => h) (by assumption) (Or.inl ⟨by rfl, fun w hSw => by (try dsimp only at hSw); go_simp⟩) ?_
    simp only [Act.put, List.setIfInBounds_toArray, List.set_cons_zero, List.set_cons_succ]
    refine wpAnyH_ready (rs := [4]) (by kernel_rfl) (by simp) (AllReadyH.cons rfl (fun K hK => ?_) AllReadyH.nil)
    go_simp
    have hb3 : Below w2.heap.size w2 (w2.drew.alloc (.cells #[.int .i64 (-1), .int .i64 2] 2)) := (belowDrew0 w2).alloc (Nat.le_refl _) _
    have HHeld := KS.out _ (KeepF.ofBelow hb3)
    refine hK.out _ _ HHeld (fun _ => ?_)
    clear hK K
    try simp only [Act.put, List.setIfInBounds_toArray, List.set_cons_zero, List.set_cons_succ]
    refine wpAnyH_ready (rs := [5]) (by kernel_rfl) (by simp) (AllReadyH.cons rfl (fun K hK => ?_) AllReadyH.nil)
    go_simp
    refine (show Calls Tryz.prog 37 #[.pointer (some ⟨S, 0, none⟩), .slice (some ⟨w2.drew.heap.size, 0, none⟩) 2 2] (w2.drew.alloc (.cells #[.int .i64 (-1), .int .i64 2] 2)) _ from l01Pick_new (HD2.out.drew).src [-1, 2] (by simp) (by simp)).mono ?_
    rintro e w4 ⟨x, rfl, hx, hD4, hz4⟩
    have HD24 := Lib.hid ((Dr.refl HD2.out.src).drew.trans hD4)
    have HHeld := KS.out _ HD24.out.keep
    refine hK.out _ _ HHeld (fun _ => ?_)
    clear hK K
    try simp only [Act.put, List.setIfInBounds_toArray, List.set_cons_zero, List.set_cons_succ]
    refine takeD (i := 6) (some 16) (.pointer (some ⟨g, 0, none⟩)) rfl (by kernel_rfl) (by kernel_rfl) (by kernel_rfl) (by kernel_rfl) (fun _ _ _ h => h) (by assumption) (Or.inl ⟨by rfl, fun w hSw => by (try dsimp only at hSw); go_simp⟩) ?_
    simp only [Act.put, List.setIfInBounds_toArray, List.set_cons_zero, List.set_cons_succ]
    obtain ⟨gT', cT', g', cg', e1, hcT', hgT', hgT2', hhd', hcg', hg', hg2', hne', hcell', hfr', hput'⟩ := (HT2.out.dr hSl HD24.out).open_ (k := 0) (by omega)
    have e2 : gT' = gT := by injection e1 with e1; injection e1 with e1; injection e1 with e1 _ _; exact e1.symm
    subst e2
    have e3 : g' = g := by
      have := KS.out _ HD24.out.keep
      rw [hhd'] at this; injection this with this; injection this with this; injection this with this; injection this with this _ _
    subst e3
    have y0 := hcell' 0 (by have := HNN0.out; omega)
    have f0 := hfr' 0
    have HP := Lib.hid (hput' 0 x)
    have HD5 := Lib.hid ((HD2.out.trans HD24.out).set ⟨g', 0, none⟩ hg' (.int .i64 x))
    clear hcell' hfr' hput'
    refine wpAnyH_ready (rs := [7]) (by kernel_rfl) (by simp) (AllReadyH.cons rfl (fun K hK => ?_) AllReadyH.nil)
    go_simp
    have hh5 : (w4.setCell ⟨g', 0, none⟩ (.int .i64 x)).cell? ⟨gT', 0, none⟩ = some (.slice (some ⟨g', 0, none⟩) n0 cg) := (World.cell?_setCell_far _ _ _ _ hne).trans (KS.out _ HD24.out.keep)
    have HHeld := hh5
    refine hK.out _ _ HHeld (fun _ => ?_)
    clear hK K
    try simp only [Act.put, List.setIfInBounds_toArray, List.set_cons_zero, List.set_cons_succ]
    refine wpAnyH_done (by kernel_rfl) ?_ _
    go_wp2_with fail
    go_ret
    exact FIN.out _ _ _ HP.out HD5.out (by simp; omega)
  by_cases q1 : r = 1
  · subst q1
    have hb3 : Below w2.heap.size w2 (w2.alloc (.cells #[.int .i64 1] 2)) := (Below.refl _ _).alloc (Nat.le_refl _) _
    obtain ⟨us, k1, k2, k3, k4⟩ := HT2.out.own.below hb3
    have HK := Lib.hid (And.intro k3 k4); have HK1 := Lib.hid k1
    have hou := Lib.hid (show OV (w2.alloc (.cells #[.int .i64 1] 2)) w2.heap.size 2 (.slice (some ⟨w2.heap.size, 0, none⟩) 1 1) (ints [1]) from OV.new (w := w2) (B := w2.heap.size) (e := 2) #[.int .i64 1] (Nat.le_refl _) (by simp [maxLen]))
    have hus : us.length ≤ 4 := by omega
    clear k1 k3 k4
    go_wp2_with (at_builtin; refine wpList_app1 _ rfl _ _ _ rfl w.heap.size 44 _ 24 Tryz.underlying26 info_sl rfl (by omega) _ us rfl (k2.1.alloc _) _ _ rfl (one_cell2 _ _ _ _) rfl (by omega) (by simp; omega) ?_; intro v' w5 ho5 hg5 hn5 hat5)
    have HN := Lib.hid (TAB.push (ys := [1]) HK1.out k2 HK.out.1 HK.out.2 HT2.out.rows (by simp) hou.out hs2 (by simp) ho5 hg5)
    have HD5 := Lib.hid ((HD2.out.alloc (.cells #[.int .i64 1] 2)).app k2.1 (Nat.le_refl _) hg5)
    clear ho5 hg5 hn5 hat5
    go_ret
    exact FIN.out _ _ _ HN.out HD5.out (by simp; omega)
  by_cases q2 : r = 2
  · subst q2
    obtain ⟨us, hN⟩ := HT2.out.own.nest
    have HN2 := Lib.hid hN
    clear hN
    go_wp2_with fail
    go_loopw [3] (fun v wr => ∃ (us : List Value) (yss : List (List Int)), NEST w.heap.size wr v us yss ∧ 1 ≤ yss.length ∧ yss.length ≤ 11 ∧ Dr S A c bs w wr) (fun v _ => 12 - sliceLen v)
    case atStart => exact ⟨us, xss, HN2.out, hx1, by omega, HD2.out⟩
    case round =>
      obtain ⟨us, yss, hN, hy1, hy11, hD⟩ := hrel
      have HD := Lib.hid hD; have HN := Lib.hid hN
      obtain ⟨gT, cT, hv, hgT1, hgT2⟩ := World.ownsRow.form hN.own (by have := hN.len; omega)
      have hlen := hN.len
      rw [hlen] at hv
      subst hv
      have HX := Lib.hid (l01Next_dr hD.src 2)
      clear hN hD hlen
      go_wp2_with fail
      refine HX.out.mono ?_
      rintro e w4 ⟨x, rfl, x0, x1, hD4, hz4⟩
      have HN4 := Lib.hid (HN.out.dr hSl hD4)
      have HD4 := Lib.hid (HD.out.trans hD4)
      have hs4 := HD4.out.size
      have xb : x < 2 := by omega
      clear hD4 hz4
      by_cases hlt : (yss.length : Int) < 10 + x
      · obtain ⟨A', c', hu0, hc0, hr0, hn0⟩ := HN4.out.rows 0 (by omega)
        have hhd := World.ownsRow.cells HN4.out.own (g := gT) rfl 0 _ hu0
        rw [Addr.add_lit] at hhd
        simp only [Nat.zero_add] at hhd
        have HR0 := Lib.hid (And.intro hc0 (And.intro hr0 hn0))
        obtain ⟨z, hz⟩ : ∃ z, z = yss[0] := ⟨_, rfl⟩
        rw [← hz] at hhd HR0
        have hyne : yss ≠ [] := by rintro rfl; simp at hy1
        have i0 : (0 : Int) < (yss.length : Int) := by omega
        have hul : us.length ≤ 11 := by have := HN4.out.len; omega
        clear hu0 hc0 hr0 hn0 hz x1
        go_wp2_with (at_builtin; refine wpList_app1 _ rfl _ _ _ rfl w.heap.size 44 _ 24 Tryz.underlying26 info_sl rfl (by omega) _ us rfl (HN4.out.own.alloc _) _ _ rfl (one_cell _ _ _) rfl (by omega) (by simp; omega) ?_; intro v' w5 ho5 hg5 hn5 hat5)
        have HN5 := Lib.hid (HN4.out.push HR0.out.1 HR0.out.2.1 HR0.out.2.2 ho5 hg5 hat5)
        have HD5 := Lib.hid (HD4.out.app HN4.out.own (Nat.le_refl _) hg5)
        have hl5 : sliceLen v' = us.length + 1 := by
          obtain ⟨A6, c6, rfl, _, _⟩ := ho5.reads
          simp [sliceLen]
        have HL5 := Lib.hid hl5
        clear ho5 hg5 hn5 hat5 hl5
        go_roundw
        case rel => exact ⟨_, _, HN5.out, by simp, by simp; omega, HD5.out⟩
        case measure =>
          have e5 : sliceLen v' = yss.length + 1 := by rw [HL5.out, HN4.out.len]
          simp [e5]; (try simp [sliceLen]); omega
      · have hlt' : decide ((yss.length : Int) < 10 + x) = false := decide_eq_false hlt
        clear x1
        go_wp2_with fail
        go_ret
        obtain ⟨K, q, e, hq, hr⟩ := HN4.out.riib
        injection e with e1 e2 e3
        subst e1 e3
        exact ⟨_, _, yss, rfl, hq, hr, by omega, HD4.out⟩
  by_cases q3 : r = 3
  · subst q3
    have HX := Lib.hid (l01Next_dr HD2.out.src 2)
    go_wp2_with fail
    refine HX.out.mono ?_
    rintro e w4 ⟨x, rfl, x0, x1, hD4, hz4⟩
    have HD4 := Lib.hid (HD2.out.trans hD4)
    have xb : x < 2 := by omega
    clear x1 hD4 hz4
    have ONE := Lib.hid (fun (n : Nat) (hn : n ≤ 20) => zeros_nest w.heap.size w4 n hn (by have := HD4.out.size; omega))
    by_cases hx0 : x = 0
    · subst hx0
      obtain ⟨cs, hcs⟩ : ∃ cs : Array Value, cs = (ints (List.replicate 12 0)).toArray := ⟨_, rfl⟩
      have hmc : madeCells #[.int .i64 0] 12 = cs := by rw [hcs]; exact madeCells_zero _
      have hmk : ∀ w : World, (Instr.makeSlice 44 (.int .i64 12) (.int .i64 12)).run Tryz.prog w = .ok (.slice (some ⟨w.heap.size, 0, none⟩) 12 12) (w.alloc (.cells cs 2)) := fun w => by
        have := make_ints 12 (by omega) w
        rw [hmc] at this; exact this
      have ON := Lib.hid (ONE.out 12 (by omega))
      rw [← hcs] at ON
      clear hcs hmc ONE
      go_wp2_with fail
      go_ret
      exact ⟨_, 1, [List.replicate 12 0], rfl, by simp, ON.out, by simp, (HD4.out.alloc _).alloc _⟩
    · obtain rfl : x = 1 := by omega
      obtain ⟨cs, hcs⟩ : ∃ cs : Array Value, cs = (ints (List.replicate 13 0)).toArray := ⟨_, rfl⟩
      have hmc : madeCells #[.int .i64 0] 13 = cs := by rw [hcs]; exact madeCells_zero _
      have hmk : ∀ w : World, (Instr.makeSlice 44 (.int .i64 13) (.int .i64 13)).run Tryz.prog w = .ok (.slice (some ⟨w.heap.size, 0, none⟩) 13 13) (w.alloc (.cells cs 2)) := fun w => by
        have := make_ints 13 (by omega) w
        rw [hmc] at this; exact this
      have ON := Lib.hid (ONE.out 13 (by omega))
      rw [← hcs] at ON
      clear hcs hmc ONE
      go_wp2_with fail
      go_ret
      exact ⟨_, 1, [List.replicate 13 0], rfl, by simp, ON.out, by simp, (HD4.out.alloc _).alloc _⟩
  by_cases q4 : r = 4
  · subst q4
    go_wp2_with fail
    go_ret
    exact ⟨none, 0, [], rfl, by simp, ⟨[], rfl, ⟨by simp, fun h => absurd rfl h⟩, fun h0 => by simp at h0, fun j hj => by simp at hj⟩, by simp, HD2.out⟩
  · have p0 : (r == 0) = false := by simpa using q0
    have p1 : (r == 1) = false := by simpa using q1
    have p2 : (r == 2) = false := by simpa using q2
    have p3 : (r == 3) = false := by simpa using q3
    have p4 : (r == 4) = false := by simpa using q4
    go_wp2_with fail
    go_ret
    exact FIN.out _ _ _ HT2.out HD2.out (by omega)
end Go.Proofs.YtdedajohkdbdkaaGreatDoor

/- Contracts of the draws of tables that the statements call. -/
namespace Go.Proofs.YtdedajohkdbdkaaGreatDoor
set_option linter.unusedVariables false
open Go.RowKit
theorem Dr.toBelow {A : Option Addr} {c : Nat} {bs : List Int} {w w1 w' : World} (hb : Below w.heap.size w w1) (d : Dr w.heap.size A c bs w1 w') : Below w.heap.size w w' :=
  hb.trans (d.keep.toBelow hb.size (fun g h e => by omega))
/-- the code reads: bytes -/
def RCode (w : World) (A : Option Addr) (bs : List Int) : Prop := RV w A (bytesV bs) ∧ ∀ b ∈ bs, 0 ≤ b ∧ b < 256
theorem RCode.below {w w' : World} {A : Option Addr} {bs : List Int} (h : RCode w A bs) (hb : Below w.heap.size w w') : RCode w' A bs := ⟨RV.below h.1 hb, h.2⟩
/-- a drawn table; a table and a number; a table and two numbers -/
def DrT (w : World) (e : Ending) (w' : World) : Prop := ∃ T d xss, e = .returned (.slice T (List.length xss) d) ∧ xss.length ≤ d ∧ RII w' T xss ∧ xss.length ≤ 20 ∧ Below w.heap.size w w'
def DrTn (w : World) (e : Ending) (w' : World) : Prop := ∃ T d xss r, e = .returned (.tuple #[.slice T (List.length xss) d, .int .i64 r]) ∧ xss.length ≤ d ∧ RII w' T xss ∧ xss.length ≤ 20 ∧ (-1 ≤ r ∧ r ≤ 1001) ∧ Below w.heap.size w w'
def DrTnn (w : World) (e : Ending) (w' : World) : Prop := ∃ T d xss r q, e = .returned (.tuple #[.slice T (List.length xss) d, .int .i64 r, .int .i64 q]) ∧ xss.length ≤ d ∧ RII w' T xss ∧ xss.length ≤ 20 ∧ (-1 ≤ r ∧ r ≤ 1001) ∧ (-1 ≤ q ∧ q ≤ 1001) ∧ Below w.heap.size w w'
theorem wf_small {r : Int} (h : -1 ≤ r ∧ r ≤ 1001) : (Lit.int .i64 r).wf = true := by
  simp only [Lit.wf, Bool.and_eq_true, decide_eq_true_eq]
  have h1 : IntKind.i64.min = -9223372036854775808 := by decide
  have h2 : IntKind.i64.max = 9223372036854775807 := by decide
  omega
end Go.Proofs.YtdedajohkdbdkaaGreatDoor
