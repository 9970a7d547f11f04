/- The law FnExactIsBelow holds: for all arguments the program's IsBelow returns what the reference's returns, and the arguments read as before. No condition. -/
import Derived.Test.YtlpkcjnifbdfdaaFIsBelow
import Derived.Test.YtlpkcjnifbdfdaaRowKit
namespace Go.Proofs.Ytlpkcjnifbdfdaa.fnExactIsBelow
open Go.ChangeShapes Go.WideShapes Go.ChangeAt Go.RowKit
set_option maxHeartbeats 1000000 in
theorem walk (A : Option Addr) (c : Nat) (xs : List Int) (B : Option Addr) (d : Nat) (ys : List Int) (w : World) (_hc : xs.length ≤ c) (h : RI w A xs) (_hd : ys.length ≤ d) (g : RI w B ys) :
    Calls Try.prog 3 #[.slice A xs.length c, .slice B ys.length d] w fun e w' => e = .returned (.bool true) ∧ Below w.heap.size w w' := by
  by_cases hx : xs.length ≤ 1048576
  · by_cases hy : ys.length ≤ 1048576
    · have i1 : ¬ ((1048576 : Int) < (xs.length : Int)) := by omega
      have i2 : ¬ ((1048576 : Int) < (ys.length : Int)) := by omega
      go_enter Try.func3, Try.ntmps3
      go_wp2_with fail
      refine (toI A c xs w h hx).mono ?_
      rintro e w1 ⟨A1, c1, rfl, hc1, r1, o1, b1, s1⟩
      go_wp2_with fail
      refine (toI B d ys w1 (g.below b1) hy).mono ?_
      rintro e w2 ⟨A2, c2, rfl, hc2, r2, o2, b2, s2⟩
      go_wp2_with fail
      refine (specIsBelow_any A1 A2 c1 c2 xs ys w2 (r1.below b2) r2 hc1).mono ?_
      rintro e w3 ⟨rfl, n3, rfl⟩
      have B2 := b1.trans (b2.mono b1.size)
      go_wp2_with fail
      refine (toI A c xs (w2.drewN n3) ((h.below B2).drewN n3) hx).mono ?_
      rintro e w4 ⟨A4, c4, rfl, hc4, r4, o4, b4, s4⟩
      have B4 := (belowD B2 n3).trans (b4.mono B2.size)
      go_wp2_with fail
      refine (toI B d ys w4 (g.below B4) hy).mono ?_
      rintro e w5 ⟨A5, c5, rfl, hc5, r5, o5, b5, s5⟩
      have B5 := B4.trans (b5.mono B4.size)
      go_wp2_with fail
      refine (implIsBelow_any A4 A5 c4 c5 xs ys w5 (r4.below b5) r5 hc4).mono ?_
      rintro e w6 ⟨rfl, n6, rfl⟩
      go_wp2_with fail
      refine (toI A c xs (w5.drewN n6) ((h.below B5).drewN n6) hx).mono ?_
      rintro e w7 ⟨A7, c7, rfl, hc7, r7, o7, b7, s7⟩
      have B7 := (belowD B5 n6).trans (b7.mono B5.size)
      go_wp2_with fail
      refine (eqInt64S_any A4 A7 c4 c7 xs xs w7 (((r4.below b5).drewN n6).below b7) r7).mono ?_
      rintro e w8 ⟨rfl, n8, rfl⟩
      go_wp2_with fail
      refine (toI B d ys (w7.drewN n8) ((g.below B7).drewN n8) hy).mono ?_
      rintro e w9 ⟨A9, c9, rfl, hc9, r9, o9, b9, s9⟩
      have B9 := (belowD B7 n8).trans (b9.mono B7.size)
      go_wp2_with fail
      refine (eqInt64S_any A5 A9 c5 c9 ys ys w9 (((r5.drewN n6).below b7).drewN n8 |>.below b9) r9).mono ?_
      rintro e w10 ⟨rfl, n10, rfl⟩
      go_wp2_with fail
      go_ret
      exact ⟨rfl, belowD B9 n10⟩
    · have i1 : ¬ ((1048576 : Int) < (xs.length : Int)) := by omega
      have i2 : ((1048576 : Int) < (ys.length : Int)) := by omega
      go_enter Try.func3, Try.ntmps3
      go_wp2
      go_ret
      exact ⟨rfl, Below.refl _ _⟩
  · have i1 : ((1048576 : Int) < (xs.length : Int)) := by omega
    go_enter Try.func3, Try.ntmps3
    go_wp2
    go_ret
    exact ⟨rfl, Below.refl _ _⟩
set_option maxRecDepth 100000 in
theorem lifted (os : Os) (started : os.Started) (H : Type) (enc : TypeId × Value → H) :
    ReturnsInHanded {} Try.checked os 3 .any (Rows.fnExactIsBelowSpec.pre6 enc Try.prog Try.f3 Rows.fnExactIsBelowRow.domain false) (Rows.fnExactIsBelowSpec.post enc Try.prog Try.f3 false true false false) := by
  refine returnsInHanded_of_change (C := Try.checked) own started (by kernel_rfl) Try.func3
    (ChangeSpec.witness6 (enc := enc) (C := Try.checked) false ⟨#[], #[.slice none 0 0, .slice none 0 0], []⟩ 8 (by kernel_rfl) (by kernel_rfl) (by kernel_rfl) (by kernel_rfl)) ?_
  intro W base args ds gs before hval0 hW hcnd _
  have hval : ∀ (j : Nat) t v, Try.f3.params[j]? = some t → args[j]? = some v → Value.okWide Try.prog W .any base t v := hval0
  have hW' := hW
  obtain ⟨p, q, hA0, hV, rfl, hfz, hnd⟩ := hW
  have hA : DataW.TrodAll enc Try.prog W 0 (fun _ => true) true Try.f3.params.toList args.toList ds p := hA0
  rw [Try.params3] at hA hval
  obtain ⟨v0, vs0, d0, ds0, p0, q0, hargs, rfl, rfl, h0, r0⟩ := trodAll_cons hA
  obtain ⟨v1, vs1, d1, ds1, p1, q1, rfl, rfl, rfl, h1, r1⟩ := trodAll_cons r0
  obtain ⟨rfl, rfl, rfl⟩ := trodAll_nil r1
  obtain rfl : args = #[v0, v1] := by cases args; simp_all
  obtain ⟨rfl, rfl⟩ := trodVars_none hV
  obtain ⟨A0, xs0, c0, rfl, hc0, g0⟩ := open_RI (hval 0 22 v0 rfl rfl) h0
  obtain ⟨A1, xs1, c1, rfl, hc1, g1⟩ := open_RI (hval 1 22 v1 rfl rfl) h1
  have hlt : ∀ x ∈ p0 ++ p1, x.block < W.heap.size := fun x hx => hW'.lt x (by simpa using hx)
  refine (walk A0 c0 xs0 A1 c1 xs1 W hc0 g0 hc1 g1).mono fun e W' ⟨he, hb⟩ => ?_
  subst he
  exact ⟨_, rfl, post_of_below (pa := (p0 ++ (p1 ++ []))) (pv := []) hW' (fun _ _ _ => trodAll_cons_mk (shut_bool Try.underlying4 _) trodAll_mk0) (fun sp hsp => (trodAll_cons_mk (WideElems.Trod_stays Try.laidOut (by kernel_rfl) (of_decide_eq_true (by kernel_rfl)) h0 (fun x hx => hb.same (hlt x (by simp [hx]))) (fun x hx => hsp x (by simp [hx]))) (trodAll_cons_mk (WideElems.Trod_stays Try.laidOut (by kernel_rfl) (of_decide_eq_true (by kernel_rfl)) h1 (fun x hx => hb.same (hlt x (by simp [hx]))) (fun x hx => hsp x (by simp [hx]))) trodAll_mk0))) (fun _ _ => rfl)
    (by simp) hb (ok_one (by kernel_rfl) rfl (okWide_bool_mk Try.underlying4 _))⟩
theorem over : Rows.fnExactIsBelowRow.holds Try.pinned (OpenSpec.ofChange Rows.fnExactIsBelowSpec) :=
  OpenClaim.holds_of_wide 3 Try.f3 rfl rfl rfl rfl rfl rfl rfl ⟨rfl, rfl, rfl, rfl, rfl⟩ rfl rfl rfl rfl rfl (by kernel_rfl) Try.func3 (by kernel_rfl)
    (of_decide_eq_true (by kernel_rfl)) (by unfold Func.isWrapper; first | (rw [if_pos (by decide +kernel)]; kernel_rfl) | (rw [if_neg (by decide +kernel)]; exact ⟨rfl, rfl⟩))
    (fun os started H enc _ => lifted os started H enc)
theorem proved : Rows.FnExactIsBelowSaid := over
#print axioms proved
end Go.Proofs.Ytlpkcjnifbdfdaa.fnExactIsBelow
