/- Written by this session's own program (wip/myprint.py): the machine side of one law, some contracts of it typed by hand. -/
import Derived.Test.YtcofhkocfkappaaPFnChristoffelx0
import Derived.Test.YtcofhkocfkappaaPFnChristoffelx1
import Derived.Test.YtcofhkocfkappaaPFnChristoffelx2
import Derived.Test.YtcofhkocfkappaaPFnChristoffelx3
import Derived.Test.YtcofhkocfkappaaPFnChristoffelx4
import Derived.Test.YtcofhkocfkappaaPFnChristoffelx7
import Derived.Test.YtcofhkocfkappaaPFnChristoffelx8
import Derived.Test.YtcofhkocfkappaaPFnChristoffelx9
import Derived.Test.YtcofhkocfkappaaPFnChristoffelx10
import Derived.Test.YtcofhkocfkappaaPFnChristoffelx11
import Derived.Test.YtcofhkocfkappaaPFnChristoffelx12
namespace Go.Proofs.Ytcofhkocfkappaa.PFnChristoffel
open Go.RowKit Go.Proofs.YtcofhkocfkappaaW.PrintWords Go.Proofs.YtcofhkocfkappaaW.PrintLast Go.Proofs.YtcofhkocfkappaaW.PrintMore
attribute [local go_sem] max2_int min2_int max_two min_two max_three min_three max_four min_four   -- for this text's walks alone
set_option linter.unusedVariables false
set_option linter.unusedSimpArgs false

/-! ### laws_FnChristoffel: function 3 -/
set_option maxHeartbeats 8000000 in
set_option maxRecDepth 100000 in
theorem laws_FnChristoffel.calls (k : Nat) (A0 : Option Addr) (c0 : Nat) (l0 : List Int) (r : Bool) (w : World) (hr0 : Kd.C (Kd.int .u8) w A0 l0.length l0) (hc0 : l0.length ≤ c0) (h : laws_FnChristoffel.f k l0 = some r) :
  Calls Try.prog 3 #[.slice A0 l0.length c0] w fun e w' => e = .returned (.bool r) ∧ Below w.heap.size w w' := by
 have HR0 := Aside0.mk hr0
 have HC0 := Aside0.mk hc0
 clear hr0 hc0
 have HB := Aside0.mk (Below.refl w.heap.size w)
 have H : ((laws_big.f l0).bind fun t462 => (if t462 = true then (some true) else ((spec_DrawChristoffelWord.f k l0).bind fun bt463 => ((impl_ChristoffelWord.f k bt463.1 bt463.2).bind fun bt465 => ((spec_ChristoffelWord.f k bt463.1 bt463.2).bind fun bt469 => ((impl_UpperChristoffel.f k bt463.1 bt463.2).bind fun bt473 => ((spec_UpperChristoffel.f k bt463.1 bt463.2).bind fun bt477 => (if (bt465.2 != bt469.2) = true then (laws_FnChristoffel.j0 k l0 bt463.1 bt463.2 bt465.2 bt469.1 true) else ((laws_sameInts.f k bt465.1 bt469.1).bind fun t481 => (if t481 = true then (if (bt473.2 != bt477.2) = true then (laws_FnChristoffel.j0 k l0 bt463.1 bt463.2 bt465.2 bt469.1 true) else ((laws_sameInts.f k bt473.1 bt477.1).bind fun t482 => (if t482 = true then (laws_FnChristoffel.j0 k l0 bt463.1 bt463.2 bt465.2 bt469.1 (bt473.2 != bt465.2)) else (laws_FnChristoffel.j0 k l0 bt463.1 bt463.2 bt465.2 bt469.1 true)))) else (laws_FnChristoffel.j0 k l0 bt463.1 bt463.2 bt465.2 bt469.1 true))))))))))) = some r := h
 clear h
 replace H := Option.bind_eq_some_iff.mp H
 obtain ⟨t462, A20, H⟩ := H
 replace H : (if t462 = true then (some true) else ((spec_DrawChristoffelWord.f k l0).bind fun bt463 => ((impl_ChristoffelWord.f k bt463.1 bt463.2).bind fun bt465 => ((spec_ChristoffelWord.f k bt463.1 bt463.2).bind fun bt469 => ((impl_UpperChristoffel.f k bt463.1 bt463.2).bind fun bt473 => ((spec_UpperChristoffel.f k bt463.1 bt463.2).bind fun bt477 => (if (bt465.2 != bt469.2) = true then (laws_FnChristoffel.j0 k l0 bt463.1 bt463.2 bt465.2 bt469.1 true) else ((laws_sameInts.f k bt465.1 bt469.1).bind fun t481 => (if t481 = true then (if (bt473.2 != bt477.2) = true then (laws_FnChristoffel.j0 k l0 bt463.1 bt463.2 bt465.2 bt469.1 true) else ((laws_sameInts.f k bt473.1 bt477.1).bind fun t482 => (if t482 = true then (laws_FnChristoffel.j0 k l0 bt463.1 bt463.2 bt465.2 bt469.1 (bt473.2 != bt465.2)) else (laws_FnChristoffel.j0 k l0 bt463.1 bt463.2 bt465.2 bt469.1 true)))) else (laws_FnChristoffel.j0 k l0 bt463.1 bt463.2 bt465.2 bt469.1 true)))))))))) = some r := H
 have A2 := Aside0.mk A20
 clear A20
 by_cases c3 : t462 = true
 ·subst c3
  have H1 : (some true) = some r := by rw [if_pos rfl] at H; exact H
  clear H
  have H := H1
  clear H1
  as_aux_lemma =>
   obtain rfl := Option.some.inj H
   go_enter Try.func3, Try.ntmps3
   go_wp2_with (first | ((with_reducible refine gate_callee (f := 4) rfl ?_); refine goesL_ (some 31) rfl rfl Try.func4 (by kernel_rfl) rfl #[.slice A0 l0.length c0] rfl (by (try simp only [List.map_toArray, List.map_cons, List.map_nil]); first | done | rfl | (simp only [List.length_drop, List.length_take]; rfl)) ?_; (with_reducible refine (laws_big.calls _ _ l0 true _ ?side1 ?side2 A2.out).mono ?_); (case side1 => repeat (first | exact HR0.out | (with_reducible refine Kd.C_alloc ?_ _) | (with_reducible refine Kd.C_drewN ?_ _) | (with_reducible refine Kd.C_drew ?_))); (case side2 => exact HC0.out); rintro e w' ⟨rfl, ⟨nd, rfl⟩⟩; refine ⟨_, rfl, ?_⟩))
   go_ret
   exact ⟨by first | rfl | (simp [errW_none, errW_some] <;> rfl) | (simp [*, errW_none, errW_some] <;> rfl), by repeat (first | (with_reducible first | exact HB.out | apply below_alloc | apply pw_below_drewN | apply below_drew1) | exact HB.out)⟩
 ·replace c3 := Bool.eq_false_iff.mpr c3
  subst c3
  have H1 : ((spec_DrawChristoffelWord.f k l0).bind fun bt463 => ((impl_ChristoffelWord.f k bt463.1 bt463.2).bind fun bt465 => ((spec_ChristoffelWord.f k bt463.1 bt463.2).bind fun bt469 => ((impl_UpperChristoffel.f k bt463.1 bt463.2).bind fun bt473 => ((spec_UpperChristoffel.f k bt463.1 bt463.2).bind fun bt477 => (if (bt465.2 != bt469.2) = true then (laws_FnChristoffel.j0 k l0 bt463.1 bt463.2 bt465.2 bt469.1 true) else ((laws_sameInts.f k bt465.1 bt469.1).bind fun t481 => (if t481 = true then (if (bt473.2 != bt477.2) = true then (laws_FnChristoffel.j0 k l0 bt463.1 bt463.2 bt465.2 bt469.1 true) else ((laws_sameInts.f k bt473.1 bt477.1).bind fun t482 => (if t482 = true then (laws_FnChristoffel.j0 k l0 bt463.1 bt463.2 bt465.2 bt469.1 (bt473.2 != bt465.2)) else (laws_FnChristoffel.j0 k l0 bt463.1 bt463.2 bt465.2 bt469.1 true)))) else (laws_FnChristoffel.j0 k l0 bt463.1 bt463.2 bt465.2 bt469.1 true))))))))) = some r := by rw [if_neg (show ¬ (false = true) by decide)] at H; exact H
  clear H
  have H := H1
  clear H1
  replace H := Option.bind_eq_some_iff.mp H
  obtain ⟨⟨t463, t464⟩, A40, H⟩ := H
  replace H : ((impl_ChristoffelWord.f k t463 t464).bind fun bt465 => ((spec_ChristoffelWord.f k t463 t464).bind fun bt469 => ((impl_UpperChristoffel.f k t463 t464).bind fun bt473 => ((spec_UpperChristoffel.f k t463 t464).bind fun bt477 => (if (bt465.2 != bt469.2) = true then (laws_FnChristoffel.j0 k l0 t463 t464 bt465.2 bt469.1 true) else ((laws_sameInts.f k bt465.1 bt469.1).bind fun t481 => (if t481 = true then (if (bt473.2 != bt477.2) = true then (laws_FnChristoffel.j0 k l0 t463 t464 bt465.2 bt469.1 true) else ((laws_sameInts.f k bt473.1 bt477.1).bind fun t482 => (if t482 = true then (laws_FnChristoffel.j0 k l0 t463 t464 bt465.2 bt469.1 (bt473.2 != bt465.2)) else (laws_FnChristoffel.j0 k l0 t463 t464 bt465.2 bt469.1 true)))) else (laws_FnChristoffel.j0 k l0 t463 t464 bt465.2 bt469.1 true)))))))) = some r := H
  have A4 := Aside0.mk A40
  clear A40
  replace H := Option.bind_eq_some_iff.mp H
  obtain ⟨⟨t465, t466⟩, A50, H⟩ := H
  replace H : ((spec_ChristoffelWord.f k t463 t464).bind fun bt469 => ((impl_UpperChristoffel.f k t463 t464).bind fun bt473 => ((spec_UpperChristoffel.f k t463 t464).bind fun bt477 => (if (t466 != bt469.2) = true then (laws_FnChristoffel.j0 k l0 t463 t464 t466 bt469.1 true) else ((laws_sameInts.f k t465 bt469.1).bind fun t481 => (if t481 = true then (if (bt473.2 != bt477.2) = true then (laws_FnChristoffel.j0 k l0 t463 t464 t466 bt469.1 true) else ((laws_sameInts.f k bt473.1 bt477.1).bind fun t482 => (if t482 = true then (laws_FnChristoffel.j0 k l0 t463 t464 t466 bt469.1 (bt473.2 != t466)) else (laws_FnChristoffel.j0 k l0 t463 t464 t466 bt469.1 true)))) else (laws_FnChristoffel.j0 k l0 t463 t464 t466 bt469.1 true))))))) = some r := H
  have A5 := Aside0.mk A50
  clear A50
  replace H := Option.bind_eq_some_iff.mp H
  obtain ⟨⟨t469, t470⟩, A60, H⟩ := H
  replace H : ((impl_UpperChristoffel.f k t463 t464).bind fun bt473 => ((spec_UpperChristoffel.f k t463 t464).bind fun bt477 => (if (t466 != t470) = true then (laws_FnChristoffel.j0 k l0 t463 t464 t466 t469 true) else ((laws_sameInts.f k t465 t469).bind fun t481 => (if t481 = true then (if (bt473.2 != bt477.2) = true then (laws_FnChristoffel.j0 k l0 t463 t464 t466 t469 true) else ((laws_sameInts.f k bt473.1 bt477.1).bind fun t482 => (if t482 = true then (laws_FnChristoffel.j0 k l0 t463 t464 t466 t469 (bt473.2 != t466)) else (laws_FnChristoffel.j0 k l0 t463 t464 t466 t469 true)))) else (laws_FnChristoffel.j0 k l0 t463 t464 t466 t469 true)))))) = some r := H
  have A6 := Aside0.mk A60
  clear A60
  replace H := Option.bind_eq_some_iff.mp H
  obtain ⟨⟨t473, t474⟩, A70, H⟩ := H
  replace H : ((spec_UpperChristoffel.f k t463 t464).bind fun bt477 => (if (t466 != t470) = true then (laws_FnChristoffel.j0 k l0 t463 t464 t466 t469 true) else ((laws_sameInts.f k t465 t469).bind fun t481 => (if t481 = true then (if (t474 != bt477.2) = true then (laws_FnChristoffel.j0 k l0 t463 t464 t466 t469 true) else ((laws_sameInts.f k t473 bt477.1).bind fun t482 => (if t482 = true then (laws_FnChristoffel.j0 k l0 t463 t464 t466 t469 (t474 != t466)) else (laws_FnChristoffel.j0 k l0 t463 t464 t466 t469 true)))) else (laws_FnChristoffel.j0 k l0 t463 t464 t466 t469 true))))) = some r := H
  have A7 := Aside0.mk A70
  clear A70
  replace H := Option.bind_eq_some_iff.mp H
  obtain ⟨⟨t477, t478⟩, A80, H⟩ := H
  replace H : (if (t466 != t470) = true then (laws_FnChristoffel.j0 k l0 t463 t464 t466 t469 true) else ((laws_sameInts.f k t465 t469).bind fun t481 => (if t481 = true then (if (t474 != t478) = true then (laws_FnChristoffel.j0 k l0 t463 t464 t466 t469 true) else ((laws_sameInts.f k t473 t477).bind fun t482 => (if t482 = true then (laws_FnChristoffel.j0 k l0 t463 t464 t466 t469 (t474 != t466)) else (laws_FnChristoffel.j0 k l0 t463 t464 t466 t469 true)))) else (laws_FnChristoffel.j0 k l0 t463 t464 t466 t469 true)))) = some r := H
  have A8 := Aside0.mk A80
  clear A80
  have HC9 := Aside0.mk H
  clear H
  go_enter Try.func3, Try.ntmps3
  go_upto_region 8 with (first | ((with_reducible refine gate_callee (f := 4) rfl ?_); refine goesL_ (some 31) rfl rfl Try.func4 (by kernel_rfl) rfl #[.slice A0 l0.length c0] rfl (by (try simp only [List.map_toArray, List.map_cons, List.map_nil]); first | done | rfl | (simp only [List.length_drop, List.length_take]; rfl)) ?_; (with_reducible refine (laws_big.calls _ _ l0 false _ ?side1 ?side2 A2.out).mono ?_); (case side1 => repeat (first | exact HR0.out | (with_reducible refine Kd.C_alloc ?_ _) | (with_reducible refine Kd.C_drewN ?_ _) | (with_reducible refine Kd.C_drew ?_))); (case side2 => exact HC0.out); rintro e w' ⟨rfl, ⟨nd, rfl⟩⟩; refine ⟨_, rfl, ?_⟩) | ((with_reducible refine gate_callee (f := 5) rfl ?_); refine goesL_ (some 34) rfl rfl Try.func5 (by kernel_rfl) rfl #[.slice A0 l0.length c0] rfl (by (try simp only [List.map_toArray, List.map_cons, List.map_nil]); first | done | rfl | (simp only [List.length_drop, List.length_take]; rfl)) ?_; (with_reducible refine (spec_DrawChristoffelWord.calls k _ _ l0 t463 t464 _ ?side1 ?side2 A4.out).mono ?_); (case side1 => repeat (first | exact HR0.out | (with_reducible refine Kd.C_alloc ?_ _) | (with_reducible refine Kd.C_drewN ?_ _) | (with_reducible refine Kd.C_drew ?_))); (case side2 => exact HC0.out); rintro e w10 ⟨rfl, hb⟩; refine ⟨_, rfl, ?_⟩; have n0_ := Aside0.mk (below_step (by repeat (first | (with_reducible first | exact HB.out | apply below_alloc | apply pw_below_drewN | apply below_drew1) | exact HB.out)) hb); clear HB; have HB := n0_; clear n0_; (try clear hb); (try clear hb2); (try clear hk); (try clear hi)) | ((with_reducible refine gate_callee (f := 6) rfl ?_); refine goesL_ (some 40) rfl rfl Try.func6 (by kernel_rfl) rfl #[.int .i64 t463, .int .i64 t464] rfl (by (try simp only [List.map_toArray, List.map_cons, List.map_nil]); first | done | rfl | (simp only [List.length_drop, List.length_take]; rfl)) ?_; (with_reducible refine (impl_ChristoffelWord.calls k t463 t464 t465 t466 _ A5.out).mono ?_); rintro e w11 ⟨v467, rfl, ho0, hb⟩; refine ⟨_, rfl, ?_⟩; have n0_ := Aside0.mk (Kd.R_lower ho0 (below_size (by repeat (first | (with_reducible first | exact HB.out | apply below_alloc | apply pw_below_drewN | apply below_drew1) | exact HB.out)))); have n1_ := Aside0.mk (below_step (by repeat (first | (with_reducible first | exact HB.out | apply below_alloc | apply pw_below_drewN | apply below_drew1) | exact HB.out)) hb); clear HB; have HO468 := n0_; have HB := n1_; clear n0_ n1_; (try clear hb); (try clear hb2); (try clear hk); (try clear hi); (try clear ho0)) | ((with_reducible refine gate_callee (f := 7) rfl ?_); refine goesL_ (some 46) rfl rfl Try.func7 (by kernel_rfl) rfl #[.int .i64 t463, .int .i64 t464] rfl (by (try simp only [List.map_toArray, List.map_cons, List.map_nil]); first | done | rfl | (simp only [List.length_drop, List.length_take]; rfl)) ?_; (with_reducible refine (spec_ChristoffelWord.calls k t463 t464 t469 t470 _ A6.out).mono ?_); rintro e w12 ⟨v471, rfl, ho0, hb⟩; refine ⟨_, rfl, ?_⟩; have n0_ := Aside0.mk (Kd.R_elder' (by (with_reducible repeat (first | apply Kd.R_alloc | apply Kd.R_drewN | apply Kd.R_drew)); exact HO468.out) (Kd.R_base ho0) hb); have n1_ := Aside0.mk (Kd.R_lower (Kd.R_new' ho0 (Kd.R_lt (by (with_reducible repeat (first | apply Kd.R_alloc | apply Kd.R_drewN | apply Kd.R_drew)); exact HO468.out))) (below_size (by repeat (first | (with_reducible first | exact HB.out | apply below_alloc | apply pw_below_drewN | apply below_drew1) | exact HB.out)))); have n2_ := Aside0.mk (below_step (by repeat (first | (with_reducible first | exact HB.out | apply below_alloc | apply pw_below_drewN | apply below_drew1) | exact HB.out)) hb); clear HO468; clear HB; have HO468 := n0_; have HO472 := n1_; have HB := n2_; clear n0_ n1_ n2_; (try clear hb); (try clear hb2); (try clear hk); (try clear hi); (try clear ho0)) | ((with_reducible refine gate_callee (f := 8) rfl ?_); refine goesL_ (some 52) rfl rfl Try.func8 (by kernel_rfl) rfl #[.int .i64 t463, .int .i64 t464] rfl (by (try simp only [List.map_toArray, List.map_cons, List.map_nil]); first | done | rfl | (simp only [List.length_drop, List.length_take]; rfl)) ?_; (with_reducible refine (impl_UpperChristoffel.calls k t463 t464 t473 t474 _ A7.out).mono ?_); rintro e w13 ⟨v475, rfl, ho0, hb⟩; refine ⟨_, rfl, ?_⟩; have n0_ := Aside0.mk (Kd.R_elder' (by (with_reducible repeat (first | apply Kd.R_alloc | apply Kd.R_drewN | apply Kd.R_drew)); exact HO468.out) (Kd.R_base ho0) hb); have n1_ := Aside0.mk (Kd.R_elder' (by (with_reducible repeat (first | apply Kd.R_alloc | apply Kd.R_drewN | apply Kd.R_drew)); exact HO472.out) (Kd.R_base ho0) hb); have n2_ := Aside0.mk (Kd.R_lower (Kd.R_new' (Kd.R_new' ho0 (Kd.R_lt (by (with_reducible repeat (first | apply Kd.R_alloc | apply Kd.R_drewN | apply Kd.R_drew)); exact HO468.out))) (Kd.R_lt (by (with_reducible repeat (first | apply Kd.R_alloc | apply Kd.R_drewN | apply Kd.R_drew)); exact HO472.out))) (below_size (by repeat (first | (with_reducible first | exact HB.out | apply below_alloc | apply pw_below_drewN | apply below_drew1) | exact HB.out)))); have n3_ := Aside0.mk (below_step (by repeat (first | (with_reducible first | exact HB.out | apply below_alloc | apply pw_below_drewN | apply below_drew1) | exact HB.out)) hb); clear HO468; clear HO472; clear HB; have HO468 := n0_; have HO472 := n1_; have HO476 := n2_; have HB := n3_; clear n0_ n1_ n2_ n3_; (try clear hb); (try clear hb2); (try clear hk); (try clear hi); (try clear ho0)) | ((with_reducible refine gate_callee (f := 9) rfl ?_); refine goesL_ (some 58) rfl rfl Try.func9 (by kernel_rfl) rfl #[.int .i64 t463, .int .i64 t464] rfl (by (try simp only [List.map_toArray, List.map_cons, List.map_nil]); first | done | rfl | (simp only [List.length_drop, List.length_take]; rfl)) ?_; (with_reducible refine (spec_UpperChristoffel.calls k t463 t464 t477 t478 _ A8.out).mono ?_); rintro e w14 ⟨v479, rfl, ho0, hb⟩; refine ⟨_, rfl, ?_⟩; have n0_ := Aside0.mk (Kd.R_elder' (by (with_reducible repeat (first | apply Kd.R_alloc | apply Kd.R_drewN | apply Kd.R_drew)); exact HO468.out) (Kd.R_base ho0) hb); have n1_ := Aside0.mk (Kd.R_elder' (by (with_reducible repeat (first | apply Kd.R_alloc | apply Kd.R_drewN | apply Kd.R_drew)); exact HO472.out) (Kd.R_base ho0) hb); have n2_ := Aside0.mk (Kd.R_elder' (by (with_reducible repeat (first | apply Kd.R_alloc | apply Kd.R_drewN | apply Kd.R_drew)); exact HO476.out) (Kd.R_base ho0) hb); have n3_ := Aside0.mk (Kd.R_lower (Kd.R_new' (Kd.R_new' (Kd.R_new' ho0 (Kd.R_lt (by (with_reducible repeat (first | apply Kd.R_alloc | apply Kd.R_drewN | apply Kd.R_drew)); exact HO468.out))) (Kd.R_lt (by (with_reducible repeat (first | apply Kd.R_alloc | apply Kd.R_drewN | apply Kd.R_drew)); exact HO472.out))) (Kd.R_lt (by (with_reducible repeat (first | apply Kd.R_alloc | apply Kd.R_drewN | apply Kd.R_drew)); exact HO476.out))) (below_size (by repeat (first | (with_reducible first | exact HB.out | apply below_alloc | apply pw_below_drewN | apply below_drew1) | exact HB.out)))); have n4_ := Aside0.mk (below_step (by repeat (first | (with_reducible first | exact HB.out | apply below_alloc | apply pw_below_drewN | apply below_drew1) | exact HB.out)) hb); clear HO468; clear HO472; clear HO476; clear HB; have HO468 := n0_; have HO472 := n1_; have HO476 := n2_; have HO480 := n3_; have HB := n4_; clear n0_ n1_ n2_ n3_ n4_; (try clear hb); (try clear hb2); (try clear hk); (try clear hi); (try clear ho0)))
  (try simp only [Act.put, z1_, z2_, z3_])
  go_cut [85] (fun v85 wc => ∃ (kq : Nat) (x85_8 : Bool), v85 = .bool x85_8 ∧ Aside0 (laws_FnChristoffel.j0 kq l0 t463 t464 t466 t469 x85_8 = some r) ∧ Aside0 (kq ≤ k) ∧ Aside0 (Kd.R (Kd.int .i64) 3 wc w.heap.size (fun _ => True) v471 t469) ∧ Aside0 (Below w.heap.size w wc))
  case first => as_aux_lemma =>
   have H := HC9.out
   clear HC9
   by_cases c15 : (t466 != t470) = true
   ·rw [if_pos c15] at H
    have c15b0 : (t466 != t470) = true := c15
    (try (have c15b1 : decide (t466 = t470) = false := by simpa using c15))
    (try (have c15b2 : (t466 == t470) = false := by simpa using c15))
    (try (have c15b3 : ¬ (t466 = t470) := by simpa using c15))
    clear c15
    (first | rw [c15b0] | (simp only [i64_w, i32_w]; rw [c15b0]) | skip)
    as_aux_lemma =>
     have H' := Aside0.mk H
     clear H
     go_wp2
     go_meet
     case rel => exact ⟨_, (true), (by first | rfl | (simp; done) | (simp [*]; done)), H', ⟨by first | omega | exact Nat.le_refl _⟩, ⟨by (with_reducible repeat (first | apply Kd.R_alloc | apply Kd.R_drewN | apply Kd.R_drew)); exact Kd.R_mono HO472.out (fun _ hk => trivial)⟩, ⟨by repeat (first | (with_reducible first | exact HB.out | apply below_alloc | apply pw_below_drewN | apply below_drew1) | exact HB.out)⟩⟩
   ·rw [if_neg c15] at H
    have c15b0 : (t466 != t470) = false := by simpa using c15
    (try (have c15b1 : decide (t466 = t470) = true := by simpa using c15))
    (try (have c15b2 : (t466 == t470) = true := by simpa using c15))
    clear c15
    (first | rw [c15b0] | (simp only [i64_w, i32_w]; rw [c15b0]) | skip)
    replace H := Option.bind_eq_some_iff.mp H
    obtain ⟨t481, A160, H⟩ := H
    replace H : (if t481 = true then (if (t474 != t478) = true then (laws_FnChristoffel.j0 k l0 t463 t464 t466 t469 true) else ((laws_sameInts.f k t473 t477).bind fun t482 => (if t482 = true then (laws_FnChristoffel.j0 k l0 t463 t464 t466 t469 (t474 != t466)) else (laws_FnChristoffel.j0 k l0 t463 t464 t466 t469 true)))) else (laws_FnChristoffel.j0 k l0 t463 t464 t466 t469 true)) = some r := H
    have A16 := Aside0.mk A160
    clear A160
    by_cases c17 : t481 = true
    ·subst c17
     have H1 : (if (t474 != t478) = true then (laws_FnChristoffel.j0 k l0 t463 t464 t466 t469 true) else ((laws_sameInts.f k t473 t477).bind fun t482 => (if t482 = true then (laws_FnChristoffel.j0 k l0 t463 t464 t466 t469 (t474 != t466)) else (laws_FnChristoffel.j0 k l0 t463 t464 t466 t469 true)))) = some r := by rw [if_pos rfl] at H; exact H
     clear H
     have H := H1
     clear H1
     by_cases c18 : (t474 != t478) = true
     ·rw [if_pos c18] at H
      have c18b0 : (t474 != t478) = true := c18
      (try (have c18b1 : decide (t474 = t478) = false := by simpa using c18))
      (try (have c18b2 : (t474 == t478) = false := by simpa using c18))
      (try (have c18b3 : ¬ (t474 = t478) := by simpa using c18))
      clear c18
      as_aux_lemma =>
       have H' := Aside0.mk H
       clear H
       obtain ⟨Ao19, co19, eo19⟩ := Kd.R_slice HO468.out
       subst eo19
       obtain ⟨Ao20, co20, eo20⟩ := Kd.R_slice HO472.out
       subst eo20
       go_wp2_with (first | (go_at_call 10; (with_reducible refine (laws_sameInts.calls k _ _ t465 _ _ t469 true _ ?side1 ?side2 ?side3 ?side4 A16.out).mono ?_); (case side1 => repeat (first | exact (Kd.R_reads' HO468.out).2.2 | (with_reducible refine Kd.C_alloc ?_ _) | (with_reducible refine Kd.C_drewN ?_ _) | (with_reducible refine Kd.C_drew ?_))); (case side2 => exact (Kd.R_reads' HO468.out).2.1); (case side3 => repeat (first | exact (Kd.R_reads' HO472.out).2.2 | (with_reducible refine Kd.C_alloc ?_ _) | (with_reducible refine Kd.C_drewN ?_ _) | (with_reducible refine Kd.C_drew ?_))); (case side4 => exact (Kd.R_reads' HO472.out).2.1); rintro e w' ⟨rfl, ⟨nd, rfl⟩⟩))
       go_meet
       case rel => exact ⟨_, (true), (by first | rfl | (simp; done) | (simp [*]; done)), H', ⟨by first | omega | exact Nat.le_refl _⟩, ⟨by (with_reducible repeat (first | apply Kd.R_alloc | apply Kd.R_drewN | apply Kd.R_drew)); exact Kd.R_mono HO472.out (fun _ hk => trivial)⟩, ⟨by repeat (first | (with_reducible first | exact HB.out | apply below_alloc | apply pw_below_drewN | apply below_drew1) | exact HB.out)⟩⟩
     ·rw [if_neg c18] at H
      have c18b0 : (t474 != t478) = false := by simpa using c18
      (try (have c18b1 : decide (t474 = t478) = true := by simpa using c18))
      (try (have c18b2 : (t474 == t478) = true := by simpa using c18))
      clear c18
      replace H := Option.bind_eq_some_iff.mp H
      obtain ⟨t482, A210, H⟩ := H
      replace H : (if t482 = true then (laws_FnChristoffel.j0 k l0 t463 t464 t466 t469 (t474 != t466)) else (laws_FnChristoffel.j0 k l0 t463 t464 t466 t469 true)) = some r := H
      have A21 := Aside0.mk A210
      clear A210
      by_cases c22 : t482 = true
      ·subst c22
       have H1 : (laws_FnChristoffel.j0 k l0 t463 t464 t466 t469 (t474 != t466)) = some r := by rw [if_pos rfl] at H; exact H
       clear H
       have H := H1
       clear H1
       as_aux_lemma =>
        have H' := Aside0.mk H
        clear H
        obtain ⟨Ao23, co23, eo23⟩ := Kd.R_slice HO468.out
        subst eo23
        obtain ⟨Ao24, co24, eo24⟩ := Kd.R_slice HO472.out
        subst eo24
        go_wp2_with (first | (go_at_call 10; (with_reducible refine (laws_sameInts.calls k _ _ t465 _ _ t469 true _ ?side1 ?side2 ?side3 ?side4 A16.out).mono ?_); (case side1 => repeat (first | exact (Kd.R_reads' HO468.out).2.2 | (with_reducible refine Kd.C_alloc ?_ _) | (with_reducible refine Kd.C_drewN ?_ _) | (with_reducible refine Kd.C_drew ?_))); (case side2 => exact (Kd.R_reads' HO468.out).2.1); (case side3 => repeat (first | exact (Kd.R_reads' HO472.out).2.2 | (with_reducible refine Kd.C_alloc ?_ _) | (with_reducible refine Kd.C_drewN ?_ _) | (with_reducible refine Kd.C_drew ?_))); (case side4 => exact (Kd.R_reads' HO472.out).2.1); rintro e w' ⟨rfl, ⟨nd, rfl⟩⟩; obtain ⟨Ao25, co25, eo25⟩ := Kd.R_slice HO476.out; subst eo25; obtain ⟨Ao26, co26, eo26⟩ := Kd.R_slice HO480.out; subst eo26) | (go_at_call 10; (with_reducible refine (laws_sameInts.calls k _ _ t473 _ _ t477 true _ ?side1 ?side2 ?side3 ?side4 A21.out).mono ?_); (case side1 => repeat (first | exact (Kd.R_reads' HO476.out).2.2 | (with_reducible refine Kd.C_alloc ?_ _) | (with_reducible refine Kd.C_drewN ?_ _) | (with_reducible refine Kd.C_drew ?_))); (case side2 => exact (Kd.R_reads' HO476.out).2.1); (case side3 => repeat (first | exact (Kd.R_reads' HO480.out).2.2 | (with_reducible refine Kd.C_alloc ?_ _) | (with_reducible refine Kd.C_drewN ?_ _) | (with_reducible refine Kd.C_drew ?_))); (case side4 => exact (Kd.R_reads' HO480.out).2.1); rintro e w' ⟨rfl, ⟨nd, rfl⟩⟩))
        go_meet
        case rel => exact ⟨_, ((t474 != t466)), (by first | rfl | (simp; done) | (simp [*]; done)), H', ⟨by first | omega | exact Nat.le_refl _⟩, ⟨by (with_reducible repeat (first | apply Kd.R_alloc | apply Kd.R_drewN | apply Kd.R_drew)); exact Kd.R_mono HO472.out (fun _ hk => trivial)⟩, ⟨by repeat (first | (with_reducible first | exact HB.out | apply below_alloc | apply pw_below_drewN | apply below_drew1) | exact HB.out)⟩⟩
      ·replace c22 := Bool.eq_false_iff.mpr c22
       subst c22
       have H1 : (laws_FnChristoffel.j0 k l0 t463 t464 t466 t469 true) = some r := by rw [if_neg (show ¬ (false = true) by decide)] at H; exact H
       clear H
       have H := H1
       clear H1
       as_aux_lemma =>
        have H' := Aside0.mk H
        clear H
        obtain ⟨Ao27, co27, eo27⟩ := Kd.R_slice HO468.out
        subst eo27
        obtain ⟨Ao28, co28, eo28⟩ := Kd.R_slice HO472.out
        subst eo28
        go_wp2_with (first | (go_at_call 10; (with_reducible refine (laws_sameInts.calls k _ _ t465 _ _ t469 true _ ?side1 ?side2 ?side3 ?side4 A16.out).mono ?_); (case side1 => repeat (first | exact (Kd.R_reads' HO468.out).2.2 | (with_reducible refine Kd.C_alloc ?_ _) | (with_reducible refine Kd.C_drewN ?_ _) | (with_reducible refine Kd.C_drew ?_))); (case side2 => exact (Kd.R_reads' HO468.out).2.1); (case side3 => repeat (first | exact (Kd.R_reads' HO472.out).2.2 | (with_reducible refine Kd.C_alloc ?_ _) | (with_reducible refine Kd.C_drewN ?_ _) | (with_reducible refine Kd.C_drew ?_))); (case side4 => exact (Kd.R_reads' HO472.out).2.1); rintro e w' ⟨rfl, ⟨nd, rfl⟩⟩; obtain ⟨Ao29, co29, eo29⟩ := Kd.R_slice HO476.out; subst eo29; obtain ⟨Ao30, co30, eo30⟩ := Kd.R_slice HO480.out; subst eo30) | (go_at_call 10; (with_reducible refine (laws_sameInts.calls k _ _ t473 _ _ t477 false _ ?side1 ?side2 ?side3 ?side4 A21.out).mono ?_); (case side1 => repeat (first | exact (Kd.R_reads' HO476.out).2.2 | (with_reducible refine Kd.C_alloc ?_ _) | (with_reducible refine Kd.C_drewN ?_ _) | (with_reducible refine Kd.C_drew ?_))); (case side2 => exact (Kd.R_reads' HO476.out).2.1); (case side3 => repeat (first | exact (Kd.R_reads' HO480.out).2.2 | (with_reducible refine Kd.C_alloc ?_ _) | (with_reducible refine Kd.C_drewN ?_ _) | (with_reducible refine Kd.C_drew ?_))); (case side4 => exact (Kd.R_reads' HO480.out).2.1); rintro e w' ⟨rfl, ⟨nd, rfl⟩⟩))
        go_meet
        case rel => exact ⟨_, (true), (by first | rfl | (simp; done) | (simp [*]; done)), H', ⟨by first | omega | exact Nat.le_refl _⟩, ⟨by (with_reducible repeat (first | apply Kd.R_alloc | apply Kd.R_drewN | apply Kd.R_drew)); exact Kd.R_mono HO472.out (fun _ hk => trivial)⟩, ⟨by repeat (first | (with_reducible first | exact HB.out | apply below_alloc | apply pw_below_drewN | apply below_drew1) | exact HB.out)⟩⟩
    ·replace c17 := Bool.eq_false_iff.mpr c17
     subst c17
     have H1 : (laws_FnChristoffel.j0 k l0 t463 t464 t466 t469 true) = some r := by rw [if_neg (show ¬ (false = true) by decide)] at H; exact H
     clear H
     have H := H1
     clear H1
     as_aux_lemma =>
      have H' := Aside0.mk H
      clear H
      obtain ⟨Ao31, co31, eo31⟩ := Kd.R_slice HO468.out
      subst eo31
      obtain ⟨Ao32, co32, eo32⟩ := Kd.R_slice HO472.out
      subst eo32
      go_wp2_with (first | (go_at_call 10; (with_reducible refine (laws_sameInts.calls k _ _ t465 _ _ t469 false _ ?side1 ?side2 ?side3 ?side4 A16.out).mono ?_); (case side1 => repeat (first | exact (Kd.R_reads' HO468.out).2.2 | (with_reducible refine Kd.C_alloc ?_ _) | (with_reducible refine Kd.C_drewN ?_ _) | (with_reducible refine Kd.C_drew ?_))); (case side2 => exact (Kd.R_reads' HO468.out).2.1); (case side3 => repeat (first | exact (Kd.R_reads' HO472.out).2.2 | (with_reducible refine Kd.C_alloc ?_ _) | (with_reducible refine Kd.C_drewN ?_ _) | (with_reducible refine Kd.C_drew ?_))); (case side4 => exact (Kd.R_reads' HO472.out).2.1); rintro e w' ⟨rfl, ⟨nd, rfl⟩⟩))
      go_meet
      case rel => exact ⟨_, (true), (by first | rfl | (simp; done) | (simp [*]; done)), H', ⟨by first | omega | exact Nat.le_refl _⟩, ⟨by (with_reducible repeat (first | apply Kd.R_alloc | apply Kd.R_drewN | apply Kd.R_drew)); exact Kd.R_mono HO472.out (fun _ hk => trivial)⟩, ⟨by repeat (first | (with_reducible first | exact HB.out | apply below_alloc | apply pw_below_drewN | apply below_drew1) | exact HB.out)⟩⟩
  case rest => as_aux_lemma =>
   clear HC9
   try clear c1
   try clear c2
   try clear p2
   try clear c3
   try clear c4
   try clear c5
   try clear c6
   try clear c7
   try clear c8
   try clear c9
   try clear c15
   try clear c15b0
   try clear c15b1
   try clear c15b2
   try clear c17
   try clear c18
   try clear c18b0
   try clear c18b1
   try clear c18b2
   try clear c22
   obtain ⟨kq, x85_8, rfl, HA, HJ8, HO_7, HB⟩ := hcut
   cases kq with
   | zero => exact absurd HA.out (by simp [laws_FnChristoffel.j0])
   | succ kj8 =>
    have H := HA.out
    clear HA
    simp only [laws_FnChristoffel.j0] at H
    by_cases c33 : x85_8 = true
    ·subst c33
     have H1 : (some false) = some r := by rw [if_pos rfl] at H; exact H
     clear H
     have H := H1
     clear H1
     as_aux_lemma =>
      obtain rfl := Option.some.inj H
      go_wp2
      go_ret
      exact ⟨by first | rfl | (simp [errW_none, errW_some] <;> rfl) | (simp [*, errW_none, errW_some] <;> rfl), by repeat (first | (with_reducible first | exact HB.out | apply below_alloc | apply pw_below_drewN | apply below_drew1) | exact HB.out)⟩
    ·replace c33 := Bool.eq_false_iff.mpr c33
     subst c33
     have H1 : (if t466 = true then ((impl_SlopeOf.f kj8 t469).bind fun bt483 => (if bt483.1 = t463 then (if bt483.2 = t464 then ((impl_IsChristoffel.f kj8 t469).bind fun t485 => (if t485 = true then ((spec_IsLyndon.f kj8 t469).bind fun t486 => (if t486 = true then ((spec_IsBalanced.f kj8 t469).bind fun t487 => (if t487 = true then (if (t469.length : Int) > 1 then (if 1 ≤ (wrap64 ((t469.length : Int) - 1)) then (if (wrap64 ((t469.length : Int) - 1)) ≤ (t469.length : Int) then ((spec_IsPalindrome.f kj8 ((t469.take ((wrap64 ((t469.length : Int) - 1)) : Int).toNat).drop 1)).bind fun t492 => (if t492 = true then (if 0 < (t469.length : Int) then (laws_FnChristoffel.j1 kj8 l0 t463 t464 t469 ((rd t469 0) != 0)) else (none)) else (laws_FnChristoffel.j1 kj8 l0 t463 t464 t469 true))) else (none)) else (none)) else (laws_FnChristoffel.j1 kj8 l0 t463 t464 t469 false)) else (laws_FnChristoffel.j1 kj8 l0 t463 t464 t469 true))) else (laws_FnChristoffel.j1 kj8 l0 t463 t464 t469 true))) else (laws_FnChristoffel.j1 kj8 l0 t463 t464 t469 true))) else (laws_FnChristoffel.j1 kj8 l0 t463 t464 t469 true)) else (laws_FnChristoffel.j1 kj8 l0 t463 t464 t469 true))) else (laws_FnChristoffel.j2 kj8 l0)) = some r := by rw [if_neg (show ¬ (false = true) by decide)] at H; exact H
     clear H
     have H := H1
     clear H1
     have HC34 := Aside0.mk H
     clear H
     go_upto_if 86 with (fail)
     go_cut [] (fun wc => ∃ (kq : Nat), Aside0 (laws_FnChristoffel.j2 kq l0 = some r) ∧ Aside0 (kq ≤ kj8) ∧ Aside0 (Below w.heap.size w wc))
     case first => as_aux_lemma =>
      have H := HC34.out
      clear HC34
      by_cases c35 : t466 = true
      ·subst c35
       have H1 : ((impl_SlopeOf.f kj8 t469).bind fun bt483 => (if bt483.1 = t463 then (if bt483.2 = t464 then ((impl_IsChristoffel.f kj8 t469).bind fun t485 => (if t485 = true then ((spec_IsLyndon.f kj8 t469).bind fun t486 => (if t486 = true then ((spec_IsBalanced.f kj8 t469).bind fun t487 => (if t487 = true then (if (t469.length : Int) > 1 then (if 1 ≤ (wrap64 ((t469.length : Int) - 1)) then (if (wrap64 ((t469.length : Int) - 1)) ≤ (t469.length : Int) then ((spec_IsPalindrome.f kj8 ((t469.take ((wrap64 ((t469.length : Int) - 1)) : Int).toNat).drop 1)).bind fun t492 => (if t492 = true then (if 0 < (t469.length : Int) then (laws_FnChristoffel.j1 kj8 l0 t463 t464 t469 ((rd t469 0) != 0)) else (none)) else (laws_FnChristoffel.j1 kj8 l0 t463 t464 t469 true))) else (none)) else (none)) else (laws_FnChristoffel.j1 kj8 l0 t463 t464 t469 false)) else (laws_FnChristoffel.j1 kj8 l0 t463 t464 t469 true))) else (laws_FnChristoffel.j1 kj8 l0 t463 t464 t469 true))) else (laws_FnChristoffel.j1 kj8 l0 t463 t464 t469 true))) else (laws_FnChristoffel.j1 kj8 l0 t463 t464 t469 true)) else (laws_FnChristoffel.j1 kj8 l0 t463 t464 t469 true))) = some r := by rw [if_pos rfl] at H; exact H
       clear H
       have H := H1
       clear H1
       replace H := Option.bind_eq_some_iff.mp H
       obtain ⟨⟨t483, t484⟩, A360, H⟩ := H
       replace H : (if t483 = t463 then (if t484 = t464 then ((impl_IsChristoffel.f kj8 t469).bind fun t485 => (if t485 = true then ((spec_IsLyndon.f kj8 t469).bind fun t486 => (if t486 = true then ((spec_IsBalanced.f kj8 t469).bind fun t487 => (if t487 = true then (if (t469.length : Int) > 1 then (if 1 ≤ (wrap64 ((t469.length : Int) - 1)) then (if (wrap64 ((t469.length : Int) - 1)) ≤ (t469.length : Int) then ((spec_IsPalindrome.f kj8 ((t469.take ((wrap64 ((t469.length : Int) - 1)) : Int).toNat).drop 1)).bind fun t492 => (if t492 = true then (if 0 < (t469.length : Int) then (laws_FnChristoffel.j1 kj8 l0 t463 t464 t469 ((rd t469 0) != 0)) else (none)) else (laws_FnChristoffel.j1 kj8 l0 t463 t464 t469 true))) else (none)) else (none)) else (laws_FnChristoffel.j1 kj8 l0 t463 t464 t469 false)) else (laws_FnChristoffel.j1 kj8 l0 t463 t464 t469 true))) else (laws_FnChristoffel.j1 kj8 l0 t463 t464 t469 true))) else (laws_FnChristoffel.j1 kj8 l0 t463 t464 t469 true))) else (laws_FnChristoffel.j1 kj8 l0 t463 t464 t469 true)) else (laws_FnChristoffel.j1 kj8 l0 t463 t464 t469 true)) = some r := H
       have A36 := Aside0.mk A360
       clear A360
       have HC37 := Aside0.mk H
       clear H
       obtain ⟨Ao38, co38, eo38⟩ := Kd.R_slice HO_7.out
       subst eo38
       go_upto_region 12 with (first | ((with_reducible refine gate_callee (f := 11) rfl ?_); refine goesL_ (some 89) rfl rfl Try.func11 (by kernel_rfl) rfl #[.slice Ao38 t469.length co38] rfl (by (try simp only [List.map_toArray, List.map_cons, List.map_nil]); first | done | rfl | (simp only [List.length_drop, List.length_take]; rfl)) ?_; (with_reducible refine (impl_SlopeOf.calls kj8 _ _ t469 t483 t484 _ ?side1 ?side2 A36.out).mono ?_); (case side1 => repeat (first | exact (Kd.R_reads' HO_7.out).2.2 | (with_reducible refine Kd.C_alloc ?_ _) | (with_reducible refine Kd.C_drewN ?_ _) | (with_reducible refine Kd.C_drew ?_))); (case side2 => exact (Kd.R_reads' HO_7.out).2.1); rintro e w' ⟨rfl, ⟨nd, rfl⟩⟩; refine ⟨_, rfl, ?_⟩))
       (try simp only [Act.put, z1_, z2_, z3_])
       go_cut [134] (fun v134 wc => ∃ (kq : Nat) (x134_36 : Bool), v134 = .bool x134_36 ∧ Aside0 (laws_FnChristoffel.j1 kq l0 t463 t464 t469 x134_36 = some r) ∧ Aside0 (kq ≤ kj8) ∧ Aside0 (Kd.R (Kd.int .i64) 3 wc w.heap.size (fun _ => True) (.slice Ao38 t469.length co38) t469) ∧ Aside0 (Below w.heap.size w wc))
       case first => as_aux_lemma =>
        have H := HC37.out
        clear HC37
        by_cases c39 : t483 = t463
        ·rw [if_pos c39] at H
         have c39b0 : (t483 == t463) = true := beq_iff_eq.mpr c39
         have c39b1 : (t483 != t463) = false := bne_eq_false_iff_eq.mpr c39
         clear c39
         (first | rw [c39b0] | (simp only [i64_w, i32_w]; rw [c39b0]) | skip)
         by_cases c40 : t484 = t464
         ·rw [if_pos c40] at H
          have c40b0 : (t484 == t464) = true := beq_iff_eq.mpr c40
          have c40b1 : (t484 != t464) = false := bne_eq_false_iff_eq.mpr c40
          clear c40
          replace H := Option.bind_eq_some_iff.mp H
          obtain ⟨t485, A410, H⟩ := H
          replace H : (if t485 = true then ((spec_IsLyndon.f kj8 t469).bind fun t486 => (if t486 = true then ((spec_IsBalanced.f kj8 t469).bind fun t487 => (if t487 = true then (if (t469.length : Int) > 1 then (if 1 ≤ (wrap64 ((t469.length : Int) - 1)) then (if (wrap64 ((t469.length : Int) - 1)) ≤ (t469.length : Int) then ((spec_IsPalindrome.f kj8 ((t469.take ((wrap64 ((t469.length : Int) - 1)) : Int).toNat).drop 1)).bind fun t492 => (if t492 = true then (if 0 < (t469.length : Int) then (laws_FnChristoffel.j1 kj8 l0 t463 t464 t469 ((rd t469 0) != 0)) else (none)) else (laws_FnChristoffel.j1 kj8 l0 t463 t464 t469 true))) else (none)) else (none)) else (laws_FnChristoffel.j1 kj8 l0 t463 t464 t469 false)) else (laws_FnChristoffel.j1 kj8 l0 t463 t464 t469 true))) else (laws_FnChristoffel.j1 kj8 l0 t463 t464 t469 true))) else (laws_FnChristoffel.j1 kj8 l0 t463 t464 t469 true)) = some r := H
          have A41 := Aside0.mk A410
          clear A410
          by_cases c42 : t485 = true
          ·subst c42
           have H1 : ((spec_IsLyndon.f kj8 t469).bind fun t486 => (if t486 = true then ((spec_IsBalanced.f kj8 t469).bind fun t487 => (if t487 = true then (if (t469.length : Int) > 1 then (if 1 ≤ (wrap64 ((t469.length : Int) - 1)) then (if (wrap64 ((t469.length : Int) - 1)) ≤ (t469.length : Int) then ((spec_IsPalindrome.f kj8 ((t469.take ((wrap64 ((t469.length : Int) - 1)) : Int).toNat).drop 1)).bind fun t492 => (if t492 = true then (if 0 < (t469.length : Int) then (laws_FnChristoffel.j1 kj8 l0 t463 t464 t469 ((rd t469 0) != 0)) else (none)) else (laws_FnChristoffel.j1 kj8 l0 t463 t464 t469 true))) else (none)) else (none)) else (laws_FnChristoffel.j1 kj8 l0 t463 t464 t469 false)) else (laws_FnChristoffel.j1 kj8 l0 t463 t464 t469 true))) else (laws_FnChristoffel.j1 kj8 l0 t463 t464 t469 true))) = some r := by rw [if_pos rfl] at H; exact H
           clear H
           have H := H1
           clear H1
           replace H := Option.bind_eq_some_iff.mp H
           obtain ⟨t486, A430, H⟩ := H
           replace H : (if t486 = true then ((spec_IsBalanced.f kj8 t469).bind fun t487 => (if t487 = true then (if (t469.length : Int) > 1 then (if 1 ≤ (wrap64 ((t469.length : Int) - 1)) then (if (wrap64 ((t469.length : Int) - 1)) ≤ (t469.length : Int) then ((spec_IsPalindrome.f kj8 ((t469.take ((wrap64 ((t469.length : Int) - 1)) : Int).toNat).drop 1)).bind fun t492 => (if t492 = true then (if 0 < (t469.length : Int) then (laws_FnChristoffel.j1 kj8 l0 t463 t464 t469 ((rd t469 0) != 0)) else (none)) else (laws_FnChristoffel.j1 kj8 l0 t463 t464 t469 true))) else (none)) else (none)) else (laws_FnChristoffel.j1 kj8 l0 t463 t464 t469 false)) else (laws_FnChristoffel.j1 kj8 l0 t463 t464 t469 true))) else (laws_FnChristoffel.j1 kj8 l0 t463 t464 t469 true)) = some r := H
           have A43 := Aside0.mk A430
           clear A430
           by_cases c44 : t486 = true
           ·subst c44
            have H1 : ((spec_IsBalanced.f kj8 t469).bind fun t487 => (if t487 = true then (if (t469.length : Int) > 1 then (if 1 ≤ (wrap64 ((t469.length : Int) - 1)) then (if (wrap64 ((t469.length : Int) - 1)) ≤ (t469.length : Int) then ((spec_IsPalindrome.f kj8 ((t469.take ((wrap64 ((t469.length : Int) - 1)) : Int).toNat).drop 1)).bind fun t492 => (if t492 = true then (if 0 < (t469.length : Int) then (laws_FnChristoffel.j1 kj8 l0 t463 t464 t469 ((rd t469 0) != 0)) else (none)) else (laws_FnChristoffel.j1 kj8 l0 t463 t464 t469 true))) else (none)) else (none)) else (laws_FnChristoffel.j1 kj8 l0 t463 t464 t469 false)) else (laws_FnChristoffel.j1 kj8 l0 t463 t464 t469 true))) = some r := by rw [if_pos rfl] at H; exact H
            clear H
            have H := H1
            clear H1
            replace H := Option.bind_eq_some_iff.mp H
            obtain ⟨t487, A450, H⟩ := H
            replace H : (if t487 = true then (if (t469.length : Int) > 1 then (if 1 ≤ (wrap64 ((t469.length : Int) - 1)) then (if (wrap64 ((t469.length : Int) - 1)) ≤ (t469.length : Int) then ((spec_IsPalindrome.f kj8 ((t469.take ((wrap64 ((t469.length : Int) - 1)) : Int).toNat).drop 1)).bind fun t492 => (if t492 = true then (if 0 < (t469.length : Int) then (laws_FnChristoffel.j1 kj8 l0 t463 t464 t469 ((rd t469 0) != 0)) else (none)) else (laws_FnChristoffel.j1 kj8 l0 t463 t464 t469 true))) else (none)) else (none)) else (laws_FnChristoffel.j1 kj8 l0 t463 t464 t469 false)) else (laws_FnChristoffel.j1 kj8 l0 t463 t464 t469 true)) = some r := H
            have A45 := Aside0.mk A450
            clear A450
            by_cases c46 : t487 = true
            ·subst c46
             have H1 : (if (t469.length : Int) > 1 then (if 1 ≤ (wrap64 ((t469.length : Int) - 1)) then (if (wrap64 ((t469.length : Int) - 1)) ≤ (t469.length : Int) then ((spec_IsPalindrome.f kj8 ((t469.take ((wrap64 ((t469.length : Int) - 1)) : Int).toNat).drop 1)).bind fun t492 => (if t492 = true then (if 0 < (t469.length : Int) then (laws_FnChristoffel.j1 kj8 l0 t463 t464 t469 ((rd t469 0) != 0)) else (none)) else (laws_FnChristoffel.j1 kj8 l0 t463 t464 t469 true))) else (none)) else (none)) else (laws_FnChristoffel.j1 kj8 l0 t463 t464 t469 false)) = some r := by rw [if_pos rfl] at H; exact H
             clear H
             have H := H1
             clear H1
             by_cases c47 : (t469.length : Int) > 1
             ·rw [if_pos c47] at H
              have c47b0 : decide (1 < (t469.length : Int)) = true := decide_eq_true c47
              have c47b1 : decide (1 < t469.length) = true := decide_eq_true (by omega)
              clear c47
              by_cases c48 : 1 ≤ (wrap64 ((t469.length : Int) - 1))
              ·rw [if_pos c48] at H
               have c48b0 := eq_true c48
               have c48b1 : decide (1 ≤ (wrap64 ((t469.length : Int) - 1))) = true := decide_eq_true c48
               clear c48
               by_cases c49 : (wrap64 ((t469.length : Int) - 1)) ≤ (t469.length : Int)
               ·rw [if_pos c49] at H
                have c49b0 := eq_true c49
                have c49b1 : decide ((wrap64 ((t469.length : Int) - 1)) ≤ (t469.length : Int)) = true := decide_eq_true c49
                clear c49
                obtain ⟨y488, hy488⟩ : ∃ y_ : List Int, y_ = ((t469.take ((wrap64 ((t469.length : Int) - 1)) : Int).toNat).drop 1) := ⟨_, rfl⟩
                replace H : ((spec_IsPalindrome.f kj8 y488).bind fun t492 => (if t492 = true then (if 0 < (t469.length : Int) then (laws_FnChristoffel.j1 kj8 l0 t463 t464 t469 ((rd t469 0) != 0)) else (none)) else (laws_FnChristoffel.j1 kj8 l0 t463 t464 t469 true))) = some r := by first | (rw [hy488]; with_reducible exact H) | (have H2_ := (Option.bind_some _ _).symm.trans H; rw [hy488]; with_reducible exact H2_) | (have H2_ := (Option.bind_some _ _).symm.trans H; with_reducible exact H2_) | with_reducible exact H | (rw [hy488]; exact H) | exact H
                have Ny488 := Aside0.mk hy488
                clear hy488
                replace H := Option.bind_eq_some_iff.mp H
                obtain ⟨t492, A500, H⟩ := H
                replace H : (if t492 = true then (if 0 < (t469.length : Int) then (laws_FnChristoffel.j1 kj8 l0 t463 t464 t469 ((rd t469 0) != 0)) else (none)) else (laws_FnChristoffel.j1 kj8 l0 t463 t464 t469 true)) = some r := H
                have A50 := Aside0.mk A500
                clear A500
                by_cases c51 : t492 = true
                ·subst c51
                 have H1 : (if 0 < (t469.length : Int) then (laws_FnChristoffel.j1 kj8 l0 t463 t464 t469 ((rd t469 0) != 0)) else (none)) = some r := by rw [if_pos rfl] at H; exact H
                 clear H
                 have H := H1
                 clear H1
                 by_cases c52 : 0 < (t469.length : Int)
                 ·rw [if_pos c52] at H
                  have c52b0 : decide (0 < (t469.length : Int)) = true := decide_eq_true c52
                  have c52b1 : decide (0 < t469.length) = true := decide_eq_true (by omega)
                  clear c52
                  as_aux_lemma =>
                   have H' := Aside0.mk H
                   clear H
                   go_wp2_with (first | (go_at_call 12; (with_reducible refine (impl_IsChristoffel.calls kj8 _ _ t469 true _ ?side1 ?side2 A41.out).mono ?_); (case side1 => repeat (first | exact (Kd.R_reads' HO_7.out).2.2 | (with_reducible refine Kd.C_alloc ?_ _) | (with_reducible refine Kd.C_drewN ?_ _) | (with_reducible refine Kd.C_drew ?_))); (case side2 => exact (Kd.R_reads' HO_7.out).2.1); rintro e w53 ⟨rfl, hb⟩; have n0_ := Aside0.mk (Kd.R_below (by (with_reducible repeat (first | apply Kd.R_alloc | apply Kd.R_drewN | apply Kd.R_drew)); exact HO_7.out) hb); have n1_ := Aside0.mk (below_step (by repeat (first | (with_reducible first | exact HB.out | apply below_alloc | apply pw_below_drewN | apply below_drew1) | exact HB.out)) hb); clear HO_7; clear HB; have HO_7 := n0_; have HB := n1_; clear n0_ n1_; (try clear hb); (try clear hb2); (try clear hk); (try clear hi)) | (go_at_call 13; (with_reducible refine (spec_IsLyndon.calls kj8 _ _ t469 true _ ?side1 ?side2 A43.out).mono ?_); (case side1 => repeat (first | exact (Kd.R_reads' HO_7.out).2.2 | (with_reducible refine Kd.C_alloc ?_ _) | (with_reducible refine Kd.C_drewN ?_ _) | (with_reducible refine Kd.C_drew ?_))); (case side2 => exact (Kd.R_reads' HO_7.out).2.1); rintro e w' ⟨rfl, ⟨nd, rfl⟩⟩) | (go_at_call 14; (with_reducible refine (spec_IsBalanced.calls kj8 _ _ t469 true _ ?side1 ?side2 A45.out).mono ?_); (case side1 => repeat (first | exact (Kd.R_reads' HO_7.out).2.2 | (with_reducible refine Kd.C_alloc ?_ _) | (with_reducible refine Kd.C_drewN ?_ _) | (with_reducible refine Kd.C_drew ?_))); (case side2 => exact (Kd.R_reads' HO_7.out).2.1); rintro e w54 ⟨rfl, hb⟩; have n0_ := Aside0.mk (Kd.R_below (by (with_reducible repeat (first | apply Kd.R_alloc | apply Kd.R_drewN | apply Kd.R_drew)); exact HO_7.out) hb); have n1_ := Aside0.mk (below_step (by repeat (first | (with_reducible first | exact HB.out | apply below_alloc | apply pw_below_drewN | apply below_drew1) | exact HB.out)) hb); clear HO_7; clear HB; have HO_7 := n0_; have HB := n1_; clear n0_ n1_; (try clear hb); (try clear hb2); (try clear hk); (try clear hi); have q55 : ((wrap64 ((t469.length : Int) - 1)) : Int) ≤ ((t469.length : Int) : Int) := of_decide_eq_true (by first | (with_reducible assumption) | assumption); obtain ⟨i055, hi055, _, hsz55, _⟩ := info_parts info3; have hroom55 : t469.length ≤ co38 := (Kd.R_reads' HO_7.out).2.1; have hC55 : Kd.C (Kd.int .i64) _ Ao38 t469.length t469 := (Kd.R_reads' HO_7.out).2.2; have ql55 : (1 : Int) ≤ ((wrap64 ((t469.length : Int) - 1)) : Int) := of_decide_eq_true (by first | (with_reducible assumption) | assumption); have hcut55 := cut_mid (P := Try.prog) 26 3 .i64 .i64 Try.underlying26 hi055 1 hsz55 Ao38 t469.length co38 1 (wrap64 ((t469.length : Int) - 1)) (by omega) ql55 q55 hroom55; have hr55 := Kd.C_mid (lo := (1 : Int).toNat) (hi := ((wrap64 ((t469.length : Int) - 1)) : Int).toNat) (c := co38) hC55 (by omega) (by omega) hroom55; obtain ⟨A55, hA55⟩ : ∃ A1, A1 = (if co38 = (1 : Int).toNat then Ao38 else (Ao38 : Option Addr).map (·.add ((1 : Int).toNat * 1))) := ⟨_, rfl⟩; obtain ⟨c55, hc55⟩ : ∃ c1, c1 = co38 - (1 : Int).toNat := ⟨_, rfl⟩; have hy55 : y488.length = ((wrap64 ((t469.length : Int) - 1)) : Int).toNat - (1 : Int).toNat := (by rw [Ny488.out, List.length_drop, List.length_take] <;> omega); rw [show ((t469).take ((wrap64 ((t469.length : Int) - 1)) : Int).toNat).drop (1 : Int).toNat = y488 from Ny488.out.symm] at hr55; replace hr55 : Kd.C (Kd.int .i64) _ A55 y488.length y488 := (by rw [hA55]; exact hr55); rw [← hy55, ← hA55, ← hc55] at hcut55; have HR491 := Aside0.mk hr55; have HC491 := Aside0.mk (show y488.length ≤ c55 from by rw [hy55, hc55]; exact Nat.sub_le_sub_right (Nat.le_trans (by omega) hroom55) _); clear hr55 hC55 hroom55 hi055 hsz55 hc55; have KY55 := Aside0.mk hy55; have KA55 := Aside0.mk hA55; clear hy55 hA55; have KL55 := Aside0.mk (show ((wrap64 ((t469.length : Int) - 1)) : Int).toNat ≤ t469.length from by omega); have KM55 := Aside0.mk (show 1 ≤ ((wrap64 ((t469.length : Int) - 1)) : Int).toNat from by omega); replace q55 := eq_true q55) | (go_at_call 15; (with_reducible refine (spec_IsPalindrome.calls kj8 _ _ y488 true _ ?side1 ?side2 A50.out).mono ?_); (case side1 => repeat (first | exact (by repeat (first | (with_reducible exact HR491.out) | (with_reducible refine Kd.C_alloc ?_ _) | (with_reducible refine Kd.C_drewN ?_ _) | (with_reducible refine Kd.C_drew ?_) | exact HR491.out)) | (with_reducible refine Kd.C_alloc ?_ _) | (with_reducible refine Kd.C_drewN ?_ _) | (with_reducible refine Kd.C_drew ?_))); (case side2 => exact HC491.out); rintro e w56 ⟨rfl, hb⟩; have n0_ := Aside0.mk (Kd.R_below (by (with_reducible repeat (first | apply Kd.R_alloc | apply Kd.R_drewN | apply Kd.R_drew)); exact HO_7.out) hb); have n1_ := Aside0.mk (Kd.C_below (by repeat (first | (with_reducible exact HR491.out) | (with_reducible refine Kd.C_alloc ?_ _) | (with_reducible refine Kd.C_drewN ?_ _) | (with_reducible refine Kd.C_drew ?_) | exact HR491.out)) hb); have n2_ := Aside0.mk (below_step (by repeat (first | (with_reducible first | exact HB.out | apply below_alloc | apply pw_below_drewN | apply below_drew1) | exact HB.out)) hb); clear HO_7; clear HR491; clear HB; have HO_7 := n0_; have HR491 := n1_; have HB := n2_; clear n0_ n1_ n2_; (try clear hb); (try clear hb2); (try clear hk); (try clear hi); have p493 : 0 ≤ (0 : Int) := (by omega); have q493 : 0 < (t469.length : Int) := of_decide_eq_true (by first | (with_reducible assumption) | assumption); obtain ⟨ad493, e493, hx493_0⟩ := Kd.at_int (Kd.R_reads' HO_7.out).2.2 0 p493 q493; cases e493; have qi493 : (0 < t469.length) = True := eq_true (by omega); (try rw [show ((0 : Int)).toNat = 0 from rfl] at hx493_0); (try rw [Addr.add_zero'] at hx493_0); replace p493 := eq_true p493; replace q493 := eq_true q493))
                   go_meet
                   case rel => exact ⟨_, (((rd t469 0) != 0)), (by first | rfl | (simp; done) | (simp [*]; done)), H', ⟨by have := HJ8.out; first | omega | exact Nat.le_refl _⟩, ⟨by (with_reducible repeat (first | apply Kd.R_alloc | apply Kd.R_drewN | apply Kd.R_drew)); exact HO_7.out⟩, ⟨by repeat (first | (with_reducible first | exact HB.out | apply below_alloc | apply pw_below_drewN | apply below_drew1) | exact HB.out)⟩⟩
                 ·rw [if_neg c52] at H
                  exact absurd H (by simp)
                ·replace c51 := Bool.eq_false_iff.mpr c51
                 subst c51
                 have H1 : (laws_FnChristoffel.j1 kj8 l0 t463 t464 t469 true) = some r := by rw [if_neg (show ¬ (false = true) by decide)] at H; exact H
                 clear H
                 have H := H1
                 clear H1
                 as_aux_lemma =>
                  have H' := Aside0.mk H
                  clear H
                  go_wp2_with (first | (go_at_call 12; (with_reducible refine (impl_IsChristoffel.calls kj8 _ _ t469 true _ ?side1 ?side2 A41.out).mono ?_); (case side1 => repeat (first | exact (Kd.R_reads' HO_7.out).2.2 | (with_reducible refine Kd.C_alloc ?_ _) | (with_reducible refine Kd.C_drewN ?_ _) | (with_reducible refine Kd.C_drew ?_))); (case side2 => exact (Kd.R_reads' HO_7.out).2.1); rintro e w57 ⟨rfl, hb⟩; have n0_ := Aside0.mk (Kd.R_below (by (with_reducible repeat (first | apply Kd.R_alloc | apply Kd.R_drewN | apply Kd.R_drew)); exact HO_7.out) hb); have n1_ := Aside0.mk (below_step (by repeat (first | (with_reducible first | exact HB.out | apply below_alloc | apply pw_below_drewN | apply below_drew1) | exact HB.out)) hb); clear HO_7; clear HB; have HO_7 := n0_; have HB := n1_; clear n0_ n1_; (try clear hb); (try clear hb2); (try clear hk); (try clear hi)) | (go_at_call 13; (with_reducible refine (spec_IsLyndon.calls kj8 _ _ t469 true _ ?side1 ?side2 A43.out).mono ?_); (case side1 => repeat (first | exact (Kd.R_reads' HO_7.out).2.2 | (with_reducible refine Kd.C_alloc ?_ _) | (with_reducible refine Kd.C_drewN ?_ _) | (with_reducible refine Kd.C_drew ?_))); (case side2 => exact (Kd.R_reads' HO_7.out).2.1); rintro e w' ⟨rfl, ⟨nd, rfl⟩⟩) | (go_at_call 14; (with_reducible refine (spec_IsBalanced.calls kj8 _ _ t469 true _ ?side1 ?side2 A45.out).mono ?_); (case side1 => repeat (first | exact (Kd.R_reads' HO_7.out).2.2 | (with_reducible refine Kd.C_alloc ?_ _) | (with_reducible refine Kd.C_drewN ?_ _) | (with_reducible refine Kd.C_drew ?_))); (case side2 => exact (Kd.R_reads' HO_7.out).2.1); rintro e w58 ⟨rfl, hb⟩; have n0_ := Aside0.mk (Kd.R_below (by (with_reducible repeat (first | apply Kd.R_alloc | apply Kd.R_drewN | apply Kd.R_drew)); exact HO_7.out) hb); have n1_ := Aside0.mk (below_step (by repeat (first | (with_reducible first | exact HB.out | apply below_alloc | apply pw_below_drewN | apply below_drew1) | exact HB.out)) hb); clear HO_7; clear HB; have HO_7 := n0_; have HB := n1_; clear n0_ n1_; (try clear hb); (try clear hb2); (try clear hk); (try clear hi); have q59 : ((wrap64 ((t469.length : Int) - 1)) : Int) ≤ ((t469.length : Int) : Int) := of_decide_eq_true (by first | (with_reducible assumption) | assumption); obtain ⟨i059, hi059, _, hsz59, _⟩ := info_parts info3; have hroom59 : t469.length ≤ co38 := (Kd.R_reads' HO_7.out).2.1; have hC59 : Kd.C (Kd.int .i64) _ Ao38 t469.length t469 := (Kd.R_reads' HO_7.out).2.2; have ql59 : (1 : Int) ≤ ((wrap64 ((t469.length : Int) - 1)) : Int) := of_decide_eq_true (by first | (with_reducible assumption) | assumption); have hcut59 := cut_mid (P := Try.prog) 26 3 .i64 .i64 Try.underlying26 hi059 1 hsz59 Ao38 t469.length co38 1 (wrap64 ((t469.length : Int) - 1)) (by omega) ql59 q59 hroom59; have hr59 := Kd.C_mid (lo := (1 : Int).toNat) (hi := ((wrap64 ((t469.length : Int) - 1)) : Int).toNat) (c := co38) hC59 (by omega) (by omega) hroom59; obtain ⟨A59, hA59⟩ : ∃ A1, A1 = (if co38 = (1 : Int).toNat then Ao38 else (Ao38 : Option Addr).map (·.add ((1 : Int).toNat * 1))) := ⟨_, rfl⟩; obtain ⟨c59, hc59⟩ : ∃ c1, c1 = co38 - (1 : Int).toNat := ⟨_, rfl⟩; have hy59 : y488.length = ((wrap64 ((t469.length : Int) - 1)) : Int).toNat - (1 : Int).toNat := (by rw [Ny488.out, List.length_drop, List.length_take] <;> omega); rw [show ((t469).take ((wrap64 ((t469.length : Int) - 1)) : Int).toNat).drop (1 : Int).toNat = y488 from Ny488.out.symm] at hr59; replace hr59 : Kd.C (Kd.int .i64) _ A59 y488.length y488 := (by rw [hA59]; exact hr59); rw [← hy59, ← hA59, ← hc59] at hcut59; have HR491 := Aside0.mk hr59; have HC491 := Aside0.mk (show y488.length ≤ c59 from by rw [hy59, hc59]; exact Nat.sub_le_sub_right (Nat.le_trans (by omega) hroom59) _); clear hr59 hC59 hroom59 hi059 hsz59 hc59; have KY59 := Aside0.mk hy59; have KA59 := Aside0.mk hA59; clear hy59 hA59; have KL59 := Aside0.mk (show ((wrap64 ((t469.length : Int) - 1)) : Int).toNat ≤ t469.length from by omega); have KM59 := Aside0.mk (show 1 ≤ ((wrap64 ((t469.length : Int) - 1)) : Int).toNat from by omega); replace q59 := eq_true q59) | (go_at_call 15; (with_reducible refine (spec_IsPalindrome.calls kj8 _ _ y488 false _ ?side1 ?side2 A50.out).mono ?_); (case side1 => repeat (first | exact (by repeat (first | (with_reducible exact HR491.out) | (with_reducible refine Kd.C_alloc ?_ _) | (with_reducible refine Kd.C_drewN ?_ _) | (with_reducible refine Kd.C_drew ?_) | exact HR491.out)) | (with_reducible refine Kd.C_alloc ?_ _) | (with_reducible refine Kd.C_drewN ?_ _) | (with_reducible refine Kd.C_drew ?_))); (case side2 => exact HC491.out); rintro e w60 ⟨rfl, hb⟩; have n0_ := Aside0.mk (Kd.R_below (by (with_reducible repeat (first | apply Kd.R_alloc | apply Kd.R_drewN | apply Kd.R_drew)); exact HO_7.out) hb); have n1_ := Aside0.mk (Kd.C_below (by repeat (first | (with_reducible exact HR491.out) | (with_reducible refine Kd.C_alloc ?_ _) | (with_reducible refine Kd.C_drewN ?_ _) | (with_reducible refine Kd.C_drew ?_) | exact HR491.out)) hb); have n2_ := Aside0.mk (below_step (by repeat (first | (with_reducible first | exact HB.out | apply below_alloc | apply pw_below_drewN | apply below_drew1) | exact HB.out)) hb); clear HO_7; clear HR491; clear HB; have HO_7 := n0_; have HR491 := n1_; have HB := n2_; clear n0_ n1_ n2_; (try clear hb); (try clear hb2); (try clear hk); (try clear hi)))
                  go_meet
                  case rel => exact ⟨_, (true), (by first | rfl | (simp; done) | (simp [*]; done)), H', ⟨by have := HJ8.out; first | omega | exact Nat.le_refl _⟩, ⟨by (with_reducible repeat (first | apply Kd.R_alloc | apply Kd.R_drewN | apply Kd.R_drew)); exact HO_7.out⟩, ⟨by repeat (first | (with_reducible first | exact HB.out | apply below_alloc | apply pw_below_drewN | apply below_drew1) | exact HB.out)⟩⟩
               ·rw [if_neg c49] at H
                exact absurd H (by simp)
              ·rw [if_neg c48] at H
               exact absurd H (by simp)
             ·rw [if_neg c47] at H
              have c47b0 : decide (1 < (t469.length : Int)) = false := decide_eq_false c47
              have c47b1 : decide (1 < t469.length) = false := decide_eq_false (by omega)
              clear c47
              as_aux_lemma =>
               have H' := Aside0.mk H
               clear H
               go_wp2_with (first | (go_at_call 12; (with_reducible refine (impl_IsChristoffel.calls kj8 _ _ t469 true _ ?side1 ?side2 A41.out).mono ?_); (case side1 => repeat (first | exact (Kd.R_reads' HO_7.out).2.2 | (with_reducible refine Kd.C_alloc ?_ _) | (with_reducible refine Kd.C_drewN ?_ _) | (with_reducible refine Kd.C_drew ?_))); (case side2 => exact (Kd.R_reads' HO_7.out).2.1); rintro e w61 ⟨rfl, hb⟩; have n0_ := Aside0.mk (Kd.R_below (by (with_reducible repeat (first | apply Kd.R_alloc | apply Kd.R_drewN | apply Kd.R_drew)); exact HO_7.out) hb); have n1_ := Aside0.mk (below_step (by repeat (first | (with_reducible first | exact HB.out | apply below_alloc | apply pw_below_drewN | apply below_drew1) | exact HB.out)) hb); clear HO_7; clear HB; have HO_7 := n0_; have HB := n1_; clear n0_ n1_; (try clear hb); (try clear hb2); (try clear hk); (try clear hi)) | (go_at_call 13; (with_reducible refine (spec_IsLyndon.calls kj8 _ _ t469 true _ ?side1 ?side2 A43.out).mono ?_); (case side1 => repeat (first | exact (Kd.R_reads' HO_7.out).2.2 | (with_reducible refine Kd.C_alloc ?_ _) | (with_reducible refine Kd.C_drewN ?_ _) | (with_reducible refine Kd.C_drew ?_))); (case side2 => exact (Kd.R_reads' HO_7.out).2.1); rintro e w' ⟨rfl, ⟨nd, rfl⟩⟩) | (go_at_call 14; (with_reducible refine (spec_IsBalanced.calls kj8 _ _ t469 true _ ?side1 ?side2 A45.out).mono ?_); (case side1 => repeat (first | exact (Kd.R_reads' HO_7.out).2.2 | (with_reducible refine Kd.C_alloc ?_ _) | (with_reducible refine Kd.C_drewN ?_ _) | (with_reducible refine Kd.C_drew ?_))); (case side2 => exact (Kd.R_reads' HO_7.out).2.1); rintro e w62 ⟨rfl, hb⟩; have n0_ := Aside0.mk (Kd.R_below (by (with_reducible repeat (first | apply Kd.R_alloc | apply Kd.R_drewN | apply Kd.R_drew)); exact HO_7.out) hb); have n1_ := Aside0.mk (below_step (by repeat (first | (with_reducible first | exact HB.out | apply below_alloc | apply pw_below_drewN | apply below_drew1) | exact HB.out)) hb); clear HO_7; clear HB; have HO_7 := n0_; have HB := n1_; clear n0_ n1_; (try clear hb); (try clear hb2); (try clear hk); (try clear hi)))
               go_meet
               case rel => exact ⟨_, (false), (by first | rfl | (simp; done) | (simp [*]; done)), H', ⟨by have := HJ8.out; first | omega | exact Nat.le_refl _⟩, ⟨by (with_reducible repeat (first | apply Kd.R_alloc | apply Kd.R_drewN | apply Kd.R_drew)); exact HO_7.out⟩, ⟨by repeat (first | (with_reducible first | exact HB.out | apply below_alloc | apply pw_below_drewN | apply below_drew1) | exact HB.out)⟩⟩
            ·replace c46 := Bool.eq_false_iff.mpr c46
             subst c46
             have H1 : (laws_FnChristoffel.j1 kj8 l0 t463 t464 t469 true) = some r := by rw [if_neg (show ¬ (false = true) by decide)] at H; exact H
             clear H
             have H := H1
             clear H1
             as_aux_lemma =>
              have H' := Aside0.mk H
              clear H
              go_wp2_with (first | (go_at_call 12; (with_reducible refine (impl_IsChristoffel.calls kj8 _ _ t469 true _ ?side1 ?side2 A41.out).mono ?_); (case side1 => repeat (first | exact (Kd.R_reads' HO_7.out).2.2 | (with_reducible refine Kd.C_alloc ?_ _) | (with_reducible refine Kd.C_drewN ?_ _) | (with_reducible refine Kd.C_drew ?_))); (case side2 => exact (Kd.R_reads' HO_7.out).2.1); rintro e w63 ⟨rfl, hb⟩; have n0_ := Aside0.mk (Kd.R_below (by (with_reducible repeat (first | apply Kd.R_alloc | apply Kd.R_drewN | apply Kd.R_drew)); exact HO_7.out) hb); have n1_ := Aside0.mk (below_step (by repeat (first | (with_reducible first | exact HB.out | apply below_alloc | apply pw_below_drewN | apply below_drew1) | exact HB.out)) hb); clear HO_7; clear HB; have HO_7 := n0_; have HB := n1_; clear n0_ n1_; (try clear hb); (try clear hb2); (try clear hk); (try clear hi)) | (go_at_call 13; (with_reducible refine (spec_IsLyndon.calls kj8 _ _ t469 true _ ?side1 ?side2 A43.out).mono ?_); (case side1 => repeat (first | exact (Kd.R_reads' HO_7.out).2.2 | (with_reducible refine Kd.C_alloc ?_ _) | (with_reducible refine Kd.C_drewN ?_ _) | (with_reducible refine Kd.C_drew ?_))); (case side2 => exact (Kd.R_reads' HO_7.out).2.1); rintro e w' ⟨rfl, ⟨nd, rfl⟩⟩) | (go_at_call 14; (with_reducible refine (spec_IsBalanced.calls kj8 _ _ t469 false _ ?side1 ?side2 A45.out).mono ?_); (case side1 => repeat (first | exact (Kd.R_reads' HO_7.out).2.2 | (with_reducible refine Kd.C_alloc ?_ _) | (with_reducible refine Kd.C_drewN ?_ _) | (with_reducible refine Kd.C_drew ?_))); (case side2 => exact (Kd.R_reads' HO_7.out).2.1); rintro e w64 ⟨rfl, hb⟩; have n0_ := Aside0.mk (Kd.R_below (by (with_reducible repeat (first | apply Kd.R_alloc | apply Kd.R_drewN | apply Kd.R_drew)); exact HO_7.out) hb); have n1_ := Aside0.mk (below_step (by repeat (first | (with_reducible first | exact HB.out | apply below_alloc | apply pw_below_drewN | apply below_drew1) | exact HB.out)) hb); clear HO_7; clear HB; have HO_7 := n0_; have HB := n1_; clear n0_ n1_; (try clear hb); (try clear hb2); (try clear hk); (try clear hi)))
              go_meet
              case rel => exact ⟨_, (true), (by first | rfl | (simp; done) | (simp [*]; done)), H', ⟨by have := HJ8.out; first | omega | exact Nat.le_refl _⟩, ⟨by (with_reducible repeat (first | apply Kd.R_alloc | apply Kd.R_drewN | apply Kd.R_drew)); exact HO_7.out⟩, ⟨by repeat (first | (with_reducible first | exact HB.out | apply below_alloc | apply pw_below_drewN | apply below_drew1) | exact HB.out)⟩⟩
           ·replace c44 := Bool.eq_false_iff.mpr c44
            subst c44
            have H1 : (laws_FnChristoffel.j1 kj8 l0 t463 t464 t469 true) = some r := by rw [if_neg (show ¬ (false = true) by decide)] at H; exact H
            clear H
            have H := H1
            clear H1
            as_aux_lemma =>
             have H' := Aside0.mk H
             clear H
             go_wp2_with (first | (go_at_call 12; (with_reducible refine (impl_IsChristoffel.calls kj8 _ _ t469 true _ ?side1 ?side2 A41.out).mono ?_); (case side1 => repeat (first | exact (Kd.R_reads' HO_7.out).2.2 | (with_reducible refine Kd.C_alloc ?_ _) | (with_reducible refine Kd.C_drewN ?_ _) | (with_reducible refine Kd.C_drew ?_))); (case side2 => exact (Kd.R_reads' HO_7.out).2.1); rintro e w65 ⟨rfl, hb⟩; have n0_ := Aside0.mk (Kd.R_below (by (with_reducible repeat (first | apply Kd.R_alloc | apply Kd.R_drewN | apply Kd.R_drew)); exact HO_7.out) hb); have n1_ := Aside0.mk (below_step (by repeat (first | (with_reducible first | exact HB.out | apply below_alloc | apply pw_below_drewN | apply below_drew1) | exact HB.out)) hb); clear HO_7; clear HB; have HO_7 := n0_; have HB := n1_; clear n0_ n1_; (try clear hb); (try clear hb2); (try clear hk); (try clear hi)) | (go_at_call 13; (with_reducible refine (spec_IsLyndon.calls kj8 _ _ t469 false _ ?side1 ?side2 A43.out).mono ?_); (case side1 => repeat (first | exact (Kd.R_reads' HO_7.out).2.2 | (with_reducible refine Kd.C_alloc ?_ _) | (with_reducible refine Kd.C_drewN ?_ _) | (with_reducible refine Kd.C_drew ?_))); (case side2 => exact (Kd.R_reads' HO_7.out).2.1); rintro e w' ⟨rfl, ⟨nd, rfl⟩⟩))
             go_meet
             case rel => exact ⟨_, (true), (by first | rfl | (simp; done) | (simp [*]; done)), H', ⟨by have := HJ8.out; first | omega | exact Nat.le_refl _⟩, ⟨by (with_reducible repeat (first | apply Kd.R_alloc | apply Kd.R_drewN | apply Kd.R_drew)); exact HO_7.out⟩, ⟨by repeat (first | (with_reducible first | exact HB.out | apply below_alloc | apply pw_below_drewN | apply below_drew1) | exact HB.out)⟩⟩
          ·replace c42 := Bool.eq_false_iff.mpr c42
           subst c42
           have H1 : (laws_FnChristoffel.j1 kj8 l0 t463 t464 t469 true) = some r := by rw [if_neg (show ¬ (false = true) by decide)] at H; exact H
           clear H
           have H := H1
           clear H1
           as_aux_lemma =>
            have H' := Aside0.mk H
            clear H
            go_wp2_with (first | (go_at_call 12; (with_reducible refine (impl_IsChristoffel.calls kj8 _ _ t469 false _ ?side1 ?side2 A41.out).mono ?_); (case side1 => repeat (first | exact (Kd.R_reads' HO_7.out).2.2 | (with_reducible refine Kd.C_alloc ?_ _) | (with_reducible refine Kd.C_drewN ?_ _) | (with_reducible refine Kd.C_drew ?_))); (case side2 => exact (Kd.R_reads' HO_7.out).2.1); rintro e w66 ⟨rfl, hb⟩; have n0_ := Aside0.mk (Kd.R_below (by (with_reducible repeat (first | apply Kd.R_alloc | apply Kd.R_drewN | apply Kd.R_drew)); exact HO_7.out) hb); have n1_ := Aside0.mk (below_step (by repeat (first | (with_reducible first | exact HB.out | apply below_alloc | apply pw_below_drewN | apply below_drew1) | exact HB.out)) hb); clear HO_7; clear HB; have HO_7 := n0_; have HB := n1_; clear n0_ n1_; (try clear hb); (try clear hb2); (try clear hk); (try clear hi)))
            go_meet
            case rel => exact ⟨_, (true), (by first | rfl | (simp; done) | (simp [*]; done)), H', ⟨by have := HJ8.out; first | omega | exact Nat.le_refl _⟩, ⟨by (with_reducible repeat (first | apply Kd.R_alloc | apply Kd.R_drewN | apply Kd.R_drew)); exact HO_7.out⟩, ⟨by repeat (first | (with_reducible first | exact HB.out | apply below_alloc | apply pw_below_drewN | apply below_drew1) | exact HB.out)⟩⟩
         ·rw [if_neg c40] at H
          have c40b0 : (t484 == t464) = false := beq_eq_false_iff_ne.mpr c40
          have c40b1 : (t484 != t464) = true := bne_iff_ne.mpr c40
          as_aux_lemma =>
           have H' := Aside0.mk H
           clear H
           go_wp2
           go_meet
           case rel => exact ⟨_, (true), (by first | rfl | (simp; done) | (simp [*]; done)), H', ⟨by have := HJ8.out; first | omega | exact Nat.le_refl _⟩, ⟨by (with_reducible repeat (first | apply Kd.R_alloc | apply Kd.R_drewN | apply Kd.R_drew)); exact HO_7.out⟩, ⟨by repeat (first | (with_reducible first | exact HB.out | apply below_alloc | apply pw_below_drewN | apply below_drew1) | exact HB.out)⟩⟩
        ·rw [if_neg c39] at H
         have c39b0 : (t483 == t463) = false := beq_eq_false_iff_ne.mpr c39
         have c39b1 : (t483 != t463) = true := bne_iff_ne.mpr c39
         (first | rw [c39b0] | (simp only [i64_w, i32_w]; rw [c39b0]) | skip)
         as_aux_lemma =>
          have H' := Aside0.mk H
          clear H
          go_wp2
          go_meet
          case rel => exact ⟨_, (true), (by first | rfl | (simp; done) | (simp [*]; done)), H', ⟨by have := HJ8.out; first | omega | exact Nat.le_refl _⟩, ⟨by (with_reducible repeat (first | apply Kd.R_alloc | apply Kd.R_drewN | apply Kd.R_drew)); exact HO_7.out⟩, ⟨by repeat (first | (with_reducible first | exact HB.out | apply below_alloc | apply pw_below_drewN | apply below_drew1) | exact HB.out)⟩⟩
       case rest => as_aux_lemma =>
        clear HC37
        try clear c1
        try clear c2
        try clear p2
        try clear c3
        try clear c4
        try clear p4
        try clear q4
        try clear hx4
        try clear qi4
        try clear c5
        try clear q5
        try clear c6
        try clear p6
        try clear c7
        try clear c8
        try clear c9
        try clear c11
        try clear c15
        try clear c15b0
        try clear c15b1
        try clear c15b2
        try clear c17
        try clear c18
        try clear c18b0
        try clear c18b1
        try clear c18b2
        try clear c22
        try clear c33
        try clear c35
        try clear c39
        try clear c39b0
        try clear c39b1
        try clear c40
        try clear c40b0
        try clear c40b1
        try clear c42
        try clear c44
        try clear c46
        try clear c47
        try clear c47b0
        try clear c47b1
        try clear c48
        try clear c48b0
        try clear c48b1
        try clear c49
        try clear c49b0
        try clear c49b1
        try clear p49
        try clear q49
        try clear hx49
        try clear qi49
        try clear c51
        try clear c52
        try clear c52b0
        try clear c52b1
        try clear c55
        try clear q55
        try clear c59
        try clear q59
        try clear p64
        try clear hx493_0
        try clear p2
        try clear p493
        try clear q493
        try clear q55
        try clear q59
        obtain ⟨kq, x134_36, rfl, HA, HJ36, HO_7, HB⟩ := hcut
        cases kq with
        | zero => exact absurd HA.out (by simp [laws_FnChristoffel.j1])
        | succ kj36 =>
         have H := HA.out
         clear HA
         simp only [laws_FnChristoffel.j1] at H
         by_cases c67 : x134_36 = true
         ·subst c67
          have H1 : (some false) = some r := by rw [if_pos rfl] at H; exact H
          clear H
          have H := H1
          clear H1
          as_aux_lemma =>
           obtain rfl := Option.some.inj H
           go_wp2
           go_ret
           exact ⟨by first | rfl | (simp [errW_none, errW_some] <;> rfl) | (simp [*, errW_none, errW_some] <;> rfl), by repeat (first | (with_reducible first | exact HB.out | apply below_alloc | apply pw_below_drewN | apply below_drew1) | exact HB.out)⟩
         ·replace c67 := Bool.eq_false_iff.mpr c67
          subst c67
          have H1 : ((impl_ChristoffelSplit.f kj36 t463 t464).bind fun bt494 => (if (bt494.2.2 != (decide ((t469.length : Int) > 1))) = true then (some false) else (if bt494.2.2 = true then ((some (([] : List Int) : List Int)).bind fun y501 => (if y501.length + bt494.1.length < 17592186044416 then ((some (y501 ++ bt494.1 : List Int)).bind fun y504 => (if y504.length + bt494.2.1.length < 17592186044416 then ((laws_sameInts.f kj36 (y504 ++ bt494.2.1) t469).bind fun t510 => (if t510 = true then (laws_FnChristoffel.j2 kj36 l0) else (some false))) else (none))) else (none))) else (laws_FnChristoffel.j2 kj36 l0)))) = some r := by rw [if_neg (show ¬ (false = true) by decide)] at H; exact H
          clear H
          have H := H1
          clear H1
          replace H := Option.bind_eq_some_iff.mp H
          obtain ⟨⟨t494, t495, t496⟩, A680, H⟩ := H
          replace H : (if (t496 != (decide ((t469.length : Int) > 1))) = true then (some false) else (if t496 = true then ((some (([] : List Int) : List Int)).bind fun y501 => (if y501.length + t494.length < 17592186044416 then ((some (y501 ++ t494 : List Int)).bind fun y504 => (if y504.length + t495.length < 17592186044416 then ((laws_sameInts.f kj36 (y504 ++ t495) t469).bind fun t510 => (if t510 = true then (laws_FnChristoffel.j2 kj36 l0) else (some false))) else (none))) else (none))) else (laws_FnChristoffel.j2 kj36 l0))) = some r := H
          have A68 := Aside0.mk A680
          clear A680
          by_cases c69 : (t496 != (decide ((t469.length : Int) > 1))) = true
          ·rw [if_pos c69] at H
           have c69b0 : (t496 != (decide ((t469.length : Int) > 1))) = true := c69
           (try (have c69b1 : decide (t496 = (decide ((t469.length : Int) > 1))) = false := by simpa using c69))
           (try (have c69b2 : (t496 == (decide ((t469.length : Int) > 1))) = false := by simpa using c69))
           (try (have c69b3 : ¬ (t496 = (decide ((t469.length : Int) > 1))) := by simpa using c69))
           clear c69
           as_aux_lemma =>
            obtain rfl := Option.some.inj H
            go_wp2_with (first | ((with_reducible refine gate_callee (f := 16) rfl ?_); refine goesL_ (some 138) rfl rfl Try.func16 (by kernel_rfl) rfl #[.int .i64 t463, .int .i64 t464] rfl (by (try simp only [List.map_toArray, List.map_cons, List.map_nil]); first | done | rfl | (simp only [List.length_drop, List.length_take]; rfl)) ?_; (with_reducible refine (impl_ChristoffelSplit.calls kj36 t463 t464 t494 t495 t496 _ A68.out).mono ?_); rintro e w70 ⟨v497, v499, rfl, ho0, ho1, hb⟩; refine ⟨_, rfl, ?_⟩; have n0_ := Aside0.mk (Kd.R_mono (Kd.R_told (Kd.R_told (Kd.R_old (by (with_reducible repeat (first | apply Kd.R_alloc | apply Kd.R_drewN | apply Kd.R_drew)); exact HO_7.out) hb) (Kd.R_base ho0)) (Kd.R_base ho1)) (fun _ h_ => h_.1)); have n1_ := Aside0.mk (Kd.R_lower (Kd.R_new' ho0 (Kd.R_lt (by (with_reducible repeat (first | apply Kd.R_alloc | apply Kd.R_drewN | apply Kd.R_drew)); exact HO_7.out))) (below_size (by repeat (first | (with_reducible first | exact HB.out | apply below_alloc | apply pw_below_drewN | apply below_drew1) | exact HB.out)))); have n2_ := Aside0.mk (Kd.R_lower (Kd.R_new' ho1 (Kd.R_lt (by (with_reducible repeat (first | apply Kd.R_alloc | apply Kd.R_drewN | apply Kd.R_drew)); exact HO_7.out))) (below_size (by repeat (first | (with_reducible first | exact HB.out | apply below_alloc | apply pw_below_drewN | apply below_drew1) | exact HB.out)))); have n3_ := Aside0.mk (below_step (by repeat (first | (with_reducible first | exact HB.out | apply below_alloc | apply pw_below_drewN | apply below_drew1) | exact HB.out)) hb); clear HO_7; clear HB; have HO_7 := n0_; have HO498 := n1_; have HO500 := n2_; have HB := n3_; clear n0_ n1_ n2_ n3_; (try clear hb); (try clear hb2); (try clear hk); (try clear hi); (try clear ho0); (try clear ho1)))
            go_ret
            exact ⟨by first | rfl | (simp [errW_none, errW_some] <;> rfl) | (simp [*, errW_none, errW_some] <;> rfl), by repeat (first | (with_reducible first | exact HB.out | apply below_alloc | apply pw_below_drewN | apply below_drew1) | exact HB.out)⟩
          ·rw [if_neg c69] at H
           have c69b0 : (t496 != (decide ((t469.length : Int) > 1))) = false := by simpa using c69
           (try (have c69b1 : decide (t496 = (decide ((t469.length : Int) > 1))) = true := by simpa using c69))
           (try (have c69b2 : (t496 == (decide ((t469.length : Int) > 1))) = true := by simpa using c69))
           clear c69
           by_cases c71 : t496 = true
           ·subst c71
            have H1 : ((some (([] : List Int) : List Int)).bind fun y501 => (if y501.length + t494.length < 17592186044416 then ((some (y501 ++ t494 : List Int)).bind fun y504 => (if y504.length + t495.length < 17592186044416 then ((laws_sameInts.f kj36 (y504 ++ t495) t469).bind fun t510 => (if t510 = true then (laws_FnChristoffel.j2 kj36 l0) else (some false))) else (none))) else (none))) = some r := by rw [if_pos rfl] at H; exact H
            clear H
            have H := H1
            clear H1
            obtain ⟨y501, hy501⟩ : ∃ y_ : List Int, y_ = (([] : List Int)) := ⟨_, rfl⟩
            replace H : (if y501.length + t494.length < 17592186044416 then ((some (y501 ++ t494 : List Int)).bind fun y504 => (if y504.length + t495.length < 17592186044416 then ((laws_sameInts.f kj36 (y504 ++ t495) t469).bind fun t510 => (if t510 = true then (laws_FnChristoffel.j2 kj36 l0) else (some false))) else (none))) else (none)) = some r := by first | (rw [hy501]; with_reducible exact H) | (have H2_ := (Option.bind_some _ _).symm.trans H; rw [hy501]; with_reducible exact H2_) | (have H2_ := (Option.bind_some _ _).symm.trans H; with_reducible exact H2_) | with_reducible exact H | (rw [hy501]; exact H) | exact H
            have Ny501 := Aside0.mk hy501
            clear hy501
            by_cases c72 : y501.length + t494.length < 17592186044416
            ·rw [if_pos c72] at H
             have LMc72 := Aside0.mk c72
             clear c72
             obtain ⟨y504, hy504⟩ : ∃ y_ : List Int, y_ = (y501 ++ t494) := ⟨_, rfl⟩
             replace H : (if y504.length + t495.length < 17592186044416 then ((laws_sameInts.f kj36 (y504 ++ t495) t469).bind fun t510 => (if t510 = true then (laws_FnChristoffel.j2 kj36 l0) else (some false))) else (none)) = some r := by first | (rw [hy504]; with_reducible exact H) | (have H2_ := (Option.bind_some _ _).symm.trans H; rw [hy504]; with_reducible exact H2_) | (have H2_ := (Option.bind_some _ _).symm.trans H; with_reducible exact H2_) | with_reducible exact H | (rw [hy504]; exact H) | exact H
             have Ny504 := Aside0.mk hy504
             clear hy504
             by_cases c73 : y504.length + t495.length < 17592186044416
             ·rw [if_pos c73] at H
              have LMc73 := Aside0.mk c73
              clear c73
              obtain ⟨y507, hy507⟩ : ∃ y_ : List Int, y_ = (y504 ++ t495) := ⟨_, rfl⟩
              replace H : ((laws_sameInts.f kj36 y507 t469).bind fun t510 => (if t510 = true then (laws_FnChristoffel.j2 kj36 l0) else (some false))) = some r := by first | (rw [hy507]; with_reducible exact H) | (have H2_ := (Option.bind_some _ _).symm.trans H; rw [hy507]; with_reducible exact H2_) | (have H2_ := (Option.bind_some _ _).symm.trans H; with_reducible exact H2_) | with_reducible exact H | (rw [hy507]; exact H) | exact H
              have Ny507 := Aside0.mk hy507
              clear hy507
              replace H := Option.bind_eq_some_iff.mp H
              obtain ⟨t510, A740, H⟩ := H
              replace H : (if t510 = true then (laws_FnChristoffel.j2 kj36 l0) else (some false)) = some r := H
              have A74 := Aside0.mk A740
              clear A740
              by_cases c75 : t510 = true
              ·subst c75
               have H1 : (laws_FnChristoffel.j2 kj36 l0) = some r := by rw [if_pos rfl] at H; exact H
               clear H
               have H := H1
               clear H1
               as_aux_lemma =>
                have H' := Aside0.mk H
                clear H
                go_wp2_with (first | ((with_reducible refine gate_callee (f := 16) rfl ?_); refine goesL_ (some 138) rfl rfl Try.func16 (by kernel_rfl) rfl #[.int .i64 t463, .int .i64 t464] rfl (by (try simp only [List.map_toArray, List.map_cons, List.map_nil]); first | done | rfl | (simp only [List.length_drop, List.length_take]; rfl)) ?_; (with_reducible refine (impl_ChristoffelSplit.calls kj36 t463 t464 t494 t495 true _ A68.out).mono ?_); rintro e w76 ⟨v497, v499, rfl, ho0, ho1, hb⟩; refine ⟨_, rfl, ?_⟩; have n0_ := Aside0.mk (Kd.R_mono (Kd.R_told (Kd.R_told (Kd.R_old (by (with_reducible repeat (first | apply Kd.R_alloc | apply Kd.R_drewN | apply Kd.R_drew)); exact HO_7.out) hb) (Kd.R_base ho0)) (Kd.R_base ho1)) (fun _ h_ => h_.1)); have n1_ := Aside0.mk (Kd.R_lower (Kd.R_new' ho0 (Kd.R_lt (by (with_reducible repeat (first | apply Kd.R_alloc | apply Kd.R_drewN | apply Kd.R_drew)); exact HO_7.out))) (below_size (by repeat (first | (with_reducible first | exact HB.out | apply below_alloc | apply pw_below_drewN | apply below_drew1) | exact HB.out)))); have n2_ := Aside0.mk (Kd.R_lower (Kd.R_new' ho1 (Kd.R_lt (by (with_reducible repeat (first | apply Kd.R_alloc | apply Kd.R_drewN | apply Kd.R_drew)); exact HO_7.out))) (below_size (by repeat (first | (with_reducible first | exact HB.out | apply below_alloc | apply pw_below_drewN | apply below_drew1) | exact HB.out)))); have n3_ := Aside0.mk (below_step (by repeat (first | (with_reducible first | exact HB.out | apply below_alloc | apply pw_below_drewN | apply below_drew1) | exact HB.out)) hb); clear HO_7; clear HB; have HO_7 := n0_; have HO498 := n1_; have HO500 := n2_; have HB := n3_; clear n0_ n1_ n2_ n3_; (try clear hb); (try clear hb2); (try clear hk); (try clear hi); (try clear ho0); (try clear ho1)) | ((with_reducible refine gate_dst (N := 150) rfl ?_); (try (refine gate_guard (by rfl) ?_; dsimp only)); refine Kd.R_lit (Kd.int .i64) _ 3 ?hg (N := 150) ?hd (xs := ([] : List Int)) (inner := []) (ok := fun _ => True) (okp := fun _ => True) ?hr ?hp (fun _ hk => hk) trivial (Below.refl _ _) (Nat.le_refl _) (by simp) ?_; (case hd => rfl); (case hg => rfl); (case hr => first | (go_simp; done) | (go_simp; rfl)); (case hp => exact (Reps.none _ _)); intro v502 w77 ho78 hb hg_ hnew_; clear hg_ hnew_; (first | rw [← Ny501.out] at ho78 | (simp only [Int.reduceToNat] at ho78; rw [← Ny501.out] at ho78)); have n0_ := Aside0.mk (Kd.R_elder' (by (with_reducible repeat (first | apply Kd.R_alloc | apply Kd.R_drewN | apply Kd.R_drew)); exact HO_7.out) (Kd.R_base ho78) hb); have n1_ := Aside0.mk (Kd.R_elder' (by (with_reducible repeat (first | apply Kd.R_alloc | apply Kd.R_drewN | apply Kd.R_drew)); exact HO498.out) (Kd.R_base ho78) hb); have n2_ := Aside0.mk (Kd.R_elder' (by (with_reducible repeat (first | apply Kd.R_alloc | apply Kd.R_drewN | apply Kd.R_drew)); exact HO500.out) (Kd.R_base ho78) hb); have n3_ := Aside0.mk (Kd.R_lower (Kd.R_new' (Kd.R_new' (Kd.R_new' ho78 (Kd.R_lt (by (with_reducible repeat (first | apply Kd.R_alloc | apply Kd.R_drewN | apply Kd.R_drew)); exact HO_7.out))) (Kd.R_lt (by (with_reducible repeat (first | apply Kd.R_alloc | apply Kd.R_drewN | apply Kd.R_drew)); exact HO498.out))) (Kd.R_lt (by (with_reducible repeat (first | apply Kd.R_alloc | apply Kd.R_drewN | apply Kd.R_drew)); exact HO500.out))) (below_size (by repeat (first | (with_reducible first | exact HB.out | apply below_alloc | apply pw_below_drewN | apply below_drew1) | exact HB.out)))); have n4_ := Aside0.mk (below_step (by repeat (first | (with_reducible first | exact HB.out | apply below_alloc | apply pw_below_drewN | apply below_drew1) | exact HB.out)) hb); clear HO_7; clear HO498; clear HO500; clear HB; have HO_7 := n0_; have HO498 := n1_; have HO500 := n2_; have HO503 := n3_; have HB := n4_; clear n0_ n1_ n2_ n3_ n4_; clear hb ho78; obtain ⟨Ao80, co80, eo80⟩ := Kd.R_slice HO498.out; subst eo80) | ((with_reducible refine gate_builtin (b := .append) (xs := #[.tmp 150, .tmp 151]) rfl ?_); (try (refine gate_guard (by rfl) ?_; dsimp only)); at_builtin; refine Kd.R_append_rows (Kd.int .i64) (w0 := w) w.heap.size rfl (.tmp 150) (.tmp 151) 26 3 (.int .i64 0) 8 rfl Try.underlying26 info3 rfl (by decide) (by omega) v502 y501 t494 _ _ _ (fun k_ => some k_ ≠ (.slice Ao38 t469.length co38 : Value).ownBlock ∧ some k_ ≠ (.slice Ao80 t494.length co80 : Value).ownBlock ∧ some k_ ≠ (v499 : Value).ownBlock) (fun _ => False) rfl rfl ?aO ?aR (fun _ _ h => h) (fun _ h => h.elim) ?aF ?aB ?aS ?aL ?_; (case aR => repeat (first | exact (Kd.R_reads' HO498.out).2.2 | (with_reducible refine Kd.C_alloc ?_ _) | (with_reducible refine Kd.C_drewN ?_ _) | (with_reducible refine Kd.C_drew ?_))); (case aB => exact (by repeat (first | (with_reducible first | exact HB.out | apply below_alloc | apply pw_below_drewN | apply below_drew1) | exact HB.out))); (case aF => exact (fun k_ hk => ⟨Kd.fresh' (Kd.R_lt (by (with_reducible repeat (first | apply Kd.R_alloc | apply Kd.R_drewN | apply Kd.R_drew)); exact HO_7.out)) k_ hk, Kd.fresh' (Kd.R_lt (by (with_reducible repeat (first | apply Kd.R_alloc | apply Kd.R_drewN | apply Kd.R_drew)); exact HO498.out)) k_ hk, Kd.fresh' (Kd.R_lt (by (with_reducible repeat (first | apply Kd.R_alloc | apply Kd.R_drewN | apply Kd.R_drew)); exact HO500.out)) k_ hk⟩)); (case aO => exact (by (with_reducible repeat (first | apply Kd.R_alloc | apply Kd.R_drewN | apply Kd.R_drew)); exact Kd.R_mono HO503.out (fun _ hk => ⟨hk.1.1.2, ⟨hk.1.2, hk.2⟩⟩))); (case aS => exact (below_size (by repeat (first | (with_reducible first | exact HB.out | apply below_alloc | apply pw_below_drewN | apply below_drew1) | exact HB.out)))); (case aL => have := LMc72.out; omega); intro v505 w79 ho hb hg hat; rw [← Ny504.out] at ho; have n0_ := Aside0.mk (Kd.R_after (ok := (fun k_ => some k_ ≠ (.slice Ao80 t494.length co80 : Value).ownBlock ∧ some k_ ≠ (v499 : Value).ownBlock)) (by (with_reducible repeat (first | apply Kd.R_alloc | apply Kd.R_drewN | apply Kd.R_drew)); exact Kd.R_mono HO_7.out (fun _ hk => ⟨⟨hk.1.1.2, hk.1.2⟩, hk.2⟩)) hg hat); have n1_ := Aside0.mk (Kd.R_after (ok := (fun k_ => some k_ ≠ (.slice Ao38 t469.length co38 : Value).ownBlock ∧ some k_ ≠ (v499 : Value).ownBlock)) (by (with_reducible repeat (first | apply Kd.R_alloc | apply Kd.R_drewN | apply Kd.R_drew)); exact Kd.R_mono HO498.out (fun _ hk => ⟨⟨hk.1.2, hk.1.1⟩, hk.2⟩)) hg hat); have n2_ := Aside0.mk (Kd.R_after (ok := (fun k_ => some k_ ≠ (.slice Ao38 t469.length co38 : Value).ownBlock ∧ some k_ ≠ (.slice Ao80 t494.length co80 : Value).ownBlock)) (by (with_reducible repeat (first | apply Kd.R_alloc | apply Kd.R_drewN | apply Kd.R_drew)); exact Kd.R_mono HO500.out (fun _ hk => ⟨⟨hk.1.2, hk.1.1⟩, hk.2⟩)) hg hat); have n3_ := Aside0.mk (hb); have n4_ := Aside0.mk (ho); clear HO_7; clear HO498; clear HO500; clear HB; clear HO503; have HO_7 := n0_; have HO498 := n1_; have HO500 := n2_; have HB := n3_; have HO506 := n4_; clear n0_ n1_ n2_ n3_ n4_; clear ho hb hg hat; obtain ⟨Ao82, co82, eo82⟩ := Kd.R_slice HO500.out; subst eo82) | ((with_reducible refine gate_builtin (b := .append) (xs := #[.tmp 152, .tmp 153]) rfl ?_); (try (refine gate_guard (by rfl) ?_; dsimp only)); at_builtin; refine Kd.R_append_rows (Kd.int .i64) (w0 := w) w.heap.size rfl (.tmp 152) (.tmp 153) 26 3 (.int .i64 0) 8 rfl Try.underlying26 info3 rfl (by decide) (by omega) v505 y504 t495 _ _ _ (fun k_ => some k_ ≠ (.slice Ao38 t469.length co38 : Value).ownBlock ∧ some k_ ≠ (.slice Ao80 t494.length co80 : Value).ownBlock ∧ some k_ ≠ (.slice Ao82 t495.length co82 : Value).ownBlock) (fun _ => False) rfl rfl ?aO ?aR (fun _ _ h => h) (fun _ h => h.elim) ?aF ?aB ?aS ?aL ?_; (case aR => repeat (first | exact (Kd.R_reads' HO500.out).2.2 | (with_reducible refine Kd.C_alloc ?_ _) | (with_reducible refine Kd.C_drewN ?_ _) | (with_reducible refine Kd.C_drew ?_))); (case aB => exact (by repeat (first | (with_reducible first | exact HB.out | apply below_alloc | apply pw_below_drewN | apply below_drew1) | exact HB.out))); (case aF => exact (fun k_ hk => ⟨Kd.fresh' (Kd.R_lt (by (with_reducible repeat (first | apply Kd.R_alloc | apply Kd.R_drewN | apply Kd.R_drew)); exact HO_7.out)) k_ hk, Kd.fresh' (Kd.R_lt (by (with_reducible repeat (first | apply Kd.R_alloc | apply Kd.R_drewN | apply Kd.R_drew)); exact HO498.out)) k_ hk, Kd.fresh' (Kd.R_lt (by (with_reducible repeat (first | apply Kd.R_alloc | apply Kd.R_drewN | apply Kd.R_drew)); exact HO500.out)) k_ hk⟩)); (case aO => exact (by (with_reducible repeat (first | apply Kd.R_alloc | apply Kd.R_drewN | apply Kd.R_drew)); exact HO506.out)); (case aS => exact (below_size (by repeat (first | (with_reducible first | exact HB.out | apply below_alloc | apply pw_below_drewN | apply below_drew1) | exact HB.out)))); (case aL => have := LMc73.out; omega); intro v508 w81 ho hb hg hat; rw [← Ny507.out] at ho; have n0_ := Aside0.mk (Kd.R_after (ok := (fun k_ => some k_ ≠ (.slice Ao80 t494.length co80 : Value).ownBlock ∧ some k_ ≠ (.slice Ao82 t495.length co82 : Value).ownBlock)) (by (with_reducible repeat (first | apply Kd.R_alloc | apply Kd.R_drewN | apply Kd.R_drew)); exact HO_7.out) hg hat); have n1_ := Aside0.mk (Kd.R_after (ok := (fun k_ => some k_ ≠ (.slice Ao38 t469.length co38 : Value).ownBlock ∧ some k_ ≠ (.slice Ao82 t495.length co82 : Value).ownBlock)) (by (with_reducible repeat (first | apply Kd.R_alloc | apply Kd.R_drewN | apply Kd.R_drew)); exact HO498.out) hg hat); have n2_ := Aside0.mk (Kd.R_after (ok := (fun k_ => some k_ ≠ (.slice Ao38 t469.length co38 : Value).ownBlock ∧ some k_ ≠ (.slice Ao80 t494.length co80 : Value).ownBlock)) (by (with_reducible repeat (first | apply Kd.R_alloc | apply Kd.R_drewN | apply Kd.R_drew)); exact HO500.out) hg hat); have n3_ := Aside0.mk (hb); have n4_ := Aside0.mk (ho); clear HO_7; clear HO498; clear HO500; clear HB; clear HO506; have HO_7 := n0_; have HO498 := n1_; have HO500 := n2_; have HB := n3_; have HO509 := n4_; clear n0_ n1_ n2_ n3_ n4_; clear ho hb hg hat; obtain ⟨Ao83, co83, eo83⟩ := Kd.R_slice HO509.out; subst eo83) | (go_at_call 10; (with_reducible refine (laws_sameInts.calls kj36 _ _ y507 _ _ t469 true _ ?side1 ?side2 ?side3 ?side4 A74.out).mono ?_); (case side1 => repeat (first | exact (Kd.R_reads' HO509.out).2.2 | (with_reducible refine Kd.C_alloc ?_ _) | (with_reducible refine Kd.C_drewN ?_ _) | (with_reducible refine Kd.C_drew ?_))); (case side2 => exact (Kd.R_reads' HO509.out).2.1); (case side3 => repeat (first | exact (Kd.R_reads' HO_7.out).2.2 | (with_reducible refine Kd.C_alloc ?_ _) | (with_reducible refine Kd.C_drewN ?_ _) | (with_reducible refine Kd.C_drew ?_))); (case side4 => exact (Kd.R_reads' HO_7.out).2.1); rintro e w' ⟨rfl, ⟨nd, rfl⟩⟩))
                go_meet
                case rel => exact ⟨_, H', ⟨by have := HJ8.out; have := HJ36.out; first | omega | exact Nat.le_refl _⟩, ⟨by repeat (first | (with_reducible first | exact HB.out | apply below_alloc | apply pw_below_drewN | apply below_drew1) | exact HB.out)⟩⟩
              ·replace c75 := Bool.eq_false_iff.mpr c75
               subst c75
               have H1 : (some false) = some r := by rw [if_neg (show ¬ (false = true) by decide)] at H; exact H
               clear H
               have H := H1
               clear H1
               as_aux_lemma =>
                obtain rfl := Option.some.inj H
                go_wp2_with (first | ((with_reducible refine gate_callee (f := 16) rfl ?_); refine goesL_ (some 138) rfl rfl Try.func16 (by kernel_rfl) rfl #[.int .i64 t463, .int .i64 t464] rfl (by (try simp only [List.map_toArray, List.map_cons, List.map_nil]); first | done | rfl | (simp only [List.length_drop, List.length_take]; rfl)) ?_; (with_reducible refine (impl_ChristoffelSplit.calls kj36 t463 t464 t494 t495 true _ A68.out).mono ?_); rintro e w84 ⟨v497, v499, rfl, ho0, ho1, hb⟩; refine ⟨_, rfl, ?_⟩; have n0_ := Aside0.mk (Kd.R_mono (Kd.R_told (Kd.R_told (Kd.R_old (by (with_reducible repeat (first | apply Kd.R_alloc | apply Kd.R_drewN | apply Kd.R_drew)); exact HO_7.out) hb) (Kd.R_base ho0)) (Kd.R_base ho1)) (fun _ h_ => h_.1)); have n1_ := Aside0.mk (Kd.R_lower (Kd.R_new' ho0 (Kd.R_lt (by (with_reducible repeat (first | apply Kd.R_alloc | apply Kd.R_drewN | apply Kd.R_drew)); exact HO_7.out))) (below_size (by repeat (first | (with_reducible first | exact HB.out | apply below_alloc | apply pw_below_drewN | apply below_drew1) | exact HB.out)))); have n2_ := Aside0.mk (Kd.R_lower (Kd.R_new' ho1 (Kd.R_lt (by (with_reducible repeat (first | apply Kd.R_alloc | apply Kd.R_drewN | apply Kd.R_drew)); exact HO_7.out))) (below_size (by repeat (first | (with_reducible first | exact HB.out | apply below_alloc | apply pw_below_drewN | apply below_drew1) | exact HB.out)))); have n3_ := Aside0.mk (below_step (by repeat (first | (with_reducible first | exact HB.out | apply below_alloc | apply pw_below_drewN | apply below_drew1) | exact HB.out)) hb); clear HO_7; clear HB; have HO_7 := n0_; have HO498 := n1_; have HO500 := n2_; have HB := n3_; clear n0_ n1_ n2_ n3_; (try clear hb); (try clear hb2); (try clear hk); (try clear hi); (try clear ho0); (try clear ho1)) | ((with_reducible refine gate_dst (N := 150) rfl ?_); (try (refine gate_guard (by rfl) ?_; dsimp only)); refine Kd.R_lit (Kd.int .i64) _ 3 ?hg (N := 150) ?hd (xs := ([] : List Int)) (inner := []) (ok := fun _ => True) (okp := fun _ => True) ?hr ?hp (fun _ hk => hk) trivial (Below.refl _ _) (Nat.le_refl _) (by simp) ?_; (case hd => rfl); (case hg => rfl); (case hr => first | (go_simp; done) | (go_simp; rfl)); (case hp => exact (Reps.none _ _)); intro v502 w85 ho86 hb hg_ hnew_; clear hg_ hnew_; (first | rw [← Ny501.out] at ho86 | (simp only [Int.reduceToNat] at ho86; rw [← Ny501.out] at ho86)); have n0_ := Aside0.mk (Kd.R_elder' (by (with_reducible repeat (first | apply Kd.R_alloc | apply Kd.R_drewN | apply Kd.R_drew)); exact HO_7.out) (Kd.R_base ho86) hb); have n1_ := Aside0.mk (Kd.R_elder' (by (with_reducible repeat (first | apply Kd.R_alloc | apply Kd.R_drewN | apply Kd.R_drew)); exact HO498.out) (Kd.R_base ho86) hb); have n2_ := Aside0.mk (Kd.R_elder' (by (with_reducible repeat (first | apply Kd.R_alloc | apply Kd.R_drewN | apply Kd.R_drew)); exact HO500.out) (Kd.R_base ho86) hb); have n3_ := Aside0.mk (Kd.R_lower (Kd.R_new' (Kd.R_new' (Kd.R_new' ho86 (Kd.R_lt (by (with_reducible repeat (first | apply Kd.R_alloc | apply Kd.R_drewN | apply Kd.R_drew)); exact HO_7.out))) (Kd.R_lt (by (with_reducible repeat (first | apply Kd.R_alloc | apply Kd.R_drewN | apply Kd.R_drew)); exact HO498.out))) (Kd.R_lt (by (with_reducible repeat (first | apply Kd.R_alloc | apply Kd.R_drewN | apply Kd.R_drew)); exact HO500.out))) (below_size (by repeat (first | (with_reducible first | exact HB.out | apply below_alloc | apply pw_below_drewN | apply below_drew1) | exact HB.out)))); have n4_ := Aside0.mk (below_step (by repeat (first | (with_reducible first | exact HB.out | apply below_alloc | apply pw_below_drewN | apply below_drew1) | exact HB.out)) hb); clear HO_7; clear HO498; clear HO500; clear HB; have HO_7 := n0_; have HO498 := n1_; have HO500 := n2_; have HO503 := n3_; have HB := n4_; clear n0_ n1_ n2_ n3_ n4_; clear hb ho86; obtain ⟨Ao88, co88, eo88⟩ := Kd.R_slice HO498.out; subst eo88) | ((with_reducible refine gate_builtin (b := .append) (xs := #[.tmp 150, .tmp 151]) rfl ?_); (try (refine gate_guard (by rfl) ?_; dsimp only)); at_builtin; refine Kd.R_append_rows (Kd.int .i64) (w0 := w) w.heap.size rfl (.tmp 150) (.tmp 151) 26 3 (.int .i64 0) 8 rfl Try.underlying26 info3 rfl (by decide) (by omega) v502 y501 t494 _ _ _ (fun k_ => some k_ ≠ (.slice Ao38 t469.length co38 : Value).ownBlock ∧ some k_ ≠ (.slice Ao88 t494.length co88 : Value).ownBlock ∧ some k_ ≠ (v499 : Value).ownBlock) (fun _ => False) rfl rfl ?aO ?aR (fun _ _ h => h) (fun _ h => h.elim) ?aF ?aB ?aS ?aL ?_; (case aR => repeat (first | exact (Kd.R_reads' HO498.out).2.2 | (with_reducible refine Kd.C_alloc ?_ _) | (with_reducible refine Kd.C_drewN ?_ _) | (with_reducible refine Kd.C_drew ?_))); (case aB => exact (by repeat (first | (with_reducible first | exact HB.out | apply below_alloc | apply pw_below_drewN | apply below_drew1) | exact HB.out))); (case aF => exact (fun k_ hk => ⟨Kd.fresh' (Kd.R_lt (by (with_reducible repeat (first | apply Kd.R_alloc | apply Kd.R_drewN | apply Kd.R_drew)); exact HO_7.out)) k_ hk, Kd.fresh' (Kd.R_lt (by (with_reducible repeat (first | apply Kd.R_alloc | apply Kd.R_drewN | apply Kd.R_drew)); exact HO498.out)) k_ hk, Kd.fresh' (Kd.R_lt (by (with_reducible repeat (first | apply Kd.R_alloc | apply Kd.R_drewN | apply Kd.R_drew)); exact HO500.out)) k_ hk⟩)); (case aO => exact (by (with_reducible repeat (first | apply Kd.R_alloc | apply Kd.R_drewN | apply Kd.R_drew)); exact Kd.R_mono HO503.out (fun _ hk => ⟨hk.1.1.2, ⟨hk.1.2, hk.2⟩⟩))); (case aS => exact (below_size (by repeat (first | (with_reducible first | exact HB.out | apply below_alloc | apply pw_below_drewN | apply below_drew1) | exact HB.out)))); (case aL => have := LMc72.out; omega); intro v505 w87 ho hb hg hat; rw [← Ny504.out] at ho; have n0_ := Aside0.mk (Kd.R_after (ok := (fun k_ => some k_ ≠ (.slice Ao88 t494.length co88 : Value).ownBlock ∧ some k_ ≠ (v499 : Value).ownBlock)) (by (with_reducible repeat (first | apply Kd.R_alloc | apply Kd.R_drewN | apply Kd.R_drew)); exact Kd.R_mono HO_7.out (fun _ hk => ⟨⟨hk.1.1.2, hk.1.2⟩, hk.2⟩)) hg hat); have n1_ := Aside0.mk (Kd.R_after (ok := (fun k_ => some k_ ≠ (.slice Ao38 t469.length co38 : Value).ownBlock ∧ some k_ ≠ (v499 : Value).ownBlock)) (by (with_reducible repeat (first | apply Kd.R_alloc | apply Kd.R_drewN | apply Kd.R_drew)); exact Kd.R_mono HO498.out (fun _ hk => ⟨⟨hk.1.2, hk.1.1⟩, hk.2⟩)) hg hat); have n2_ := Aside0.mk (Kd.R_after (ok := (fun k_ => some k_ ≠ (.slice Ao38 t469.length co38 : Value).ownBlock ∧ some k_ ≠ (.slice Ao88 t494.length co88 : Value).ownBlock)) (by (with_reducible repeat (first | apply Kd.R_alloc | apply Kd.R_drewN | apply Kd.R_drew)); exact Kd.R_mono HO500.out (fun _ hk => ⟨⟨hk.1.2, hk.1.1⟩, hk.2⟩)) hg hat); have n3_ := Aside0.mk (hb); have n4_ := Aside0.mk (ho); clear HO_7; clear HO498; clear HO500; clear HB; clear HO503; have HO_7 := n0_; have HO498 := n1_; have HO500 := n2_; have HB := n3_; have HO506 := n4_; clear n0_ n1_ n2_ n3_ n4_; clear ho hb hg hat; obtain ⟨Ao90, co90, eo90⟩ := Kd.R_slice HO500.out; subst eo90) | ((with_reducible refine gate_builtin (b := .append) (xs := #[.tmp 152, .tmp 153]) rfl ?_); (try (refine gate_guard (by rfl) ?_; dsimp only)); at_builtin; refine Kd.R_append_rows (Kd.int .i64) (w0 := w) w.heap.size rfl (.tmp 152) (.tmp 153) 26 3 (.int .i64 0) 8 rfl Try.underlying26 info3 rfl (by decide) (by omega) v505 y504 t495 _ _ _ (fun k_ => some k_ ≠ (.slice Ao38 t469.length co38 : Value).ownBlock ∧ some k_ ≠ (.slice Ao88 t494.length co88 : Value).ownBlock ∧ some k_ ≠ (.slice Ao90 t495.length co90 : Value).ownBlock) (fun _ => False) rfl rfl ?aO ?aR (fun _ _ h => h) (fun _ h => h.elim) ?aF ?aB ?aS ?aL ?_; (case aR => repeat (first | exact (Kd.R_reads' HO500.out).2.2 | (with_reducible refine Kd.C_alloc ?_ _) | (with_reducible refine Kd.C_drewN ?_ _) | (with_reducible refine Kd.C_drew ?_))); (case aB => exact (by repeat (first | (with_reducible first | exact HB.out | apply below_alloc | apply pw_below_drewN | apply below_drew1) | exact HB.out))); (case aF => exact (fun k_ hk => ⟨Kd.fresh' (Kd.R_lt (by (with_reducible repeat (first | apply Kd.R_alloc | apply Kd.R_drewN | apply Kd.R_drew)); exact HO_7.out)) k_ hk, Kd.fresh' (Kd.R_lt (by (with_reducible repeat (first | apply Kd.R_alloc | apply Kd.R_drewN | apply Kd.R_drew)); exact HO498.out)) k_ hk, Kd.fresh' (Kd.R_lt (by (with_reducible repeat (first | apply Kd.R_alloc | apply Kd.R_drewN | apply Kd.R_drew)); exact HO500.out)) k_ hk⟩)); (case aO => exact (by (with_reducible repeat (first | apply Kd.R_alloc | apply Kd.R_drewN | apply Kd.R_drew)); exact HO506.out)); (case aS => exact (below_size (by repeat (first | (with_reducible first | exact HB.out | apply below_alloc | apply pw_below_drewN | apply below_drew1) | exact HB.out)))); (case aL => have := LMc73.out; omega); intro v508 w89 ho hb hg hat; rw [← Ny507.out] at ho; have n0_ := Aside0.mk (Kd.R_after (ok := (fun k_ => some k_ ≠ (.slice Ao88 t494.length co88 : Value).ownBlock ∧ some k_ ≠ (.slice Ao90 t495.length co90 : Value).ownBlock)) (by (with_reducible repeat (first | apply Kd.R_alloc | apply Kd.R_drewN | apply Kd.R_drew)); exact HO_7.out) hg hat); have n1_ := Aside0.mk (Kd.R_after (ok := (fun k_ => some k_ ≠ (.slice Ao38 t469.length co38 : Value).ownBlock ∧ some k_ ≠ (.slice Ao90 t495.length co90 : Value).ownBlock)) (by (with_reducible repeat (first | apply Kd.R_alloc | apply Kd.R_drewN | apply Kd.R_drew)); exact HO498.out) hg hat); have n2_ := Aside0.mk (Kd.R_after (ok := (fun k_ => some k_ ≠ (.slice Ao38 t469.length co38 : Value).ownBlock ∧ some k_ ≠ (.slice Ao88 t494.length co88 : Value).ownBlock)) (by (with_reducible repeat (first | apply Kd.R_alloc | apply Kd.R_drewN | apply Kd.R_drew)); exact HO500.out) hg hat); have n3_ := Aside0.mk (hb); have n4_ := Aside0.mk (ho); clear HO_7; clear HO498; clear HO500; clear HB; clear HO506; have HO_7 := n0_; have HO498 := n1_; have HO500 := n2_; have HB := n3_; have HO509 := n4_; clear n0_ n1_ n2_ n3_ n4_; clear ho hb hg hat; obtain ⟨Ao91, co91, eo91⟩ := Kd.R_slice HO509.out; subst eo91) | (go_at_call 10; (with_reducible refine (laws_sameInts.calls kj36 _ _ y507 _ _ t469 false _ ?side1 ?side2 ?side3 ?side4 A74.out).mono ?_); (case side1 => repeat (first | exact (Kd.R_reads' HO509.out).2.2 | (with_reducible refine Kd.C_alloc ?_ _) | (with_reducible refine Kd.C_drewN ?_ _) | (with_reducible refine Kd.C_drew ?_))); (case side2 => exact (Kd.R_reads' HO509.out).2.1); (case side3 => repeat (first | exact (Kd.R_reads' HO_7.out).2.2 | (with_reducible refine Kd.C_alloc ?_ _) | (with_reducible refine Kd.C_drewN ?_ _) | (with_reducible refine Kd.C_drew ?_))); (case side4 => exact (Kd.R_reads' HO_7.out).2.1); rintro e w' ⟨rfl, ⟨nd, rfl⟩⟩))
                go_ret
                exact ⟨by first | rfl | (simp [errW_none, errW_some] <;> rfl) | (simp [*, errW_none, errW_some] <;> rfl), by repeat (first | (with_reducible first | exact HB.out | apply below_alloc | apply pw_below_drewN | apply below_drew1) | exact HB.out)⟩
             ·rw [if_neg c73] at H
              exact absurd H (by simp)
            ·rw [if_neg c72] at H
             exact absurd H (by simp)
           ·replace c71 := Bool.eq_false_iff.mpr c71
            subst c71
            have H1 : (laws_FnChristoffel.j2 kj36 l0) = some r := by rw [if_neg (show ¬ (false = true) by decide)] at H; exact H
            clear H
            have H := H1
            clear H1
            as_aux_lemma =>
             have H' := Aside0.mk H
             clear H
             go_wp2_with (first | ((with_reducible refine gate_callee (f := 16) rfl ?_); refine goesL_ (some 138) rfl rfl Try.func16 (by kernel_rfl) rfl #[.int .i64 t463, .int .i64 t464] rfl (by (try simp only [List.map_toArray, List.map_cons, List.map_nil]); first | done | rfl | (simp only [List.length_drop, List.length_take]; rfl)) ?_; (with_reducible refine (impl_ChristoffelSplit.calls kj36 t463 t464 t494 t495 false _ A68.out).mono ?_); rintro e w92 ⟨v497, v499, rfl, ho0, ho1, hb⟩; refine ⟨_, rfl, ?_⟩; have n0_ := Aside0.mk (Kd.R_mono (Kd.R_told (Kd.R_told (Kd.R_old (by (with_reducible repeat (first | apply Kd.R_alloc | apply Kd.R_drewN | apply Kd.R_drew)); exact HO_7.out) hb) (Kd.R_base ho0)) (Kd.R_base ho1)) (fun _ h_ => h_.1)); have n1_ := Aside0.mk (Kd.R_lower (Kd.R_new' ho0 (Kd.R_lt (by (with_reducible repeat (first | apply Kd.R_alloc | apply Kd.R_drewN | apply Kd.R_drew)); exact HO_7.out))) (below_size (by repeat (first | (with_reducible first | exact HB.out | apply below_alloc | apply pw_below_drewN | apply below_drew1) | exact HB.out)))); have n2_ := Aside0.mk (Kd.R_lower (Kd.R_new' ho1 (Kd.R_lt (by (with_reducible repeat (first | apply Kd.R_alloc | apply Kd.R_drewN | apply Kd.R_drew)); exact HO_7.out))) (below_size (by repeat (first | (with_reducible first | exact HB.out | apply below_alloc | apply pw_below_drewN | apply below_drew1) | exact HB.out)))); have n3_ := Aside0.mk (below_step (by repeat (first | (with_reducible first | exact HB.out | apply below_alloc | apply pw_below_drewN | apply below_drew1) | exact HB.out)) hb); clear HO_7; clear HB; have HO_7 := n0_; have HO498 := n1_; have HO500 := n2_; have HB := n3_; clear n0_ n1_ n2_ n3_; (try clear hb); (try clear hb2); (try clear hk); (try clear hi); (try clear ho0); (try clear ho1)))
             go_meet
             case rel => exact ⟨_, H', ⟨by have := HJ8.out; have := HJ36.out; first | omega | exact Nat.le_refl _⟩, ⟨by repeat (first | (with_reducible first | exact HB.out | apply below_alloc | apply pw_below_drewN | apply below_drew1) | exact HB.out)⟩⟩
      ·replace c35 := Bool.eq_false_iff.mpr c35
       subst c35
       have H1 : (laws_FnChristoffel.j2 kj8 l0) = some r := by rw [if_neg (show ¬ (false = true) by decide)] at H; exact H
       clear H
       have H := H1
       clear H1
       as_aux_lemma =>
        have H' := Aside0.mk H
        clear H
        go_wp2
        go_meet
        case rel => exact ⟨_, H', ⟨by have := HJ8.out; first | omega | exact Nat.le_refl _⟩, ⟨by repeat (first | (with_reducible first | exact HB.out | apply below_alloc | apply pw_below_drewN | apply below_drew1) | exact HB.out)⟩⟩
     case rest => as_aux_lemma =>
      clear HC34
      try clear c1
      try clear c2
      try clear p2
      try clear c3
      try clear c4
      try clear p4
      try clear q4
      try clear hx4
      try clear qi4
      try clear c5
      try clear q5
      try clear c6
      try clear p6
      try clear c7
      try clear c8
      try clear c9
      try clear c11
      try clear c15
      try clear c15b0
      try clear c15b1
      try clear c15b2
      try clear c16
      try clear c17
      try clear c18
      try clear c18b0
      try clear c18b1
      try clear c18b2
      try clear c22
      try clear c33
      try clear c35
      try clear c39
      try clear c39b0
      try clear c39b1
      try clear c40
      try clear c40b0
      try clear c40b1
      try clear c42
      try clear c44
      try clear c46
      try clear c47
      try clear c47b0
      try clear c47b1
      try clear c48
      try clear c48b0
      try clear c48b1
      try clear c49
      try clear c49b0
      try clear c49b1
      try clear p49
      try clear q49
      try clear hx49
      try clear qi49
      try clear c51
      try clear c52
      try clear c52b0
      try clear c52b1
      try clear c55
      try clear q55
      try clear c59
      try clear q59
      try clear p64
      try clear c67
      try clear c69
      try clear c69b0
      try clear c69b1
      try clear c69b2
      try clear c71
      try clear c72
      try clear c73
      try clear c75
      try clear hx493_0
      try clear p2
      try clear p4
      try clear p49
      try clear p493
      try clear p6
      try clear p64
      try clear q4
      try clear q49
      try clear q493
      try clear q5
      try clear q55
      try clear q59
      obtain ⟨kq, HA, HJ33, HB⟩ := hcut
      cases kq with
      | zero => exact absurd HA.out (by simp [laws_FnChristoffel.j2])
      | succ kj33 =>
       have H := HA.out
       clear HA
       simp only [laws_FnChristoffel.j2] at H
       replace H := Option.bind_eq_some_iff.mp H
       obtain ⟨t511, A930, H⟩ := H
       replace H : ((impl_IsChristoffel.f kj33 t511).bind fun t514 => ((spec_IsChristoffel.f kj33 t511).bind fun t515 => (if (t514 != t515) = true then (laws_FnChristoffel.j3 kj33 l0 true) else ((impl_IsChristoffel.f kj33 t511).bind fun t516 => (if (t511.length : Int) > 0 then ((spec_IsLyndon.f kj33 t511).bind fun t517 => (if t517 = true then ((spec_IsBalanced.f kj33 t511).bind fun t518 => (laws_FnChristoffel.j3 kj33 l0 (t516 != t518))) else (laws_FnChristoffel.j3 kj33 l0 (t516 != false)))) else (laws_FnChristoffel.j3 kj33 l0 (t516 != false))))))) = some r := H
       have A93 := Aside0.mk A930
       clear A930
       have HC94 := Aside0.mk H
       clear H
       go_upto_region 18 with (first | ((with_reducible refine gate_callee (f := 17) rfl ?_); refine goesL_ (some 161) rfl rfl Try.func17 (by kernel_rfl) rfl #[.slice A0 l0.length c0] rfl (by (try simp only [List.map_toArray, List.map_cons, List.map_nil]); first | done | rfl | (simp only [List.length_drop, List.length_take]; rfl)) ?_; (with_reducible refine (spec_DrawIsChristoffel.calls kj33 _ _ l0 t511 _ ?side1 ?side2 A93.out).mono ?_); (case side1 => repeat (first | exact (Kd.C_below HR0.out HB.out) | (with_reducible refine Kd.C_alloc ?_ _) | (with_reducible refine Kd.C_drewN ?_ _) | (with_reducible refine Kd.C_drew ?_))); (case side2 => exact HC0.out); rintro e w95 ⟨v512, rfl, ho0, hb⟩; refine ⟨_, rfl, ?_⟩; have n0_ := Aside0.mk (Kd.R_lower ho0 (below_size (by repeat (first | (with_reducible first | exact HB.out | apply below_alloc | apply pw_below_drewN | apply below_drew1) | exact HB.out)))); have n1_ := Aside0.mk (below_step (by repeat (first | (with_reducible first | exact HB.out | apply below_alloc | apply pw_below_drewN | apply below_drew1) | exact HB.out)) hb); clear HB; have HO513 := n0_; have HB := n1_; clear n0_ n1_; (try clear hb); (try clear hb2); (try clear hk); (try clear hi); (try clear ho0)))
       (try simp only [Act.put, z1_, z2_, z3_])
       go_cut [182] (fun v182 wc => ∃ (kq : Nat) (x182_93 : Bool), v182 = .bool x182_93 ∧ Aside0 (laws_FnChristoffel.j3 kq l0 x182_93 = some r) ∧ Aside0 (kq ≤ kj33) ∧ Aside0 (Below w.heap.size w wc))
       case first => as_aux_lemma =>
        have H := HC94.out
        clear HC94
        replace H := Option.bind_eq_some_iff.mp H
        obtain ⟨t514, A960, H⟩ := H
        replace H : ((spec_IsChristoffel.f kj33 t511).bind fun t515 => (if (t514 != t515) = true then (laws_FnChristoffel.j3 kj33 l0 true) else ((impl_IsChristoffel.f kj33 t511).bind fun t516 => (if (t511.length : Int) > 0 then ((spec_IsLyndon.f kj33 t511).bind fun t517 => (if t517 = true then ((spec_IsBalanced.f kj33 t511).bind fun t518 => (laws_FnChristoffel.j3 kj33 l0 (t516 != t518))) else (laws_FnChristoffel.j3 kj33 l0 (t516 != false)))) else (laws_FnChristoffel.j3 kj33 l0 (t516 != false)))))) = some r := H
        have A96 := Aside0.mk A960
        clear A960
        replace H := Option.bind_eq_some_iff.mp H
        obtain ⟨t515, A970, H⟩ := H
        replace H : (if (t514 != t515) = true then (laws_FnChristoffel.j3 kj33 l0 true) else ((impl_IsChristoffel.f kj33 t511).bind fun t516 => (if (t511.length : Int) > 0 then ((spec_IsLyndon.f kj33 t511).bind fun t517 => (if t517 = true then ((spec_IsBalanced.f kj33 t511).bind fun t518 => (laws_FnChristoffel.j3 kj33 l0 (t516 != t518))) else (laws_FnChristoffel.j3 kj33 l0 (t516 != false)))) else (laws_FnChristoffel.j3 kj33 l0 (t516 != false))))) = some r := H
        have A97 := Aside0.mk A970
        clear A970
        by_cases c98 : (t514 != t515) = true
        ·rw [if_pos c98] at H
         have c98b0 : (t514 != t515) = true := c98
         (try (have c98b1 : decide (t514 = t515) = false := by simpa using c98))
         (try (have c98b2 : (t514 == t515) = false := by simpa using c98))
         (try (have c98b3 : ¬ (t514 = t515) := by simpa using c98))
         clear c98
         (first | rw [c98b0] | (simp only [i64_w, i32_w]; rw [c98b0]) | skip)
         as_aux_lemma =>
          have H' := Aside0.mk H
          clear H
          obtain ⟨Ao99, co99, eo99⟩ := Kd.R_slice HO513.out
          subst eo99
          go_wp2_with (first | ((with_reducible refine gate_callee (f := 12) rfl ?_); refine goesL_ (some 163) rfl rfl Try.func12 (by kernel_rfl) rfl #[.slice Ao99 t511.length co99] rfl (by (try simp only [List.map_toArray, List.map_cons, List.map_nil]); first | done | rfl | (simp only [List.length_drop, List.length_take]; rfl)) ?_; (with_reducible refine (impl_IsChristoffel.calls kj33 _ _ t511 t514 _ ?side1 ?side2 A96.out).mono ?_); (case side1 => repeat (first | exact (Kd.R_reads' HO513.out).2.2 | (with_reducible refine Kd.C_alloc ?_ _) | (with_reducible refine Kd.C_drewN ?_ _) | (with_reducible refine Kd.C_drew ?_))); (case side2 => exact (Kd.R_reads' HO513.out).2.1); rintro e w100 ⟨rfl, hb⟩; refine ⟨_, rfl, ?_⟩; have n0_ := Aside0.mk (Kd.R_below (by (with_reducible repeat (first | apply Kd.R_alloc | apply Kd.R_drewN | apply Kd.R_drew)); exact HO513.out) hb); have n1_ := Aside0.mk (below_step (by repeat (first | (with_reducible first | exact HB.out | apply below_alloc | apply pw_below_drewN | apply below_drew1) | exact HB.out)) hb); clear HO513; clear HB; have HO513 := n0_; have HB := n1_; clear n0_ n1_; (try clear hb); (try clear hb2); (try clear hk); (try clear hi)) | ((with_reducible refine gate_callee (f := 18) rfl ?_); refine goesL_ (some 165) rfl rfl Try.func18 (by kernel_rfl) rfl #[.slice Ao99 t511.length co99] rfl (by (try simp only [List.map_toArray, List.map_cons, List.map_nil]); first | done | rfl | (simp only [List.length_drop, List.length_take]; rfl)) ?_; (with_reducible refine (spec_IsChristoffel.calls kj33 _ _ t511 t515 _ ?side1 ?side2 A97.out).mono ?_); (case side1 => repeat (first | exact (Kd.R_reads' HO513.out).2.2 | (with_reducible refine Kd.C_alloc ?_ _) | (with_reducible refine Kd.C_drewN ?_ _) | (with_reducible refine Kd.C_drew ?_))); (case side2 => exact (Kd.R_reads' HO513.out).2.1); rintro e w101 ⟨rfl, hb⟩; refine ⟨_, rfl, ?_⟩; have n0_ := Aside0.mk (Kd.R_below (by (with_reducible repeat (first | apply Kd.R_alloc | apply Kd.R_drewN | apply Kd.R_drew)); exact HO513.out) hb); have n1_ := Aside0.mk (below_step (by repeat (first | (with_reducible first | exact HB.out | apply below_alloc | apply pw_below_drewN | apply below_drew1) | exact HB.out)) hb); clear HO513; clear HB; have HO513 := n0_; have HB := n1_; clear n0_ n1_; (try clear hb); (try clear hb2); (try clear hk); (try clear hi)))
          go_meet
          case rel => exact ⟨_, (true), (by first | rfl | (simp; done) | (simp [*]; done)), H', ⟨by have := HJ8.out; have := HJ33.out; first | omega | exact Nat.le_refl _⟩, ⟨by repeat (first | (with_reducible first | exact HB.out | apply below_alloc | apply pw_below_drewN | apply below_drew1) | exact HB.out)⟩⟩
        ·rw [if_neg c98] at H
         have c98b0 : (t514 != t515) = false := by simpa using c98
         (try (have c98b1 : decide (t514 = t515) = true := by simpa using c98))
         (try (have c98b2 : (t514 == t515) = true := by simpa using c98))
         clear c98
         (first | rw [c98b0] | (simp only [i64_w, i32_w]; rw [c98b0]) | skip)
         replace H := Option.bind_eq_some_iff.mp H
         obtain ⟨t516, A1020, H⟩ := H
         replace H : (if (t511.length : Int) > 0 then ((spec_IsLyndon.f kj33 t511).bind fun t517 => (if t517 = true then ((spec_IsBalanced.f kj33 t511).bind fun t518 => (laws_FnChristoffel.j3 kj33 l0 (t516 != t518))) else (laws_FnChristoffel.j3 kj33 l0 (t516 != false)))) else (laws_FnChristoffel.j3 kj33 l0 (t516 != false))) = some r := H
         have A102 := Aside0.mk A1020
         clear A1020
         by_cases c103 : (t511.length : Int) > 0
         ·rw [if_pos c103] at H
          have c103b0 : decide (0 < (t511.length : Int)) = true := decide_eq_true c103
          have c103b1 : decide (0 < t511.length) = true := decide_eq_true (by omega)
          clear c103
          replace H := Option.bind_eq_some_iff.mp H
          obtain ⟨t517, A1040, H⟩ := H
          replace H : (if t517 = true then ((spec_IsBalanced.f kj33 t511).bind fun t518 => (laws_FnChristoffel.j3 kj33 l0 (t516 != t518))) else (laws_FnChristoffel.j3 kj33 l0 (t516 != false))) = some r := H
          have A104 := Aside0.mk A1040
          clear A1040
          by_cases c105 : t517 = true
          ·subst c105
           have H1 : ((spec_IsBalanced.f kj33 t511).bind fun t518 => (laws_FnChristoffel.j3 kj33 l0 (t516 != t518))) = some r := by rw [if_pos rfl] at H; exact H
           clear H
           have H := H1
           clear H1
           replace H := Option.bind_eq_some_iff.mp H
           obtain ⟨t518, A1060, H⟩ := H
           replace H : (laws_FnChristoffel.j3 kj33 l0 (t516 != t518)) = some r := H
           have A106 := Aside0.mk A1060
           clear A1060
           as_aux_lemma =>
            have H' := Aside0.mk H
            clear H
            obtain ⟨Ao107, co107, eo107⟩ := Kd.R_slice HO513.out
            subst eo107
            go_wp2_with (first | ((with_reducible refine gate_callee (f := 12) rfl ?_); refine goesL_ (some 163) rfl rfl Try.func12 (by kernel_rfl) rfl #[.slice Ao107 t511.length co107] rfl (by (try simp only [List.map_toArray, List.map_cons, List.map_nil]); first | done | rfl | (simp only [List.length_drop, List.length_take]; rfl)) ?_; (with_reducible refine (impl_IsChristoffel.calls kj33 _ _ t511 t514 _ ?side1 ?side2 A96.out).mono ?_); (case side1 => repeat (first | exact (Kd.R_reads' HO513.out).2.2 | (with_reducible refine Kd.C_alloc ?_ _) | (with_reducible refine Kd.C_drewN ?_ _) | (with_reducible refine Kd.C_drew ?_))); (case side2 => exact (Kd.R_reads' HO513.out).2.1); rintro e w108 ⟨rfl, hb⟩; refine ⟨_, rfl, ?_⟩; have n0_ := Aside0.mk (Kd.R_below (by (with_reducible repeat (first | apply Kd.R_alloc | apply Kd.R_drewN | apply Kd.R_drew)); exact HO513.out) hb); have n1_ := Aside0.mk (below_step (by repeat (first | (with_reducible first | exact HB.out | apply below_alloc | apply pw_below_drewN | apply below_drew1) | exact HB.out)) hb); clear HO513; clear HB; have HO513 := n0_; have HB := n1_; clear n0_ n1_; (try clear hb); (try clear hb2); (try clear hk); (try clear hi)) | ((with_reducible refine gate_callee (f := 18) rfl ?_); refine goesL_ (some 165) rfl rfl Try.func18 (by kernel_rfl) rfl #[.slice Ao107 t511.length co107] rfl (by (try simp only [List.map_toArray, List.map_cons, List.map_nil]); first | done | rfl | (simp only [List.length_drop, List.length_take]; rfl)) ?_; (with_reducible refine (spec_IsChristoffel.calls kj33 _ _ t511 t515 _ ?side1 ?side2 A97.out).mono ?_); (case side1 => repeat (first | exact (Kd.R_reads' HO513.out).2.2 | (with_reducible refine Kd.C_alloc ?_ _) | (with_reducible refine Kd.C_drewN ?_ _) | (with_reducible refine Kd.C_drew ?_))); (case side2 => exact (Kd.R_reads' HO513.out).2.1); rintro e w109 ⟨rfl, hb⟩; refine ⟨_, rfl, ?_⟩; have n0_ := Aside0.mk (Kd.R_below (by (with_reducible repeat (first | apply Kd.R_alloc | apply Kd.R_drewN | apply Kd.R_drew)); exact HO513.out) hb); have n1_ := Aside0.mk (below_step (by repeat (first | (with_reducible first | exact HB.out | apply below_alloc | apply pw_below_drewN | apply below_drew1) | exact HB.out)) hb); clear HO513; clear HB; have HO513 := n0_; have HB := n1_; clear n0_ n1_; (try clear hb); (try clear hb2); (try clear hk); (try clear hi)) | (go_at_call 12; (with_reducible refine (impl_IsChristoffel.calls kj33 _ _ t511 t516 _ ?side1 ?side2 A102.out).mono ?_); (case side1 => repeat (first | exact (Kd.R_reads' HO513.out).2.2 | (with_reducible refine Kd.C_alloc ?_ _) | (with_reducible refine Kd.C_drewN ?_ _) | (with_reducible refine Kd.C_drew ?_))); (case side2 => exact (Kd.R_reads' HO513.out).2.1); rintro e w110 ⟨rfl, hb⟩; have n0_ := Aside0.mk (Kd.R_below (by (with_reducible repeat (first | apply Kd.R_alloc | apply Kd.R_drewN | apply Kd.R_drew)); exact HO513.out) hb); have n1_ := Aside0.mk (below_step (by repeat (first | (with_reducible first | exact HB.out | apply below_alloc | apply pw_below_drewN | apply below_drew1) | exact HB.out)) hb); clear HO513; clear HB; have HO513 := n0_; have HB := n1_; clear n0_ n1_; (try clear hb); (try clear hb2); (try clear hk); (try clear hi)) | (go_at_call 13; (with_reducible refine (spec_IsLyndon.calls kj33 _ _ t511 true _ ?side1 ?side2 A104.out).mono ?_); (case side1 => repeat (first | exact (Kd.R_reads' HO513.out).2.2 | (with_reducible refine Kd.C_alloc ?_ _) | (with_reducible refine Kd.C_drewN ?_ _) | (with_reducible refine Kd.C_drew ?_))); (case side2 => exact (Kd.R_reads' HO513.out).2.1); rintro e w' ⟨rfl, ⟨nd, rfl⟩⟩) | (go_at_call 14; (with_reducible refine (spec_IsBalanced.calls kj33 _ _ t511 t518 _ ?side1 ?side2 A106.out).mono ?_); (case side1 => repeat (first | exact (Kd.R_reads' HO513.out).2.2 | (with_reducible refine Kd.C_alloc ?_ _) | (with_reducible refine Kd.C_drewN ?_ _) | (with_reducible refine Kd.C_drew ?_))); (case side2 => exact (Kd.R_reads' HO513.out).2.1); rintro e w111 ⟨rfl, hb⟩; have n0_ := Aside0.mk (Kd.R_below (by (with_reducible repeat (first | apply Kd.R_alloc | apply Kd.R_drewN | apply Kd.R_drew)); exact HO513.out) hb); have n1_ := Aside0.mk (below_step (by repeat (first | (with_reducible first | exact HB.out | apply below_alloc | apply pw_below_drewN | apply below_drew1) | exact HB.out)) hb); clear HO513; clear HB; have HO513 := n0_; have HB := n1_; clear n0_ n1_; (try clear hb); (try clear hb2); (try clear hk); (try clear hi)))
            go_meet
            case rel => exact ⟨_, ((t516 != t518)), (by first | rfl | (simp; done) | (simp [*]; done)), H', ⟨by have := HJ8.out; have := HJ33.out; first | omega | exact Nat.le_refl _⟩, ⟨by repeat (first | (with_reducible first | exact HB.out | apply below_alloc | apply pw_below_drewN | apply below_drew1) | exact HB.out)⟩⟩
          ·replace c105 := Bool.eq_false_iff.mpr c105
           subst c105
           have H1 : (laws_FnChristoffel.j3 kj33 l0 (t516 != false)) = some r := by rw [if_neg (show ¬ (false = true) by decide)] at H; exact H
           clear H
           have H := H1
           clear H1
           as_aux_lemma =>
            have H' := Aside0.mk H
            clear H
            obtain ⟨Ao112, co112, eo112⟩ := Kd.R_slice HO513.out
            subst eo112
            go_wp2_with (first | ((with_reducible refine gate_callee (f := 12) rfl ?_); refine goesL_ (some 163) rfl rfl Try.func12 (by kernel_rfl) rfl #[.slice Ao112 t511.length co112] rfl (by (try simp only [List.map_toArray, List.map_cons, List.map_nil]); first | done | rfl | (simp only [List.length_drop, List.length_take]; rfl)) ?_; (with_reducible refine (impl_IsChristoffel.calls kj33 _ _ t511 t514 _ ?side1 ?side2 A96.out).mono ?_); (case side1 => repeat (first | exact (Kd.R_reads' HO513.out).2.2 | (with_reducible refine Kd.C_alloc ?_ _) | (with_reducible refine Kd.C_drewN ?_ _) | (with_reducible refine Kd.C_drew ?_))); (case side2 => exact (Kd.R_reads' HO513.out).2.1); rintro e w113 ⟨rfl, hb⟩; refine ⟨_, rfl, ?_⟩; have n0_ := Aside0.mk (Kd.R_below (by (with_reducible repeat (first | apply Kd.R_alloc | apply Kd.R_drewN | apply Kd.R_drew)); exact HO513.out) hb); have n1_ := Aside0.mk (below_step (by repeat (first | (with_reducible first | exact HB.out | apply below_alloc | apply pw_below_drewN | apply below_drew1) | exact HB.out)) hb); clear HO513; clear HB; have HO513 := n0_; have HB := n1_; clear n0_ n1_; (try clear hb); (try clear hb2); (try clear hk); (try clear hi)) | ((with_reducible refine gate_callee (f := 18) rfl ?_); refine goesL_ (some 165) rfl rfl Try.func18 (by kernel_rfl) rfl #[.slice Ao112 t511.length co112] rfl (by (try simp only [List.map_toArray, List.map_cons, List.map_nil]); first | done | rfl | (simp only [List.length_drop, List.length_take]; rfl)) ?_; (with_reducible refine (spec_IsChristoffel.calls kj33 _ _ t511 t515 _ ?side1 ?side2 A97.out).mono ?_); (case side1 => repeat (first | exact (Kd.R_reads' HO513.out).2.2 | (with_reducible refine Kd.C_alloc ?_ _) | (with_reducible refine Kd.C_drewN ?_ _) | (with_reducible refine Kd.C_drew ?_))); (case side2 => exact (Kd.R_reads' HO513.out).2.1); rintro e w114 ⟨rfl, hb⟩; refine ⟨_, rfl, ?_⟩; have n0_ := Aside0.mk (Kd.R_below (by (with_reducible repeat (first | apply Kd.R_alloc | apply Kd.R_drewN | apply Kd.R_drew)); exact HO513.out) hb); have n1_ := Aside0.mk (below_step (by repeat (first | (with_reducible first | exact HB.out | apply below_alloc | apply pw_below_drewN | apply below_drew1) | exact HB.out)) hb); clear HO513; clear HB; have HO513 := n0_; have HB := n1_; clear n0_ n1_; (try clear hb); (try clear hb2); (try clear hk); (try clear hi)) | (go_at_call 12; (with_reducible refine (impl_IsChristoffel.calls kj33 _ _ t511 t516 _ ?side1 ?side2 A102.out).mono ?_); (case side1 => repeat (first | exact (Kd.R_reads' HO513.out).2.2 | (with_reducible refine Kd.C_alloc ?_ _) | (with_reducible refine Kd.C_drewN ?_ _) | (with_reducible refine Kd.C_drew ?_))); (case side2 => exact (Kd.R_reads' HO513.out).2.1); rintro e w115 ⟨rfl, hb⟩; have n0_ := Aside0.mk (Kd.R_below (by (with_reducible repeat (first | apply Kd.R_alloc | apply Kd.R_drewN | apply Kd.R_drew)); exact HO513.out) hb); have n1_ := Aside0.mk (below_step (by repeat (first | (with_reducible first | exact HB.out | apply below_alloc | apply pw_below_drewN | apply below_drew1) | exact HB.out)) hb); clear HO513; clear HB; have HO513 := n0_; have HB := n1_; clear n0_ n1_; (try clear hb); (try clear hb2); (try clear hk); (try clear hi)) | (go_at_call 13; (with_reducible refine (spec_IsLyndon.calls kj33 _ _ t511 false _ ?side1 ?side2 A104.out).mono ?_); (case side1 => repeat (first | exact (Kd.R_reads' HO513.out).2.2 | (with_reducible refine Kd.C_alloc ?_ _) | (with_reducible refine Kd.C_drewN ?_ _) | (with_reducible refine Kd.C_drew ?_))); (case side2 => exact (Kd.R_reads' HO513.out).2.1); rintro e w' ⟨rfl, ⟨nd, rfl⟩⟩))
            go_meet
            case rel => exact ⟨_, ((t516 != false)), (by first | rfl | (simp; done) | (simp [*]; done)), H', ⟨by have := HJ8.out; have := HJ33.out; first | omega | exact Nat.le_refl _⟩, ⟨by repeat (first | (with_reducible first | exact HB.out | apply below_alloc | apply pw_below_drewN | apply below_drew1) | exact HB.out)⟩⟩
         ·rw [if_neg c103] at H
          have c103b0 : decide (0 < (t511.length : Int)) = false := decide_eq_false c103
          have c103b1 : decide (0 < t511.length) = false := decide_eq_false (by omega)
          clear c103
          as_aux_lemma =>
           have H' := Aside0.mk H
           clear H
           obtain ⟨Ao116, co116, eo116⟩ := Kd.R_slice HO513.out
           subst eo116
           go_wp2_with (first | ((with_reducible refine gate_callee (f := 12) rfl ?_); refine goesL_ (some 163) rfl rfl Try.func12 (by kernel_rfl) rfl #[.slice Ao116 t511.length co116] rfl (by (try simp only [List.map_toArray, List.map_cons, List.map_nil]); first | done | rfl | (simp only [List.length_drop, List.length_take]; rfl)) ?_; (with_reducible refine (impl_IsChristoffel.calls kj33 _ _ t511 t514 _ ?side1 ?side2 A96.out).mono ?_); (case side1 => repeat (first | exact (Kd.R_reads' HO513.out).2.2 | (with_reducible refine Kd.C_alloc ?_ _) | (with_reducible refine Kd.C_drewN ?_ _) | (with_reducible refine Kd.C_drew ?_))); (case side2 => exact (Kd.R_reads' HO513.out).2.1); rintro e w117 ⟨rfl, hb⟩; refine ⟨_, rfl, ?_⟩; have n0_ := Aside0.mk (Kd.R_below (by (with_reducible repeat (first | apply Kd.R_alloc | apply Kd.R_drewN | apply Kd.R_drew)); exact HO513.out) hb); have n1_ := Aside0.mk (below_step (by repeat (first | (with_reducible first | exact HB.out | apply below_alloc | apply pw_below_drewN | apply below_drew1) | exact HB.out)) hb); clear HO513; clear HB; have HO513 := n0_; have HB := n1_; clear n0_ n1_; (try clear hb); (try clear hb2); (try clear hk); (try clear hi)) | ((with_reducible refine gate_callee (f := 18) rfl ?_); refine goesL_ (some 165) rfl rfl Try.func18 (by kernel_rfl) rfl #[.slice Ao116 t511.length co116] rfl (by (try simp only [List.map_toArray, List.map_cons, List.map_nil]); first | done | rfl | (simp only [List.length_drop, List.length_take]; rfl)) ?_; (with_reducible refine (spec_IsChristoffel.calls kj33 _ _ t511 t515 _ ?side1 ?side2 A97.out).mono ?_); (case side1 => repeat (first | exact (Kd.R_reads' HO513.out).2.2 | (with_reducible refine Kd.C_alloc ?_ _) | (with_reducible refine Kd.C_drewN ?_ _) | (with_reducible refine Kd.C_drew ?_))); (case side2 => exact (Kd.R_reads' HO513.out).2.1); rintro e w118 ⟨rfl, hb⟩; refine ⟨_, rfl, ?_⟩; have n0_ := Aside0.mk (Kd.R_below (by (with_reducible repeat (first | apply Kd.R_alloc | apply Kd.R_drewN | apply Kd.R_drew)); exact HO513.out) hb); have n1_ := Aside0.mk (below_step (by repeat (first | (with_reducible first | exact HB.out | apply below_alloc | apply pw_below_drewN | apply below_drew1) | exact HB.out)) hb); clear HO513; clear HB; have HO513 := n0_; have HB := n1_; clear n0_ n1_; (try clear hb); (try clear hb2); (try clear hk); (try clear hi)) | (go_at_call 12; (with_reducible refine (impl_IsChristoffel.calls kj33 _ _ t511 t516 _ ?side1 ?side2 A102.out).mono ?_); (case side1 => repeat (first | exact (Kd.R_reads' HO513.out).2.2 | (with_reducible refine Kd.C_alloc ?_ _) | (with_reducible refine Kd.C_drewN ?_ _) | (with_reducible refine Kd.C_drew ?_))); (case side2 => exact (Kd.R_reads' HO513.out).2.1); rintro e w119 ⟨rfl, hb⟩; have n0_ := Aside0.mk (Kd.R_below (by (with_reducible repeat (first | apply Kd.R_alloc | apply Kd.R_drewN | apply Kd.R_drew)); exact HO513.out) hb); have n1_ := Aside0.mk (below_step (by repeat (first | (with_reducible first | exact HB.out | apply below_alloc | apply pw_below_drewN | apply below_drew1) | exact HB.out)) hb); clear HO513; clear HB; have HO513 := n0_; have HB := n1_; clear n0_ n1_; (try clear hb); (try clear hb2); (try clear hk); (try clear hi)))
           go_meet
           case rel => exact ⟨_, ((t516 != false)), (by first | rfl | (simp; done) | (simp [*]; done)), H', ⟨by have := HJ8.out; have := HJ33.out; first | omega | exact Nat.le_refl _⟩, ⟨by repeat (first | (with_reducible first | exact HB.out | apply below_alloc | apply pw_below_drewN | apply below_drew1) | exact HB.out)⟩⟩
       case rest => as_aux_lemma =>
        clear HC94
        try clear c1
        try clear c2
        try clear p2
        try clear c3
        try clear c4
        try clear p4
        try clear q4
        try clear hx4
        try clear qi4
        try clear c5
        try clear q5
        try clear c6
        try clear p6
        try clear c7
        try clear c8
        try clear c9
        try clear c10
        try clear c11
        try clear c12
        try clear c15
        try clear c15b0
        try clear c15b1
        try clear c15b2
        try clear c16
        try clear c17
        try clear c18
        try clear c18b0
        try clear c18b1
        try clear c18b2
        try clear c22
        try clear c33
        try clear c35
        try clear c39
        try clear c39b0
        try clear c39b1
        try clear c40
        try clear c40b0
        try clear c40b1
        try clear c42
        try clear c44
        try clear c46
        try clear c47
        try clear c47b0
        try clear c47b1
        try clear c48
        try clear c48b0
        try clear c48b1
        try clear c49
        try clear c49b0
        try clear c49b1
        try clear p49
        try clear q49
        try clear hx49
        try clear qi49
        try clear c51
        try clear c52
        try clear c52b0
        try clear c52b1
        try clear c55
        try clear q55
        try clear c59
        try clear q59
        try clear p64
        try clear c67
        try clear c69
        try clear c69b0
        try clear c69b1
        try clear c69b2
        try clear c71
        try clear c72
        try clear c73
        try clear c75
        try clear c98
        try clear c98b0
        try clear c98b1
        try clear c98b2
        try clear c103
        try clear c103b0
        try clear c103b1
        try clear c105
        try clear hx493_0
        try clear p2
        try clear p4
        try clear p49
        try clear p493
        try clear p6
        try clear p64
        try clear q4
        try clear q49
        try clear q493
        try clear q5
        try clear q55
        try clear q59
        obtain ⟨kq, x182_93, rfl, HA, HJ93, HB⟩ := hcut
        cases kq with
        | zero => exact absurd HA.out (by simp [laws_FnChristoffel.j3])
        | succ kj93 =>
         have H := HA.out
         clear HA
         simp only [laws_FnChristoffel.j3] at H
         by_cases c120 : x182_93 = true
         ·subst c120
          have H1 : (some false) = some r := by rw [if_pos rfl] at H; exact H
          clear H
          have H := H1
          clear H1
          as_aux_lemma =>
           obtain rfl := Option.some.inj H
           go_wp2
           go_ret
           exact ⟨by first | rfl | (simp [errW_none, errW_some] <;> rfl) | (simp [*, errW_none, errW_some] <;> rfl), by repeat (first | (with_reducible first | exact HB.out | apply below_alloc | apply pw_below_drewN | apply below_drew1) | exact HB.out)⟩
         ·replace c120 := Bool.eq_false_iff.mpr c120
          subst c120
          have H1 : ((spec_DrawChristoffelTree.f kj93 l0).bind fun t519 => ((impl_ChristoffelTree.f t519).bind fun t520 => ((spec_ChristoffelTree.f t519).bind fun t523 => ((laws_sameWords.f kj93 t520 t523).bind fun t526 => (if t526 = true then (laws_FnChristoffel.l0 kj93 l0 t520 1) else (some false)))))) = some r := by rw [if_neg (show ¬ (false = true) by decide)] at H; exact H
          clear H
          have H := H1
          clear H1
          replace H := Option.bind_eq_some_iff.mp H
          obtain ⟨t519, A1210, H⟩ := H
          replace H : ((impl_ChristoffelTree.f t519).bind fun t520 => ((spec_ChristoffelTree.f t519).bind fun t523 => ((laws_sameWords.f kj93 t520 t523).bind fun t526 => (if t526 = true then (laws_FnChristoffel.l0 kj93 l0 t520 1) else (some false))))) = some r := H
          have A121 := Aside0.mk A1210
          clear A1210
          replace H := Option.bind_eq_some_iff.mp H
          obtain ⟨t520, A1220, H⟩ := H
          replace H : ((spec_ChristoffelTree.f t519).bind fun t523 => ((laws_sameWords.f kj93 t520 t523).bind fun t526 => (if t526 = true then (laws_FnChristoffel.l0 kj93 l0 t520 1) else (some false)))) = some r := H
          have A122 := Aside0.mk A1220
          clear A1220
          replace H := Option.bind_eq_some_iff.mp H
          obtain ⟨t523, A1230, H⟩ := H
          replace H : ((laws_sameWords.f kj93 t520 t523).bind fun t526 => (if t526 = true then (laws_FnChristoffel.l0 kj93 l0 t520 1) else (some false))) = some r := H
          have A123 := Aside0.mk A1230
          clear A1230
          replace H := Option.bind_eq_some_iff.mp H
          obtain ⟨t526, A1240, H⟩ := H
          replace H : (if t526 = true then (laws_FnChristoffel.l0 kj93 l0 t520 1) else (some false)) = some r := H
          have A124 := Aside0.mk A1240
          clear A1240
          by_cases c125 : t526 = true
          ·subst c125
           have H1 : (laws_FnChristoffel.l0 kj93 l0 t520 1) = some r := by rw [if_pos rfl] at H; exact H
           clear H
           have H := H1
           clear H1
           have H' := Aside0.mk H
           clear H
           go_wp2_with (first | ((with_reducible refine gate_callee (f := 19) rfl ?_); refine goesL_ (some 184) rfl rfl Try.func19 (by kernel_rfl) rfl #[.slice A0 l0.length c0] rfl (by (try simp only [List.map_toArray, List.map_cons, List.map_nil]); first | done | rfl | (simp only [List.length_drop, List.length_take]; rfl)) ?_; (with_reducible refine (spec_DrawChristoffelTree.calls kj93 _ _ l0 t519 _ ?side1 ?side2 A121.out).mono ?_); (case side1 => repeat (first | exact (Kd.C_below HR0.out HB.out) | (with_reducible refine Kd.C_alloc ?_ _) | (with_reducible refine Kd.C_drewN ?_ _) | (with_reducible refine Kd.C_drew ?_))); (case side2 => exact HC0.out); rintro e w126 ⟨rfl, hb⟩; refine ⟨_, rfl, ?_⟩; have n0_ := Aside0.mk (below_step (by repeat (first | (with_reducible first | exact HB.out | apply below_alloc | apply pw_below_drewN | apply below_drew1) | exact HB.out)) hb); clear HB; have HB := n0_; clear n0_; (try clear hb); (try clear hb2); (try clear hk); (try clear hi)) | ((with_reducible refine gate_callee (f := 20) rfl ?_); refine goesL_ (some 186) rfl rfl Try.func20 (by kernel_rfl) rfl #[.int .i64 t519] rfl (by (try simp only [List.map_toArray, List.map_cons, List.map_nil]); first | done | rfl | (simp only [List.length_drop, List.length_take]; rfl)) ?_; (with_reducible refine (impl_ChristoffelTree.calls t519 t520 _ A122.out).mono ?_); rintro e w127 ⟨v521, rfl, ho0, hb⟩; refine ⟨_, rfl, ?_⟩; have n0_ := Aside0.mk (Kd.S_lower ho0 (below_size (by repeat (first | (with_reducible first | exact HB.out | apply below_alloc | apply pw_below_drewN | apply below_drew1) | exact HB.out)))); have n1_ := Aside0.mk (below_step (by repeat (first | (with_reducible first | exact HB.out | apply below_alloc | apply pw_below_drewN | apply below_drew1) | exact HB.out)) hb); clear HB; have HO522 := n0_; have HB := n1_; clear n0_ n1_; (try clear hb); (try clear hb2); (try clear hk); (try clear hi); (try clear ho0)) | ((with_reducible refine gate_callee (f := 22) rfl ?_); refine goesL_ (some 189) rfl rfl Try.func22 (by kernel_rfl) rfl #[.int .i64 t519] rfl (by (try simp only [List.map_toArray, List.map_cons, List.map_nil]); first | done | rfl | (simp only [List.length_drop, List.length_take]; rfl)) ?_; (with_reducible refine (spec_ChristoffelTree.calls t519 t523 _ A123.out).mono ?_); rintro e w128 ⟨v524, rfl, ho0, hb⟩; refine ⟨_, rfl, ?_⟩; have n0_ := Aside0.mk (Kd.S_elder' (by (with_reducible repeat (first | apply Kd.S_alloc | apply Kd.S_drewN | apply Kd.S_drew)); exact HO522.out) (Kd.S_base ho0) hb); have n1_ := Aside0.mk (Kd.S_lower (Kd.S_new' ho0 (Kd.S_lt (by (with_reducible repeat (first | apply Kd.S_alloc | apply Kd.S_drewN | apply Kd.S_drew)); exact HO522.out))) (below_size (by repeat (first | (with_reducible first | exact HB.out | apply below_alloc | apply pw_below_drewN | apply below_drew1) | exact HB.out)))); have n2_ := Aside0.mk (below_step (by repeat (first | (with_reducible first | exact HB.out | apply below_alloc | apply pw_below_drewN | apply below_drew1) | exact HB.out)) hb); clear HO522; clear HB; have HO522 := n0_; have HO525 := n1_; have HB := n2_; clear n0_ n1_ n2_; (try clear hb); (try clear hb2); (try clear hk); (try clear hi); (try clear ho0); obtain ⟨Ao129, co129, eo129⟩ := Kd.S_slice HO522.out; subst eo129; obtain ⟨Ao130, co130, eo130⟩ := Kd.S_slice HO525.out; subst eo130) | ((with_reducible refine gate_callee (f := 21) rfl ?_); refine goesL_ (some 190) rfl rfl Try.func21 (by kernel_rfl) rfl #[.slice Ao129 t520.length co129, .slice Ao130 t523.length co130] rfl (by (try simp only [List.map_toArray, List.map_cons, List.map_nil]); first | done | rfl | (simp only [List.length_drop, List.length_take]; rfl)) ?_; (with_reducible refine (laws_sameWords.calls kj93 _ _ t520 _ _ t523 true _ ?side1 ?side2 ?side3 ?side4 A124.out).mono ?_); (case side1 => repeat (first | exact (Kd.S_reads' HO522.out).2.2 | (with_reducible refine Kd.C_alloc ?_ _) | (with_reducible refine Kd.C_drewN ?_ _) | (with_reducible refine Kd.C_drew ?_))); (case side2 => exact (Kd.S_reads' HO522.out).2.1); (case side3 => repeat (first | exact (Kd.S_reads' HO525.out).2.2 | (with_reducible refine Kd.C_alloc ?_ _) | (with_reducible refine Kd.C_drewN ?_ _) | (with_reducible refine Kd.C_drew ?_))); (case side4 => exact (Kd.S_reads' HO525.out).2.1); rintro e w' ⟨rfl, ⟨nd, rfl⟩⟩; refine ⟨_, rfl, ?_⟩))
           go_loopg [21] kj93 (fun kq v21 w' => ∃ (x21_4 : Int), v21 = .int .i64 x21_4 ∧ Aside0 (laws_FnChristoffel.l0 kq l0 t520 x21_4 = some r) ∧ Aside0 (kq ≤ kj93) ∧ Aside0 (Kd.S (Kd.slice 3 (Kd.int .i64)) 26 w' w.heap.size (fun _ => True) (.slice Ao129 t520.length co129) t520) ∧ Aside0 (Below w.heap.size w w'))
           case atStart => exact ⟨(1), (by first | rfl | (simp; done) | (simp [*]; done)), H', ⟨Nat.le_refl _⟩, ⟨by (with_reducible repeat (first | apply Kd.S_alloc | apply Kd.S_drewN | apply Kd.S_drew)); exact Kd.S_mono HO522.out (fun _ hk => trivial)⟩, ⟨by repeat (first | (with_reducible first | exact HB.out | apply below_alloc | apply pw_below_drewN | apply below_drew1) | exact HB.out)⟩⟩
           case round =>
            clear H'
            try clear c1
            try clear c2
            try clear p2
            try clear c3
            try clear c4
            try clear p4
            try clear q4
            try clear hx4
            try clear qi4
            try clear c5
            try clear q5
            try clear c6
            try clear p6
            try clear c7
            try clear c8
            try clear c9
            try clear c10
            try clear c11
            try clear c12
            try clear c15
            try clear c15b0
            try clear c15b1
            try clear c15b2
            try clear c16
            try clear c17
            try clear c18
            try clear c18b0
            try clear c18b1
            try clear c18b2
            try clear c19
            try clear c20
            try clear c21
            try clear c22
            try clear c33
            try clear c35
            try clear c39
            try clear c39b0
            try clear c39b1
            try clear c40
            try clear c40b0
            try clear c40b1
            try clear c42
            try clear c44
            try clear c46
            try clear c47
            try clear c47b0
            try clear c47b1
            try clear c48
            try clear c48b0
            try clear c48b1
            try clear c49
            try clear c49b0
            try clear c49b1
            try clear p49
            try clear q49
            try clear hx49
            try clear qi49
            try clear c51
            try clear c52
            try clear c52b0
            try clear c52b1
            try clear c55
            try clear q55
            try clear c59
            try clear q59
            try clear p64
            try clear c67
            try clear c69
            try clear c69b0
            try clear c69b1
            try clear c69b2
            try clear c71
            try clear c72
            try clear c73
            try clear c75
            try clear c98
            try clear c98b0
            try clear c98b1
            try clear c98b2
            try clear c103
            try clear c103b0
            try clear c103b1
            try clear c105
            try clear c120
            try clear c125
            try clear hx493_0
            try clear p2
            try clear p4
            try clear p49
            try clear p493
            try clear p6
            try clear p64
            try clear q4
            try clear q49
            try clear q493
            try clear q5
            try clear q55
            try clear q59
            obtain ⟨x21_4, rfl, HA, HK4, HO_20, HB⟩ := hrel
            cases gk with
            | zero => exact absurd HA.out (by simp [laws_FnChristoffel.l0])
            | succ k4 =>
             have H := HA.out
             clear HA
             simp only [laws_FnChristoffel.l0] at H
             by_cases c131 : x21_4 < (t520.length : Int)
             ·rw [if_pos c131] at H
              have c131b0 : decide (x21_4 < (t520.length : Int)) = true := decide_eq_true c131
              clear c131
              by_cases c132 : 0 ≤ x21_4
              ·rw [if_pos c132] at H
               have c132b0 : decide (0 ≤ x21_4) = true := decide_eq_true c132
               clear c132
               replace H := Option.bind_eq_some_iff.mp H
               obtain ⟨t528, A1330, H⟩ := H
               replace H : (if t528 = true then (if 0 ≤ (wrap64 (x21_4 - 1)) then (if (wrap64 (x21_4 - 1)) < (t520.length : Int) then ((spec_CompareWords.f k4 (rd_L2 t520 (wrap64 (x21_4 - 1))) (rd_L2 t520 x21_4)).bind fun t531 => (if t531 ≥ 0 then (some false) else (laws_FnChristoffel.l0 k4 l0 t520 (wrap64 (x21_4 + 1))))) else (none)) else (none)) else (some false)) = some r := H
               have A133 := Aside0.mk A1330
               clear A1330
               by_cases c134 : t528 = true
               ·subst c134
                have H1 : (if 0 ≤ (wrap64 (x21_4 - 1)) then (if (wrap64 (x21_4 - 1)) < (t520.length : Int) then ((spec_CompareWords.f k4 (rd_L2 t520 (wrap64 (x21_4 - 1))) (rd_L2 t520 x21_4)).bind fun t531 => (if t531 ≥ 0 then (some false) else (laws_FnChristoffel.l0 k4 l0 t520 (wrap64 (x21_4 + 1))))) else (none)) else (none)) = some r := by rw [if_pos rfl] at H; exact H
                clear H
                have H := H1
                clear H1
                obtain ⟨ji135, hji135⟩ : ∃ j_ : Int, (wrap64 (x21_4 - 1)) = j_ := ⟨_, rfl⟩
                replace H : (if 0 ≤ (ji135) then (if (ji135) < (t520.length : Int) then ((spec_CompareWords.f k4 (rd_L2 t520 (ji135)) (rd_L2 t520 x21_4)).bind fun t531 => (if t531 ≥ 0 then (some false) else (laws_FnChristoffel.l0 k4 l0 t520 (wrap64 (x21_4 + 1))))) else (none)) else (none)) = some r := by first | (rw [hji135] at H; exact H) | (simp only [hji135] at H ⊢; exact H)
                (try rw [hji135] at A133)
                have hji135w : (IntKind.i64.wrap (x21_4 - 1)) = ji135 := (i64_w _).trans hji135
                by_cases c136 : 0 ≤ (ji135)
                ·rw [if_pos c136] at H
                 have c136b0 : decide (0 ≤ (ji135)) = true := decide_eq_true c136
                 clear c136
                 by_cases c137 : (ji135) < (t520.length : Int)
                 ·rw [if_pos c137] at H
                  have c137b0 : decide ((ji135) < (t520.length : Int)) = true := decide_eq_true c137
                  clear c137
                  replace H := Option.bind_eq_some_iff.mp H
                  obtain ⟨t531, A1380, H⟩ := H
                  replace H : (if t531 ≥ 0 then (some false) else (laws_FnChristoffel.l0 k4 l0 t520 (wrap64 (x21_4 + 1)))) = some r := H
                  have A138 := Aside0.mk A1380
                  clear A1380
                  by_cases c139 : t531 ≥ 0
                  ·rw [if_pos c139] at H
                   have c139b0 : decide (0 ≤ t531) = true := decide_eq_true c139
                   clear c139
                   as_aux_lemma =>
                    obtain rfl := Option.some.inj H
                    try go_wp2
                    have n0_ := Aside0.mk (Kd.S_drew HO_20.out)
                    have n1_ := Aside0.mk (below_drew1 HB.out)
                    clear HO_20
                    clear HB
                    have HO_20 := n0_
                    have HB := n1_
                    clear n0_ n1_
                    have p527 : 0 ≤ (x21_4 : Int) := of_decide_eq_true (by first | (with_reducible assumption) | assumption)
                    have q527 : x21_4 < (t520.length : Int) := of_decide_eq_true (by first | (with_reducible assumption) | assumption)
                    obtain ⟨ad527, A527_0, c527_0, e527, hx527_0, hl527_0, hi527_0⟩ := at_L2 (Kd.S_reads' HO_20.out).2.2 x21_4 p527 q527
                    cases e527
                    obtain ⟨ce527, hce527, hMe527, hcc527⟩ := Kd.S_get HO_20.out [] x21_4 p527 (by first | exact q527 | exact of_decide_eq_true (by first | (with_reducible assumption) | assumption) | (have e_ := (Kd.S_reads' HO_20.out).1; omega))
                    obtain ⟨ve527_0, rfl, ge527_0⟩ := hMe527
                    have hv527_0 := hcc527 0 _ rfl
                    rw [Nat.add_zero, show ((Kd.slice 3 (Kd.int .i64))).sz = 1 from rfl, Nat.mul_one] at hv527_0
                    replace hv527_0 := Option.some.inj (hv527_0.symm.trans hx527_0)
                    rw [hv527_0] at ge527_0
                    have HL527_0 := Aside0.mk (show Kd.R (Kd.int .i64) 3 _ _ _ _ (rd_L2 t520 x21_4) from ge527_0)
                    clear hv527_0 ge527_0
                    clear hcc527 hce527
                    have HR527_0 := Aside0.mk hi527_0
                    have HC527_0 := Aside0.mk hl527_0
                    clear hi527_0 hl527_0
                    replace p527 := eq_true p527
                    replace q527 := eq_true q527
                    have p529 : 0 ≤ ((ji135) : Int) := of_decide_eq_true (by first | (with_reducible assumption) | assumption)
                    have q529 : (ji135) < (t520.length : Int) := of_decide_eq_true (by first | (with_reducible assumption) | assumption)
                    obtain ⟨ad529, A529_0, c529_0, e529, hx529_0, hl529_0, hi529_0⟩ := at_L2 (Kd.S_reads' HO_20.out).2.2 (ji135) p529 q529
                    obtain rfl : ad527 = ad529 := (by injection e529)
                    obtain ⟨ce529, hce529, hMe529, hcc529⟩ := Kd.S_get HO_20.out [] (ji135) p529 (by first | exact q529 | exact of_decide_eq_true (by first | (with_reducible assumption) | assumption) | (have e_ := (Kd.S_reads' HO_20.out).1; omega))
                    obtain ⟨ve529_0, rfl, ge529_0⟩ := hMe529
                    have hv529_0 := hcc529 0 _ rfl
                    rw [Nat.add_zero, show ((Kd.slice 3 (Kd.int .i64))).sz = 1 from rfl, Nat.mul_one] at hv529_0
                    replace hv529_0 := Option.some.inj (hv529_0.symm.trans hx529_0)
                    rw [hv529_0] at ge529_0
                    have HL529_0 := Aside0.mk (show Kd.R (Kd.int .i64) 3 _ _ _ _ (rd_L2 t520 (ji135)) from ge529_0)
                    clear hv529_0 ge529_0
                    clear hcc529 hce529
                    have HR529_0 := Aside0.mk hi529_0
                    have HC529_0 := Aside0.mk hl529_0
                    clear hi529_0 hl529_0
                    replace p529 := eq_true p529
                    replace q529 := eq_true q529
                    have p530 : 0 ≤ (x21_4 : Int) := of_decide_eq_true (by first | (with_reducible assumption) | assumption)
                    have q530 : x21_4 < (t520.length : Int) := of_decide_eq_true (by first | (with_reducible assumption) | assumption)
                    obtain ⟨ad530, A530_0, c530_0, e530, hx530_0, hl530_0, hi530_0⟩ := at_L2 (Kd.S_reads' HO_20.out).2.2 x21_4 p530 q530
                    obtain rfl : ad527 = ad530 := (by injection e530)
                    have ea_ := Option.some.inj (hx527_0.symm.trans hx530_0)
                    injection ea_ with ea_ en_ ec_
                    subst ea_
                    subst ec_
                    clear en_
                    obtain ⟨ce530, hce530, hMe530, hcc530⟩ := Kd.S_get HO_20.out [] x21_4 p530 (by first | exact q530 | exact of_decide_eq_true (by first | (with_reducible assumption) | assumption) | (have e_ := (Kd.S_reads' HO_20.out).1; omega))
                    obtain ⟨ve530_0, rfl, ge530_0⟩ := hMe530
                    have hv530_0 := hcc530 0 _ rfl
                    rw [Nat.add_zero, show ((Kd.slice 3 (Kd.int .i64))).sz = 1 from rfl, Nat.mul_one] at hv530_0
                    replace hv530_0 := Option.some.inj (hv530_0.symm.trans hx530_0)
                    rw [hv530_0] at ge530_0
                    have HL530_0 := Aside0.mk (show Kd.R (Kd.int .i64) 3 _ _ _ _ (rd_L2 t520 x21_4) from ge530_0)
                    clear hv530_0 ge530_0
                    clear hcc530 hce530
                    have HR530_0 := Aside0.mk hi530_0
                    have HC530_0 := Aside0.mk hl530_0
                    clear hi530_0 hl530_0
                    replace p530 := eq_true p530
                    replace q530 := eq_true q530
                    refine start_ (n := 19) (S := fun w' => w'.cell? (ad527.add (x21_4).toNat) = some (.slice A527_0 (rd_L2 t520 x21_4).length c527_0) ∧ w'.cell? (ad527.add ((ji135)).toNat) = some (.slice A529_0 (rd_L2 t520 (ji135)).length c529_0) ∧ w'.cell? (ad527.add (x21_4).toNat) = some (.slice A527_0 (rd_L2 t520 x21_4).length c527_0)) (ds := []) m0_ (by kernel_rfl) rfl rfl ⟨hx527_0, hx529_0, hx530_0⟩ (fun hHeld => ?_); refine with_tabW laws_FnChristoffel.tab27 laws_FnChristoffel.bits27 (fun HT_ HW_ => ?_)
                    generalize wr.drew = w140 at HO_20 HB HL527_0 HL529_0 HL530_0 HR527_0 HR529_0 HR530_0 hx527_0 hx529_0 hx530_0 hHeld ⊢
                    refine pure_ (i := 0) (N := some 198) (v := ?_) (a' := ?_) m1_ rfl rfl (any_of HT_.out (by kernel_rfl)) (fun _ _ _ h => h) (Or.inl ⟨by rfl, ?_⟩) ?_ ?_
                    rotate_left; · intro w'; go_simp; with_reducible rfl
                    rotate_left; · simp only [Act.put, z1_, z2_, z3_, i64_w, i32_w]; rfl
                    refine pure_ (i := 1) (N := some 199) (v := ?_) (a' := ?_) m2_ rfl rfl (any_of HT_.out (by kernel_rfl)) (fun _ _ _ h => h) (Or.inl ⟨by rfl, ?_⟩) ?_ ?_
                    rotate_left; · intro w'; go_simp; with_reducible rfl
                    rotate_left; · simp only [Act.put, z1_, z2_, z3_, i64_w, i32_w]; rfl
                    refine pure_ (i := 2) (N := some 200) (v := ?_) (a' := ?_) m3_ rfl rfl (any_of HT_.out (by kernel_rfl)) (fun _ _ _ h => h) (Or.inl ⟨by rfl, ?_⟩) ?_ ?_
                    rotate_left; · intro w'; go_simp; with_reducible rfl
                    rotate_left; · simp only [Act.put, z1_, z2_, z3_, i64_w, i32_w]; rfl
                    refine take_ (i := 3) (N := some 201) (v := ?_) (a' := ?_) m4_ rfl rfl (take_ofW HT_.out HW_.out (by kernel_rfl)) (fun _ _ _ h => h) (Or.inl ⟨by rfl, ?_⟩) hHeld ?_ ?_
                    rotate_left
                    ·rintro w' ⟨s0, s1, s2⟩
                     go_simp
                     with_reducible rfl
                    rotate_left; · simp only [Act.put, z1_, z2_, z3_, i64_w, i32_w]; rfl
                    refine one_ (i := 4) (N := some 202) m5_ rfl rfl (one_of HT_.out (by kernel_rfl)) (by decide) (fun K hK => ?_)
                    refine goes_ Try.func12 (by kernel_rfl) rfl #[.slice A527_0 (rd_L2 t520 x21_4).length c527_0] (by rfl) rfl rfl (by (try simp only [List.map_toArray, List.map_cons, List.map_nil]); first | done | rfl | (simp only [List.length_drop, List.length_take]; rfl)) ?_
                    with_reducible refine (impl_IsChristoffel.calls k4 _ _ (rd_L2 t520 x21_4) true _ ?side1 ?side2 A133.out).mono ?_
                    (case side1 => repeat (first | exact (by repeat (first | (with_reducible exact HR527_0.out) | (with_reducible refine Kd.C_alloc ?_ _) | (with_reducible refine Kd.C_drewN ?_ _) | (with_reducible refine Kd.C_drew ?_) | exact HR527_0.out)) | (with_reducible refine Kd.C_alloc ?_ _) | (with_reducible refine Kd.C_drewN ?_ _) | (with_reducible refine Kd.C_drew ?_)))
                    (case side2 => exact HC527_0.out)
                    rintro e w141 ⟨rfl, hb⟩
                    have r17_ := Aside0.mk (Kd.C_below HR529_0.out hb)
                    clear HR529_0
                    have HR529_0 := r17_
                    clear r17_
                    have r17_ := Aside0.mk (Kd.C_below HR530_0.out hb)
                    clear HR530_0
                    have HR530_0 := r17_
                    clear r17_
                    have HS0_ := (hb.cell (World.block_lt_of_cell? _ _ (hHeld.1))).trans (hHeld.1)
                    have HS1_ := (hb.cell (World.block_lt_of_cell? _ _ (hHeld.2.1))).trans (hHeld.2.1)
                    have HS2_ := (hb.cell (World.block_lt_of_cell? _ _ (hHeld.2.2))).trans (hHeld.2.2)
                    refine ⟨_, rfl, ?_⟩
                    have n0_ := Aside0.mk (Kd.S_below (by (with_reducible repeat (first | apply Kd.S_alloc | apply Kd.S_drewN | apply Kd.S_drew)); exact HO_20.out) hb)
                    have n1_ := Aside0.mk (Kd.R_below (by (with_reducible repeat (first | apply Kd.R_alloc | apply Kd.R_drewN | apply Kd.R_drew)); exact HL527_0.out) hb)
                    have n2_ := Aside0.mk (Kd.C_below (by repeat (first | (with_reducible exact HR527_0.out) | (with_reducible refine Kd.C_alloc ?_ _) | (with_reducible refine Kd.C_drewN ?_ _) | (with_reducible refine Kd.C_drew ?_) | exact HR527_0.out)) hb)
                    have n3_ := Aside0.mk (below_step (by repeat (first | (with_reducible first | exact HB.out | apply below_alloc | apply pw_below_drewN | apply below_drew1) | exact HB.out)) hb)
                    clear HO_20
                    clear HL527_0
                    clear HR527_0
                    clear HB
                    have HO_20 := n0_
                    have HL527_0 := n1_
                    have HR527_0 := n2_
                    have HB := n3_
                    clear n0_ n1_ n2_ n3_
                    (try clear hb)
                    (try clear hb2)
                    (try clear hk)
                    (try clear hi)
                    refine hK.out _ _ ⟨HS0_, HS1_, HS2_⟩ (fun hHeld => ?_)
                    clear hK K
                    refine norm_ (a' := ?_) ?_ ?_
                    rotate_left
                    ·show Act.put _ (some 202) _ = _
                     simp only [Act.put, z1_, z2_, z3_, i64_w, i32_w]
                     rfl
                    refine pure_ (i := 5) (N := some 203) (v := ?_) (a' := ?_) m6_ rfl rfl (any_of HT_.out (by kernel_rfl)) (fun _ _ _ h => h) (Or.inl ⟨by rfl, ?_⟩) ?_ ?_
                    rotate_left; · intro w'; go_simp; with_reducible rfl
                    rotate_left; · simp only [Act.put, z1_, z2_, z3_, i64_w, i32_w]; rfl
                    refine pure_ (i := 6) (N := some 204) (v := ?_) (a' := ?_) m7_ rfl rfl (any_of HT_.out (by kernel_rfl)) (fun _ _ _ h => h) (Or.inl ⟨by rfl, ?_⟩) ?_ ?_
                    rotate_left; · intro w'; go_simp; with_reducible rfl
                    rotate_left; · simp only [Act.put, z1_, z2_, z3_, i64_w, i32_w]; rfl
                    refine pure_ (i := 7) (N := some 205) (v := ?_) (a' := ?_) m8_ rfl rfl (any_of HT_.out (by kernel_rfl)) (fun _ _ _ h => h) (Or.inl ⟨by rfl, ?_⟩) ?_ ?_
                    rotate_left; · intro w'; go_simp; with_reducible rfl
                    rotate_left; · simp only [Act.put, z1_, z2_, z3_, i64_w, i32_w]; rfl
                    refine pure_ (i := 8) (N := some 206) (v := ?_) (a' := ?_) m9_ rfl rfl (any_of HT_.out (by kernel_rfl)) (fun _ _ _ h => h) (Or.inl ⟨by rfl, ?_⟩) ?_ ?_
                    rotate_left; · intro w'; go_simp; with_reducible rfl
                    rotate_left; · simp only [Act.put, z1_, z2_, z3_, i64_w, i32_w]; rfl
                    refine pure_ (i := 9) (N := some 207) (v := ?_) (a' := ?_) m10_ rfl rfl (any_of HT_.out (by kernel_rfl)) (fun _ _ _ h => h) (Or.inl ⟨by rfl, ?_⟩) ?_ ?_
                    rotate_left; · intro w'; go_simp; with_reducible rfl
                    rotate_left; · simp only [Act.put, z1_, z2_, z3_, i64_w, i32_w]; rfl
                    refine pure_ (i := 10) (N := some 208) (v := ?_) (a' := ?_) m11_ rfl rfl (any_of HT_.out (by kernel_rfl)) (fun _ _ _ h => h) (Or.inl ⟨by rfl, ?_⟩) ?_ ?_
                    rotate_left; · intro w'; go_simp; with_reducible rfl
                    rotate_left; · simp only [Act.put, z1_, z2_, z3_, i64_w, i32_w]; rfl
                    refine pure_ (i := 12) (N := some 210) (v := ?_) (a' := ?_) m12_ rfl rfl (any_of HT_.out (by kernel_rfl)) (fun _ _ _ h => h) (Or.inl ⟨by rfl, ?_⟩) ?_ ?_
                    rotate_left; · intro w'; go_simp; with_reducible rfl
                    rotate_left; · simp only [Act.put, z1_, z2_, z3_, i64_w, i32_w]; rfl
                    refine pure_ (i := 13) (N := some 211) (v := ?_) (a' := ?_) m13_ rfl rfl (any_of HT_.out (by kernel_rfl)) (fun _ _ _ h => h) (Or.inl ⟨by rfl, ?_⟩) ?_ ?_
                    rotate_left; · intro w'; go_simp; with_reducible rfl
                    rotate_left; · simp only [Act.put, z1_, z2_, z3_, i64_w, i32_w]; rfl
                    refine pure_ (i := 14) (N := some 212) (v := ?_) (a' := ?_) m14_ rfl rfl (any_of HT_.out (by kernel_rfl)) (fun _ _ _ h => h) (Or.inl ⟨by rfl, ?_⟩) ?_ ?_
                    rotate_left; · intro w'; go_simp; with_reducible rfl
                    rotate_left; · simp only [Act.put, z1_, z2_, z3_, i64_w, i32_w]; rfl
                    refine take_ (i := 11) (N := some 209) (v := ?_) (a' := ?_) m15_ rfl rfl (take_ofW HT_.out HW_.out (by kernel_rfl)) (fun _ _ _ h => h) (Or.inl ⟨by rfl, ?_⟩) hHeld ?_ ?_
                    rotate_left
                    ·rintro w' ⟨s0, s1, s2⟩
                     go_simp
                     with_reducible rfl
                    rotate_left; · simp only [Act.put, z1_, z2_, z3_, i64_w, i32_w]; rfl
                    refine take_ (i := 15) (N := some 213) (v := ?_) (a' := ?_) m16_ rfl rfl (take_ofW HT_.out HW_.out (by kernel_rfl)) (fun _ _ _ h => h) (Or.inl ⟨by rfl, ?_⟩) hHeld ?_ ?_
                    rotate_left
                    ·rintro w' ⟨s0, s1, s2⟩
                     go_simp
                     with_reducible rfl
                    rotate_left; · simp only [Act.put, z1_, z2_, z3_, i64_w, i32_w]; rfl
                    refine one_ (i := 16) (N := some 214) m17_ rfl rfl (one_of HT_.out (by kernel_rfl)) (by decide) (fun K hK => ?_)
                    refine goes_ Try.func23 (by kernel_rfl) rfl #[.slice A529_0 (rd_L2 t520 (ji135)).length c529_0, .slice A527_0 (rd_L2 t520 x21_4).length c527_0] (by rfl) rfl rfl (by (try simp only [List.map_toArray, List.map_cons, List.map_nil]); first | done | (simp only [hji135]; rfl) | rfl | (simp only [List.length_drop, List.length_take]; rfl)) ?_
                    with_reducible refine (spec_CompareWords.calls k4 _ _ (rd_L2 t520 (ji135)) _ _ (rd_L2 t520 x21_4) t531 _ ?side1 ?side2 ?side3 ?side4 A138.out).mono ?_
                    (case side1 => repeat (first | exact (by repeat (first | (with_reducible exact HR529_0.out) | (with_reducible refine Kd.C_alloc ?_ _) | (with_reducible refine Kd.C_drewN ?_ _) | (with_reducible refine Kd.C_drew ?_) | exact HR529_0.out)) | (with_reducible refine Kd.C_alloc ?_ _) | (with_reducible refine Kd.C_drewN ?_ _) | (with_reducible refine Kd.C_drew ?_)))
                    (case side2 => exact HC529_0.out)
                    (case side3 => repeat (first | exact (by repeat (first | (with_reducible exact HR530_0.out) | (with_reducible refine Kd.C_alloc ?_ _) | (with_reducible refine Kd.C_drewN ?_ _) | (with_reducible refine Kd.C_drew ?_) | exact HR530_0.out)) | (with_reducible refine Kd.C_alloc ?_ _) | (with_reducible refine Kd.C_drewN ?_ _) | (with_reducible refine Kd.C_drew ?_)))
                    (case side4 => exact HC530_0.out)
                    rintro e w' ⟨rfl, ⟨nd, rfl⟩⟩
                    refine ⟨_, rfl, ?_⟩
                    refine hK.out _ _ ⟨hHeld.1, hHeld.2.1, hHeld.2.2⟩ (fun hHeld => ?_)
                    clear hK K
                    refine norm_ (a' := ?_) ?_ ?_
                    rotate_left
                    ·show Act.put _ (some 214) _ = _
                     simp only [Act.put, z1_, z2_, z3_, i64_w, i32_w]
                     rfl
                    refine pure_ (i := 17) (N := some 215) (v := ?_) (a' := ?_) m18_ rfl rfl (any_of HT_.out (by kernel_rfl)) (fun _ _ _ h => h) (Or.inl ⟨by rfl, ?_⟩) ?_ ?_
                    rotate_left; · intro w'; go_simp; with_reducible rfl
                    rotate_left; · simp only [Act.put, z1_, z2_, z3_, i64_w, i32_w]; rfl
                    refine pure_ (i := 18) (N := some 216) (v := ?_) (a' := ?_) m19_ rfl rfl (any_of HT_.out (by kernel_rfl)) (fun _ _ _ h => h) (Or.inl ⟨by rfl, ?_⟩) ?_ ?_
                    rotate_left; · intro w'; go_simp; with_reducible rfl
                    rotate_left; · simp only [Act.put, z1_, z2_, z3_, i64_w, i32_w]; rfl
                    refine done_ (done_of HT_.out (by kernel_rfl)) ?_
                    try go_wp2
                    go_ret
                    exact ⟨by first | rfl | (simp [errW_none, errW_some] <;> rfl) | (simp only [← hji135]; first | rfl | (simp [errW_none, errW_some] <;> rfl)) | (simp [*, errW_none, errW_some] <;> rfl), by repeat (first | (with_reducible first | exact HB.out | apply below_alloc | apply pw_below_drewN | apply below_drew1) | exact HB.out)⟩
                  ·rw [if_neg c139] at H
                   have c139b0 : decide (0 ≤ t531) = false := decide_eq_false c139
                   clear c139
                   as_aux_lemma =>
                    have H' := Aside0.mk H
                    clear H
                    try go_wp2
                    have n0_ := Aside0.mk (Kd.S_drew HO_20.out)
                    have n1_ := Aside0.mk (below_drew1 HB.out)
                    clear HO_20
                    clear HB
                    have HO_20 := n0_
                    have HB := n1_
                    clear n0_ n1_
                    have p527 : 0 ≤ (x21_4 : Int) := of_decide_eq_true (by first | (with_reducible assumption) | assumption)
                    have q527 : x21_4 < (t520.length : Int) := of_decide_eq_true (by first | (with_reducible assumption) | assumption)
                    obtain ⟨ad527, A527_0, c527_0, e527, hx527_0, hl527_0, hi527_0⟩ := at_L2 (Kd.S_reads' HO_20.out).2.2 x21_4 p527 q527
                    cases e527
                    obtain ⟨ce527, hce527, hMe527, hcc527⟩ := Kd.S_get HO_20.out [] x21_4 p527 (by first | exact q527 | exact of_decide_eq_true (by first | (with_reducible assumption) | assumption) | (have e_ := (Kd.S_reads' HO_20.out).1; omega))
                    obtain ⟨ve527_0, rfl, ge527_0⟩ := hMe527
                    have hv527_0 := hcc527 0 _ rfl
                    rw [Nat.add_zero, show ((Kd.slice 3 (Kd.int .i64))).sz = 1 from rfl, Nat.mul_one] at hv527_0
                    replace hv527_0 := Option.some.inj (hv527_0.symm.trans hx527_0)
                    rw [hv527_0] at ge527_0
                    have HL527_0 := Aside0.mk (show Kd.R (Kd.int .i64) 3 _ _ _ _ (rd_L2 t520 x21_4) from ge527_0)
                    clear hv527_0 ge527_0
                    clear hcc527 hce527
                    have HR527_0 := Aside0.mk hi527_0
                    have HC527_0 := Aside0.mk hl527_0
                    clear hi527_0 hl527_0
                    replace p527 := eq_true p527
                    replace q527 := eq_true q527
                    have p529 : 0 ≤ ((ji135) : Int) := of_decide_eq_true (by first | (with_reducible assumption) | assumption)
                    have q529 : (ji135) < (t520.length : Int) := of_decide_eq_true (by first | (with_reducible assumption) | assumption)
                    obtain ⟨ad529, A529_0, c529_0, e529, hx529_0, hl529_0, hi529_0⟩ := at_L2 (Kd.S_reads' HO_20.out).2.2 (ji135) p529 q529
                    obtain rfl : ad527 = ad529 := (by injection e529)
                    obtain ⟨ce529, hce529, hMe529, hcc529⟩ := Kd.S_get HO_20.out [] (ji135) p529 (by first | exact q529 | exact of_decide_eq_true (by first | (with_reducible assumption) | assumption) | (have e_ := (Kd.S_reads' HO_20.out).1; omega))
                    obtain ⟨ve529_0, rfl, ge529_0⟩ := hMe529
                    have hv529_0 := hcc529 0 _ rfl
                    rw [Nat.add_zero, show ((Kd.slice 3 (Kd.int .i64))).sz = 1 from rfl, Nat.mul_one] at hv529_0
                    replace hv529_0 := Option.some.inj (hv529_0.symm.trans hx529_0)
                    rw [hv529_0] at ge529_0
                    have HL529_0 := Aside0.mk (show Kd.R (Kd.int .i64) 3 _ _ _ _ (rd_L2 t520 (ji135)) from ge529_0)
                    clear hv529_0 ge529_0
                    clear hcc529 hce529
                    have HR529_0 := Aside0.mk hi529_0
                    have HC529_0 := Aside0.mk hl529_0
                    clear hi529_0 hl529_0
                    replace p529 := eq_true p529
                    replace q529 := eq_true q529
                    have p530 : 0 ≤ (x21_4 : Int) := of_decide_eq_true (by first | (with_reducible assumption) | assumption)
                    have q530 : x21_4 < (t520.length : Int) := of_decide_eq_true (by first | (with_reducible assumption) | assumption)
                    obtain ⟨ad530, A530_0, c530_0, e530, hx530_0, hl530_0, hi530_0⟩ := at_L2 (Kd.S_reads' HO_20.out).2.2 x21_4 p530 q530
                    obtain rfl : ad527 = ad530 := (by injection e530)
                    have ea_ := Option.some.inj (hx527_0.symm.trans hx530_0)
                    injection ea_ with ea_ en_ ec_
                    subst ea_
                    subst ec_
                    clear en_
                    obtain ⟨ce530, hce530, hMe530, hcc530⟩ := Kd.S_get HO_20.out [] x21_4 p530 (by first | exact q530 | exact of_decide_eq_true (by first | (with_reducible assumption) | assumption) | (have e_ := (Kd.S_reads' HO_20.out).1; omega))
                    obtain ⟨ve530_0, rfl, ge530_0⟩ := hMe530
                    have hv530_0 := hcc530 0 _ rfl
                    rw [Nat.add_zero, show ((Kd.slice 3 (Kd.int .i64))).sz = 1 from rfl, Nat.mul_one] at hv530_0
                    replace hv530_0 := Option.some.inj (hv530_0.symm.trans hx530_0)
                    rw [hv530_0] at ge530_0
                    have HL530_0 := Aside0.mk (show Kd.R (Kd.int .i64) 3 _ _ _ _ (rd_L2 t520 x21_4) from ge530_0)
                    clear hv530_0 ge530_0
                    clear hcc530 hce530
                    have HR530_0 := Aside0.mk hi530_0
                    have HC530_0 := Aside0.mk hl530_0
                    clear hi530_0 hl530_0
                    replace p530 := eq_true p530
                    replace q530 := eq_true q530
                    refine start_ (n := 19) (S := fun w' => w'.cell? (ad527.add (x21_4).toNat) = some (.slice A527_0 (rd_L2 t520 x21_4).length c527_0) ∧ w'.cell? (ad527.add ((ji135)).toNat) = some (.slice A529_0 (rd_L2 t520 (ji135)).length c529_0) ∧ w'.cell? (ad527.add (x21_4).toNat) = some (.slice A527_0 (rd_L2 t520 x21_4).length c527_0)) (ds := []) m0_ (by kernel_rfl) rfl rfl ⟨hx527_0, hx529_0, hx530_0⟩ (fun hHeld => ?_); refine with_tabW laws_FnChristoffel.tab27 laws_FnChristoffel.bits27 (fun HT_ HW_ => ?_)
                    generalize wr.drew = w142 at HO_20 HB HL527_0 HL529_0 HL530_0 HR527_0 HR529_0 HR530_0 hx527_0 hx529_0 hx530_0 hHeld ⊢
                    refine pure_ (i := 0) (N := some 198) (v := ?_) (a' := ?_) m1_ rfl rfl (any_of HT_.out (by kernel_rfl)) (fun _ _ _ h => h) (Or.inl ⟨by rfl, ?_⟩) ?_ ?_
                    rotate_left; · intro w'; go_simp; with_reducible rfl
                    rotate_left; · simp only [Act.put, z1_, z2_, z3_, i64_w, i32_w]; rfl
                    refine pure_ (i := 1) (N := some 199) (v := ?_) (a' := ?_) m2_ rfl rfl (any_of HT_.out (by kernel_rfl)) (fun _ _ _ h => h) (Or.inl ⟨by rfl, ?_⟩) ?_ ?_
                    rotate_left; · intro w'; go_simp; with_reducible rfl
                    rotate_left; · simp only [Act.put, z1_, z2_, z3_, i64_w, i32_w]; rfl
                    refine pure_ (i := 2) (N := some 200) (v := ?_) (a' := ?_) m3_ rfl rfl (any_of HT_.out (by kernel_rfl)) (fun _ _ _ h => h) (Or.inl ⟨by rfl, ?_⟩) ?_ ?_
                    rotate_left; · intro w'; go_simp; with_reducible rfl
                    rotate_left; · simp only [Act.put, z1_, z2_, z3_, i64_w, i32_w]; rfl
                    refine take_ (i := 3) (N := some 201) (v := ?_) (a' := ?_) m4_ rfl rfl (take_ofW HT_.out HW_.out (by kernel_rfl)) (fun _ _ _ h => h) (Or.inl ⟨by rfl, ?_⟩) hHeld ?_ ?_
                    rotate_left
                    ·rintro w' ⟨s0, s1, s2⟩
                     go_simp
                     with_reducible rfl
                    rotate_left; · simp only [Act.put, z1_, z2_, z3_, i64_w, i32_w]; rfl
                    refine one_ (i := 4) (N := some 202) m5_ rfl rfl (one_of HT_.out (by kernel_rfl)) (by decide) (fun K hK => ?_)
                    refine goes_ Try.func12 (by kernel_rfl) rfl #[.slice A527_0 (rd_L2 t520 x21_4).length c527_0] (by rfl) rfl rfl (by (try simp only [List.map_toArray, List.map_cons, List.map_nil]); first | done | rfl | (simp only [List.length_drop, List.length_take]; rfl)) ?_
                    with_reducible refine (impl_IsChristoffel.calls k4 _ _ (rd_L2 t520 x21_4) true _ ?side1 ?side2 A133.out).mono ?_
                    (case side1 => repeat (first | exact (by repeat (first | (with_reducible exact HR527_0.out) | (with_reducible refine Kd.C_alloc ?_ _) | (with_reducible refine Kd.C_drewN ?_ _) | (with_reducible refine Kd.C_drew ?_) | exact HR527_0.out)) | (with_reducible refine Kd.C_alloc ?_ _) | (with_reducible refine Kd.C_drewN ?_ _) | (with_reducible refine Kd.C_drew ?_)))
                    (case side2 => exact HC527_0.out)
                    rintro e w143 ⟨rfl, hb⟩
                    have r17_ := Aside0.mk (Kd.C_below HR529_0.out hb)
                    clear HR529_0
                    have HR529_0 := r17_
                    clear r17_
                    have r17_ := Aside0.mk (Kd.C_below HR530_0.out hb)
                    clear HR530_0
                    have HR530_0 := r17_
                    clear r17_
                    have HS0_ := (hb.cell (World.block_lt_of_cell? _ _ (hHeld.1))).trans (hHeld.1)
                    have HS1_ := (hb.cell (World.block_lt_of_cell? _ _ (hHeld.2.1))).trans (hHeld.2.1)
                    have HS2_ := (hb.cell (World.block_lt_of_cell? _ _ (hHeld.2.2))).trans (hHeld.2.2)
                    refine ⟨_, rfl, ?_⟩
                    have n0_ := Aside0.mk (Kd.S_below (by (with_reducible repeat (first | apply Kd.S_alloc | apply Kd.S_drewN | apply Kd.S_drew)); exact HO_20.out) hb)
                    have n1_ := Aside0.mk (Kd.R_below (by (with_reducible repeat (first | apply Kd.R_alloc | apply Kd.R_drewN | apply Kd.R_drew)); exact HL527_0.out) hb)
                    have n2_ := Aside0.mk (Kd.C_below (by repeat (first | (with_reducible exact HR527_0.out) | (with_reducible refine Kd.C_alloc ?_ _) | (with_reducible refine Kd.C_drewN ?_ _) | (with_reducible refine Kd.C_drew ?_) | exact HR527_0.out)) hb)
                    have n3_ := Aside0.mk (below_step (by repeat (first | (with_reducible first | exact HB.out | apply below_alloc | apply pw_below_drewN | apply below_drew1) | exact HB.out)) hb)
                    clear HO_20
                    clear HL527_0
                    clear HR527_0
                    clear HB
                    have HO_20 := n0_
                    have HL527_0 := n1_
                    have HR527_0 := n2_
                    have HB := n3_
                    clear n0_ n1_ n2_ n3_
                    (try clear hb)
                    (try clear hb2)
                    (try clear hk)
                    (try clear hi)
                    refine hK.out _ _ ⟨HS0_, HS1_, HS2_⟩ (fun hHeld => ?_)
                    clear hK K
                    refine norm_ (a' := ?_) ?_ ?_
                    rotate_left
                    ·show Act.put _ (some 202) _ = _
                     simp only [Act.put, z1_, z2_, z3_, i64_w, i32_w]
                     rfl
                    refine pure_ (i := 5) (N := some 203) (v := ?_) (a' := ?_) m6_ rfl rfl (any_of HT_.out (by kernel_rfl)) (fun _ _ _ h => h) (Or.inl ⟨by rfl, ?_⟩) ?_ ?_
                    rotate_left; · intro w'; go_simp; with_reducible rfl
                    rotate_left; · simp only [Act.put, z1_, z2_, z3_, i64_w, i32_w]; rfl
                    refine pure_ (i := 6) (N := some 204) (v := ?_) (a' := ?_) m7_ rfl rfl (any_of HT_.out (by kernel_rfl)) (fun _ _ _ h => h) (Or.inl ⟨by rfl, ?_⟩) ?_ ?_
                    rotate_left; · intro w'; go_simp; with_reducible rfl
                    rotate_left; · simp only [Act.put, z1_, z2_, z3_, i64_w, i32_w]; rfl
                    refine pure_ (i := 7) (N := some 205) (v := ?_) (a' := ?_) m8_ rfl rfl (any_of HT_.out (by kernel_rfl)) (fun _ _ _ h => h) (Or.inl ⟨by rfl, ?_⟩) ?_ ?_
                    rotate_left; · intro w'; go_simp; with_reducible rfl
                    rotate_left; · simp only [Act.put, z1_, z2_, z3_, i64_w, i32_w]; rfl
                    refine pure_ (i := 8) (N := some 206) (v := ?_) (a' := ?_) m9_ rfl rfl (any_of HT_.out (by kernel_rfl)) (fun _ _ _ h => h) (Or.inl ⟨by rfl, ?_⟩) ?_ ?_
                    rotate_left; · intro w'; go_simp; with_reducible rfl
                    rotate_left; · simp only [Act.put, z1_, z2_, z3_, i64_w, i32_w]; rfl
                    refine pure_ (i := 9) (N := some 207) (v := ?_) (a' := ?_) m10_ rfl rfl (any_of HT_.out (by kernel_rfl)) (fun _ _ _ h => h) (Or.inl ⟨by rfl, ?_⟩) ?_ ?_
                    rotate_left; · intro w'; go_simp; with_reducible rfl
                    rotate_left; · simp only [Act.put, z1_, z2_, z3_, i64_w, i32_w]; rfl
                    refine pure_ (i := 10) (N := some 208) (v := ?_) (a' := ?_) m11_ rfl rfl (any_of HT_.out (by kernel_rfl)) (fun _ _ _ h => h) (Or.inl ⟨by rfl, ?_⟩) ?_ ?_
                    rotate_left; · intro w'; go_simp; with_reducible rfl
                    rotate_left; · simp only [Act.put, z1_, z2_, z3_, i64_w, i32_w]; rfl
                    refine pure_ (i := 12) (N := some 210) (v := ?_) (a' := ?_) m12_ rfl rfl (any_of HT_.out (by kernel_rfl)) (fun _ _ _ h => h) (Or.inl ⟨by rfl, ?_⟩) ?_ ?_
                    rotate_left; · intro w'; go_simp; with_reducible rfl
                    rotate_left; · simp only [Act.put, z1_, z2_, z3_, i64_w, i32_w]; rfl
                    refine pure_ (i := 13) (N := some 211) (v := ?_) (a' := ?_) m13_ rfl rfl (any_of HT_.out (by kernel_rfl)) (fun _ _ _ h => h) (Or.inl ⟨by rfl, ?_⟩) ?_ ?_
                    rotate_left; · intro w'; go_simp; with_reducible rfl
                    rotate_left; · simp only [Act.put, z1_, z2_, z3_, i64_w, i32_w]; rfl
                    refine pure_ (i := 14) (N := some 212) (v := ?_) (a' := ?_) m14_ rfl rfl (any_of HT_.out (by kernel_rfl)) (fun _ _ _ h => h) (Or.inl ⟨by rfl, ?_⟩) ?_ ?_
                    rotate_left; · intro w'; go_simp; with_reducible rfl
                    rotate_left; · simp only [Act.put, z1_, z2_, z3_, i64_w, i32_w]; rfl
                    refine take_ (i := 11) (N := some 209) (v := ?_) (a' := ?_) m15_ rfl rfl (take_ofW HT_.out HW_.out (by kernel_rfl)) (fun _ _ _ h => h) (Or.inl ⟨by rfl, ?_⟩) hHeld ?_ ?_
                    rotate_left
                    ·rintro w' ⟨s0, s1, s2⟩
                     go_simp
                     with_reducible rfl
                    rotate_left; · simp only [Act.put, z1_, z2_, z3_, i64_w, i32_w]; rfl
                    refine take_ (i := 15) (N := some 213) (v := ?_) (a' := ?_) m16_ rfl rfl (take_ofW HT_.out HW_.out (by kernel_rfl)) (fun _ _ _ h => h) (Or.inl ⟨by rfl, ?_⟩) hHeld ?_ ?_
                    rotate_left
                    ·rintro w' ⟨s0, s1, s2⟩
                     go_simp
                     with_reducible rfl
                    rotate_left; · simp only [Act.put, z1_, z2_, z3_, i64_w, i32_w]; rfl
                    refine one_ (i := 16) (N := some 214) m17_ rfl rfl (one_of HT_.out (by kernel_rfl)) (by decide) (fun K hK => ?_)
                    refine goes_ Try.func23 (by kernel_rfl) rfl #[.slice A529_0 (rd_L2 t520 (ji135)).length c529_0, .slice A527_0 (rd_L2 t520 x21_4).length c527_0] (by rfl) rfl rfl (by (try simp only [List.map_toArray, List.map_cons, List.map_nil]); first | done | (simp only [hji135]; rfl) | rfl | (simp only [List.length_drop, List.length_take]; rfl)) ?_
                    with_reducible refine (spec_CompareWords.calls k4 _ _ (rd_L2 t520 (ji135)) _ _ (rd_L2 t520 x21_4) t531 _ ?side1 ?side2 ?side3 ?side4 A138.out).mono ?_
                    (case side1 => repeat (first | exact (by repeat (first | (with_reducible exact HR529_0.out) | (with_reducible refine Kd.C_alloc ?_ _) | (with_reducible refine Kd.C_drewN ?_ _) | (with_reducible refine Kd.C_drew ?_) | exact HR529_0.out)) | (with_reducible refine Kd.C_alloc ?_ _) | (with_reducible refine Kd.C_drewN ?_ _) | (with_reducible refine Kd.C_drew ?_)))
                    (case side2 => exact HC529_0.out)
                    (case side3 => repeat (first | exact (by repeat (first | (with_reducible exact HR530_0.out) | (with_reducible refine Kd.C_alloc ?_ _) | (with_reducible refine Kd.C_drewN ?_ _) | (with_reducible refine Kd.C_drew ?_) | exact HR530_0.out)) | (with_reducible refine Kd.C_alloc ?_ _) | (with_reducible refine Kd.C_drewN ?_ _) | (with_reducible refine Kd.C_drew ?_)))
                    (case side4 => exact HC530_0.out)
                    rintro e w' ⟨rfl, ⟨nd, rfl⟩⟩
                    refine ⟨_, rfl, ?_⟩
                    refine hK.out _ _ ⟨hHeld.1, hHeld.2.1, hHeld.2.2⟩ (fun hHeld => ?_)
                    clear hK K
                    refine norm_ (a' := ?_) ?_ ?_
                    rotate_left
                    ·show Act.put _ (some 214) _ = _
                     simp only [Act.put, z1_, z2_, z3_, i64_w, i32_w]
                     rfl
                    refine pure_ (i := 17) (N := some 215) (v := ?_) (a' := ?_) m18_ rfl rfl (any_of HT_.out (by kernel_rfl)) (fun _ _ _ h => h) (Or.inl ⟨by rfl, ?_⟩) ?_ ?_
                    rotate_left; · intro w'; go_simp; with_reducible rfl
                    rotate_left; · simp only [Act.put, z1_, z2_, z3_, i64_w, i32_w]; rfl
                    refine pure_ (i := 18) (N := some 216) (v := ?_) (a' := ?_) m19_ rfl rfl (any_of HT_.out (by kernel_rfl)) (fun _ _ _ h => h) (Or.inl ⟨by rfl, ?_⟩) ?_ ?_
                    rotate_left; · intro w'; go_simp; with_reducible rfl
                    rotate_left; · simp only [Act.put, z1_, z2_, z3_, i64_w, i32_w]; rfl
                    refine done_ (done_of HT_.out (by kernel_rfl)) ?_
                    try go_wp2
                    (try subst hji135)
                    go_roundg k4
                    case measure => have := HJ8.out; have := HJ33.out; have := HJ93.out; have := HK4.out; omega
                    case rel => exact ⟨(wrap64 (x21_4 + 1)), (by first | rfl | (simp; done) | (simp [*]; done)), H', ⟨by have := HJ8.out; have := HJ33.out; have := HJ93.out; have := HK4.out; omega⟩, ⟨by (with_reducible repeat (first | apply Kd.S_alloc | apply Kd.S_drewN | apply Kd.S_drew)); exact HO_20.out⟩, ⟨by repeat (first | (with_reducible first | exact HB.out | apply below_alloc | apply pw_below_drewN | apply below_drew1) | exact HB.out)⟩⟩
                 ·rw [if_neg c137] at H
                  exact absurd H (by simp)
                ·rw [if_neg c136] at H
                 exact absurd H (by simp)
               ·replace c134 := Bool.eq_false_iff.mpr c134
                subst c134
                have H1 : (some false) = some r := by rw [if_neg (show ¬ (false = true) by decide)] at H; exact H
                clear H
                have H := H1
                clear H1
                as_aux_lemma =>
                 obtain rfl := Option.some.inj H
                 try go_wp2
                 have n0_ := Aside0.mk (Kd.S_drew HO_20.out)
                 have n1_ := Aside0.mk (below_drew1 HB.out)
                 clear HO_20
                 clear HB
                 have HO_20 := n0_
                 have HB := n1_
                 clear n0_ n1_
                 have p527 : 0 ≤ (x21_4 : Int) := of_decide_eq_true (by first | (with_reducible assumption) | assumption)
                 have q527 : x21_4 < (t520.length : Int) := of_decide_eq_true (by first | (with_reducible assumption) | assumption)
                 obtain ⟨ad527, A527_0, c527_0, e527, hx527_0, hl527_0, hi527_0⟩ := at_L2 (Kd.S_reads' HO_20.out).2.2 x21_4 p527 q527
                 cases e527
                 obtain ⟨ce527, hce527, hMe527, hcc527⟩ := Kd.S_get HO_20.out [] x21_4 p527 (by first | exact q527 | exact of_decide_eq_true (by first | (with_reducible assumption) | assumption) | (have e_ := (Kd.S_reads' HO_20.out).1; omega))
                 obtain ⟨ve527_0, rfl, ge527_0⟩ := hMe527
                 have hv527_0 := hcc527 0 _ rfl
                 rw [Nat.add_zero, show ((Kd.slice 3 (Kd.int .i64))).sz = 1 from rfl, Nat.mul_one] at hv527_0
                 replace hv527_0 := Option.some.inj (hv527_0.symm.trans hx527_0)
                 rw [hv527_0] at ge527_0
                 have HL527_0 := Aside0.mk (show Kd.R (Kd.int .i64) 3 _ _ _ _ (rd_L2 t520 x21_4) from ge527_0)
                 clear hv527_0 ge527_0
                 clear hcc527 hce527
                 have HR527_0 := Aside0.mk hi527_0
                 have HC527_0 := Aside0.mk hl527_0
                 clear hi527_0 hl527_0
                 replace p527 := eq_true p527
                 replace q527 := eq_true q527
                 refine start_ (n := 19) (S := fun w' => w'.cell? (ad527.add (x21_4).toNat) = some (.slice A527_0 (rd_L2 t520 x21_4).length c527_0)) (ds := []) m0_ (by kernel_rfl) rfl rfl (hx527_0) (fun hHeld => ?_); refine with_tabW laws_FnChristoffel.tab27 laws_FnChristoffel.bits27 (fun HT_ HW_ => ?_)
                 generalize wr.drew = w144 at HO_20 HB HL527_0 HR527_0 hx527_0 hHeld ⊢
                 refine pure_ (i := 0) (N := some 198) (v := ?_) (a' := ?_) m1_ rfl rfl (any_of HT_.out (by kernel_rfl)) (fun _ _ _ h => h) (Or.inl ⟨by rfl, ?_⟩) ?_ ?_
                 rotate_left; · intro w'; go_simp; with_reducible rfl
                 rotate_left; · simp only [Act.put, z1_, z2_, z3_, i64_w, i32_w]; rfl
                 refine pure_ (i := 1) (N := some 199) (v := ?_) (a' := ?_) m2_ rfl rfl (any_of HT_.out (by kernel_rfl)) (fun _ _ _ h => h) (Or.inl ⟨by rfl, ?_⟩) ?_ ?_
                 rotate_left; · intro w'; go_simp; with_reducible rfl
                 rotate_left; · simp only [Act.put, z1_, z2_, z3_, i64_w, i32_w]; rfl
                 refine pure_ (i := 2) (N := some 200) (v := ?_) (a' := ?_) m3_ rfl rfl (any_of HT_.out (by kernel_rfl)) (fun _ _ _ h => h) (Or.inl ⟨by rfl, ?_⟩) ?_ ?_
                 rotate_left; · intro w'; go_simp; with_reducible rfl
                 rotate_left; · simp only [Act.put, z1_, z2_, z3_, i64_w, i32_w]; rfl
                 refine take_ (i := 3) (N := some 201) (v := ?_) (a' := ?_) m4_ rfl rfl (take_ofW HT_.out HW_.out (by kernel_rfl)) (fun _ _ _ h => h) (Or.inl ⟨by rfl, ?_⟩) hHeld ?_ ?_
                 rotate_left
                 ·intro w' s0
                  go_simp
                  with_reducible rfl
                 rotate_left; · simp only [Act.put, z1_, z2_, z3_, i64_w, i32_w]; rfl
                 refine one_ (i := 4) (N := some 202) m5_ rfl rfl (one_of HT_.out (by kernel_rfl)) (by decide) (fun K hK => ?_)
                 refine goes_ Try.func12 (by kernel_rfl) rfl #[.slice A527_0 (rd_L2 t520 x21_4).length c527_0] (by rfl) rfl rfl (by (try simp only [List.map_toArray, List.map_cons, List.map_nil]); first | done | rfl | (simp only [List.length_drop, List.length_take]; rfl)) ?_
                 with_reducible refine (impl_IsChristoffel.calls k4 _ _ (rd_L2 t520 x21_4) false _ ?side1 ?side2 A133.out).mono ?_
                 (case side1 => repeat (first | exact (by repeat (first | (with_reducible exact HR527_0.out) | (with_reducible refine Kd.C_alloc ?_ _) | (with_reducible refine Kd.C_drewN ?_ _) | (with_reducible refine Kd.C_drew ?_) | exact HR527_0.out)) | (with_reducible refine Kd.C_alloc ?_ _) | (with_reducible refine Kd.C_drewN ?_ _) | (with_reducible refine Kd.C_drew ?_)))
                 (case side2 => exact HC527_0.out)
                 rintro e w145 ⟨rfl, hb⟩
                 have HS0_ := (hb.cell (World.block_lt_of_cell? _ _ (hHeld))).trans (hHeld)
                 refine ⟨_, rfl, ?_⟩
                 have n0_ := Aside0.mk (Kd.S_below (by (with_reducible repeat (first | apply Kd.S_alloc | apply Kd.S_drewN | apply Kd.S_drew)); exact HO_20.out) hb)
                 have n1_ := Aside0.mk (Kd.R_below (by (with_reducible repeat (first | apply Kd.R_alloc | apply Kd.R_drewN | apply Kd.R_drew)); exact HL527_0.out) hb)
                 have n2_ := Aside0.mk (Kd.C_below (by repeat (first | (with_reducible exact HR527_0.out) | (with_reducible refine Kd.C_alloc ?_ _) | (with_reducible refine Kd.C_drewN ?_ _) | (with_reducible refine Kd.C_drew ?_) | exact HR527_0.out)) hb)
                 have n3_ := Aside0.mk (below_step (by repeat (first | (with_reducible first | exact HB.out | apply below_alloc | apply pw_below_drewN | apply below_drew1) | exact HB.out)) hb)
                 clear HO_20
                 clear HL527_0
                 clear HR527_0
                 clear HB
                 have HO_20 := n0_
                 have HL527_0 := n1_
                 have HR527_0 := n2_
                 have HB := n3_
                 clear n0_ n1_ n2_ n3_
                 (try clear hb)
                 (try clear hb2)
                 (try clear hk)
                 (try clear hi)
                 refine hK.out _ _ (HS0_) (fun hHeld => ?_)
                 clear hK K
                 refine norm_ (a' := ?_) ?_ ?_
                 rotate_left
                 ·show Act.put _ (some 202) _ = _
                  simp only [Act.put, z1_, z2_, z3_, i64_w, i32_w]
                  rfl
                 refine pure_ (i := 5) (N := some 203) (v := ?_) (a' := ?_) m6_ rfl rfl (any_of HT_.out (by kernel_rfl)) (fun _ _ _ h => h) (Or.inl ⟨by rfl, ?_⟩) ?_ ?_
                 rotate_left; · intro w'; go_simp; with_reducible rfl
                 rotate_left; · simp only [Act.put, z1_, z2_, z3_, i64_w, i32_w]; rfl
                 refine pure_ (i := 6) (N := some 204) (v := ?_) (a' := ?_) m7_ rfl rfl (any_of HT_.out (by kernel_rfl)) (fun _ _ _ h => h) (Or.inl ⟨by rfl, ?_⟩) ?_ ?_
                 rotate_left; · intro w'; go_simp; with_reducible rfl
                 rotate_left; · simp only [Act.put, z1_, z2_, z3_, i64_w, i32_w]; rfl
                 refine pure_ (i := 7) (N := some 205) (v := undef) (a' := ?_) m8_ rfl rfl (any_of HT_.out (by kernel_rfl)) (fun _ _ _ h => h) (Or.inr ⟨by rfl, rfl⟩) ?_ ?_
                 rotate_left; · simp only [Act.put, z1_, z2_, z3_, i64_w, i32_w]; rfl
                 refine pure_ (i := 8) (N := some 206) (v := undef) (a' := ?_) m9_ rfl rfl (any_of HT_.out (by kernel_rfl)) (fun _ _ _ h => h) (Or.inr ⟨by rfl, rfl⟩) ?_ ?_
                 rotate_left; · simp only [Act.put, z1_, z2_, z3_, i64_w, i32_w]; rfl
                 refine pure_ (i := 9) (N := some 207) (v := undef) (a' := ?_) m10_ rfl rfl (any_of HT_.out (by kernel_rfl)) (fun _ _ _ h => h) (Or.inr ⟨by rfl, rfl⟩) ?_ ?_
                 rotate_left; · simp only [Act.put, z1_, z2_, z3_, i64_w, i32_w]; rfl
                 refine pure_ (i := 10) (N := some 208) (v := undef) (a' := ?_) m11_ rfl rfl (any_of HT_.out (by kernel_rfl)) (fun _ _ _ h => h) (Or.inr ⟨by rfl, rfl⟩) ?_ ?_
                 rotate_left; · simp only [Act.put, z1_, z2_, z3_, i64_w, i32_w]; rfl
                 refine pure_ (i := 11) (N := some 209) (v := undef) (a' := ?_) #[true, true, true, true, true, true, true, true, true, true, true, true, false, false, false, false, false, false, false] rfl rfl (any_of HT_.out (by kernel_rfl)) (fun _ _ _ h => h) (Or.inr ⟨by rfl, rfl⟩) ?_ ?_
                 rotate_left; · simp only [Act.put, z1_, z2_, z3_, i64_w, i32_w]; rfl
                 refine pure_ (i := 12) (N := some 210) (v := undef) (a' := ?_) #[true, true, true, true, true, true, true, true, true, true, true, true, true, false, false, false, false, false, false] rfl rfl (any_of HT_.out (by kernel_rfl)) (fun _ _ _ h => h) (Or.inr ⟨by rfl, rfl⟩) ?_ ?_
                 rotate_left; · simp only [Act.put, z1_, z2_, z3_, i64_w, i32_w]; rfl
                 refine pure_ (i := 13) (N := some 211) (v := undef) (a' := ?_) #[true, true, true, true, true, true, true, true, true, true, true, true, true, true, false, false, false, false, false] rfl rfl (any_of HT_.out (by kernel_rfl)) (fun _ _ _ h => h) (Or.inr ⟨by rfl, rfl⟩) ?_ ?_
                 rotate_left; · simp only [Act.put, z1_, z2_, z3_, i64_w, i32_w]; rfl
                 refine pure_ (i := 14) (N := some 212) (v := undef) (a' := ?_) m15_ rfl rfl (any_of HT_.out (by kernel_rfl)) (fun _ _ _ h => h) (Or.inr ⟨by rfl, rfl⟩) ?_ ?_
                 rotate_left; · simp only [Act.put, z1_, z2_, z3_, i64_w, i32_w]; rfl
                 refine pure_ (i := 15) (N := some 213) (v := undef) (a' := ?_) m16_ rfl rfl (any_of HT_.out (by kernel_rfl)) (fun _ _ _ h => h) (Or.inr ⟨by rfl, rfl⟩) ?_ ?_
                 rotate_left; · simp only [Act.put, z1_, z2_, z3_, i64_w, i32_w]; rfl
                 refine pure_ (i := 16) (N := some 214) (v := undef) (a' := ?_) m17_ rfl rfl (any_of HT_.out (by kernel_rfl)) (fun _ _ _ h => h) (Or.inr ⟨by rfl, rfl⟩) ?_ ?_
                 rotate_left; · simp only [Act.put, z1_, z2_, z3_, i64_w, i32_w]; rfl
                 refine pure_ (i := 17) (N := some 215) (v := undef) (a' := ?_) m18_ rfl rfl (any_of HT_.out (by kernel_rfl)) (fun _ _ _ h => h) (Or.inr ⟨by rfl, rfl⟩) ?_ ?_
                 rotate_left; · simp only [Act.put, z1_, z2_, z3_, i64_w, i32_w]; rfl
                 refine pure_ (i := 18) (N := some 216) (v := ?_) (a' := ?_) m19_ rfl rfl (any_of HT_.out (by kernel_rfl)) (fun _ _ _ h => h) (Or.inl ⟨by rfl, ?_⟩) ?_ ?_
                 rotate_left; · intro w'; go_simp; with_reducible rfl
                 rotate_left; · simp only [Act.put, z1_, z2_, z3_, i64_w, i32_w]; rfl
                 refine done_ (done_of HT_.out (by kernel_rfl)) ?_
                 try go_wp2
                 go_ret
                 exact ⟨by first | rfl | (simp [errW_none, errW_some] <;> rfl) | (simp [*, errW_none, errW_some] <;> rfl), by repeat (first | (with_reducible first | exact HB.out | apply below_alloc | apply pw_below_drewN | apply below_drew1) | exact HB.out)⟩
              ·rw [if_neg c132] at H
               exact absurd H (by simp)
             ·rw [if_neg c131] at H
              have c131b0 : decide (x21_4 < (t520.length : Int)) = false := decide_eq_false c131
              clear c131
              replace H := Option.bind_eq_some_iff.mp H
              obtain ⟨⟨t532, t533⟩, A1460, H⟩ := H
              replace H : ((impl_ChristoffelSplit.f k4 t532 t533).bind fun bt534 => ((spec_ChristoffelSplit.f k4 t532 t533).bind fun bt541 => (if (bt534.2.2 == bt541.2.2) = true then ((laws_sameInts.f k4 bt534.1 bt541.1).bind fun t548 => (if t548 = true then ((laws_sameInts.f k4 bt534.2.1 bt541.2.1).bind fun t549 => (some t549)) else (some false))) else (some false)))) = some r := H
              have A146 := Aside0.mk A1460
              clear A1460
              replace H := Option.bind_eq_some_iff.mp H
              obtain ⟨⟨t534, t535, t536⟩, A1470, H⟩ := H
              replace H : ((spec_ChristoffelSplit.f k4 t532 t533).bind fun bt541 => (if (t536 == bt541.2.2) = true then ((laws_sameInts.f k4 t534 bt541.1).bind fun t548 => (if t548 = true then ((laws_sameInts.f k4 t535 bt541.2.1).bind fun t549 => (some t549)) else (some false))) else (some false))) = some r := H
              have A147 := Aside0.mk A1470
              clear A1470
              replace H := Option.bind_eq_some_iff.mp H
              obtain ⟨⟨t541, t542, t543⟩, A1480, H⟩ := H
              replace H : (if (t536 == t543) = true then ((laws_sameInts.f k4 t534 t541).bind fun t548 => (if t548 = true then ((laws_sameInts.f k4 t535 t542).bind fun t549 => (some t549)) else (some false))) else (some false)) = some r := H
              have A148 := Aside0.mk A1480
              clear A1480
              by_cases c149 : (t536 == t543) = true
              ·rw [if_pos c149] at H
               have c149b0 : (t536 == t543) = true := c149
               (try (have c149b1 : decide (t536 = t543) = true := by simpa using c149))
               (try (have c149b2 : (t536 == t543) = true := by simpa using c149))
               clear c149
               replace H := Option.bind_eq_some_iff.mp H
               obtain ⟨t548, A1500, H⟩ := H
               replace H : (if t548 = true then ((laws_sameInts.f k4 t535 t542).bind fun t549 => (some t549)) else (some false)) = some r := H
               have A150 := Aside0.mk A1500
               clear A1500
               by_cases c151 : t548 = true
               ·subst c151
                have H1 : ((laws_sameInts.f k4 t535 t542).bind fun t549 => (some t549)) = some r := by rw [if_pos rfl] at H; exact H
                clear H
                have H := H1
                clear H1
                replace H := Option.bind_eq_some_iff.mp H
                obtain ⟨t549, A1520, H⟩ := H
                replace H : (some t549) = some r := H
                have A152 := Aside0.mk A1520
                clear A1520
                as_aux_lemma =>
                 obtain rfl := Option.some.inj H
                 go_wp2_with (first | ((with_reducible refine gate_callee (f := 24) rfl ?_); refine goesL_ (some 219) rfl rfl Try.func24 (by kernel_rfl) rfl #[.slice A0 l0.length c0] rfl (by (try simp only [List.map_toArray, List.map_cons, List.map_nil]); first | done | rfl | (simp only [List.length_drop, List.length_take]; rfl)) ?_; (with_reducible refine (spec_DrawChristoffelSplit.calls k4 _ _ l0 t532 t533 _ ?side1 ?side2 A146.out).mono ?_); (case side1 => repeat (first | exact (Kd.C_below HR0.out HB.out) | (with_reducible refine Kd.C_alloc ?_ _) | (with_reducible refine Kd.C_drewN ?_ _) | (with_reducible refine Kd.C_drew ?_))); (case side2 => exact HC0.out); rintro e w153 ⟨rfl, hb⟩; refine ⟨_, rfl, ?_⟩; have n0_ := Aside0.mk (Kd.S_below (by (with_reducible repeat (first | apply Kd.S_alloc | apply Kd.S_drewN | apply Kd.S_drew)); exact HO_20.out) hb); have n1_ := Aside0.mk (below_step (by repeat (first | (with_reducible first | exact HB.out | apply below_alloc | apply pw_below_drewN | apply below_drew1) | exact HB.out)) hb); clear HO_20; clear HB; have HO_20 := n0_; have HB := n1_; clear n0_ n1_; (try clear hb); (try clear hb2); (try clear hk); (try clear hi)) | ((with_reducible refine gate_callee (f := 16) rfl ?_); refine goesL_ (some 225) rfl rfl Try.func16 (by kernel_rfl) rfl #[.int .i64 t532, .int .i64 t533] rfl (by (try simp only [List.map_toArray, List.map_cons, List.map_nil]); first | done | rfl | (simp only [List.length_drop, List.length_take]; rfl)) ?_; (with_reducible refine (impl_ChristoffelSplit.calls k4 t532 t533 t534 t535 t536 _ A147.out).mono ?_); rintro e w154 ⟨v537, v539, rfl, ho0, ho1, hb⟩; refine ⟨_, rfl, ?_⟩; have n0_ := Aside0.mk (Kd.S_mono (Kd.S_told (Kd.S_told (Kd.S_old (by (with_reducible repeat (first | apply Kd.S_alloc | apply Kd.S_drewN | apply Kd.S_drew)); exact HO_20.out) hb) (Kd.R_base ho0)) (Kd.R_base ho1)) (fun _ h_ => h_.1)); have n1_ := Aside0.mk (Kd.R_lower ho0 (below_size (by repeat (first | (with_reducible first | exact HB.out | apply below_alloc | apply pw_below_drewN | apply below_drew1) | exact HB.out)))); have n2_ := Aside0.mk (Kd.R_lower ho1 (below_size (by repeat (first | (with_reducible first | exact HB.out | apply below_alloc | apply pw_below_drewN | apply below_drew1) | exact HB.out)))); have n3_ := Aside0.mk (below_step (by repeat (first | (with_reducible first | exact HB.out | apply below_alloc | apply pw_below_drewN | apply below_drew1) | exact HB.out)) hb); clear HO_20; clear HB; have HO_20 := n0_; have HO538 := n1_; have HO540 := n2_; have HB := n3_; clear n0_ n1_ n2_ n3_; (try clear hb); (try clear hb2); (try clear hk); (try clear hi); (try clear ho0); (try clear ho1)) | ((with_reducible refine gate_callee (f := 25) rfl ?_); refine goesL_ (some 232) rfl rfl Try.func25 (by kernel_rfl) rfl #[.int .i64 t532, .int .i64 t533] rfl (by (try simp only [List.map_toArray, List.map_cons, List.map_nil]); first | done | rfl | (simp only [List.length_drop, List.length_take]; rfl)) ?_; (with_reducible refine (spec_ChristoffelSplit.calls k4 t532 t533 t541 t542 t543 _ A148.out).mono ?_); rintro e w155 ⟨v544, v546, rfl, ho0, ho1, hb⟩; refine ⟨_, rfl, ?_⟩; have n0_ := Aside0.mk (Kd.S_mono (Kd.S_told (Kd.S_told (Kd.S_old (by (with_reducible repeat (first | apply Kd.S_alloc | apply Kd.S_drewN | apply Kd.S_drew)); exact HO_20.out) hb) (Kd.R_base ho0)) (Kd.R_base ho1)) (fun _ h_ => h_.1)); have n1_ := Aside0.mk (Kd.R_mono (Kd.R_told (Kd.R_told (Kd.R_old (by (with_reducible repeat (first | apply Kd.R_alloc | apply Kd.R_drewN | apply Kd.R_drew)); exact HO538.out) hb) (Kd.R_base ho0)) (Kd.R_base ho1)) (fun _ h_ => h_.1)); have n2_ := Aside0.mk (Kd.R_mono (Kd.R_told (Kd.R_told (Kd.R_old (by (with_reducible repeat (first | apply Kd.R_alloc | apply Kd.R_drewN | apply Kd.R_drew)); exact HO540.out) hb) (Kd.R_base ho0)) (Kd.R_base ho1)) (fun _ h_ => h_.1)); have n3_ := Aside0.mk (Kd.R_lower (Kd.R_new' (Kd.R_new' ho0 (Kd.R_lt (by (with_reducible repeat (first | apply Kd.R_alloc | apply Kd.R_drewN | apply Kd.R_drew)); exact HO538.out))) (Kd.R_lt (by (with_reducible repeat (first | apply Kd.R_alloc | apply Kd.R_drewN | apply Kd.R_drew)); exact HO540.out))) (below_size (by repeat (first | (with_reducible first | exact HB.out | apply below_alloc | apply pw_below_drewN | apply below_drew1) | exact HB.out)))); have n4_ := Aside0.mk (Kd.R_lower (Kd.R_new' (Kd.R_new' ho1 (Kd.R_lt (by (with_reducible repeat (first | apply Kd.R_alloc | apply Kd.R_drewN | apply Kd.R_drew)); exact HO538.out))) (Kd.R_lt (by (with_reducible repeat (first | apply Kd.R_alloc | apply Kd.R_drewN | apply Kd.R_drew)); exact HO540.out))) (below_size (by repeat (first | (with_reducible first | exact HB.out | apply below_alloc | apply pw_below_drewN | apply below_drew1) | exact HB.out)))); have n5_ := Aside0.mk (below_step (by repeat (first | (with_reducible first | exact HB.out | apply below_alloc | apply pw_below_drewN | apply below_drew1) | exact HB.out)) hb); clear HO_20; clear HO538; clear HO540; clear HB; have HO_20 := n0_; have HO538 := n1_; have HO540 := n2_; have HO545 := n3_; have HO547 := n4_; have HB := n5_; clear n0_ n1_ n2_ n3_ n4_ n5_; (try clear hb); (try clear hb2); (try clear hk); (try clear hi); (try clear ho0); (try clear ho1); obtain ⟨Ao156, co156, eo156⟩ := Kd.R_slice HO538.out; subst eo156; obtain ⟨Ao157, co157, eo157⟩ := Kd.R_slice HO545.out; subst eo157) | (go_at_call 10; (with_reducible refine (laws_sameInts.calls k4 _ _ t534 _ _ t541 true _ ?side1 ?side2 ?side3 ?side4 A150.out).mono ?_); (case side1 => repeat (first | exact (Kd.R_reads' HO538.out).2.2 | (with_reducible refine Kd.C_alloc ?_ _) | (with_reducible refine Kd.C_drewN ?_ _) | (with_reducible refine Kd.C_drew ?_))); (case side2 => exact (Kd.R_reads' HO538.out).2.1); (case side3 => repeat (first | exact (Kd.R_reads' HO545.out).2.2 | (with_reducible refine Kd.C_alloc ?_ _) | (with_reducible refine Kd.C_drewN ?_ _) | (with_reducible refine Kd.C_drew ?_))); (case side4 => exact (Kd.R_reads' HO545.out).2.1); rintro e w' ⟨rfl, ⟨nd, rfl⟩⟩; obtain ⟨Ao158, co158, eo158⟩ := Kd.R_slice HO540.out; subst eo158; obtain ⟨Ao159, co159, eo159⟩ := Kd.R_slice HO547.out; subst eo159) | (go_at_call 10; (with_reducible refine (laws_sameInts.calls k4 _ _ t535 _ _ t542 t549 _ ?side1 ?side2 ?side3 ?side4 A152.out).mono ?_); (case side1 => repeat (first | exact (Kd.R_reads' HO540.out).2.2 | (with_reducible refine Kd.C_alloc ?_ _) | (with_reducible refine Kd.C_drewN ?_ _) | (with_reducible refine Kd.C_drew ?_))); (case side2 => exact (Kd.R_reads' HO540.out).2.1); (case side3 => repeat (first | exact (Kd.R_reads' HO547.out).2.2 | (with_reducible refine Kd.C_alloc ?_ _) | (with_reducible refine Kd.C_drewN ?_ _) | (with_reducible refine Kd.C_drew ?_))); (case side4 => exact (Kd.R_reads' HO547.out).2.1); rintro e w' ⟨rfl, ⟨nd, rfl⟩⟩))
                 go_ret
                 exact ⟨by first | rfl | (simp [errW_none, errW_some] <;> rfl) | (simp [*, errW_none, errW_some] <;> rfl), by repeat (first | (with_reducible first | exact HB.out | apply below_alloc | apply pw_below_drewN | apply below_drew1) | exact HB.out)⟩
               ·replace c151 := Bool.eq_false_iff.mpr c151
                subst c151
                have H1 : (some false) = some r := by rw [if_neg (show ¬ (false = true) by decide)] at H; exact H
                clear H
                have H := H1
                clear H1
                as_aux_lemma =>
                 obtain rfl := Option.some.inj H
                 go_wp2_with (first | ((with_reducible refine gate_callee (f := 24) rfl ?_); refine goesL_ (some 219) rfl rfl Try.func24 (by kernel_rfl) rfl #[.slice A0 l0.length c0] rfl (by (try simp only [List.map_toArray, List.map_cons, List.map_nil]); first | done | rfl | (simp only [List.length_drop, List.length_take]; rfl)) ?_; (with_reducible refine (spec_DrawChristoffelSplit.calls k4 _ _ l0 t532 t533 _ ?side1 ?side2 A146.out).mono ?_); (case side1 => repeat (first | exact (Kd.C_below HR0.out HB.out) | (with_reducible refine Kd.C_alloc ?_ _) | (with_reducible refine Kd.C_drewN ?_ _) | (with_reducible refine Kd.C_drew ?_))); (case side2 => exact HC0.out); rintro e w160 ⟨rfl, hb⟩; refine ⟨_, rfl, ?_⟩; have n0_ := Aside0.mk (Kd.S_below (by (with_reducible repeat (first | apply Kd.S_alloc | apply Kd.S_drewN | apply Kd.S_drew)); exact HO_20.out) hb); have n1_ := Aside0.mk (below_step (by repeat (first | (with_reducible first | exact HB.out | apply below_alloc | apply pw_below_drewN | apply below_drew1) | exact HB.out)) hb); clear HO_20; clear HB; have HO_20 := n0_; have HB := n1_; clear n0_ n1_; (try clear hb); (try clear hb2); (try clear hk); (try clear hi)) | ((with_reducible refine gate_callee (f := 16) rfl ?_); refine goesL_ (some 225) rfl rfl Try.func16 (by kernel_rfl) rfl #[.int .i64 t532, .int .i64 t533] rfl (by (try simp only [List.map_toArray, List.map_cons, List.map_nil]); first | done | rfl | (simp only [List.length_drop, List.length_take]; rfl)) ?_; (with_reducible refine (impl_ChristoffelSplit.calls k4 t532 t533 t534 t535 t536 _ A147.out).mono ?_); rintro e w161 ⟨v537, v539, rfl, ho0, ho1, hb⟩; refine ⟨_, rfl, ?_⟩; have n0_ := Aside0.mk (Kd.S_mono (Kd.S_told (Kd.S_told (Kd.S_old (by (with_reducible repeat (first | apply Kd.S_alloc | apply Kd.S_drewN | apply Kd.S_drew)); exact HO_20.out) hb) (Kd.R_base ho0)) (Kd.R_base ho1)) (fun _ h_ => h_.1)); have n1_ := Aside0.mk (Kd.R_lower ho0 (below_size (by repeat (first | (with_reducible first | exact HB.out | apply below_alloc | apply pw_below_drewN | apply below_drew1) | exact HB.out)))); have n2_ := Aside0.mk (Kd.R_lower ho1 (below_size (by repeat (first | (with_reducible first | exact HB.out | apply below_alloc | apply pw_below_drewN | apply below_drew1) | exact HB.out)))); have n3_ := Aside0.mk (below_step (by repeat (first | (with_reducible first | exact HB.out | apply below_alloc | apply pw_below_drewN | apply below_drew1) | exact HB.out)) hb); clear HO_20; clear HB; have HO_20 := n0_; have HO538 := n1_; have HO540 := n2_; have HB := n3_; clear n0_ n1_ n2_ n3_; (try clear hb); (try clear hb2); (try clear hk); (try clear hi); (try clear ho0); (try clear ho1)) | ((with_reducible refine gate_callee (f := 25) rfl ?_); refine goesL_ (some 232) rfl rfl Try.func25 (by kernel_rfl) rfl #[.int .i64 t532, .int .i64 t533] rfl (by (try simp only [List.map_toArray, List.map_cons, List.map_nil]); first | done | rfl | (simp only [List.length_drop, List.length_take]; rfl)) ?_; (with_reducible refine (spec_ChristoffelSplit.calls k4 t532 t533 t541 t542 t543 _ A148.out).mono ?_); rintro e w162 ⟨v544, v546, rfl, ho0, ho1, hb⟩; refine ⟨_, rfl, ?_⟩; have n0_ := Aside0.mk (Kd.S_mono (Kd.S_told (Kd.S_told (Kd.S_old (by (with_reducible repeat (first | apply Kd.S_alloc | apply Kd.S_drewN | apply Kd.S_drew)); exact HO_20.out) hb) (Kd.R_base ho0)) (Kd.R_base ho1)) (fun _ h_ => h_.1)); have n1_ := Aside0.mk (Kd.R_mono (Kd.R_told (Kd.R_told (Kd.R_old (by (with_reducible repeat (first | apply Kd.R_alloc | apply Kd.R_drewN | apply Kd.R_drew)); exact HO538.out) hb) (Kd.R_base ho0)) (Kd.R_base ho1)) (fun _ h_ => h_.1)); have n2_ := Aside0.mk (Kd.R_mono (Kd.R_told (Kd.R_told (Kd.R_old (by (with_reducible repeat (first | apply Kd.R_alloc | apply Kd.R_drewN | apply Kd.R_drew)); exact HO540.out) hb) (Kd.R_base ho0)) (Kd.R_base ho1)) (fun _ h_ => h_.1)); have n3_ := Aside0.mk (Kd.R_lower (Kd.R_new' (Kd.R_new' ho0 (Kd.R_lt (by (with_reducible repeat (first | apply Kd.R_alloc | apply Kd.R_drewN | apply Kd.R_drew)); exact HO538.out))) (Kd.R_lt (by (with_reducible repeat (first | apply Kd.R_alloc | apply Kd.R_drewN | apply Kd.R_drew)); exact HO540.out))) (below_size (by repeat (first | (with_reducible first | exact HB.out | apply below_alloc | apply pw_below_drewN | apply below_drew1) | exact HB.out)))); have n4_ := Aside0.mk (Kd.R_lower (Kd.R_new' (Kd.R_new' ho1 (Kd.R_lt (by (with_reducible repeat (first | apply Kd.R_alloc | apply Kd.R_drewN | apply Kd.R_drew)); exact HO538.out))) (Kd.R_lt (by (with_reducible repeat (first | apply Kd.R_alloc | apply Kd.R_drewN | apply Kd.R_drew)); exact HO540.out))) (below_size (by repeat (first | (with_reducible first | exact HB.out | apply below_alloc | apply pw_below_drewN | apply below_drew1) | exact HB.out)))); have n5_ := Aside0.mk (below_step (by repeat (first | (with_reducible first | exact HB.out | apply below_alloc | apply pw_below_drewN | apply below_drew1) | exact HB.out)) hb); clear HO_20; clear HO538; clear HO540; clear HB; have HO_20 := n0_; have HO538 := n1_; have HO540 := n2_; have HO545 := n3_; have HO547 := n4_; have HB := n5_; clear n0_ n1_ n2_ n3_ n4_ n5_; (try clear hb); (try clear hb2); (try clear hk); (try clear hi); (try clear ho0); (try clear ho1); obtain ⟨Ao163, co163, eo163⟩ := Kd.R_slice HO538.out; subst eo163; obtain ⟨Ao164, co164, eo164⟩ := Kd.R_slice HO545.out; subst eo164) | (go_at_call 10; (with_reducible refine (laws_sameInts.calls k4 _ _ t534 _ _ t541 false _ ?side1 ?side2 ?side3 ?side4 A150.out).mono ?_); (case side1 => repeat (first | exact (Kd.R_reads' HO538.out).2.2 | (with_reducible refine Kd.C_alloc ?_ _) | (with_reducible refine Kd.C_drewN ?_ _) | (with_reducible refine Kd.C_drew ?_))); (case side2 => exact (Kd.R_reads' HO538.out).2.1); (case side3 => repeat (first | exact (Kd.R_reads' HO545.out).2.2 | (with_reducible refine Kd.C_alloc ?_ _) | (with_reducible refine Kd.C_drewN ?_ _) | (with_reducible refine Kd.C_drew ?_))); (case side4 => exact (Kd.R_reads' HO545.out).2.1); rintro e w' ⟨rfl, ⟨nd, rfl⟩⟩))
                 go_ret
                 exact ⟨by first | rfl | (simp [errW_none, errW_some] <;> rfl) | (simp [*, errW_none, errW_some] <;> rfl), by repeat (first | (with_reducible first | exact HB.out | apply below_alloc | apply pw_below_drewN | apply below_drew1) | exact HB.out)⟩
              ·rw [if_neg c149] at H
               have c149b0 : (t536 == t543) = false := by simpa using c149
               (try (have c149b1 : decide (t536 = t543) = false := by simpa using c149))
               (try (have c149b2 : (t536 == t543) = false := by simpa using c149))
               (try (have c149b3 : ¬ (t536 = t543) := by simpa using c149))
               clear c149
               as_aux_lemma =>
                obtain rfl := Option.some.inj H
                go_wp2_with (first | ((with_reducible refine gate_callee (f := 24) rfl ?_); refine goesL_ (some 219) rfl rfl Try.func24 (by kernel_rfl) rfl #[.slice A0 l0.length c0] rfl (by (try simp only [List.map_toArray, List.map_cons, List.map_nil]); first | done | rfl | (simp only [List.length_drop, List.length_take]; rfl)) ?_; (with_reducible refine (spec_DrawChristoffelSplit.calls k4 _ _ l0 t532 t533 _ ?side1 ?side2 A146.out).mono ?_); (case side1 => repeat (first | exact (Kd.C_below HR0.out HB.out) | (with_reducible refine Kd.C_alloc ?_ _) | (with_reducible refine Kd.C_drewN ?_ _) | (with_reducible refine Kd.C_drew ?_))); (case side2 => exact HC0.out); rintro e w165 ⟨rfl, hb⟩; refine ⟨_, rfl, ?_⟩; have n0_ := Aside0.mk (Kd.S_below (by (with_reducible repeat (first | apply Kd.S_alloc | apply Kd.S_drewN | apply Kd.S_drew)); exact HO_20.out) hb); have n1_ := Aside0.mk (below_step (by repeat (first | (with_reducible first | exact HB.out | apply below_alloc | apply pw_below_drewN | apply below_drew1) | exact HB.out)) hb); clear HO_20; clear HB; have HO_20 := n0_; have HB := n1_; clear n0_ n1_; (try clear hb); (try clear hb2); (try clear hk); (try clear hi)) | ((with_reducible refine gate_callee (f := 16) rfl ?_); refine goesL_ (some 225) rfl rfl Try.func16 (by kernel_rfl) rfl #[.int .i64 t532, .int .i64 t533] rfl (by (try simp only [List.map_toArray, List.map_cons, List.map_nil]); first | done | rfl | (simp only [List.length_drop, List.length_take]; rfl)) ?_; (with_reducible refine (impl_ChristoffelSplit.calls k4 t532 t533 t534 t535 t536 _ A147.out).mono ?_); rintro e w166 ⟨v537, v539, rfl, ho0, ho1, hb⟩; refine ⟨_, rfl, ?_⟩; have n0_ := Aside0.mk (Kd.S_mono (Kd.S_told (Kd.S_told (Kd.S_old (by (with_reducible repeat (first | apply Kd.S_alloc | apply Kd.S_drewN | apply Kd.S_drew)); exact HO_20.out) hb) (Kd.R_base ho0)) (Kd.R_base ho1)) (fun _ h_ => h_.1)); have n1_ := Aside0.mk (Kd.R_lower ho0 (below_size (by repeat (first | (with_reducible first | exact HB.out | apply below_alloc | apply pw_below_drewN | apply below_drew1) | exact HB.out)))); have n2_ := Aside0.mk (Kd.R_lower ho1 (below_size (by repeat (first | (with_reducible first | exact HB.out | apply below_alloc | apply pw_below_drewN | apply below_drew1) | exact HB.out)))); have n3_ := Aside0.mk (below_step (by repeat (first | (with_reducible first | exact HB.out | apply below_alloc | apply pw_below_drewN | apply below_drew1) | exact HB.out)) hb); clear HO_20; clear HB; have HO_20 := n0_; have HO538 := n1_; have HO540 := n2_; have HB := n3_; clear n0_ n1_ n2_ n3_; (try clear hb); (try clear hb2); (try clear hk); (try clear hi); (try clear ho0); (try clear ho1)) | ((with_reducible refine gate_callee (f := 25) rfl ?_); refine goesL_ (some 232) rfl rfl Try.func25 (by kernel_rfl) rfl #[.int .i64 t532, .int .i64 t533] rfl (by (try simp only [List.map_toArray, List.map_cons, List.map_nil]); first | done | rfl | (simp only [List.length_drop, List.length_take]; rfl)) ?_; (with_reducible refine (spec_ChristoffelSplit.calls k4 t532 t533 t541 t542 t543 _ A148.out).mono ?_); rintro e w167 ⟨v544, v546, rfl, ho0, ho1, hb⟩; refine ⟨_, rfl, ?_⟩; have n0_ := Aside0.mk (Kd.S_mono (Kd.S_told (Kd.S_told (Kd.S_old (by (with_reducible repeat (first | apply Kd.S_alloc | apply Kd.S_drewN | apply Kd.S_drew)); exact HO_20.out) hb) (Kd.R_base ho0)) (Kd.R_base ho1)) (fun _ h_ => h_.1)); have n1_ := Aside0.mk (Kd.R_mono (Kd.R_told (Kd.R_told (Kd.R_old (by (with_reducible repeat (first | apply Kd.R_alloc | apply Kd.R_drewN | apply Kd.R_drew)); exact HO538.out) hb) (Kd.R_base ho0)) (Kd.R_base ho1)) (fun _ h_ => h_.1)); have n2_ := Aside0.mk (Kd.R_mono (Kd.R_told (Kd.R_told (Kd.R_old (by (with_reducible repeat (first | apply Kd.R_alloc | apply Kd.R_drewN | apply Kd.R_drew)); exact HO540.out) hb) (Kd.R_base ho0)) (Kd.R_base ho1)) (fun _ h_ => h_.1)); have n3_ := Aside0.mk (Kd.R_lower (Kd.R_new' (Kd.R_new' ho0 (Kd.R_lt (by (with_reducible repeat (first | apply Kd.R_alloc | apply Kd.R_drewN | apply Kd.R_drew)); exact HO538.out))) (Kd.R_lt (by (with_reducible repeat (first | apply Kd.R_alloc | apply Kd.R_drewN | apply Kd.R_drew)); exact HO540.out))) (below_size (by repeat (first | (with_reducible first | exact HB.out | apply below_alloc | apply pw_below_drewN | apply below_drew1) | exact HB.out)))); have n4_ := Aside0.mk (Kd.R_lower (Kd.R_new' (Kd.R_new' ho1 (Kd.R_lt (by (with_reducible repeat (first | apply Kd.R_alloc | apply Kd.R_drewN | apply Kd.R_drew)); exact HO538.out))) (Kd.R_lt (by (with_reducible repeat (first | apply Kd.R_alloc | apply Kd.R_drewN | apply Kd.R_drew)); exact HO540.out))) (below_size (by repeat (first | (with_reducible first | exact HB.out | apply below_alloc | apply pw_below_drewN | apply below_drew1) | exact HB.out)))); have n5_ := Aside0.mk (below_step (by repeat (first | (with_reducible first | exact HB.out | apply below_alloc | apply pw_below_drewN | apply below_drew1) | exact HB.out)) hb); clear HO_20; clear HO538; clear HO540; clear HB; have HO_20 := n0_; have HO538 := n1_; have HO540 := n2_; have HO545 := n3_; have HO547 := n4_; have HB := n5_; clear n0_ n1_ n2_ n3_ n4_ n5_; (try clear hb); (try clear hb2); (try clear hk); (try clear hi); (try clear ho0); (try clear ho1)))
                go_ret
                exact ⟨by first | rfl | (simp [errW_none, errW_some] <;> rfl) | (simp [*, errW_none, errW_some] <;> rfl), by repeat (first | (with_reducible first | exact HB.out | apply below_alloc | apply pw_below_drewN | apply below_drew1) | exact HB.out)⟩
          ·replace c125 := Bool.eq_false_iff.mpr c125
           subst c125
           have H1 : (some false) = some r := by rw [if_neg (show ¬ (false = true) by decide)] at H; exact H
           clear H
           have H := H1
           clear H1
           as_aux_lemma =>
            obtain rfl := Option.some.inj H
            go_wp2_with (first | ((with_reducible refine gate_callee (f := 19) rfl ?_); refine goesL_ (some 184) rfl rfl Try.func19 (by kernel_rfl) rfl #[.slice A0 l0.length c0] rfl (by (try simp only [List.map_toArray, List.map_cons, List.map_nil]); first | done | rfl | (simp only [List.length_drop, List.length_take]; rfl)) ?_; (with_reducible refine (spec_DrawChristoffelTree.calls kj93 _ _ l0 t519 _ ?side1 ?side2 A121.out).mono ?_); (case side1 => repeat (first | exact (Kd.C_below HR0.out HB.out) | (with_reducible refine Kd.C_alloc ?_ _) | (with_reducible refine Kd.C_drewN ?_ _) | (with_reducible refine Kd.C_drew ?_))); (case side2 => exact HC0.out); rintro e w168 ⟨rfl, hb⟩; refine ⟨_, rfl, ?_⟩; have n0_ := Aside0.mk (below_step (by repeat (first | (with_reducible first | exact HB.out | apply below_alloc | apply pw_below_drewN | apply below_drew1) | exact HB.out)) hb); clear HB; have HB := n0_; clear n0_; (try clear hb); (try clear hb2); (try clear hk); (try clear hi)) | ((with_reducible refine gate_callee (f := 20) rfl ?_); refine goesL_ (some 186) rfl rfl Try.func20 (by kernel_rfl) rfl #[.int .i64 t519] rfl (by (try simp only [List.map_toArray, List.map_cons, List.map_nil]); first | done | rfl | (simp only [List.length_drop, List.length_take]; rfl)) ?_; (with_reducible refine (impl_ChristoffelTree.calls t519 t520 _ A122.out).mono ?_); rintro e w169 ⟨v521, rfl, ho0, hb⟩; refine ⟨_, rfl, ?_⟩; have n0_ := Aside0.mk (Kd.S_lower ho0 (below_size (by repeat (first | (with_reducible first | exact HB.out | apply below_alloc | apply pw_below_drewN | apply below_drew1) | exact HB.out)))); have n1_ := Aside0.mk (below_step (by repeat (first | (with_reducible first | exact HB.out | apply below_alloc | apply pw_below_drewN | apply below_drew1) | exact HB.out)) hb); clear HB; have HO522 := n0_; have HB := n1_; clear n0_ n1_; (try clear hb); (try clear hb2); (try clear hk); (try clear hi); (try clear ho0)) | ((with_reducible refine gate_callee (f := 22) rfl ?_); refine goesL_ (some 189) rfl rfl Try.func22 (by kernel_rfl) rfl #[.int .i64 t519] rfl (by (try simp only [List.map_toArray, List.map_cons, List.map_nil]); first | done | rfl | (simp only [List.length_drop, List.length_take]; rfl)) ?_; (with_reducible refine (spec_ChristoffelTree.calls t519 t523 _ A123.out).mono ?_); rintro e w170 ⟨v524, rfl, ho0, hb⟩; refine ⟨_, rfl, ?_⟩; have n0_ := Aside0.mk (Kd.S_elder' (by (with_reducible repeat (first | apply Kd.S_alloc | apply Kd.S_drewN | apply Kd.S_drew)); exact HO522.out) (Kd.S_base ho0) hb); have n1_ := Aside0.mk (Kd.S_lower (Kd.S_new' ho0 (Kd.S_lt (by (with_reducible repeat (first | apply Kd.S_alloc | apply Kd.S_drewN | apply Kd.S_drew)); exact HO522.out))) (below_size (by repeat (first | (with_reducible first | exact HB.out | apply below_alloc | apply pw_below_drewN | apply below_drew1) | exact HB.out)))); have n2_ := Aside0.mk (below_step (by repeat (first | (with_reducible first | exact HB.out | apply below_alloc | apply pw_below_drewN | apply below_drew1) | exact HB.out)) hb); clear HO522; clear HB; have HO522 := n0_; have HO525 := n1_; have HB := n2_; clear n0_ n1_ n2_; (try clear hb); (try clear hb2); (try clear hk); (try clear hi); (try clear ho0); obtain ⟨Ao171, co171, eo171⟩ := Kd.S_slice HO522.out; subst eo171; obtain ⟨Ao172, co172, eo172⟩ := Kd.S_slice HO525.out; subst eo172) | ((with_reducible refine gate_callee (f := 21) rfl ?_); refine goesL_ (some 190) rfl rfl Try.func21 (by kernel_rfl) rfl #[.slice Ao171 t520.length co171, .slice Ao172 t523.length co172] rfl (by (try simp only [List.map_toArray, List.map_cons, List.map_nil]); first | done | rfl | (simp only [List.length_drop, List.length_take]; rfl)) ?_; (with_reducible refine (laws_sameWords.calls kj93 _ _ t520 _ _ t523 false _ ?side1 ?side2 ?side3 ?side4 A124.out).mono ?_); (case side1 => repeat (first | exact (Kd.S_reads' HO522.out).2.2 | (with_reducible refine Kd.C_alloc ?_ _) | (with_reducible refine Kd.C_drewN ?_ _) | (with_reducible refine Kd.C_drew ?_))); (case side2 => exact (Kd.S_reads' HO522.out).2.1); (case side3 => repeat (first | exact (Kd.S_reads' HO525.out).2.2 | (with_reducible refine Kd.C_alloc ?_ _) | (with_reducible refine Kd.C_drewN ?_ _) | (with_reducible refine Kd.C_drew ?_))); (case side4 => exact (Kd.S_reads' HO525.out).2.1); rintro e w' ⟨rfl, ⟨nd, rfl⟩⟩; refine ⟨_, rfl, ?_⟩))
            go_ret
            exact ⟨by first | rfl | (simp [errW_none, errW_some] <;> rfl) | (simp [*, errW_none, errW_some] <;> rfl), by repeat (first | (with_reducible first | exact HB.out | apply below_alloc | apply pw_below_drewN | apply below_drew1) | exact HB.out)⟩

/-- THE ONE PURE STATEMENT of laws_FnChristoffel: yours. -/
def laws_FnChristoffel.Pure : Prop := ∀ (l0 : List Int), l0.length ≤ maxLen → l0.length * 1 ≤ 140737488351232 → (∀ x ∈ l0, (Lit.int .u8 x).wf = true) → ∃ k, laws_FnChristoffel.f k l0 = some true
theorem laws_FnChristoffel.walk (P : laws_FnChristoffel.Pure) (a0 : Option Addr) (len0 cap0 : Nat) (z0 : List Int) (w : World) (w0 : (a0 = none ∧ len0 = 0 ∧ cap0 = 0 ∧ z0 = []) ∨ ∃ x, a0 = some x ∧ len0 ≤ cap0 ∧ cap0 ≤ maxLen ∧ z0.length = cap0 ∧ (∀ i, i < z0.length → w.cell? (x.add i) = some (.int .u8 (z0.getD i 0))) ∧ ∀ n ∈ z0, (Lit.int .u8 n).wf = true) (y0 : len0 * 1 ≤ 140737488351232) :
  Calls Try.prog 3 #[.slice a0 len0 cap0] w fun e w' => e = .returned (.bool true) ∧ Below w.heap.size w w' := by
 obtain ⟨l0, rfl, hr0, hm0, hw0, hc0⟩ := ReadsInt.ofRowC w0
 obtain ⟨k, h⟩ := P l0 hm0 y0 hw0
 refine (laws_FnChristoffel.calls k _ _ l0 true w (Kd.C_of_reads (d := (0 : Int)) (h1 := fun _ => rfl) hr0) hc0 h).mono ?_
 rintro e w' ⟨rfl, hd⟩
 exact ⟨rfl, hd⟩

end Go.Proofs.Ytcofhkocfkappaa.PFnChristoffel
