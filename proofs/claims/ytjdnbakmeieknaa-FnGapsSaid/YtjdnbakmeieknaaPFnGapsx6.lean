/- Written by this session's own program (wip/myprint.py): the machine side of one law, some contracts of it typed by hand. -/
import Derived.Test.YtjdnbakmeieknaaPFnGapsx0
import Derived.Test.YtjdnbakmeieknaaPFnGapsx1
import Derived.Test.YtjdnbakmeieknaaPFnGapsx2
import Derived.Test.YtjdnbakmeieknaaPFnGapsx3
import Derived.Test.YtjdnbakmeieknaaPFnGapsx4
import Derived.Test.YtjdnbakmeieknaaPFnGapsx5
namespace Go.Proofs.Ytjdnbakmeieknaa.PFnGaps
open Go.RowKit Go.Proofs.YtjdnbakmeieknaaW.PrintWords Go.Proofs.YtjdnbakmeieknaaW.PrintLast Go.Proofs.YtjdnbakmeieknaaW.PrintMore
attribute [local go_sem] max2_int min2_int max_two min_two max_three min_three max_four min_four   -- for this text's walks alone
set_option linter.unusedVariables false
set_option linter.unusedSimpArgs false

/-! ### laws_FnGaps: function 8 -/
set_option maxHeartbeats 8000000 in
set_option maxRecDepth 100000 in
theorem laws_FnGaps.calls (k : Nat) (A0 : Option Addr) (c0 : Nat) (l0 : List Int) (r : Bool) (w : World) (hr0 : Kd.C (Kd.int .u8) w A0 l0.length l0) (hc0 : l0.length ≤ c0) (h : laws_FnGaps.f k l0 = some r) :
  Calls Try.prog 8 #[.slice A0 l0.length c0] w fun e w' => e = .returned (.bool r) ∧ Below w.heap.size w w' := by
 have HR0 := Aside0.mk hr0
 have HC0 := Aside0.mk hc0
 clear hr0 hc0
 have HB := Aside0.mk (Below.refl w.heap.size w)
 have H : ((laws_big.f l0).bind fun t303 => (if t303 = true then (some true) else ((spec_DrawGapLengths.f k l0).bind fun bt304 => ((impl_GapLengths.f k bt304.1 bt304.2.1 bt304.2.2).bind fun bt307 => ((spec_GapLengths.f k bt304.1 bt304.2.1 bt304.2.2).bind fun bt311 => ((impl_GapsOf.f k bt304.1 bt304.2.1 bt304.2.2).bind fun bt315 => ((spec_GapsOf.f k bt304.1 bt304.2.1 bt304.2.2).bind fun bt319 => ((impl_PointsOf.f k bt304.1 bt304.2.1 bt304.2.2).bind fun bt323 => ((spec_PointsOf.f k bt304.1 bt304.2.1 bt304.2.2).bind fun bt327 => (if (bt307.2 != bt311.2) = true then (laws_FnGaps.j0 k l0 bt304.2.1 bt304.2.2 bt307.2 bt319.1 true) else ((laws_sameInts.f k bt307.1 bt311.1).bind fun t331 => (if t331 = true then (if (bt315.2 != bt319.2) = true then (laws_FnGaps.j0 k l0 bt304.2.1 bt304.2.2 bt307.2 bt319.1 true) else ((laws_sameInts.f k bt315.1 bt319.1).bind fun t332 => (if t332 = true then (if (bt323.2 != bt327.2) = true then (laws_FnGaps.j0 k l0 bt304.2.1 bt304.2.2 bt307.2 bt319.1 true) else ((laws_sameInts.f k bt323.1 bt327.1).bind fun t333 => (if t333 = true then (if (bt311.1.length : Int) > 3 then (laws_FnGaps.j0 k l0 bt304.2.1 bt304.2.2 bt307.2 bt319.1 true) else (if (bt311.1.length : Int) = 3 then (if 0 < (bt311.1.length : Int) then (if 1 < (bt311.1.length : Int) then (if 2 < (bt311.1.length : Int) then (laws_FnGaps.j0 k l0 bt304.2.1 bt304.2.2 bt307.2 bt319.1 ((wrap64 ((rd bt311.1 0) + (rd bt311.1 1))) != (rd bt311.1 2))) else (none)) else (none)) else (none)) else (laws_FnGaps.j0 k l0 bt304.2.1 bt304.2.2 bt307.2 bt319.1 false))) else (laws_FnGaps.j0 k l0 bt304.2.1 bt304.2.2 bt307.2 bt319.1 true)))) else (laws_FnGaps.j0 k l0 bt304.2.1 bt304.2.2 bt307.2 bt319.1 true)))) else (laws_FnGaps.j0 k l0 bt304.2.1 bt304.2.2 bt307.2 bt319.1 true))))))))))))) = some r := h
 clear h
 replace H := Option.bind_eq_some_iff.mp H
 obtain ⟨t303, A20, H⟩ := H
 replace H : (if t303 = true then (some true) else ((spec_DrawGapLengths.f k l0).bind fun bt304 => ((impl_GapLengths.f k bt304.1 bt304.2.1 bt304.2.2).bind fun bt307 => ((spec_GapLengths.f k bt304.1 bt304.2.1 bt304.2.2).bind fun bt311 => ((impl_GapsOf.f k bt304.1 bt304.2.1 bt304.2.2).bind fun bt315 => ((spec_GapsOf.f k bt304.1 bt304.2.1 bt304.2.2).bind fun bt319 => ((impl_PointsOf.f k bt304.1 bt304.2.1 bt304.2.2).bind fun bt323 => ((spec_PointsOf.f k bt304.1 bt304.2.1 bt304.2.2).bind fun bt327 => (if (bt307.2 != bt311.2) = true then (laws_FnGaps.j0 k l0 bt304.2.1 bt304.2.2 bt307.2 bt319.1 true) else ((laws_sameInts.f k bt307.1 bt311.1).bind fun t331 => (if t331 = true then (if (bt315.2 != bt319.2) = true then (laws_FnGaps.j0 k l0 bt304.2.1 bt304.2.2 bt307.2 bt319.1 true) else ((laws_sameInts.f k bt315.1 bt319.1).bind fun t332 => (if t332 = true then (if (bt323.2 != bt327.2) = true then (laws_FnGaps.j0 k l0 bt304.2.1 bt304.2.2 bt307.2 bt319.1 true) else ((laws_sameInts.f k bt323.1 bt327.1).bind fun t333 => (if t333 = true then (if (bt311.1.length : Int) > 3 then (laws_FnGaps.j0 k l0 bt304.2.1 bt304.2.2 bt307.2 bt319.1 true) else (if (bt311.1.length : Int) = 3 then (if 0 < (bt311.1.length : Int) then (if 1 < (bt311.1.length : Int) then (if 2 < (bt311.1.length : Int) then (laws_FnGaps.j0 k l0 bt304.2.1 bt304.2.2 bt307.2 bt319.1 ((wrap64 ((rd bt311.1 0) + (rd bt311.1 1))) != (rd bt311.1 2))) else (none)) else (none)) else (none)) else (laws_FnGaps.j0 k l0 bt304.2.1 bt304.2.2 bt307.2 bt319.1 false))) else (laws_FnGaps.j0 k l0 bt304.2.1 bt304.2.2 bt307.2 bt319.1 true)))) else (laws_FnGaps.j0 k l0 bt304.2.1 bt304.2.2 bt307.2 bt319.1 true)))) else (laws_FnGaps.j0 k l0 bt304.2.1 bt304.2.2 bt307.2 bt319.1 true)))))))))))) = some r := H
 have A2 := Aside0.mk A20
 clear A20
 by_cases c3 : t303 = true
 ·subst c3
  have H1 : (some true) = some r := by rw [if_pos rfl] at H; exact H
  clear H
  have H := H1
  clear H1
  as_aux_lemma =>
   obtain rfl := Option.some.inj H
   go_enter Try.func8, Try.ntmps8
   go_wp2_with (first | ((with_reducible refine gate_callee (f := 22) rfl ?_); refine goesL_ (some 37) rfl rfl Try.func22 (by kernel_rfl) rfl #[.slice A0 l0.length c0] rfl (by (try simp only [List.map_toArray, List.map_cons, List.map_nil]); first | done | rfl | (simp only [List.length_drop, List.length_take]; rfl)) ?_; (with_reducible refine (laws_big.calls _ _ l0 true _ ?side1 ?side2 A2.out).mono ?_); (case side1 => repeat (first | exact HR0.out | (with_reducible refine Kd.C_alloc ?_ _) | (with_reducible refine Kd.C_drewN ?_ _) | (with_reducible refine Kd.C_drew ?_))); (case side2 => exact HC0.out); rintro e w' ⟨rfl, ⟨nd, rfl⟩⟩; refine ⟨_, rfl, ?_⟩))
   go_ret
   exact ⟨by first | rfl | (simp [errW_none, errW_some] <;> rfl) | (simp [*, errW_none, errW_some] <;> rfl), by repeat (first | (with_reducible first | exact HB.out | apply below_alloc | apply pw_below_drewN | apply below_drew1) | exact HB.out)⟩
 ·replace c3 := Bool.eq_false_iff.mpr c3
  subst c3
  have H1 : ((spec_DrawGapLengths.f k l0).bind fun bt304 => ((impl_GapLengths.f k bt304.1 bt304.2.1 bt304.2.2).bind fun bt307 => ((spec_GapLengths.f k bt304.1 bt304.2.1 bt304.2.2).bind fun bt311 => ((impl_GapsOf.f k bt304.1 bt304.2.1 bt304.2.2).bind fun bt315 => ((spec_GapsOf.f k bt304.1 bt304.2.1 bt304.2.2).bind fun bt319 => ((impl_PointsOf.f k bt304.1 bt304.2.1 bt304.2.2).bind fun bt323 => ((spec_PointsOf.f k bt304.1 bt304.2.1 bt304.2.2).bind fun bt327 => (if (bt307.2 != bt311.2) = true then (laws_FnGaps.j0 k l0 bt304.2.1 bt304.2.2 bt307.2 bt319.1 true) else ((laws_sameInts.f k bt307.1 bt311.1).bind fun t331 => (if t331 = true then (if (bt315.2 != bt319.2) = true then (laws_FnGaps.j0 k l0 bt304.2.1 bt304.2.2 bt307.2 bt319.1 true) else ((laws_sameInts.f k bt315.1 bt319.1).bind fun t332 => (if t332 = true then (if (bt323.2 != bt327.2) = true then (laws_FnGaps.j0 k l0 bt304.2.1 bt304.2.2 bt307.2 bt319.1 true) else ((laws_sameInts.f k bt323.1 bt327.1).bind fun t333 => (if t333 = true then (if (bt311.1.length : Int) > 3 then (laws_FnGaps.j0 k l0 bt304.2.1 bt304.2.2 bt307.2 bt319.1 true) else (if (bt311.1.length : Int) = 3 then (if 0 < (bt311.1.length : Int) then (if 1 < (bt311.1.length : Int) then (if 2 < (bt311.1.length : Int) then (laws_FnGaps.j0 k l0 bt304.2.1 bt304.2.2 bt307.2 bt319.1 ((wrap64 ((rd bt311.1 0) + (rd bt311.1 1))) != (rd bt311.1 2))) else (none)) else (none)) else (none)) else (laws_FnGaps.j0 k l0 bt304.2.1 bt304.2.2 bt307.2 bt319.1 false))) else (laws_FnGaps.j0 k l0 bt304.2.1 bt304.2.2 bt307.2 bt319.1 true)))) else (laws_FnGaps.j0 k l0 bt304.2.1 bt304.2.2 bt307.2 bt319.1 true)))) else (laws_FnGaps.j0 k l0 bt304.2.1 bt304.2.2 bt307.2 bt319.1 true))))))))))) = some r := by rw [if_neg (show ¬ (false = true) by decide)] at H; exact H
  clear H
  have H := H1
  clear H1
  replace H := Option.bind_eq_some_iff.mp H
  obtain ⟨⟨t304, t305, t306⟩, A40, H⟩ := H
  replace H : ((impl_GapLengths.f k t304 t305 t306).bind fun bt307 => ((spec_GapLengths.f k t304 t305 t306).bind fun bt311 => ((impl_GapsOf.f k t304 t305 t306).bind fun bt315 => ((spec_GapsOf.f k t304 t305 t306).bind fun bt319 => ((impl_PointsOf.f k t304 t305 t306).bind fun bt323 => ((spec_PointsOf.f k t304 t305 t306).bind fun bt327 => (if (bt307.2 != bt311.2) = true then (laws_FnGaps.j0 k l0 t305 t306 bt307.2 bt319.1 true) else ((laws_sameInts.f k bt307.1 bt311.1).bind fun t331 => (if t331 = true then (if (bt315.2 != bt319.2) = true then (laws_FnGaps.j0 k l0 t305 t306 bt307.2 bt319.1 true) else ((laws_sameInts.f k bt315.1 bt319.1).bind fun t332 => (if t332 = true then (if (bt323.2 != bt327.2) = true then (laws_FnGaps.j0 k l0 t305 t306 bt307.2 bt319.1 true) else ((laws_sameInts.f k bt323.1 bt327.1).bind fun t333 => (if t333 = true then (if (bt311.1.length : Int) > 3 then (laws_FnGaps.j0 k l0 t305 t306 bt307.2 bt319.1 true) else (if (bt311.1.length : Int) = 3 then (if 0 < (bt311.1.length : Int) then (if 1 < (bt311.1.length : Int) then (if 2 < (bt311.1.length : Int) then (laws_FnGaps.j0 k l0 t305 t306 bt307.2 bt319.1 ((wrap64 ((rd bt311.1 0) + (rd bt311.1 1))) != (rd bt311.1 2))) else (none)) else (none)) else (none)) else (laws_FnGaps.j0 k l0 t305 t306 bt307.2 bt319.1 false))) else (laws_FnGaps.j0 k l0 t305 t306 bt307.2 bt319.1 true)))) else (laws_FnGaps.j0 k l0 t305 t306 bt307.2 bt319.1 true)))) else (laws_FnGaps.j0 k l0 t305 t306 bt307.2 bt319.1 true)))))))))) = some r := H
  have A4 := Aside0.mk A40
  clear A40
  replace H := Option.bind_eq_some_iff.mp H
  obtain ⟨⟨t307, t308⟩, A50, H⟩ := H
  replace H : ((spec_GapLengths.f k t304 t305 t306).bind fun bt311 => ((impl_GapsOf.f k t304 t305 t306).bind fun bt315 => ((spec_GapsOf.f k t304 t305 t306).bind fun bt319 => ((impl_PointsOf.f k t304 t305 t306).bind fun bt323 => ((spec_PointsOf.f k t304 t305 t306).bind fun bt327 => (if (t308 != bt311.2) = true then (laws_FnGaps.j0 k l0 t305 t306 t308 bt319.1 true) else ((laws_sameInts.f k t307 bt311.1).bind fun t331 => (if t331 = true then (if (bt315.2 != bt319.2) = true then (laws_FnGaps.j0 k l0 t305 t306 t308 bt319.1 true) else ((laws_sameInts.f k bt315.1 bt319.1).bind fun t332 => (if t332 = true then (if (bt323.2 != bt327.2) = true then (laws_FnGaps.j0 k l0 t305 t306 t308 bt319.1 true) else ((laws_sameInts.f k bt323.1 bt327.1).bind fun t333 => (if t333 = true then (if (bt311.1.length : Int) > 3 then (laws_FnGaps.j0 k l0 t305 t306 t308 bt319.1 true) else (if (bt311.1.length : Int) = 3 then (if 0 < (bt311.1.length : Int) then (if 1 < (bt311.1.length : Int) then (if 2 < (bt311.1.length : Int) then (laws_FnGaps.j0 k l0 t305 t306 t308 bt319.1 ((wrap64 ((rd bt311.1 0) + (rd bt311.1 1))) != (rd bt311.1 2))) else (none)) else (none)) else (none)) else (laws_FnGaps.j0 k l0 t305 t306 t308 bt319.1 false))) else (laws_FnGaps.j0 k l0 t305 t306 t308 bt319.1 true)))) else (laws_FnGaps.j0 k l0 t305 t306 t308 bt319.1 true)))) else (laws_FnGaps.j0 k l0 t305 t306 t308 bt319.1 true))))))))) = some r := H
  have A5 := Aside0.mk A50
  clear A50
  replace H := Option.bind_eq_some_iff.mp H
  obtain ⟨⟨t311, t312⟩, A60, H⟩ := H
  replace H : ((impl_GapsOf.f k t304 t305 t306).bind fun bt315 => ((spec_GapsOf.f k t304 t305 t306).bind fun bt319 => ((impl_PointsOf.f k t304 t305 t306).bind fun bt323 => ((spec_PointsOf.f k t304 t305 t306).bind fun bt327 => (if (t308 != t312) = true then (laws_FnGaps.j0 k l0 t305 t306 t308 bt319.1 true) else ((laws_sameInts.f k t307 t311).bind fun t331 => (if t331 = true then (if (bt315.2 != bt319.2) = true then (laws_FnGaps.j0 k l0 t305 t306 t308 bt319.1 true) else ((laws_sameInts.f k bt315.1 bt319.1).bind fun t332 => (if t332 = true then (if (bt323.2 != bt327.2) = true then (laws_FnGaps.j0 k l0 t305 t306 t308 bt319.1 true) else ((laws_sameInts.f k bt323.1 bt327.1).bind fun t333 => (if t333 = true then (if (t311.length : Int) > 3 then (laws_FnGaps.j0 k l0 t305 t306 t308 bt319.1 true) else (if (t311.length : Int) = 3 then (if 0 < (t311.length : Int) then (if 1 < (t311.length : Int) then (if 2 < (t311.length : Int) then (laws_FnGaps.j0 k l0 t305 t306 t308 bt319.1 ((wrap64 ((rd t311 0) + (rd t311 1))) != (rd t311 2))) else (none)) else (none)) else (none)) else (laws_FnGaps.j0 k l0 t305 t306 t308 bt319.1 false))) else (laws_FnGaps.j0 k l0 t305 t306 t308 bt319.1 true)))) else (laws_FnGaps.j0 k l0 t305 t306 t308 bt319.1 true)))) else (laws_FnGaps.j0 k l0 t305 t306 t308 bt319.1 true)))))))) = some r := H
  have A6 := Aside0.mk A60
  clear A60
  replace H := Option.bind_eq_some_iff.mp H
  obtain ⟨⟨t315, t316⟩, A70, H⟩ := H
  replace H : ((spec_GapsOf.f k t304 t305 t306).bind fun bt319 => ((impl_PointsOf.f k t304 t305 t306).bind fun bt323 => ((spec_PointsOf.f k t304 t305 t306).bind fun bt327 => (if (t308 != t312) = true then (laws_FnGaps.j0 k l0 t305 t306 t308 bt319.1 true) else ((laws_sameInts.f k t307 t311).bind fun t331 => (if t331 = true then (if (t316 != bt319.2) = true then (laws_FnGaps.j0 k l0 t305 t306 t308 bt319.1 true) else ((laws_sameInts.f k t315 bt319.1).bind fun t332 => (if t332 = true then (if (bt323.2 != bt327.2) = true then (laws_FnGaps.j0 k l0 t305 t306 t308 bt319.1 true) else ((laws_sameInts.f k bt323.1 bt327.1).bind fun t333 => (if t333 = true then (if (t311.length : Int) > 3 then (laws_FnGaps.j0 k l0 t305 t306 t308 bt319.1 true) else (if (t311.length : Int) = 3 then (if 0 < (t311.length : Int) then (if 1 < (t311.length : Int) then (if 2 < (t311.length : Int) then (laws_FnGaps.j0 k l0 t305 t306 t308 bt319.1 ((wrap64 ((rd t311 0) + (rd t311 1))) != (rd t311 2))) else (none)) else (none)) else (none)) else (laws_FnGaps.j0 k l0 t305 t306 t308 bt319.1 false))) else (laws_FnGaps.j0 k l0 t305 t306 t308 bt319.1 true)))) else (laws_FnGaps.j0 k l0 t305 t306 t308 bt319.1 true)))) else (laws_FnGaps.j0 k l0 t305 t306 t308 bt319.1 true))))))) = some r := H
  have A7 := Aside0.mk A70
  clear A70
  replace H := Option.bind_eq_some_iff.mp H
  obtain ⟨⟨t319, t320⟩, A80, H⟩ := H
  replace H : ((impl_PointsOf.f k t304 t305 t306).bind fun bt323 => ((spec_PointsOf.f k t304 t305 t306).bind fun bt327 => (if (t308 != t312) = true then (laws_FnGaps.j0 k l0 t305 t306 t308 t319 true) else ((laws_sameInts.f k t307 t311).bind fun t331 => (if t331 = true then (if (t316 != t320) = true then (laws_FnGaps.j0 k l0 t305 t306 t308 t319 true) else ((laws_sameInts.f k t315 t319).bind fun t332 => (if t332 = true then (if (bt323.2 != bt327.2) = true then (laws_FnGaps.j0 k l0 t305 t306 t308 t319 true) else ((laws_sameInts.f k bt323.1 bt327.1).bind fun t333 => (if t333 = true then (if (t311.length : Int) > 3 then (laws_FnGaps.j0 k l0 t305 t306 t308 t319 true) else (if (t311.length : Int) = 3 then (if 0 < (t311.length : Int) then (if 1 < (t311.length : Int) then (if 2 < (t311.length : Int) then (laws_FnGaps.j0 k l0 t305 t306 t308 t319 ((wrap64 ((rd t311 0) + (rd t311 1))) != (rd t311 2))) else (none)) else (none)) else (none)) else (laws_FnGaps.j0 k l0 t305 t306 t308 t319 false))) else (laws_FnGaps.j0 k l0 t305 t306 t308 t319 true)))) else (laws_FnGaps.j0 k l0 t305 t306 t308 t319 true)))) else (laws_FnGaps.j0 k l0 t305 t306 t308 t319 true)))))) = some r := H
  have A8 := Aside0.mk A80
  clear A80
  replace H := Option.bind_eq_some_iff.mp H
  obtain ⟨⟨t323, t324⟩, A90, H⟩ := H
  replace H : ((spec_PointsOf.f k t304 t305 t306).bind fun bt327 => (if (t308 != t312) = true then (laws_FnGaps.j0 k l0 t305 t306 t308 t319 true) else ((laws_sameInts.f k t307 t311).bind fun t331 => (if t331 = true then (if (t316 != t320) = true then (laws_FnGaps.j0 k l0 t305 t306 t308 t319 true) else ((laws_sameInts.f k t315 t319).bind fun t332 => (if t332 = true then (if (t324 != bt327.2) = true then (laws_FnGaps.j0 k l0 t305 t306 t308 t319 true) else ((laws_sameInts.f k t323 bt327.1).bind fun t333 => (if t333 = true then (if (t311.length : Int) > 3 then (laws_FnGaps.j0 k l0 t305 t306 t308 t319 true) else (if (t311.length : Int) = 3 then (if 0 < (t311.length : Int) then (if 1 < (t311.length : Int) then (if 2 < (t311.length : Int) then (laws_FnGaps.j0 k l0 t305 t306 t308 t319 ((wrap64 ((rd t311 0) + (rd t311 1))) != (rd t311 2))) else (none)) else (none)) else (none)) else (laws_FnGaps.j0 k l0 t305 t306 t308 t319 false))) else (laws_FnGaps.j0 k l0 t305 t306 t308 t319 true)))) else (laws_FnGaps.j0 k l0 t305 t306 t308 t319 true)))) else (laws_FnGaps.j0 k l0 t305 t306 t308 t319 true))))) = some r := H
  have A9 := Aside0.mk A90
  clear A90
  replace H := Option.bind_eq_some_iff.mp H
  obtain ⟨⟨t327, t328⟩, A100, H⟩ := H
  replace H : (if (t308 != t312) = true then (laws_FnGaps.j0 k l0 t305 t306 t308 t319 true) else ((laws_sameInts.f k t307 t311).bind fun t331 => (if t331 = true then (if (t316 != t320) = true then (laws_FnGaps.j0 k l0 t305 t306 t308 t319 true) else ((laws_sameInts.f k t315 t319).bind fun t332 => (if t332 = true then (if (t324 != t328) = true then (laws_FnGaps.j0 k l0 t305 t306 t308 t319 true) else ((laws_sameInts.f k t323 t327).bind fun t333 => (if t333 = true then (if (t311.length : Int) > 3 then (laws_FnGaps.j0 k l0 t305 t306 t308 t319 true) else (if (t311.length : Int) = 3 then (if 0 < (t311.length : Int) then (if 1 < (t311.length : Int) then (if 2 < (t311.length : Int) then (laws_FnGaps.j0 k l0 t305 t306 t308 t319 ((wrap64 ((rd t311 0) + (rd t311 1))) != (rd t311 2))) else (none)) else (none)) else (none)) else (laws_FnGaps.j0 k l0 t305 t306 t308 t319 false))) else (laws_FnGaps.j0 k l0 t305 t306 t308 t319 true)))) else (laws_FnGaps.j0 k l0 t305 t306 t308 t319 true)))) else (laws_FnGaps.j0 k l0 t305 t306 t308 t319 true)))) = some r := H
  have A10 := Aside0.mk A100
  clear A100
  have HC11 := Aside0.mk H
  clear H
  go_enter Try.func8, Try.ntmps8
  go_upto_region 10 with (first | ((with_reducible refine gate_callee (f := 22) rfl ?_); refine goesL_ (some 37) rfl rfl Try.func22 (by kernel_rfl) rfl #[.slice A0 l0.length c0] rfl (by (try simp only [List.map_toArray, List.map_cons, List.map_nil]); first | done | rfl | (simp only [List.length_drop, List.length_take]; rfl)) ?_; (with_reducible refine (laws_big.calls _ _ l0 false _ ?side1 ?side2 A2.out).mono ?_); (case side1 => repeat (first | exact HR0.out | (with_reducible refine Kd.C_alloc ?_ _) | (with_reducible refine Kd.C_drewN ?_ _) | (with_reducible refine Kd.C_drew ?_))); (case side2 => exact HC0.out); rintro e w' ⟨rfl, ⟨nd, rfl⟩⟩; refine ⟨_, rfl, ?_⟩) | ((with_reducible refine gate_callee (f := 23) rfl ?_); refine goesL_ (some 40) rfl rfl Try.func23 (by kernel_rfl) rfl #[.slice A0 l0.length c0] rfl (by (try simp only [List.map_toArray, List.map_cons, List.map_nil]); first | done | rfl | (simp only [List.length_drop, List.length_take]; rfl)) ?_; (with_reducible refine (spec_DrawGapLengths.calls k _ _ l0 t304 t305 t306 _ ?side1 ?side2 A4.out).mono ?_); (case side1 => repeat (first | exact HR0.out | (with_reducible refine Kd.C_alloc ?_ _) | (with_reducible refine Kd.C_drewN ?_ _) | (with_reducible refine Kd.C_drew ?_))); (case side2 => exact HC0.out); rintro e w12 ⟨rfl, hb⟩; refine ⟨_, rfl, ?_⟩; have n0_ := Aside0.mk (below_step (by repeat (first | (with_reducible first | exact HB.out | apply below_alloc | apply pw_below_drewN | apply below_drew1) | exact HB.out)) hb); clear HB; have HB := n0_; clear n0_; (try clear hb); (try clear hb2); (try clear hk); (try clear hi)) | ((with_reducible refine gate_callee (f := 21) rfl ?_); refine goesL_ (some 48) rfl rfl Try.func21 (by kernel_rfl) rfl #[.int .i64 t304, .int .i64 t305, .int .i64 t306] rfl (by (try simp only [List.map_toArray, List.map_cons, List.map_nil]); first | done | rfl | (simp only [List.length_drop, List.length_take]; rfl)) ?_; (with_reducible refine (impl_GapLengths.calls k t304 t305 t306 t307 t308 _ A5.out).mono ?_); rintro e w13 ⟨v309, rfl, ho0, hb⟩; refine ⟨_, rfl, ?_⟩; have n0_ := Aside0.mk (Kd.R_lower ho0 (below_size (by repeat (first | (with_reducible first | exact HB.out | apply below_alloc | apply pw_below_drewN | apply below_drew1) | exact HB.out)))); have n1_ := Aside0.mk (below_step (by repeat (first | (with_reducible first | exact HB.out | apply below_alloc | apply pw_below_drewN | apply below_drew1) | exact HB.out)) hb); clear HB; have HO310 := n0_; have HB := n1_; clear n0_ n1_; (try clear hb); (try clear hb2); (try clear hk); (try clear hi); (try clear ho0)) | ((with_reducible refine gate_callee (f := 20) rfl ?_); refine goesL_ (some 55) rfl rfl Try.func20 (by kernel_rfl) rfl #[.int .i64 t304, .int .i64 t305, .int .i64 t306] rfl (by (try simp only [List.map_toArray, List.map_cons, List.map_nil]); first | done | rfl | (simp only [List.length_drop, List.length_take]; rfl)) ?_; (with_reducible refine (spec_GapLengths.calls k t304 t305 t306 t311 t312 _ A6.out).mono ?_); rintro e w14 ⟨v313, rfl, ho0, hb⟩; refine ⟨_, rfl, ?_⟩; have n0_ := Aside0.mk (Kd.R_elder' (by (with_reducible repeat (first | apply Kd.R_alloc | apply Kd.R_drewN | apply Kd.R_drew)); exact HO310.out) (Kd.R_base ho0) hb); have n1_ := Aside0.mk (Kd.R_lower (Kd.R_new' ho0 (Kd.R_lt (by (with_reducible repeat (first | apply Kd.R_alloc | apply Kd.R_drewN | apply Kd.R_drew)); exact HO310.out))) (below_size (by repeat (first | (with_reducible first | exact HB.out | apply below_alloc | apply pw_below_drewN | apply below_drew1) | exact HB.out)))); have n2_ := Aside0.mk (below_step (by repeat (first | (with_reducible first | exact HB.out | apply below_alloc | apply pw_below_drewN | apply below_drew1) | exact HB.out)) hb); clear HO310; clear HB; have HO310 := n0_; have HO314 := n1_; have HB := n2_; clear n0_ n1_ n2_; (try clear hb); (try clear hb2); (try clear hk); (try clear hi); (try clear ho0)) | ((with_reducible refine gate_callee (f := 19) rfl ?_); refine goesL_ (some 62) rfl rfl Try.func19 (by kernel_rfl) rfl #[.int .i64 t304, .int .i64 t305, .int .i64 t306] rfl (by (try simp only [List.map_toArray, List.map_cons, List.map_nil]); first | done | rfl | (simp only [List.length_drop, List.length_take]; rfl)) ?_; (with_reducible refine (impl_GapsOf.calls k t304 t305 t306 t315 t316 _ A7.out).mono ?_); rintro e w15 ⟨v317, rfl, ho0, hb⟩; refine ⟨_, rfl, ?_⟩; have n0_ := Aside0.mk (Kd.R_elder' (by (with_reducible repeat (first | apply Kd.R_alloc | apply Kd.R_drewN | apply Kd.R_drew)); exact HO310.out) (Kd.R_base ho0) hb); have n1_ := Aside0.mk (Kd.R_elder' (by (with_reducible repeat (first | apply Kd.R_alloc | apply Kd.R_drewN | apply Kd.R_drew)); exact HO314.out) (Kd.R_base ho0) hb); have n2_ := Aside0.mk (Kd.R_lower (Kd.R_new' (Kd.R_new' ho0 (Kd.R_lt (by (with_reducible repeat (first | apply Kd.R_alloc | apply Kd.R_drewN | apply Kd.R_drew)); exact HO310.out))) (Kd.R_lt (by (with_reducible repeat (first | apply Kd.R_alloc | apply Kd.R_drewN | apply Kd.R_drew)); exact HO314.out))) (below_size (by repeat (first | (with_reducible first | exact HB.out | apply below_alloc | apply pw_below_drewN | apply below_drew1) | exact HB.out)))); have n3_ := Aside0.mk (below_step (by repeat (first | (with_reducible first | exact HB.out | apply below_alloc | apply pw_below_drewN | apply below_drew1) | exact HB.out)) hb); clear HO310; clear HO314; clear HB; have HO310 := n0_; have HO314 := n1_; have HO318 := n2_; have HB := n3_; clear n0_ n1_ n2_ n3_; (try clear hb); (try clear hb2); (try clear hk); (try clear hi); (try clear ho0)) | ((with_reducible refine gate_callee (f := 18) rfl ?_); refine goesL_ (some 69) rfl rfl Try.func18 (by kernel_rfl) rfl #[.int .i64 t304, .int .i64 t305, .int .i64 t306] rfl (by (try simp only [List.map_toArray, List.map_cons, List.map_nil]); first | done | rfl | (simp only [List.length_drop, List.length_take]; rfl)) ?_; (with_reducible refine (spec_GapsOf.calls k t304 t305 t306 t319 t320 _ A8.out).mono ?_); rintro e w16 ⟨v321, rfl, ho0, hb⟩; refine ⟨_, rfl, ?_⟩; have n0_ := Aside0.mk (Kd.R_elder' (by (with_reducible repeat (first | apply Kd.R_alloc | apply Kd.R_drewN | apply Kd.R_drew)); exact HO310.out) (Kd.R_base ho0) hb); have n1_ := Aside0.mk (Kd.R_elder' (by (with_reducible repeat (first | apply Kd.R_alloc | apply Kd.R_drewN | apply Kd.R_drew)); exact HO314.out) (Kd.R_base ho0) hb); have n2_ := Aside0.mk (Kd.R_elder' (by (with_reducible repeat (first | apply Kd.R_alloc | apply Kd.R_drewN | apply Kd.R_drew)); exact HO318.out) (Kd.R_base ho0) hb); have n3_ := Aside0.mk (Kd.R_lower (Kd.R_new' (Kd.R_new' (Kd.R_new' ho0 (Kd.R_lt (by (with_reducible repeat (first | apply Kd.R_alloc | apply Kd.R_drewN | apply Kd.R_drew)); exact HO310.out))) (Kd.R_lt (by (with_reducible repeat (first | apply Kd.R_alloc | apply Kd.R_drewN | apply Kd.R_drew)); exact HO314.out))) (Kd.R_lt (by (with_reducible repeat (first | apply Kd.R_alloc | apply Kd.R_drewN | apply Kd.R_drew)); exact HO318.out))) (below_size (by repeat (first | (with_reducible first | exact HB.out | apply below_alloc | apply pw_below_drewN | apply below_drew1) | exact HB.out)))); have n4_ := Aside0.mk (below_step (by repeat (first | (with_reducible first | exact HB.out | apply below_alloc | apply pw_below_drewN | apply below_drew1) | exact HB.out)) hb); clear HO310; clear HO314; clear HO318; clear HB; have HO310 := n0_; have HO314 := n1_; have HO318 := n2_; have HO322 := n3_; have HB := n4_; clear n0_ n1_ n2_ n3_ n4_; (try clear hb); (try clear hb2); (try clear hk); (try clear hi); (try clear ho0)) | ((with_reducible refine gate_callee (f := 14) rfl ?_); refine goesL_ (some 76) rfl rfl Try.func14 (by kernel_rfl) rfl #[.int .i64 t304, .int .i64 t305, .int .i64 t306] rfl (by (try simp only [List.map_toArray, List.map_cons, List.map_nil]); first | done | rfl | (simp only [List.length_drop, List.length_take]; rfl)) ?_; (with_reducible refine (impl_PointsOf.calls k t304 t305 t306 t323 t324 _ A9.out).mono ?_); rintro e w17 ⟨v325, rfl, ho0, hb⟩; refine ⟨_, rfl, ?_⟩; have n0_ := Aside0.mk (Kd.R_elder' (by (with_reducible repeat (first | apply Kd.R_alloc | apply Kd.R_drewN | apply Kd.R_drew)); exact HO310.out) (Kd.R_base ho0) hb); have n1_ := Aside0.mk (Kd.R_elder' (by (with_reducible repeat (first | apply Kd.R_alloc | apply Kd.R_drewN | apply Kd.R_drew)); exact HO314.out) (Kd.R_base ho0) hb); have n2_ := Aside0.mk (Kd.R_elder' (by (with_reducible repeat (first | apply Kd.R_alloc | apply Kd.R_drewN | apply Kd.R_drew)); exact HO318.out) (Kd.R_base ho0) hb); have n3_ := Aside0.mk (Kd.R_elder' (by (with_reducible repeat (first | apply Kd.R_alloc | apply Kd.R_drewN | apply Kd.R_drew)); exact HO322.out) (Kd.R_base ho0) hb); have n4_ := Aside0.mk (Kd.R_lower (Kd.R_new' (Kd.R_new' (Kd.R_new' (Kd.R_new' ho0 (Kd.R_lt (by (with_reducible repeat (first | apply Kd.R_alloc | apply Kd.R_drewN | apply Kd.R_drew)); exact HO310.out))) (Kd.R_lt (by (with_reducible repeat (first | apply Kd.R_alloc | apply Kd.R_drewN | apply Kd.R_drew)); exact HO314.out))) (Kd.R_lt (by (with_reducible repeat (first | apply Kd.R_alloc | apply Kd.R_drewN | apply Kd.R_drew)); exact HO318.out))) (Kd.R_lt (by (with_reducible repeat (first | apply Kd.R_alloc | apply Kd.R_drewN | apply Kd.R_drew)); exact HO322.out))) (below_size (by repeat (first | (with_reducible first | exact HB.out | apply below_alloc | apply pw_below_drewN | apply below_drew1) | exact HB.out)))); have n5_ := Aside0.mk (below_step (by repeat (first | (with_reducible first | exact HB.out | apply below_alloc | apply pw_below_drewN | apply below_drew1) | exact HB.out)) hb); clear HO310; clear HO314; clear HO318; clear HO322; clear HB; have HO310 := n0_; have HO314 := n1_; have HO318 := n2_; have HO322 := n3_; have HO326 := n4_; have HB := n5_; clear n0_ n1_ n2_ n3_ n4_ n5_; (try clear hb); (try clear hb2); (try clear hk); (try clear hi); (try clear ho0)) | ((with_reducible refine gate_callee (f := 13) rfl ?_); refine goesL_ (some 83) rfl rfl Try.func13 (by kernel_rfl) rfl #[.int .i64 t304, .int .i64 t305, .int .i64 t306] rfl (by (try simp only [List.map_toArray, List.map_cons, List.map_nil]); first | done | rfl | (simp only [List.length_drop, List.length_take]; rfl)) ?_; (with_reducible refine (spec_PointsOf.calls k t304 t305 t306 t327 t328 _ A10.out).mono ?_); rintro e w18 ⟨v329, rfl, ho0, hb⟩; refine ⟨_, rfl, ?_⟩; have n0_ := Aside0.mk (Kd.R_elder' (by (with_reducible repeat (first | apply Kd.R_alloc | apply Kd.R_drewN | apply Kd.R_drew)); exact HO310.out) (Kd.R_base ho0) hb); have n1_ := Aside0.mk (Kd.R_elder' (by (with_reducible repeat (first | apply Kd.R_alloc | apply Kd.R_drewN | apply Kd.R_drew)); exact HO314.out) (Kd.R_base ho0) hb); have n2_ := Aside0.mk (Kd.R_elder' (by (with_reducible repeat (first | apply Kd.R_alloc | apply Kd.R_drewN | apply Kd.R_drew)); exact HO318.out) (Kd.R_base ho0) hb); have n3_ := Aside0.mk (Kd.R_elder' (by (with_reducible repeat (first | apply Kd.R_alloc | apply Kd.R_drewN | apply Kd.R_drew)); exact HO322.out) (Kd.R_base ho0) hb); have n4_ := Aside0.mk (Kd.R_elder' (by (with_reducible repeat (first | apply Kd.R_alloc | apply Kd.R_drewN | apply Kd.R_drew)); exact HO326.out) (Kd.R_base ho0) hb); have n5_ := Aside0.mk (Kd.R_lower (Kd.R_new' (Kd.R_new' (Kd.R_new' (Kd.R_new' (Kd.R_new' ho0 (Kd.R_lt (by (with_reducible repeat (first | apply Kd.R_alloc | apply Kd.R_drewN | apply Kd.R_drew)); exact HO310.out))) (Kd.R_lt (by (with_reducible repeat (first | apply Kd.R_alloc | apply Kd.R_drewN | apply Kd.R_drew)); exact HO314.out))) (Kd.R_lt (by (with_reducible repeat (first | apply Kd.R_alloc | apply Kd.R_drewN | apply Kd.R_drew)); exact HO318.out))) (Kd.R_lt (by (with_reducible repeat (first | apply Kd.R_alloc | apply Kd.R_drewN | apply Kd.R_drew)); exact HO322.out))) (Kd.R_lt (by (with_reducible repeat (first | apply Kd.R_alloc | apply Kd.R_drewN | apply Kd.R_drew)); exact HO326.out))) (below_size (by repeat (first | (with_reducible first | exact HB.out | apply below_alloc | apply pw_below_drewN | apply below_drew1) | exact HB.out)))); have n6_ := Aside0.mk (below_step (by repeat (first | (with_reducible first | exact HB.out | apply below_alloc | apply pw_below_drewN | apply below_drew1) | exact HB.out)) hb); clear HO310; clear HO314; clear HO318; clear HO322; clear HO326; clear HB; have HO310 := n0_; have HO314 := n1_; have HO318 := n2_; have HO322 := n3_; have HO326 := n4_; have HO330 := n5_; have HB := n6_; clear n0_ n1_ n2_ n3_ n4_ n5_ n6_; (try clear hb); (try clear hb2); (try clear hk); (try clear hi); (try clear ho0)))
  (try simp only [Act.put, z1_, z2_, z3_])
  go_cut [139] (fun v139 wc => ∃ (kq : Nat) (x139_10 : Bool), v139 = .bool x139_10 ∧ Aside0 (laws_FnGaps.j0 kq l0 t305 t306 t308 t319 x139_10 = some r) ∧ Aside0 (kq ≤ k) ∧ Aside0 (Kd.R (Kd.int .i64) 3 wc w.heap.size (fun _ => True) v321 t319) ∧ Aside0 (Below w.heap.size w wc))
  case first => as_aux_lemma =>
   have H := HC11.out
   clear HC11
   by_cases c19 : (t308 != t312) = true
   ·rw [if_pos c19] at H
    have c19b0 : (t308 != t312) = true := c19
    (try (have c19b1 : decide (t308 = t312) = false := by simpa using c19))
    (try (have c19b2 : (t308 == t312) = false := by simpa using c19))
    (try (have c19b3 : ¬ (t308 = t312) := by simpa using c19))
    clear c19
    (first | rw [c19b0] | (simp only [i64_w, i32_w]; rw [c19b0]) | skip)
    as_aux_lemma =>
     have H' := Aside0.mk H
     clear H
     try go_wp2
     have n0_ := Aside0.mk (Kd.R_drew HO310.out)
     have n1_ := Aside0.mk (Kd.R_drew HO314.out)
     have n2_ := Aside0.mk (Kd.R_drew HO318.out)
     have n3_ := Aside0.mk (Kd.R_drew HO322.out)
     have n4_ := Aside0.mk (Kd.R_drew HO326.out)
     have n5_ := Aside0.mk (Kd.R_drew HO330.out)
     have n6_ := Aside0.mk (below_drew1 HB.out)
     clear HO310
     clear HO314
     clear HO318
     clear HO322
     clear HO326
     clear HO330
     clear HB
     have HO310 := n0_
     have HO314 := n1_
     have HO318 := n2_
     have HO322 := n3_
     have HO326 := n4_
     have HO330 := n5_
     have HB := n6_
     clear n0_ n1_ n2_ n3_ n4_ n5_ n6_
     refine start_ (n := 54) (S := fun w' => True) (ds := []) m0_ (by kernel_rfl) rfl rfl trivial (fun hHeld => ?_); refine with_tabW laws_FnGaps.tab10 laws_FnGaps.bits10 (fun HT_ HW_ => ?_)
     generalize w18.drew = w20 at HO310 HO314 HO318 HO322 HO326 HO330 HB hHeld ⊢
     refine pure_ (i := 0) (N := some 86) (v := ?_) (a' := ?_) m1_ rfl rfl (any_of HT_.out (by kernel_rfl)) (fun _ _ _ h => h) (Or.inl ⟨by rfl, ?_⟩) ?_ ?_
     rotate_left; · intro w'; go_simp; with_reducible rfl
     rotate_left; · simp only [Act.put, z1_, z2_, z3_, i64_w, i32_w]; rfl
     refine pure_ (i := 1) (N := some 87) (v := ?_) (a' := ?_) m2_ rfl rfl (any_of HT_.out (by kernel_rfl)) (fun _ _ _ h => h) (Or.inl ⟨by rfl, ?_⟩) ?_ ?_
     rotate_left; · intro w'; go_simp; with_reducible rfl
     rotate_left; · simp only [Act.put, z1_, z2_, z3_, i64_w, i32_w]; rfl
     refine pure_ (i := 2) (N := some 88) (v := ?_) (a' := ?_) m3_ rfl rfl (any_of HT_.out (by kernel_rfl)) (fun _ _ _ h => h) (Or.inl ⟨by rfl, ?_⟩) ?_ ?_
     rotate_left; · intro w'; go_simp; with_reducible rfl
     rotate_left; · simp only [Act.put, z1_, z2_, z3_, i64_w, i32_w]; rfl
     refine pure_ (i := 3) (N := some 89) (v := ?_) (a' := ?_) m4_ rfl rfl (any_of HT_.out (by kernel_rfl)) (fun _ _ _ h => h) (Or.inl ⟨by rfl, ?_⟩) ?_ ?_
     rotate_left; · intro w'; go_simp; with_reducible rfl
     rotate_left; · simp only [Act.put, z1_, z2_, z3_, i64_w, i32_w]; rfl
     refine pure_ (i := 4) (N := some 90) (v := undef) (a' := ?_) m5_ rfl rfl (any_of HT_.out (by kernel_rfl)) (fun _ _ _ h => h) (Or.inr ⟨by rfl, rfl⟩) ?_ ?_
     rotate_left; · simp only [Act.put, z1_, z2_, z3_, i64_w, i32_w]; rfl
     refine pure_ (i := 5) (N := some 91) (v := undef) (a' := ?_) m6_ rfl rfl (any_of HT_.out (by kernel_rfl)) (fun _ _ _ h => h) (Or.inr ⟨by rfl, rfl⟩) ?_ ?_
     rotate_left; · simp only [Act.put, z1_, z2_, z3_, i64_w, i32_w]; rfl
     refine pure_ (i := 6) (N := some 92) (v := undef) (a' := ?_) m7_ rfl rfl (any_of HT_.out (by kernel_rfl)) (fun _ _ _ h => h) (Or.inr ⟨by rfl, rfl⟩) ?_ ?_
     rotate_left; · simp only [Act.put, z1_, z2_, z3_, i64_w, i32_w]; rfl
     refine pure_ (i := 7) (N := some 93) (v := undef) (a' := ?_) m8_ rfl rfl (any_of HT_.out (by kernel_rfl)) (fun _ _ _ h => h) (Or.inr ⟨by rfl, rfl⟩) ?_ ?_
     rotate_left; · simp only [Act.put, z1_, z2_, z3_, i64_w, i32_w]; rfl
     refine pure_ (i := 8) (N := some 94) (v := ?_) (a' := ?_) m9_ rfl rfl (any_of HT_.out (by kernel_rfl)) (fun _ _ _ h => h) (Or.inl ⟨by rfl, ?_⟩) ?_ ?_
     rotate_left; · intro w'; go_simp; with_reducible rfl
     rotate_left; · simp only [Act.put, z1_, z2_, z3_, i64_w, i32_w]; rfl
     refine pure_ (i := 9) (N := some 95) (v := ?_) (a' := ?_) m10_ rfl rfl (any_of HT_.out (by kernel_rfl)) (fun _ _ _ h => h) (Or.inl ⟨by rfl, ?_⟩) ?_ ?_
     rotate_left; · intro w'; go_simp; with_reducible rfl
     rotate_left; · simp only [Act.put, z1_, z2_, z3_, i64_w, i32_w]; rfl
     refine pure_ (i := 10) (N := some 96) (v := undef) (a' := ?_) m11_ rfl rfl (any_of HT_.out (by kernel_rfl)) (fun _ _ _ h => h) (Or.inr ⟨by rfl, rfl⟩) ?_ ?_
     rotate_left; · simp only [Act.put, z1_, z2_, z3_, i64_w, i32_w]; rfl
     refine pure_ (i := 11) (N := some 97) (v := undef) (a' := ?_) m12_ rfl rfl (any_of HT_.out (by kernel_rfl)) (fun _ _ _ h => h) (Or.inr ⟨by rfl, rfl⟩) ?_ ?_
     rotate_left; · simp only [Act.put, z1_, z2_, z3_, i64_w, i32_w]; rfl
     refine pure_ (i := 12) (N := some 98) (v := undef) (a' := ?_) m13_ rfl rfl (any_of HT_.out (by kernel_rfl)) (fun _ _ _ h => h) (Or.inr ⟨by rfl, rfl⟩) ?_ ?_
     rotate_left; · simp only [Act.put, z1_, z2_, z3_, i64_w, i32_w]; rfl
     refine pure_ (i := 13) (N := some 99) (v := ?_) (a' := ?_) m14_ rfl rfl (any_of HT_.out (by kernel_rfl)) (fun _ _ _ h => h) (Or.inl ⟨by rfl, ?_⟩) ?_ ?_
     rotate_left; · intro w'; go_simp; with_reducible rfl
     rotate_left; · simp only [Act.put, z1_, z2_, z3_, i64_w, i32_w]; rfl
     refine pure_ (i := 14) (N := some 100) (v := ?_) (a' := ?_) m15_ rfl rfl (any_of HT_.out (by kernel_rfl)) (fun _ _ _ h => h) (Or.inl ⟨by rfl, ?_⟩) ?_ ?_
     rotate_left; · intro w'; go_simp; with_reducible rfl
     rotate_left; · simp only [Act.put, z1_, z2_, z3_, i64_w, i32_w]; rfl
     refine pure_ (i := 15) (N := some 101) (v := undef) (a' := ?_) m16_ rfl rfl (any_of HT_.out (by kernel_rfl)) (fun _ _ _ h => h) (Or.inr ⟨by rfl, rfl⟩) ?_ ?_
     rotate_left; · simp only [Act.put, z1_, z2_, z3_, i64_w, i32_w]; rfl
     refine pure_ (i := 16) (N := some 102) (v := undef) (a' := ?_) m17_ rfl rfl (any_of HT_.out (by kernel_rfl)) (fun _ _ _ h => h) (Or.inr ⟨by rfl, rfl⟩) ?_ ?_
     rotate_left; · simp only [Act.put, z1_, z2_, z3_, i64_w, i32_w]; rfl
     refine pure_ (i := 17) (N := some 103) (v := undef) (a' := ?_) m18_ rfl rfl (any_of HT_.out (by kernel_rfl)) (fun _ _ _ h => h) (Or.inr ⟨by rfl, rfl⟩) ?_ ?_
     rotate_left; · simp only [Act.put, z1_, z2_, z3_, i64_w, i32_w]; rfl
     refine pure_ (i := 18) (N := some 104) (v := undef) (a' := ?_) m19_ rfl rfl (any_of HT_.out (by kernel_rfl)) (fun _ _ _ h => h) (Or.inr ⟨by rfl, rfl⟩) ?_ ?_
     rotate_left; · simp only [Act.put, z1_, z2_, z3_, i64_w, i32_w]; rfl
     refine pure_ (i := 19) (N := some 105) (v := ?_) (a' := ?_) m20_ rfl rfl (any_of HT_.out (by kernel_rfl)) (fun _ _ _ h => h) (Or.inl ⟨by rfl, ?_⟩) ?_ ?_
     rotate_left; · intro w'; go_simp; with_reducible rfl
     rotate_left; · simp only [Act.put, z1_, z2_, z3_, i64_w, i32_w]; rfl
     refine pure_ (i := 20) (N := some 106) (v := ?_) (a' := ?_) m21_ rfl rfl (any_of HT_.out (by kernel_rfl)) (fun _ _ _ h => h) (Or.inl ⟨by rfl, ?_⟩) ?_ ?_
     rotate_left; · intro w'; go_simp; with_reducible rfl
     rotate_left; · simp only [Act.put, z1_, z2_, z3_, i64_w, i32_w]; rfl
     refine pure_ (i := 21) (N := some 107) (v := undef) (a' := ?_) m22_ rfl rfl (any_of HT_.out (by kernel_rfl)) (fun _ _ _ h => h) (Or.inr ⟨by rfl, rfl⟩) ?_ ?_
     rotate_left; · simp only [Act.put, z1_, z2_, z3_, i64_w, i32_w]; rfl
     refine pure_ (i := 22) (N := some 108) (v := undef) (a' := ?_) m23_ rfl rfl (any_of HT_.out (by kernel_rfl)) (fun _ _ _ h => h) (Or.inr ⟨by rfl, rfl⟩) ?_ ?_
     rotate_left; · simp only [Act.put, z1_, z2_, z3_, i64_w, i32_w]; rfl
     refine pure_ (i := 23) (N := some 109) (v := undef) (a' := ?_) m24_ rfl rfl (any_of HT_.out (by kernel_rfl)) (fun _ _ _ h => h) (Or.inr ⟨by rfl, rfl⟩) ?_ ?_
     rotate_left; · simp only [Act.put, z1_, z2_, z3_, i64_w, i32_w]; rfl
     refine pure_ (i := 24) (N := some 110) (v := ?_) (a' := ?_) m25_ rfl rfl (any_of HT_.out (by kernel_rfl)) (fun _ _ _ h => h) (Or.inl ⟨by rfl, ?_⟩) ?_ ?_
     rotate_left; · intro w'; go_simp; with_reducible rfl
     rotate_left; · simp only [Act.put, z1_, z2_, z3_, i64_w, i32_w]; rfl
     refine pure_ (i := 25) (N := some 111) (v := ?_) (a' := ?_) m26_ rfl rfl (any_of HT_.out (by kernel_rfl)) (fun _ _ _ h => h) (Or.inl ⟨by rfl, ?_⟩) ?_ ?_
     rotate_left; · intro w'; go_simp; with_reducible rfl
     rotate_left; · simp only [Act.put, z1_, z2_, z3_, i64_w, i32_w]; rfl
     refine pure_ (i := 26) (N := some 112) (v := undef) (a' := ?_) m27_ rfl rfl (any_of HT_.out (by kernel_rfl)) (fun _ _ _ h => h) (Or.inr ⟨by rfl, rfl⟩) ?_ ?_
     rotate_left; · simp only [Act.put, z1_, z2_, z3_, i64_w, i32_w]; rfl
     refine pure_ (i := 27) (N := some 113) (v := undef) (a' := ?_) m28_ rfl rfl (any_of HT_.out (by kernel_rfl)) (fun _ _ _ h => h) (Or.inr ⟨by rfl, rfl⟩) ?_ ?_
     rotate_left; · simp only [Act.put, z1_, z2_, z3_, i64_w, i32_w]; rfl
     refine pure_ (i := 28) (N := some 114) (v := undef) (a' := ?_) m29_ rfl rfl (any_of HT_.out (by kernel_rfl)) (fun _ _ _ h => h) (Or.inr ⟨by rfl, rfl⟩) ?_ ?_
     rotate_left; · simp only [Act.put, z1_, z2_, z3_, i64_w, i32_w]; rfl
     refine pure_ (i := 29) (N := some 115) (v := undef) (a' := ?_) m30_ rfl rfl (any_of HT_.out (by kernel_rfl)) (fun _ _ _ h => h) (Or.inr ⟨by rfl, rfl⟩) ?_ ?_
     rotate_left; · simp only [Act.put, z1_, z2_, z3_, i64_w, i32_w]; rfl
     refine pure_ (i := 30) (N := some 116) (v := ?_) (a' := ?_) m31_ rfl rfl (any_of HT_.out (by kernel_rfl)) (fun _ _ _ h => h) (Or.inl ⟨by rfl, ?_⟩) ?_ ?_
     rotate_left; · intro w'; go_simp; with_reducible rfl
     rotate_left; · simp only [Act.put, z1_, z2_, z3_, i64_w, i32_w]; rfl
     refine pure_ (i := 31) (N := some 117) (v := ?_) (a' := ?_) m32_ rfl rfl (any_of HT_.out (by kernel_rfl)) (fun _ _ _ h => h) (Or.inl ⟨by rfl, ?_⟩) ?_ ?_
     rotate_left; · intro w'; go_simp; with_reducible rfl
     rotate_left; · simp only [Act.put, z1_, z2_, z3_, i64_w, i32_w]; rfl
     refine pure_ (i := 32) (N := some 118) (v := undef) (a' := ?_) m33_ rfl rfl (any_of HT_.out (by kernel_rfl)) (fun _ _ _ h => h) (Or.inr ⟨by rfl, rfl⟩) ?_ ?_
     rotate_left; · simp only [Act.put, z1_, z2_, z3_, i64_w, i32_w]; rfl
     refine pure_ (i := 33) (N := some 119) (v := undef) (a' := ?_) m34_ rfl rfl (any_of HT_.out (by kernel_rfl)) (fun _ _ _ h => h) (Or.inr ⟨by rfl, rfl⟩) ?_ ?_
     rotate_left; · simp only [Act.put, z1_, z2_, z3_, i64_w, i32_w]; rfl
     refine pure_ (i := 34) (N := some 120) (v := undef) (a' := ?_) m35_ rfl rfl (any_of HT_.out (by kernel_rfl)) (fun _ _ _ h => h) (Or.inr ⟨by rfl, rfl⟩) ?_ ?_
     rotate_left; · simp only [Act.put, z1_, z2_, z3_, i64_w, i32_w]; rfl
     refine pure_ (i := 35) (N := some 121) (v := ?_) (a' := ?_) m36_ rfl rfl (any_of HT_.out (by kernel_rfl)) (fun _ _ _ h => h) (Or.inl ⟨by rfl, ?_⟩) ?_ ?_
     rotate_left; · intro w'; go_simp; with_reducible rfl
     rotate_left; · simp only [Act.put, z1_, z2_, z3_, i64_w, i32_w]; rfl
     refine pure_ (i := 36) (N := some 122) (v := ?_) (a' := ?_) m37_ rfl rfl (any_of HT_.out (by kernel_rfl)) (fun _ _ _ h => h) (Or.inl ⟨by rfl, ?_⟩) ?_ ?_
     rotate_left; · intro w'; go_simp; with_reducible rfl
     rotate_left; · simp only [Act.put, z1_, z2_, z3_, i64_w, i32_w]; rfl
     refine pure_ (i := 37) (N := some 123) (v := undef) (a' := ?_) m38_ rfl rfl (any_of HT_.out (by kernel_rfl)) (fun _ _ _ h => h) (Or.inr ⟨by rfl, rfl⟩) ?_ ?_
     rotate_left; · simp only [Act.put, z1_, z2_, z3_, i64_w, i32_w]; rfl
     refine pure_ (i := 38) (N := some 124) (v := undef) (a' := ?_) m39_ rfl rfl (any_of HT_.out (by kernel_rfl)) (fun _ _ _ h => h) (Or.inr ⟨by rfl, rfl⟩) ?_ ?_
     rotate_left; · simp only [Act.put, z1_, z2_, z3_, i64_w, i32_w]; rfl
     refine pure_ (i := 39) (N := some 125) (v := undef) (a' := ?_) m40_ rfl rfl (any_of HT_.out (by kernel_rfl)) (fun _ _ _ h => h) (Or.inr ⟨by rfl, rfl⟩) ?_ ?_
     rotate_left; · simp only [Act.put, z1_, z2_, z3_, i64_w, i32_w]; rfl
     refine pure_ (i := 40) (N := some 126) (v := undef) (a' := ?_) m41_ rfl rfl (any_of HT_.out (by kernel_rfl)) (fun _ _ _ h => h) (Or.inr ⟨by rfl, rfl⟩) ?_ ?_
     rotate_left; · simp only [Act.put, z1_, z2_, z3_, i64_w, i32_w]; rfl
     refine pure_ (i := 41) (N := some 127) (v := undef) (a' := ?_) m42_ rfl rfl (any_of HT_.out (by kernel_rfl)) (fun _ _ _ h => h) (Or.inr ⟨by rfl, rfl⟩) ?_ ?_
     rotate_left; · simp only [Act.put, z1_, z2_, z3_, i64_w, i32_w]; rfl
     refine pure_ (i := 42) (N := some 128) (v := undef) (a' := ?_) m43_ rfl rfl (any_of HT_.out (by kernel_rfl)) (fun _ _ _ h => h) (Or.inr ⟨by rfl, rfl⟩) ?_ ?_
     rotate_left; · simp only [Act.put, z1_, z2_, z3_, i64_w, i32_w]; rfl
     refine pure_ (i := 43) (N := some 129) (v := undef) (a' := ?_) m44_ rfl rfl (any_of HT_.out (by kernel_rfl)) (fun _ _ _ h => h) (Or.inr ⟨by rfl, rfl⟩) ?_ ?_
     rotate_left; · simp only [Act.put, z1_, z2_, z3_, i64_w, i32_w]; rfl
     refine pure_ (i := 44) (N := some 130) (v := undef) (a' := ?_) m45_ rfl rfl (any_of HT_.out (by kernel_rfl)) (fun _ _ _ h => h) (Or.inr ⟨by rfl, rfl⟩) ?_ ?_
     rotate_left; · simp only [Act.put, z1_, z2_, z3_, i64_w, i32_w]; rfl
     refine pure_ (i := 45) (N := some 131) (v := undef) (a' := ?_) m46_ rfl rfl (any_of HT_.out (by kernel_rfl)) (fun _ _ _ h => h) (Or.inr ⟨by rfl, rfl⟩) ?_ ?_
     rotate_left; · simp only [Act.put, z1_, z2_, z3_, i64_w, i32_w]; rfl
     refine pure_ (i := 46) (N := some 132) (v := undef) (a' := ?_) m47_ rfl rfl (any_of HT_.out (by kernel_rfl)) (fun _ _ _ h => h) (Or.inr ⟨by rfl, rfl⟩) ?_ ?_
     rotate_left; · simp only [Act.put, z1_, z2_, z3_, i64_w, i32_w]; rfl
     refine pure_ (i := 47) (N := some 133) (v := undef) (a' := ?_) m48_ rfl rfl (any_of HT_.out (by kernel_rfl)) (fun _ _ _ h => h) (Or.inr ⟨by rfl, rfl⟩) ?_ ?_
     rotate_left; · simp only [Act.put, z1_, z2_, z3_, i64_w, i32_w]; rfl
     refine pure_ (i := 48) (N := some 134) (v := undef) (a' := ?_) m49_ rfl rfl (any_of HT_.out (by kernel_rfl)) (fun _ _ _ h => h) (Or.inr ⟨by rfl, rfl⟩) ?_ ?_
     rotate_left; · simp only [Act.put, z1_, z2_, z3_, i64_w, i32_w]; rfl
     refine pure_ (i := 49) (N := some 135) (v := undef) (a' := ?_) m50_ rfl rfl (any_of HT_.out (by kernel_rfl)) (fun _ _ _ h => h) (Or.inr ⟨by rfl, rfl⟩) ?_ ?_
     rotate_left; · simp only [Act.put, z1_, z2_, z3_, i64_w, i32_w]; rfl
     refine pure_ (i := 50) (N := some 136) (v := undef) (a' := ?_) m51_ rfl rfl (any_of HT_.out (by kernel_rfl)) (fun _ _ _ h => h) (Or.inr ⟨by rfl, rfl⟩) ?_ ?_
     rotate_left; · simp only [Act.put, z1_, z2_, z3_, i64_w, i32_w]; rfl
     refine pure_ (i := 51) (N := some 137) (v := undef) (a' := ?_) m52_ rfl rfl (any_of HT_.out (by kernel_rfl)) (fun _ _ _ h => h) (Or.inr ⟨by rfl, rfl⟩) ?_ ?_
     rotate_left; · simp only [Act.put, z1_, z2_, z3_, i64_w, i32_w]; rfl
     refine pure_ (i := 52) (N := some 138) (v := undef) (a' := ?_) m53_ rfl rfl (any_of HT_.out (by kernel_rfl)) (fun _ _ _ h => h) (Or.inr ⟨by rfl, rfl⟩) ?_ ?_
     rotate_left; · simp only [Act.put, z1_, z2_, z3_, i64_w, i32_w]; rfl
     refine pure_ (i := 53) (N := some 139) (v := ?_) (a' := ?_) m54_ rfl rfl (any_of HT_.out (by kernel_rfl)) (fun _ _ _ h => h) (Or.inl ⟨by rfl, ?_⟩) ?_ ?_
     rotate_left; · intro w'; go_simp; with_reducible rfl
     rotate_left; · simp only [Act.put, z1_, z2_, z3_, i64_w, i32_w]; rfl
     refine done_ (done_of HT_.out (by kernel_rfl)) ?_
     try go_wp2
     go_meet
     case rel => exact ⟨_, (true), (by first | rfl | (simp; done) | (simp [*]; done)), H', ⟨by first | omega | exact Nat.le_refl _⟩, ⟨by (with_reducible repeat (first | apply Kd.R_alloc | apply Kd.R_drewN | apply Kd.R_drew)); exact Kd.R_mono HO322.out (fun _ hk => trivial)⟩, ⟨by repeat (first | (with_reducible first | exact HB.out | apply below_alloc | apply pw_below_drewN | apply below_drew1) | exact HB.out)⟩⟩
   ·rw [if_neg c19] at H
    have c19b0 : (t308 != t312) = false := by simpa using c19
    (try (have c19b1 : decide (t308 = t312) = true := by simpa using c19))
    (try (have c19b2 : (t308 == t312) = true := by simpa using c19))
    clear c19
    (first | rw [c19b0] | (simp only [i64_w, i32_w]; rw [c19b0]) | skip)
    replace H := Option.bind_eq_some_iff.mp H
    obtain ⟨t331, A210, H⟩ := H
    replace H : (if t331 = true then (if (t316 != t320) = true then (laws_FnGaps.j0 k l0 t305 t306 t308 t319 true) else ((laws_sameInts.f k t315 t319).bind fun t332 => (if t332 = true then (if (t324 != t328) = true then (laws_FnGaps.j0 k l0 t305 t306 t308 t319 true) else ((laws_sameInts.f k t323 t327).bind fun t333 => (if t333 = true then (if (t311.length : Int) > 3 then (laws_FnGaps.j0 k l0 t305 t306 t308 t319 true) else (if (t311.length : Int) = 3 then (if 0 < (t311.length : Int) then (if 1 < (t311.length : Int) then (if 2 < (t311.length : Int) then (laws_FnGaps.j0 k l0 t305 t306 t308 t319 ((wrap64 ((rd t311 0) + (rd t311 1))) != (rd t311 2))) else (none)) else (none)) else (none)) else (laws_FnGaps.j0 k l0 t305 t306 t308 t319 false))) else (laws_FnGaps.j0 k l0 t305 t306 t308 t319 true)))) else (laws_FnGaps.j0 k l0 t305 t306 t308 t319 true)))) else (laws_FnGaps.j0 k l0 t305 t306 t308 t319 true)) = some r := H
    have A21 := Aside0.mk A210
    clear A210
    by_cases c22 : t331 = true
    ·subst c22
     have H1 : (if (t316 != t320) = true then (laws_FnGaps.j0 k l0 t305 t306 t308 t319 true) else ((laws_sameInts.f k t315 t319).bind fun t332 => (if t332 = true then (if (t324 != t328) = true then (laws_FnGaps.j0 k l0 t305 t306 t308 t319 true) else ((laws_sameInts.f k t323 t327).bind fun t333 => (if t333 = true then (if (t311.length : Int) > 3 then (laws_FnGaps.j0 k l0 t305 t306 t308 t319 true) else (if (t311.length : Int) = 3 then (if 0 < (t311.length : Int) then (if 1 < (t311.length : Int) then (if 2 < (t311.length : Int) then (laws_FnGaps.j0 k l0 t305 t306 t308 t319 ((wrap64 ((rd t311 0) + (rd t311 1))) != (rd t311 2))) else (none)) else (none)) else (none)) else (laws_FnGaps.j0 k l0 t305 t306 t308 t319 false))) else (laws_FnGaps.j0 k l0 t305 t306 t308 t319 true)))) else (laws_FnGaps.j0 k l0 t305 t306 t308 t319 true)))) = some r := by rw [if_pos rfl] at H; exact H
     clear H
     have H := H1
     clear H1
     by_cases c23 : (t316 != t320) = true
     ·rw [if_pos c23] at H
      have c23b0 : (t316 != t320) = true := c23
      (try (have c23b1 : decide (t316 = t320) = false := by simpa using c23))
      (try (have c23b2 : (t316 == t320) = false := by simpa using c23))
      (try (have c23b3 : ¬ (t316 = t320) := by simpa using c23))
      clear c23
      as_aux_lemma =>
       have H' := Aside0.mk H
       clear H
       try go_wp2
       have n0_ := Aside0.mk (Kd.R_drew HO310.out)
       have n1_ := Aside0.mk (Kd.R_drew HO314.out)
       have n2_ := Aside0.mk (Kd.R_drew HO318.out)
       have n3_ := Aside0.mk (Kd.R_drew HO322.out)
       have n4_ := Aside0.mk (Kd.R_drew HO326.out)
       have n5_ := Aside0.mk (Kd.R_drew HO330.out)
       have n6_ := Aside0.mk (below_drew1 HB.out)
       clear HO310
       clear HO314
       clear HO318
       clear HO322
       clear HO326
       clear HO330
       clear HB
       have HO310 := n0_
       have HO314 := n1_
       have HO318 := n2_
       have HO322 := n3_
       have HO326 := n4_
       have HO330 := n5_
       have HB := n6_
       clear n0_ n1_ n2_ n3_ n4_ n5_ n6_
       obtain ⟨Ao25, co25, eo25⟩ := Kd.R_slice HO310.out
       (first | subst eo25 | (injection eo25 with f1_ f2_ f3_; have f4_ := f1_.symm; have f5_ := f3_.symm; clear f1_ f2_ f3_; subst f4_; subst f5_))
       obtain ⟨Ao26, co26, eo26⟩ := Kd.R_slice HO314.out
       (first | subst eo26 | (injection eo26 with f1_ f2_ f3_; have f4_ := f1_.symm; have f5_ := f3_.symm; clear f1_ f2_ f3_; subst f4_; subst f5_))
       refine start_ (n := 54) (S := fun w' => True) (ds := []) m0_ (by kernel_rfl) rfl rfl trivial (fun hHeld => ?_); refine with_tabW laws_FnGaps.tab10 laws_FnGaps.bits10 (fun HT_ HW_ => ?_)
       generalize w18.drew = w24 at HO310 HO314 HO318 HO322 HO326 HO330 HB hHeld ⊢
       refine pure_ (i := 0) (N := some 86) (v := ?_) (a' := ?_) m1_ rfl rfl (any_of HT_.out (by kernel_rfl)) (fun _ _ _ h => h) (Or.inl ⟨by rfl, ?_⟩) ?_ ?_
       rotate_left; · intro w'; go_simp; with_reducible rfl
       rotate_left; · simp only [Act.put, z1_, z2_, z3_, i64_w, i32_w]; rfl
       refine pure_ (i := 1) (N := some 87) (v := ?_) (a' := ?_) m2_ rfl rfl (any_of HT_.out (by kernel_rfl)) (fun _ _ _ h => h) (Or.inl ⟨by rfl, ?_⟩) ?_ ?_
       rotate_left; · intro w'; go_simp; with_reducible rfl
       rotate_left; · simp only [Act.put, z1_, z2_, z3_, i64_w, i32_w]; rfl
       refine pure_ (i := 2) (N := some 88) (v := ?_) (a' := ?_) m3_ rfl rfl (any_of HT_.out (by kernel_rfl)) (fun _ _ _ h => h) (Or.inl ⟨by rfl, ?_⟩) ?_ ?_
       rotate_left; · intro w'; go_simp; with_reducible rfl
       rotate_left; · simp only [Act.put, z1_, z2_, z3_, i64_w, i32_w]; rfl
       refine pure_ (i := 3) (N := some 89) (v := ?_) (a' := ?_) m4_ rfl rfl (any_of HT_.out (by kernel_rfl)) (fun _ _ _ h => h) (Or.inl ⟨by rfl, ?_⟩) ?_ ?_
       rotate_left; · intro w'; go_simp; with_reducible rfl
       rotate_left; · simp only [Act.put, z1_, z2_, z3_, i64_w, i32_w]; rfl
       refine pure_ (i := 4) (N := some 90) (v := ?_) (a' := ?_) m5_ rfl rfl (any_of HT_.out (by kernel_rfl)) (fun _ _ _ h => h) (Or.inl ⟨by rfl, ?_⟩) ?_ ?_
       rotate_left; · intro w'; go_simp; with_reducible rfl
       rotate_left; · simp only [Act.put, z1_, z2_, z3_, i64_w, i32_w]; rfl
       refine pure_ (i := 5) (N := some 91) (v := ?_) (a' := ?_) m6_ rfl rfl (any_of HT_.out (by kernel_rfl)) (fun _ _ _ h => h) (Or.inl ⟨by rfl, ?_⟩) ?_ ?_
       rotate_left; · intro w'; go_simp; with_reducible rfl
       rotate_left; · simp only [Act.put, z1_, z2_, z3_, i64_w, i32_w]; rfl
       refine one_ (i := 6) (N := some 92) m7_ rfl rfl (one_of HT_.out (by kernel_rfl)) (by decide) (fun K hK => ?_)
       refine goes_ Try.func24 (by kernel_rfl) rfl #[.slice Ao25 t307.length co25, .slice Ao26 t311.length co26] (by rfl) rfl rfl (by (try simp only [List.map_toArray, List.map_cons, List.map_nil]); first | done | rfl | (simp only [List.length_drop, List.length_take]; rfl)) ?_
       with_reducible refine (laws_sameInts.calls k _ _ t307 _ _ t311 true _ ?side1 ?side2 ?side3 ?side4 A21.out).mono ?_
       (case side1 => repeat (first | exact (Kd.R_reads' HO310.out).2.2 | (with_reducible refine Kd.C_alloc ?_ _) | (with_reducible refine Kd.C_drewN ?_ _) | (with_reducible refine Kd.C_drew ?_)))
       (case side2 => exact (Kd.R_reads' HO310.out).2.1)
       (case side3 => repeat (first | exact (Kd.R_reads' HO314.out).2.2 | (with_reducible refine Kd.C_alloc ?_ _) | (with_reducible refine Kd.C_drewN ?_ _) | (with_reducible refine Kd.C_drew ?_)))
       (case side4 => exact (Kd.R_reads' HO314.out).2.1)
       rintro e w' ⟨rfl, ⟨nd, rfl⟩⟩
       refine ⟨_, rfl, ?_⟩
       refine hK.out _ _ trivial (fun hHeld => ?_)
       clear hK K
       refine norm_ (a' := ?_) ?_ ?_
       rotate_left
       ·show Act.put _ (some 92) _ = _
        simp only [Act.put, z1_, z2_, z3_, i64_w, i32_w]
        rfl
       refine pure_ (i := 7) (N := some 93) (v := ?_) (a' := ?_) m8_ rfl rfl (any_of HT_.out (by kernel_rfl)) (fun _ _ _ h => h) (Or.inl ⟨by rfl, ?_⟩) ?_ ?_
       rotate_left; · intro w'; go_simp; with_reducible rfl
       rotate_left; · simp only [Act.put, z1_, z2_, z3_, i64_w, i32_w]; rfl
       refine pure_ (i := 8) (N := some 94) (v := ?_) (a' := ?_) m9_ rfl rfl (any_of HT_.out (by kernel_rfl)) (fun _ _ _ h => h) (Or.inl ⟨by rfl, ?_⟩) ?_ ?_
       rotate_left; · intro w'; go_simp; with_reducible rfl
       rotate_left; · simp only [Act.put, z1_, z2_, z3_, i64_w, i32_w]; rfl
       refine pure_ (i := 9) (N := some 95) (v := ?_) (a' := ?_) m10_ rfl rfl (any_of HT_.out (by kernel_rfl)) (fun _ _ _ h => h) (Or.inl ⟨by rfl, ?_⟩) ?_ ?_
       rotate_left; · intro w'; go_simp; with_reducible rfl
       rotate_left; · simp only [Act.put, z1_, z2_, z3_, i64_w, i32_w]; rfl
       refine pure_ (i := 10) (N := some 96) (v := ?_) (a' := ?_) m11_ rfl rfl (any_of HT_.out (by kernel_rfl)) (fun _ _ _ h => h) (Or.inl ⟨by rfl, ?_⟩) ?_ ?_
       rotate_left; · intro w'; go_simp; with_reducible rfl
       rotate_left; · simp only [Act.put, z1_, z2_, z3_, i64_w, i32_w]; rfl
       refine pure_ (i := 11) (N := some 97) (v := ?_) (a' := ?_) m12_ rfl rfl (any_of HT_.out (by kernel_rfl)) (fun _ _ _ h => h) (Or.inl ⟨by rfl, ?_⟩) ?_ ?_
       rotate_left; · intro w'; go_simp; with_reducible rfl
       rotate_left; · simp only [Act.put, z1_, z2_, z3_, i64_w, i32_w]; rfl
       refine pure_ (i := 12) (N := some 98) (v := ?_) (a' := ?_) m13_ rfl rfl (any_of HT_.out (by kernel_rfl)) (fun _ _ _ h => h) (Or.inl ⟨by rfl, ?_⟩) ?_ ?_
       rotate_left; · intro w'; go_simp; with_reducible rfl
       rotate_left; · simp only [Act.put, z1_, z2_, z3_, i64_w, i32_w]; rfl
       refine pure_ (i := 13) (N := some 99) (v := ?_) (a' := ?_) m14_ rfl rfl (any_of HT_.out (by kernel_rfl)) (fun _ _ _ h => h) (Or.inl ⟨by rfl, ?_⟩) ?_ ?_
       rotate_left; · intro w'; go_simp; with_reducible rfl
       rotate_left; · simp only [Act.put, z1_, z2_, z3_, i64_w, i32_w]; rfl
       refine pure_ (i := 14) (N := some 100) (v := ?_) (a' := ?_) m15_ rfl rfl (any_of HT_.out (by kernel_rfl)) (fun _ _ _ h => h) (Or.inl ⟨by rfl, ?_⟩) ?_ ?_
       rotate_left; · intro w'; go_simp; with_reducible rfl
       rotate_left; · simp only [Act.put, z1_, z2_, z3_, i64_w, i32_w]; rfl
       refine pure_ (i := 15) (N := some 101) (v := undef) (a' := ?_) m16_ rfl rfl (any_of HT_.out (by kernel_rfl)) (fun _ _ _ h => h) (Or.inr ⟨by rfl, rfl⟩) ?_ ?_
       rotate_left; · simp only [Act.put, z1_, z2_, z3_, i64_w, i32_w]; rfl
       refine pure_ (i := 16) (N := some 102) (v := undef) (a' := ?_) m17_ rfl rfl (any_of HT_.out (by kernel_rfl)) (fun _ _ _ h => h) (Or.inr ⟨by rfl, rfl⟩) ?_ ?_
       rotate_left; · simp only [Act.put, z1_, z2_, z3_, i64_w, i32_w]; rfl
       refine pure_ (i := 17) (N := some 103) (v := undef) (a' := ?_) m18_ rfl rfl (any_of HT_.out (by kernel_rfl)) (fun _ _ _ h => h) (Or.inr ⟨by rfl, rfl⟩) ?_ ?_
       rotate_left; · simp only [Act.put, z1_, z2_, z3_, i64_w, i32_w]; rfl
       refine pure_ (i := 18) (N := some 104) (v := undef) (a' := ?_) m19_ rfl rfl (any_of HT_.out (by kernel_rfl)) (fun _ _ _ h => h) (Or.inr ⟨by rfl, rfl⟩) ?_ ?_
       rotate_left; · simp only [Act.put, z1_, z2_, z3_, i64_w, i32_w]; rfl
       refine pure_ (i := 19) (N := some 105) (v := ?_) (a' := ?_) m20_ rfl rfl (any_of HT_.out (by kernel_rfl)) (fun _ _ _ h => h) (Or.inl ⟨by rfl, ?_⟩) ?_ ?_
       rotate_left; · intro w'; go_simp; with_reducible rfl
       rotate_left; · simp only [Act.put, z1_, z2_, z3_, i64_w, i32_w]; rfl
       refine pure_ (i := 20) (N := some 106) (v := ?_) (a' := ?_) m21_ rfl rfl (any_of HT_.out (by kernel_rfl)) (fun _ _ _ h => h) (Or.inl ⟨by rfl, ?_⟩) ?_ ?_
       rotate_left; · intro w'; go_simp; with_reducible rfl
       rotate_left; · simp only [Act.put, z1_, z2_, z3_, i64_w, i32_w]; rfl
       refine pure_ (i := 21) (N := some 107) (v := undef) (a' := ?_) m22_ rfl rfl (any_of HT_.out (by kernel_rfl)) (fun _ _ _ h => h) (Or.inr ⟨by rfl, rfl⟩) ?_ ?_
       rotate_left; · simp only [Act.put, z1_, z2_, z3_, i64_w, i32_w]; rfl
       refine pure_ (i := 22) (N := some 108) (v := undef) (a' := ?_) m23_ rfl rfl (any_of HT_.out (by kernel_rfl)) (fun _ _ _ h => h) (Or.inr ⟨by rfl, rfl⟩) ?_ ?_
       rotate_left; · simp only [Act.put, z1_, z2_, z3_, i64_w, i32_w]; rfl
       refine pure_ (i := 23) (N := some 109) (v := undef) (a' := ?_) m24_ rfl rfl (any_of HT_.out (by kernel_rfl)) (fun _ _ _ h => h) (Or.inr ⟨by rfl, rfl⟩) ?_ ?_
       rotate_left; · simp only [Act.put, z1_, z2_, z3_, i64_w, i32_w]; rfl
       refine pure_ (i := 24) (N := some 110) (v := ?_) (a' := ?_) m25_ rfl rfl (any_of HT_.out (by kernel_rfl)) (fun _ _ _ h => h) (Or.inl ⟨by rfl, ?_⟩) ?_ ?_
       rotate_left; · intro w'; go_simp; with_reducible rfl
       rotate_left; · simp only [Act.put, z1_, z2_, z3_, i64_w, i32_w]; rfl
       refine pure_ (i := 25) (N := some 111) (v := ?_) (a' := ?_) m26_ rfl rfl (any_of HT_.out (by kernel_rfl)) (fun _ _ _ h => h) (Or.inl ⟨by rfl, ?_⟩) ?_ ?_
       rotate_left; · intro w'; go_simp; with_reducible rfl
       rotate_left; · simp only [Act.put, z1_, z2_, z3_, i64_w, i32_w]; rfl
       refine pure_ (i := 26) (N := some 112) (v := undef) (a' := ?_) m27_ rfl rfl (any_of HT_.out (by kernel_rfl)) (fun _ _ _ h => h) (Or.inr ⟨by rfl, rfl⟩) ?_ ?_
       rotate_left; · simp only [Act.put, z1_, z2_, z3_, i64_w, i32_w]; rfl
       refine pure_ (i := 27) (N := some 113) (v := undef) (a' := ?_) m28_ rfl rfl (any_of HT_.out (by kernel_rfl)) (fun _ _ _ h => h) (Or.inr ⟨by rfl, rfl⟩) ?_ ?_
       rotate_left; · simp only [Act.put, z1_, z2_, z3_, i64_w, i32_w]; rfl
       refine pure_ (i := 28) (N := some 114) (v := undef) (a' := ?_) m29_ rfl rfl (any_of HT_.out (by kernel_rfl)) (fun _ _ _ h => h) (Or.inr ⟨by rfl, rfl⟩) ?_ ?_
       rotate_left; · simp only [Act.put, z1_, z2_, z3_, i64_w, i32_w]; rfl
       refine pure_ (i := 29) (N := some 115) (v := undef) (a' := ?_) m30_ rfl rfl (any_of HT_.out (by kernel_rfl)) (fun _ _ _ h => h) (Or.inr ⟨by rfl, rfl⟩) ?_ ?_
       rotate_left; · simp only [Act.put, z1_, z2_, z3_, i64_w, i32_w]; rfl
       refine pure_ (i := 30) (N := some 116) (v := ?_) (a' := ?_) m31_ rfl rfl (any_of HT_.out (by kernel_rfl)) (fun _ _ _ h => h) (Or.inl ⟨by rfl, ?_⟩) ?_ ?_
       rotate_left; · intro w'; go_simp; with_reducible rfl
       rotate_left; · simp only [Act.put, z1_, z2_, z3_, i64_w, i32_w]; rfl
       refine pure_ (i := 31) (N := some 117) (v := ?_) (a' := ?_) m32_ rfl rfl (any_of HT_.out (by kernel_rfl)) (fun _ _ _ h => h) (Or.inl ⟨by rfl, ?_⟩) ?_ ?_
       rotate_left; · intro w'; go_simp; with_reducible rfl
       rotate_left; · simp only [Act.put, z1_, z2_, z3_, i64_w, i32_w]; rfl
       refine pure_ (i := 32) (N := some 118) (v := undef) (a' := ?_) m33_ rfl rfl (any_of HT_.out (by kernel_rfl)) (fun _ _ _ h => h) (Or.inr ⟨by rfl, rfl⟩) ?_ ?_
       rotate_left; · simp only [Act.put, z1_, z2_, z3_, i64_w, i32_w]; rfl
       refine pure_ (i := 33) (N := some 119) (v := undef) (a' := ?_) m34_ rfl rfl (any_of HT_.out (by kernel_rfl)) (fun _ _ _ h => h) (Or.inr ⟨by rfl, rfl⟩) ?_ ?_
       rotate_left; · simp only [Act.put, z1_, z2_, z3_, i64_w, i32_w]; rfl
       refine pure_ (i := 34) (N := some 120) (v := undef) (a' := ?_) m35_ rfl rfl (any_of HT_.out (by kernel_rfl)) (fun _ _ _ h => h) (Or.inr ⟨by rfl, rfl⟩) ?_ ?_
       rotate_left; · simp only [Act.put, z1_, z2_, z3_, i64_w, i32_w]; rfl
       refine pure_ (i := 35) (N := some 121) (v := ?_) (a' := ?_) m36_ rfl rfl (any_of HT_.out (by kernel_rfl)) (fun _ _ _ h => h) (Or.inl ⟨by rfl, ?_⟩) ?_ ?_
       rotate_left; · intro w'; go_simp; with_reducible rfl
       rotate_left; · simp only [Act.put, z1_, z2_, z3_, i64_w, i32_w]; rfl
       refine pure_ (i := 36) (N := some 122) (v := ?_) (a' := ?_) m37_ rfl rfl (any_of HT_.out (by kernel_rfl)) (fun _ _ _ h => h) (Or.inl ⟨by rfl, ?_⟩) ?_ ?_
       rotate_left; · intro w'; go_simp; with_reducible rfl
       rotate_left; · simp only [Act.put, z1_, z2_, z3_, i64_w, i32_w]; rfl
       refine pure_ (i := 37) (N := some 123) (v := undef) (a' := ?_) m38_ rfl rfl (any_of HT_.out (by kernel_rfl)) (fun _ _ _ h => h) (Or.inr ⟨by rfl, rfl⟩) ?_ ?_
       rotate_left; · simp only [Act.put, z1_, z2_, z3_, i64_w, i32_w]; rfl
       refine pure_ (i := 38) (N := some 124) (v := undef) (a' := ?_) m39_ rfl rfl (any_of HT_.out (by kernel_rfl)) (fun _ _ _ h => h) (Or.inr ⟨by rfl, rfl⟩) ?_ ?_
       rotate_left; · simp only [Act.put, z1_, z2_, z3_, i64_w, i32_w]; rfl
       refine pure_ (i := 39) (N := some 125) (v := undef) (a' := ?_) m40_ rfl rfl (any_of HT_.out (by kernel_rfl)) (fun _ _ _ h => h) (Or.inr ⟨by rfl, rfl⟩) ?_ ?_
       rotate_left; · simp only [Act.put, z1_, z2_, z3_, i64_w, i32_w]; rfl
       refine pure_ (i := 40) (N := some 126) (v := undef) (a' := ?_) m41_ rfl rfl (any_of HT_.out (by kernel_rfl)) (fun _ _ _ h => h) (Or.inr ⟨by rfl, rfl⟩) ?_ ?_
       rotate_left; · simp only [Act.put, z1_, z2_, z3_, i64_w, i32_w]; rfl
       refine pure_ (i := 41) (N := some 127) (v := undef) (a' := ?_) m42_ rfl rfl (any_of HT_.out (by kernel_rfl)) (fun _ _ _ h => h) (Or.inr ⟨by rfl, rfl⟩) ?_ ?_
       rotate_left; · simp only [Act.put, z1_, z2_, z3_, i64_w, i32_w]; rfl
       refine pure_ (i := 42) (N := some 128) (v := undef) (a' := ?_) m43_ rfl rfl (any_of HT_.out (by kernel_rfl)) (fun _ _ _ h => h) (Or.inr ⟨by rfl, rfl⟩) ?_ ?_
       rotate_left; · simp only [Act.put, z1_, z2_, z3_, i64_w, i32_w]; rfl
       refine pure_ (i := 43) (N := some 129) (v := undef) (a' := ?_) m44_ rfl rfl (any_of HT_.out (by kernel_rfl)) (fun _ _ _ h => h) (Or.inr ⟨by rfl, rfl⟩) ?_ ?_
       rotate_left; · simp only [Act.put, z1_, z2_, z3_, i64_w, i32_w]; rfl
       refine pure_ (i := 44) (N := some 130) (v := undef) (a' := ?_) m45_ rfl rfl (any_of HT_.out (by kernel_rfl)) (fun _ _ _ h => h) (Or.inr ⟨by rfl, rfl⟩) ?_ ?_
       rotate_left; · simp only [Act.put, z1_, z2_, z3_, i64_w, i32_w]; rfl
       refine pure_ (i := 45) (N := some 131) (v := undef) (a' := ?_) m46_ rfl rfl (any_of HT_.out (by kernel_rfl)) (fun _ _ _ h => h) (Or.inr ⟨by rfl, rfl⟩) ?_ ?_
       rotate_left; · simp only [Act.put, z1_, z2_, z3_, i64_w, i32_w]; rfl
       refine pure_ (i := 46) (N := some 132) (v := undef) (a' := ?_) m47_ rfl rfl (any_of HT_.out (by kernel_rfl)) (fun _ _ _ h => h) (Or.inr ⟨by rfl, rfl⟩) ?_ ?_
       rotate_left; · simp only [Act.put, z1_, z2_, z3_, i64_w, i32_w]; rfl
       refine pure_ (i := 47) (N := some 133) (v := undef) (a' := ?_) m48_ rfl rfl (any_of HT_.out (by kernel_rfl)) (fun _ _ _ h => h) (Or.inr ⟨by rfl, rfl⟩) ?_ ?_
       rotate_left; · simp only [Act.put, z1_, z2_, z3_, i64_w, i32_w]; rfl
       refine pure_ (i := 48) (N := some 134) (v := undef) (a' := ?_) m49_ rfl rfl (any_of HT_.out (by kernel_rfl)) (fun _ _ _ h => h) (Or.inr ⟨by rfl, rfl⟩) ?_ ?_
       rotate_left; · simp only [Act.put, z1_, z2_, z3_, i64_w, i32_w]; rfl
       refine pure_ (i := 49) (N := some 135) (v := undef) (a' := ?_) m50_ rfl rfl (any_of HT_.out (by kernel_rfl)) (fun _ _ _ h => h) (Or.inr ⟨by rfl, rfl⟩) ?_ ?_
       rotate_left; · simp only [Act.put, z1_, z2_, z3_, i64_w, i32_w]; rfl
       refine pure_ (i := 50) (N := some 136) (v := undef) (a' := ?_) m51_ rfl rfl (any_of HT_.out (by kernel_rfl)) (fun _ _ _ h => h) (Or.inr ⟨by rfl, rfl⟩) ?_ ?_
       rotate_left; · simp only [Act.put, z1_, z2_, z3_, i64_w, i32_w]; rfl
       refine pure_ (i := 51) (N := some 137) (v := undef) (a' := ?_) m52_ rfl rfl (any_of HT_.out (by kernel_rfl)) (fun _ _ _ h => h) (Or.inr ⟨by rfl, rfl⟩) ?_ ?_
       rotate_left; · simp only [Act.put, z1_, z2_, z3_, i64_w, i32_w]; rfl
       refine pure_ (i := 52) (N := some 138) (v := undef) (a' := ?_) m53_ rfl rfl (any_of HT_.out (by kernel_rfl)) (fun _ _ _ h => h) (Or.inr ⟨by rfl, rfl⟩) ?_ ?_
       rotate_left; · simp only [Act.put, z1_, z2_, z3_, i64_w, i32_w]; rfl
       refine pure_ (i := 53) (N := some 139) (v := ?_) (a' := ?_) m54_ rfl rfl (any_of HT_.out (by kernel_rfl)) (fun _ _ _ h => h) (Or.inl ⟨by rfl, ?_⟩) ?_ ?_
       rotate_left; · intro w'; go_simp; with_reducible rfl
       rotate_left; · simp only [Act.put, z1_, z2_, z3_, i64_w, i32_w]; rfl
       refine done_ (done_of HT_.out (by kernel_rfl)) ?_
       try go_wp2
       go_meet
       case rel => exact ⟨_, (true), (by first | rfl | (simp; done) | (simp [*]; done)), H', ⟨by first | omega | exact Nat.le_refl _⟩, ⟨by (with_reducible repeat (first | apply Kd.R_alloc | apply Kd.R_drewN | apply Kd.R_drew)); exact Kd.R_mono HO322.out (fun _ hk => trivial)⟩, ⟨by repeat (first | (with_reducible first | exact HB.out | apply below_alloc | apply pw_below_drewN | apply below_drew1) | exact HB.out)⟩⟩
     ·rw [if_neg c23] at H
      have c23b0 : (t316 != t320) = false := by simpa using c23
      (try (have c23b1 : decide (t316 = t320) = true := by simpa using c23))
      (try (have c23b2 : (t316 == t320) = true := by simpa using c23))
      clear c23
      replace H := Option.bind_eq_some_iff.mp H
      obtain ⟨t332, A270, H⟩ := H
      replace H : (if t332 = true then (if (t324 != t328) = true then (laws_FnGaps.j0 k l0 t305 t306 t308 t319 true) else ((laws_sameInts.f k t323 t327).bind fun t333 => (if t333 = true then (if (t311.length : Int) > 3 then (laws_FnGaps.j0 k l0 t305 t306 t308 t319 true) else (if (t311.length : Int) = 3 then (if 0 < (t311.length : Int) then (if 1 < (t311.length : Int) then (if 2 < (t311.length : Int) then (laws_FnGaps.j0 k l0 t305 t306 t308 t319 ((wrap64 ((rd t311 0) + (rd t311 1))) != (rd t311 2))) else (none)) else (none)) else (none)) else (laws_FnGaps.j0 k l0 t305 t306 t308 t319 false))) else (laws_FnGaps.j0 k l0 t305 t306 t308 t319 true)))) else (laws_FnGaps.j0 k l0 t305 t306 t308 t319 true)) = some r := H
      have A27 := Aside0.mk A270
      clear A270
      by_cases c28 : t332 = true
      ·subst c28
       have H1 : (if (t324 != t328) = true then (laws_FnGaps.j0 k l0 t305 t306 t308 t319 true) else ((laws_sameInts.f k t323 t327).bind fun t333 => (if t333 = true then (if (t311.length : Int) > 3 then (laws_FnGaps.j0 k l0 t305 t306 t308 t319 true) else (if (t311.length : Int) = 3 then (if 0 < (t311.length : Int) then (if 1 < (t311.length : Int) then (if 2 < (t311.length : Int) then (laws_FnGaps.j0 k l0 t305 t306 t308 t319 ((wrap64 ((rd t311 0) + (rd t311 1))) != (rd t311 2))) else (none)) else (none)) else (none)) else (laws_FnGaps.j0 k l0 t305 t306 t308 t319 false))) else (laws_FnGaps.j0 k l0 t305 t306 t308 t319 true)))) = some r := by rw [if_pos rfl] at H; exact H
       clear H
       have H := H1
       clear H1
       by_cases c29 : (t324 != t328) = true
       ·rw [if_pos c29] at H
        have c29b0 : (t324 != t328) = true := c29
        (try (have c29b1 : decide (t324 = t328) = false := by simpa using c29))
        (try (have c29b2 : (t324 == t328) = false := by simpa using c29))
        (try (have c29b3 : ¬ (t324 = t328) := by simpa using c29))
        clear c29
        as_aux_lemma =>
         have H' := Aside0.mk H
         clear H
         try go_wp2
         have n0_ := Aside0.mk (Kd.R_drew HO310.out)
         have n1_ := Aside0.mk (Kd.R_drew HO314.out)
         have n2_ := Aside0.mk (Kd.R_drew HO318.out)
         have n3_ := Aside0.mk (Kd.R_drew HO322.out)
         have n4_ := Aside0.mk (Kd.R_drew HO326.out)
         have n5_ := Aside0.mk (Kd.R_drew HO330.out)
         have n6_ := Aside0.mk (below_drew1 HB.out)
         clear HO310
         clear HO314
         clear HO318
         clear HO322
         clear HO326
         clear HO330
         clear HB
         have HO310 := n0_
         have HO314 := n1_
         have HO318 := n2_
         have HO322 := n3_
         have HO326 := n4_
         have HO330 := n5_
         have HB := n6_
         clear n0_ n1_ n2_ n3_ n4_ n5_ n6_
         obtain ⟨Ao31, co31, eo31⟩ := Kd.R_slice HO310.out
         (first | subst eo31 | (injection eo31 with f1_ f2_ f3_; have f4_ := f1_.symm; have f5_ := f3_.symm; clear f1_ f2_ f3_; subst f4_; subst f5_))
         obtain ⟨Ao32, co32, eo32⟩ := Kd.R_slice HO314.out
         (first | subst eo32 | (injection eo32 with f1_ f2_ f3_; have f4_ := f1_.symm; have f5_ := f3_.symm; clear f1_ f2_ f3_; subst f4_; subst f5_))
         refine start_ (n := 54) (S := fun w' => True) (ds := []) m0_ (by kernel_rfl) rfl rfl trivial (fun hHeld => ?_); refine with_tabW laws_FnGaps.tab10 laws_FnGaps.bits10 (fun HT_ HW_ => ?_)
         generalize w18.drew = w30 at HO310 HO314 HO318 HO322 HO326 HO330 HB hHeld ⊢
         refine pure_ (i := 0) (N := some 86) (v := ?_) (a' := ?_) m1_ rfl rfl (any_of HT_.out (by kernel_rfl)) (fun _ _ _ h => h) (Or.inl ⟨by rfl, ?_⟩) ?_ ?_
         rotate_left; · intro w'; go_simp; with_reducible rfl
         rotate_left; · simp only [Act.put, z1_, z2_, z3_, i64_w, i32_w]; rfl
         refine pure_ (i := 1) (N := some 87) (v := ?_) (a' := ?_) m2_ rfl rfl (any_of HT_.out (by kernel_rfl)) (fun _ _ _ h => h) (Or.inl ⟨by rfl, ?_⟩) ?_ ?_
         rotate_left; · intro w'; go_simp; with_reducible rfl
         rotate_left; · simp only [Act.put, z1_, z2_, z3_, i64_w, i32_w]; rfl
         refine pure_ (i := 2) (N := some 88) (v := ?_) (a' := ?_) m3_ rfl rfl (any_of HT_.out (by kernel_rfl)) (fun _ _ _ h => h) (Or.inl ⟨by rfl, ?_⟩) ?_ ?_
         rotate_left; · intro w'; go_simp; with_reducible rfl
         rotate_left; · simp only [Act.put, z1_, z2_, z3_, i64_w, i32_w]; rfl
         refine pure_ (i := 3) (N := some 89) (v := ?_) (a' := ?_) m4_ rfl rfl (any_of HT_.out (by kernel_rfl)) (fun _ _ _ h => h) (Or.inl ⟨by rfl, ?_⟩) ?_ ?_
         rotate_left; · intro w'; go_simp; with_reducible rfl
         rotate_left; · simp only [Act.put, z1_, z2_, z3_, i64_w, i32_w]; rfl
         refine pure_ (i := 4) (N := some 90) (v := ?_) (a' := ?_) m5_ rfl rfl (any_of HT_.out (by kernel_rfl)) (fun _ _ _ h => h) (Or.inl ⟨by rfl, ?_⟩) ?_ ?_
         rotate_left; · intro w'; go_simp; with_reducible rfl
         rotate_left; · simp only [Act.put, z1_, z2_, z3_, i64_w, i32_w]; rfl
         refine pure_ (i := 5) (N := some 91) (v := ?_) (a' := ?_) m6_ rfl rfl (any_of HT_.out (by kernel_rfl)) (fun _ _ _ h => h) (Or.inl ⟨by rfl, ?_⟩) ?_ ?_
         rotate_left; · intro w'; go_simp; with_reducible rfl
         rotate_left; · simp only [Act.put, z1_, z2_, z3_, i64_w, i32_w]; rfl
         refine one_ (i := 6) (N := some 92) m7_ rfl rfl (one_of HT_.out (by kernel_rfl)) (by decide) (fun K hK => ?_)
         refine goes_ Try.func24 (by kernel_rfl) rfl #[.slice Ao31 t307.length co31, .slice Ao32 t311.length co32] (by rfl) rfl rfl (by (try simp only [List.map_toArray, List.map_cons, List.map_nil]); first | done | rfl | (simp only [List.length_drop, List.length_take]; rfl)) ?_
         with_reducible refine (laws_sameInts.calls k _ _ t307 _ _ t311 true _ ?side1 ?side2 ?side3 ?side4 A21.out).mono ?_
         (case side1 => repeat (first | exact (Kd.R_reads' HO310.out).2.2 | (with_reducible refine Kd.C_alloc ?_ _) | (with_reducible refine Kd.C_drewN ?_ _) | (with_reducible refine Kd.C_drew ?_)))
         (case side2 => exact (Kd.R_reads' HO310.out).2.1)
         (case side3 => repeat (first | exact (Kd.R_reads' HO314.out).2.2 | (with_reducible refine Kd.C_alloc ?_ _) | (with_reducible refine Kd.C_drewN ?_ _) | (with_reducible refine Kd.C_drew ?_)))
         (case side4 => exact (Kd.R_reads' HO314.out).2.1)
         rintro e w' ⟨rfl, ⟨nd, rfl⟩⟩
         refine ⟨_, rfl, ?_⟩
         obtain ⟨Ao33, co33, eo33⟩ := Kd.R_slice HO318.out
         (first | subst eo33 | (injection eo33 with f1_ f2_ f3_; have f4_ := f1_.symm; have f5_ := f3_.symm; clear f1_ f2_ f3_; subst f4_; subst f5_))
         obtain ⟨Ao34, co34, eo34⟩ := Kd.R_slice HO322.out
         (first | subst eo34 | (injection eo34 with f1_ f2_ f3_; have f4_ := f1_.symm; have f5_ := f3_.symm; clear f1_ f2_ f3_; subst f4_; subst f5_))
         refine hK.out _ _ trivial (fun hHeld => ?_)
         clear hK K
         refine norm_ (a' := ?_) ?_ ?_
         rotate_left
         ·show Act.put _ (some 92) _ = _
          simp only [Act.put, z1_, z2_, z3_, i64_w, i32_w]
          rfl
         refine pure_ (i := 7) (N := some 93) (v := ?_) (a' := ?_) m8_ rfl rfl (any_of HT_.out (by kernel_rfl)) (fun _ _ _ h => h) (Or.inl ⟨by rfl, ?_⟩) ?_ ?_
         rotate_left; · intro w'; go_simp; with_reducible rfl
         rotate_left; · simp only [Act.put, z1_, z2_, z3_, i64_w, i32_w]; rfl
         refine pure_ (i := 8) (N := some 94) (v := ?_) (a' := ?_) m9_ rfl rfl (any_of HT_.out (by kernel_rfl)) (fun _ _ _ h => h) (Or.inl ⟨by rfl, ?_⟩) ?_ ?_
         rotate_left; · intro w'; go_simp; with_reducible rfl
         rotate_left; · simp only [Act.put, z1_, z2_, z3_, i64_w, i32_w]; rfl
         refine pure_ (i := 9) (N := some 95) (v := ?_) (a' := ?_) m10_ rfl rfl (any_of HT_.out (by kernel_rfl)) (fun _ _ _ h => h) (Or.inl ⟨by rfl, ?_⟩) ?_ ?_
         rotate_left; · intro w'; go_simp; with_reducible rfl
         rotate_left; · simp only [Act.put, z1_, z2_, z3_, i64_w, i32_w]; rfl
         refine pure_ (i := 10) (N := some 96) (v := ?_) (a' := ?_) m11_ rfl rfl (any_of HT_.out (by kernel_rfl)) (fun _ _ _ h => h) (Or.inl ⟨by rfl, ?_⟩) ?_ ?_
         rotate_left; · intro w'; go_simp; with_reducible rfl
         rotate_left; · simp only [Act.put, z1_, z2_, z3_, i64_w, i32_w]; rfl
         refine pure_ (i := 11) (N := some 97) (v := ?_) (a' := ?_) m12_ rfl rfl (any_of HT_.out (by kernel_rfl)) (fun _ _ _ h => h) (Or.inl ⟨by rfl, ?_⟩) ?_ ?_
         rotate_left; · intro w'; go_simp; with_reducible rfl
         rotate_left; · simp only [Act.put, z1_, z2_, z3_, i64_w, i32_w]; rfl
         refine pure_ (i := 12) (N := some 98) (v := ?_) (a' := ?_) m13_ rfl rfl (any_of HT_.out (by kernel_rfl)) (fun _ _ _ h => h) (Or.inl ⟨by rfl, ?_⟩) ?_ ?_
         rotate_left; · intro w'; go_simp; with_reducible rfl
         rotate_left; · simp only [Act.put, z1_, z2_, z3_, i64_w, i32_w]; rfl
         refine pure_ (i := 13) (N := some 99) (v := ?_) (a' := ?_) m14_ rfl rfl (any_of HT_.out (by kernel_rfl)) (fun _ _ _ h => h) (Or.inl ⟨by rfl, ?_⟩) ?_ ?_
         rotate_left; · intro w'; go_simp; with_reducible rfl
         rotate_left; · simp only [Act.put, z1_, z2_, z3_, i64_w, i32_w]; rfl
         refine pure_ (i := 14) (N := some 100) (v := ?_) (a' := ?_) m15_ rfl rfl (any_of HT_.out (by kernel_rfl)) (fun _ _ _ h => h) (Or.inl ⟨by rfl, ?_⟩) ?_ ?_
         rotate_left; · intro w'; go_simp; with_reducible rfl
         rotate_left; · simp only [Act.put, z1_, z2_, z3_, i64_w, i32_w]; rfl
         refine pure_ (i := 15) (N := some 101) (v := ?_) (a' := ?_) m16_ rfl rfl (any_of HT_.out (by kernel_rfl)) (fun _ _ _ h => h) (Or.inl ⟨by rfl, ?_⟩) ?_ ?_
         rotate_left; · intro w'; go_simp; with_reducible rfl
         rotate_left; · simp only [Act.put, z1_, z2_, z3_, i64_w, i32_w]; rfl
         refine pure_ (i := 16) (N := some 102) (v := ?_) (a' := ?_) m17_ rfl rfl (any_of HT_.out (by kernel_rfl)) (fun _ _ _ h => h) (Or.inl ⟨by rfl, ?_⟩) ?_ ?_
         rotate_left; · intro w'; go_simp; with_reducible rfl
         rotate_left; · simp only [Act.put, z1_, z2_, z3_, i64_w, i32_w]; rfl
         refine one_ (i := 17) (N := some 103) m18_ rfl rfl (one_of HT_.out (by kernel_rfl)) (by decide) (fun K hK => ?_)
         refine goes_ Try.func24 (by kernel_rfl) rfl #[.slice Ao33 t315.length co33, .slice Ao34 t319.length co34] (by rfl) rfl rfl (by (try simp only [List.map_toArray, List.map_cons, List.map_nil]); first | done | rfl | (simp only [List.length_drop, List.length_take]; rfl)) ?_
         with_reducible refine (laws_sameInts.calls k _ _ t315 _ _ t319 true _ ?side1 ?side2 ?side3 ?side4 A27.out).mono ?_
         (case side1 => repeat (first | exact (Kd.R_reads' HO318.out).2.2 | (with_reducible refine Kd.C_alloc ?_ _) | (with_reducible refine Kd.C_drewN ?_ _) | (with_reducible refine Kd.C_drew ?_)))
         (case side2 => exact (Kd.R_reads' HO318.out).2.1)
         (case side3 => repeat (first | exact (Kd.R_reads' HO322.out).2.2 | (with_reducible refine Kd.C_alloc ?_ _) | (with_reducible refine Kd.C_drewN ?_ _) | (with_reducible refine Kd.C_drew ?_)))
         (case side4 => exact (Kd.R_reads' HO322.out).2.1)
         rintro e w' ⟨rfl, ⟨nd, rfl⟩⟩
         refine ⟨_, rfl, ?_⟩
         refine hK.out _ _ trivial (fun hHeld => ?_)
         clear hK K
         refine norm_ (a' := ?_) ?_ ?_
         rotate_left
         ·show Act.put _ (some 103) _ = _
          simp only [Act.put, z1_, z2_, z3_, i64_w, i32_w]
          rfl
         refine pure_ (i := 18) (N := some 104) (v := ?_) (a' := ?_) m19_ rfl rfl (any_of HT_.out (by kernel_rfl)) (fun _ _ _ h => h) (Or.inl ⟨by rfl, ?_⟩) ?_ ?_
         rotate_left; · intro w'; go_simp; with_reducible rfl
         rotate_left; · simp only [Act.put, z1_, z2_, z3_, i64_w, i32_w]; rfl
         refine pure_ (i := 19) (N := some 105) (v := ?_) (a' := ?_) m20_ rfl rfl (any_of HT_.out (by kernel_rfl)) (fun _ _ _ h => h) (Or.inl ⟨by rfl, ?_⟩) ?_ ?_
         rotate_left; · intro w'; go_simp; with_reducible rfl
         rotate_left; · simp only [Act.put, z1_, z2_, z3_, i64_w, i32_w]; rfl
         refine pure_ (i := 20) (N := some 106) (v := ?_) (a' := ?_) m21_ rfl rfl (any_of HT_.out (by kernel_rfl)) (fun _ _ _ h => h) (Or.inl ⟨by rfl, ?_⟩) ?_ ?_
         rotate_left; · intro w'; go_simp; with_reducible rfl
         rotate_left; · simp only [Act.put, z1_, z2_, z3_, i64_w, i32_w]; rfl
         refine pure_ (i := 21) (N := some 107) (v := ?_) (a' := ?_) m22_ rfl rfl (any_of HT_.out (by kernel_rfl)) (fun _ _ _ h => h) (Or.inl ⟨by rfl, ?_⟩) ?_ ?_
         rotate_left; · intro w'; go_simp; with_reducible rfl
         rotate_left; · simp only [Act.put, z1_, z2_, z3_, i64_w, i32_w]; rfl
         refine pure_ (i := 22) (N := some 108) (v := ?_) (a' := ?_) m23_ rfl rfl (any_of HT_.out (by kernel_rfl)) (fun _ _ _ h => h) (Or.inl ⟨by rfl, ?_⟩) ?_ ?_
         rotate_left; · intro w'; go_simp; with_reducible rfl
         rotate_left; · simp only [Act.put, z1_, z2_, z3_, i64_w, i32_w]; rfl
         refine pure_ (i := 23) (N := some 109) (v := ?_) (a' := ?_) m24_ rfl rfl (any_of HT_.out (by kernel_rfl)) (fun _ _ _ h => h) (Or.inl ⟨by rfl, ?_⟩) ?_ ?_
         rotate_left; · intro w'; go_simp; with_reducible rfl
         rotate_left; · simp only [Act.put, z1_, z2_, z3_, i64_w, i32_w]; rfl
         refine pure_ (i := 24) (N := some 110) (v := ?_) (a' := ?_) m25_ rfl rfl (any_of HT_.out (by kernel_rfl)) (fun _ _ _ h => h) (Or.inl ⟨by rfl, ?_⟩) ?_ ?_
         rotate_left; · intro w'; go_simp; with_reducible rfl
         rotate_left; · simp only [Act.put, z1_, z2_, z3_, i64_w, i32_w]; rfl
         refine pure_ (i := 25) (N := some 111) (v := ?_) (a' := ?_) m26_ rfl rfl (any_of HT_.out (by kernel_rfl)) (fun _ _ _ h => h) (Or.inl ⟨by rfl, ?_⟩) ?_ ?_
         rotate_left; · intro w'; go_simp; with_reducible rfl
         rotate_left; · simp only [Act.put, z1_, z2_, z3_, i64_w, i32_w]; rfl
         refine pure_ (i := 26) (N := some 112) (v := undef) (a' := ?_) m27_ rfl rfl (any_of HT_.out (by kernel_rfl)) (fun _ _ _ h => h) (Or.inr ⟨by rfl, rfl⟩) ?_ ?_
         rotate_left; · simp only [Act.put, z1_, z2_, z3_, i64_w, i32_w]; rfl
         refine pure_ (i := 27) (N := some 113) (v := undef) (a' := ?_) m28_ rfl rfl (any_of HT_.out (by kernel_rfl)) (fun _ _ _ h => h) (Or.inr ⟨by rfl, rfl⟩) ?_ ?_
         rotate_left; · simp only [Act.put, z1_, z2_, z3_, i64_w, i32_w]; rfl
         refine pure_ (i := 28) (N := some 114) (v := undef) (a' := ?_) m29_ rfl rfl (any_of HT_.out (by kernel_rfl)) (fun _ _ _ h => h) (Or.inr ⟨by rfl, rfl⟩) ?_ ?_
         rotate_left; · simp only [Act.put, z1_, z2_, z3_, i64_w, i32_w]; rfl
         refine pure_ (i := 29) (N := some 115) (v := undef) (a' := ?_) m30_ rfl rfl (any_of HT_.out (by kernel_rfl)) (fun _ _ _ h => h) (Or.inr ⟨by rfl, rfl⟩) ?_ ?_
         rotate_left; · simp only [Act.put, z1_, z2_, z3_, i64_w, i32_w]; rfl
         refine pure_ (i := 30) (N := some 116) (v := ?_) (a' := ?_) m31_ rfl rfl (any_of HT_.out (by kernel_rfl)) (fun _ _ _ h => h) (Or.inl ⟨by rfl, ?_⟩) ?_ ?_
         rotate_left; · intro w'; go_simp; with_reducible rfl
         rotate_left; · simp only [Act.put, z1_, z2_, z3_, i64_w, i32_w]; rfl
         refine pure_ (i := 31) (N := some 117) (v := ?_) (a' := ?_) m32_ rfl rfl (any_of HT_.out (by kernel_rfl)) (fun _ _ _ h => h) (Or.inl ⟨by rfl, ?_⟩) ?_ ?_
         rotate_left; · intro w'; go_simp; with_reducible rfl
         rotate_left; · simp only [Act.put, z1_, z2_, z3_, i64_w, i32_w]; rfl
         refine pure_ (i := 32) (N := some 118) (v := undef) (a' := ?_) m33_ rfl rfl (any_of HT_.out (by kernel_rfl)) (fun _ _ _ h => h) (Or.inr ⟨by rfl, rfl⟩) ?_ ?_
         rotate_left; · simp only [Act.put, z1_, z2_, z3_, i64_w, i32_w]; rfl
         refine pure_ (i := 33) (N := some 119) (v := undef) (a' := ?_) m34_ rfl rfl (any_of HT_.out (by kernel_rfl)) (fun _ _ _ h => h) (Or.inr ⟨by rfl, rfl⟩) ?_ ?_
         rotate_left; · simp only [Act.put, z1_, z2_, z3_, i64_w, i32_w]; rfl
         refine pure_ (i := 34) (N := some 120) (v := undef) (a' := ?_) m35_ rfl rfl (any_of HT_.out (by kernel_rfl)) (fun _ _ _ h => h) (Or.inr ⟨by rfl, rfl⟩) ?_ ?_
         rotate_left; · simp only [Act.put, z1_, z2_, z3_, i64_w, i32_w]; rfl
         refine pure_ (i := 35) (N := some 121) (v := ?_) (a' := ?_) m36_ rfl rfl (any_of HT_.out (by kernel_rfl)) (fun _ _ _ h => h) (Or.inl ⟨by rfl, ?_⟩) ?_ ?_
         rotate_left; · intro w'; go_simp; with_reducible rfl
         rotate_left; · simp only [Act.put, z1_, z2_, z3_, i64_w, i32_w]; rfl
         refine pure_ (i := 36) (N := some 122) (v := ?_) (a' := ?_) m37_ rfl rfl (any_of HT_.out (by kernel_rfl)) (fun _ _ _ h => h) (Or.inl ⟨by rfl, ?_⟩) ?_ ?_
         rotate_left; · intro w'; go_simp; with_reducible rfl
         rotate_left; · simp only [Act.put, z1_, z2_, z3_, i64_w, i32_w]; rfl
         refine pure_ (i := 37) (N := some 123) (v := undef) (a' := ?_) m38_ rfl rfl (any_of HT_.out (by kernel_rfl)) (fun _ _ _ h => h) (Or.inr ⟨by rfl, rfl⟩) ?_ ?_
         rotate_left; · simp only [Act.put, z1_, z2_, z3_, i64_w, i32_w]; rfl
         refine pure_ (i := 38) (N := some 124) (v := undef) (a' := ?_) m39_ rfl rfl (any_of HT_.out (by kernel_rfl)) (fun _ _ _ h => h) (Or.inr ⟨by rfl, rfl⟩) ?_ ?_
         rotate_left; · simp only [Act.put, z1_, z2_, z3_, i64_w, i32_w]; rfl
         refine pure_ (i := 39) (N := some 125) (v := undef) (a' := ?_) m40_ rfl rfl (any_of HT_.out (by kernel_rfl)) (fun _ _ _ h => h) (Or.inr ⟨by rfl, rfl⟩) ?_ ?_
         rotate_left; · simp only [Act.put, z1_, z2_, z3_, i64_w, i32_w]; rfl
         refine pure_ (i := 40) (N := some 126) (v := undef) (a' := ?_) m41_ rfl rfl (any_of HT_.out (by kernel_rfl)) (fun _ _ _ h => h) (Or.inr ⟨by rfl, rfl⟩) ?_ ?_
         rotate_left; · simp only [Act.put, z1_, z2_, z3_, i64_w, i32_w]; rfl
         refine pure_ (i := 41) (N := some 127) (v := undef) (a' := ?_) m42_ rfl rfl (any_of HT_.out (by kernel_rfl)) (fun _ _ _ h => h) (Or.inr ⟨by rfl, rfl⟩) ?_ ?_
         rotate_left; · simp only [Act.put, z1_, z2_, z3_, i64_w, i32_w]; rfl
         refine pure_ (i := 42) (N := some 128) (v := undef) (a' := ?_) m43_ rfl rfl (any_of HT_.out (by kernel_rfl)) (fun _ _ _ h => h) (Or.inr ⟨by rfl, rfl⟩) ?_ ?_
         rotate_left; · simp only [Act.put, z1_, z2_, z3_, i64_w, i32_w]; rfl
         refine pure_ (i := 43) (N := some 129) (v := undef) (a' := ?_) m44_ rfl rfl (any_of HT_.out (by kernel_rfl)) (fun _ _ _ h => h) (Or.inr ⟨by rfl, rfl⟩) ?_ ?_
         rotate_left; · simp only [Act.put, z1_, z2_, z3_, i64_w, i32_w]; rfl
         refine pure_ (i := 44) (N := some 130) (v := undef) (a' := ?_) m45_ rfl rfl (any_of HT_.out (by kernel_rfl)) (fun _ _ _ h => h) (Or.inr ⟨by rfl, rfl⟩) ?_ ?_
         rotate_left; · simp only [Act.put, z1_, z2_, z3_, i64_w, i32_w]; rfl
         refine pure_ (i := 45) (N := some 131) (v := undef) (a' := ?_) m46_ rfl rfl (any_of HT_.out (by kernel_rfl)) (fun _ _ _ h => h) (Or.inr ⟨by rfl, rfl⟩) ?_ ?_
         rotate_left; · simp only [Act.put, z1_, z2_, z3_, i64_w, i32_w]; rfl
         refine pure_ (i := 46) (N := some 132) (v := undef) (a' := ?_) m47_ rfl rfl (any_of HT_.out (by kernel_rfl)) (fun _ _ _ h => h) (Or.inr ⟨by rfl, rfl⟩) ?_ ?_
         rotate_left; · simp only [Act.put, z1_, z2_, z3_, i64_w, i32_w]; rfl
         refine pure_ (i := 47) (N := some 133) (v := undef) (a' := ?_) m48_ rfl rfl (any_of HT_.out (by kernel_rfl)) (fun _ _ _ h => h) (Or.inr ⟨by rfl, rfl⟩) ?_ ?_
         rotate_left; · simp only [Act.put, z1_, z2_, z3_, i64_w, i32_w]; rfl
         refine pure_ (i := 48) (N := some 134) (v := undef) (a' := ?_) m49_ rfl rfl (any_of HT_.out (by kernel_rfl)) (fun _ _ _ h => h) (Or.inr ⟨by rfl, rfl⟩) ?_ ?_
         rotate_left; · simp only [Act.put, z1_, z2_, z3_, i64_w, i32_w]; rfl
         refine pure_ (i := 49) (N := some 135) (v := undef) (a' := ?_) m50_ rfl rfl (any_of HT_.out (by kernel_rfl)) (fun _ _ _ h => h) (Or.inr ⟨by rfl, rfl⟩) ?_ ?_
         rotate_left; · simp only [Act.put, z1_, z2_, z3_, i64_w, i32_w]; rfl
         refine pure_ (i := 50) (N := some 136) (v := undef) (a' := ?_) m51_ rfl rfl (any_of HT_.out (by kernel_rfl)) (fun _ _ _ h => h) (Or.inr ⟨by rfl, rfl⟩) ?_ ?_
         rotate_left; · simp only [Act.put, z1_, z2_, z3_, i64_w, i32_w]; rfl
         refine pure_ (i := 51) (N := some 137) (v := undef) (a' := ?_) m52_ rfl rfl (any_of HT_.out (by kernel_rfl)) (fun _ _ _ h => h) (Or.inr ⟨by rfl, rfl⟩) ?_ ?_
         rotate_left; · simp only [Act.put, z1_, z2_, z3_, i64_w, i32_w]; rfl
         refine pure_ (i := 52) (N := some 138) (v := undef) (a' := ?_) m53_ rfl rfl (any_of HT_.out (by kernel_rfl)) (fun _ _ _ h => h) (Or.inr ⟨by rfl, rfl⟩) ?_ ?_
         rotate_left; · simp only [Act.put, z1_, z2_, z3_, i64_w, i32_w]; rfl
         refine pure_ (i := 53) (N := some 139) (v := ?_) (a' := ?_) m54_ rfl rfl (any_of HT_.out (by kernel_rfl)) (fun _ _ _ h => h) (Or.inl ⟨by rfl, ?_⟩) ?_ ?_
         rotate_left; · intro w'; go_simp; with_reducible rfl
         rotate_left; · simp only [Act.put, z1_, z2_, z3_, i64_w, i32_w]; rfl
         refine done_ (done_of HT_.out (by kernel_rfl)) ?_
         try go_wp2
         go_meet
         case rel => exact ⟨_, (true), (by first | rfl | (simp; done) | (simp [*]; done)), H', ⟨by first | omega | exact Nat.le_refl _⟩, ⟨by (with_reducible repeat (first | apply Kd.R_alloc | apply Kd.R_drewN | apply Kd.R_drew)); exact Kd.R_mono HO322.out (fun _ hk => trivial)⟩, ⟨by repeat (first | (with_reducible first | exact HB.out | apply below_alloc | apply pw_below_drewN | apply below_drew1) | exact HB.out)⟩⟩
       ·rw [if_neg c29] at H
        have c29b0 : (t324 != t328) = false := by simpa using c29
        (try (have c29b1 : decide (t324 = t328) = true := by simpa using c29))
        (try (have c29b2 : (t324 == t328) = true := by simpa using c29))
        clear c29
        replace H := Option.bind_eq_some_iff.mp H
        obtain ⟨t333, A350, H⟩ := H
        replace H : (if t333 = true then (if (t311.length : Int) > 3 then (laws_FnGaps.j0 k l0 t305 t306 t308 t319 true) else (if (t311.length : Int) = 3 then (if 0 < (t311.length : Int) then (if 1 < (t311.length : Int) then (if 2 < (t311.length : Int) then (laws_FnGaps.j0 k l0 t305 t306 t308 t319 ((wrap64 ((rd t311 0) + (rd t311 1))) != (rd t311 2))) else (none)) else (none)) else (none)) else (laws_FnGaps.j0 k l0 t305 t306 t308 t319 false))) else (laws_FnGaps.j0 k l0 t305 t306 t308 t319 true)) = some r := H
        have A35 := Aside0.mk A350
        clear A350
        by_cases c36 : t333 = true
        ·subst c36
         have H1 : (if (t311.length : Int) > 3 then (laws_FnGaps.j0 k l0 t305 t306 t308 t319 true) else (if (t311.length : Int) = 3 then (if 0 < (t311.length : Int) then (if 1 < (t311.length : Int) then (if 2 < (t311.length : Int) then (laws_FnGaps.j0 k l0 t305 t306 t308 t319 ((wrap64 ((rd t311 0) + (rd t311 1))) != (rd t311 2))) else (none)) else (none)) else (none)) else (laws_FnGaps.j0 k l0 t305 t306 t308 t319 false))) = some r := by rw [if_pos rfl] at H; exact H
         clear H
         have H := H1
         clear H1
         by_cases c37 : (t311.length : Int) > 3
         ·rw [if_pos c37] at H
          have c37b0 : decide (3 < (t311.length : Int)) = true := decide_eq_true c37
          have c37b1 : decide (3 < t311.length) = true := decide_eq_true (by omega)
          clear c37
          as_aux_lemma =>
           have H' := Aside0.mk H
           clear H
           try go_wp2
           have n0_ := Aside0.mk (Kd.R_drew HO310.out)
           have n1_ := Aside0.mk (Kd.R_drew HO314.out)
           have n2_ := Aside0.mk (Kd.R_drew HO318.out)
           have n3_ := Aside0.mk (Kd.R_drew HO322.out)
           have n4_ := Aside0.mk (Kd.R_drew HO326.out)
           have n5_ := Aside0.mk (Kd.R_drew HO330.out)
           have n6_ := Aside0.mk (below_drew1 HB.out)
           clear HO310
           clear HO314
           clear HO318
           clear HO322
           clear HO326
           clear HO330
           clear HB
           have HO310 := n0_
           have HO314 := n1_
           have HO318 := n2_
           have HO322 := n3_
           have HO326 := n4_
           have HO330 := n5_
           have HB := n6_
           clear n0_ n1_ n2_ n3_ n4_ n5_ n6_
           obtain ⟨Ao39, co39, eo39⟩ := Kd.R_slice HO310.out
           (first | subst eo39 | (injection eo39 with f1_ f2_ f3_; have f4_ := f1_.symm; have f5_ := f3_.symm; clear f1_ f2_ f3_; subst f4_; subst f5_))
           obtain ⟨Ao40, co40, eo40⟩ := Kd.R_slice HO314.out
           (first | subst eo40 | (injection eo40 with f1_ f2_ f3_; have f4_ := f1_.symm; have f5_ := f3_.symm; clear f1_ f2_ f3_; subst f4_; subst f5_))
           refine start_ (n := 54) (S := fun w' => True) (ds := []) m0_ (by kernel_rfl) rfl rfl trivial (fun hHeld => ?_); refine with_tabW laws_FnGaps.tab10 laws_FnGaps.bits10 (fun HT_ HW_ => ?_)
           generalize w18.drew = w38 at HO310 HO314 HO318 HO322 HO326 HO330 HB hHeld ⊢
           refine pure_ (i := 0) (N := some 86) (v := ?_) (a' := ?_) m1_ rfl rfl (any_of HT_.out (by kernel_rfl)) (fun _ _ _ h => h) (Or.inl ⟨by rfl, ?_⟩) ?_ ?_
           rotate_left; · intro w'; go_simp; with_reducible rfl
           rotate_left; · simp only [Act.put, z1_, z2_, z3_, i64_w, i32_w]; rfl
           refine pure_ (i := 1) (N := some 87) (v := ?_) (a' := ?_) m2_ rfl rfl (any_of HT_.out (by kernel_rfl)) (fun _ _ _ h => h) (Or.inl ⟨by rfl, ?_⟩) ?_ ?_
           rotate_left; · intro w'; go_simp; with_reducible rfl
           rotate_left; · simp only [Act.put, z1_, z2_, z3_, i64_w, i32_w]; rfl
           refine pure_ (i := 2) (N := some 88) (v := ?_) (a' := ?_) m3_ rfl rfl (any_of HT_.out (by kernel_rfl)) (fun _ _ _ h => h) (Or.inl ⟨by rfl, ?_⟩) ?_ ?_
           rotate_left; · intro w'; go_simp; with_reducible rfl
           rotate_left; · simp only [Act.put, z1_, z2_, z3_, i64_w, i32_w]; rfl
           refine pure_ (i := 3) (N := some 89) (v := ?_) (a' := ?_) m4_ rfl rfl (any_of HT_.out (by kernel_rfl)) (fun _ _ _ h => h) (Or.inl ⟨by rfl, ?_⟩) ?_ ?_
           rotate_left; · intro w'; go_simp; with_reducible rfl
           rotate_left; · simp only [Act.put, z1_, z2_, z3_, i64_w, i32_w]; rfl
           refine pure_ (i := 4) (N := some 90) (v := ?_) (a' := ?_) m5_ rfl rfl (any_of HT_.out (by kernel_rfl)) (fun _ _ _ h => h) (Or.inl ⟨by rfl, ?_⟩) ?_ ?_
           rotate_left; · intro w'; go_simp; with_reducible rfl
           rotate_left; · simp only [Act.put, z1_, z2_, z3_, i64_w, i32_w]; rfl
           refine pure_ (i := 5) (N := some 91) (v := ?_) (a' := ?_) m6_ rfl rfl (any_of HT_.out (by kernel_rfl)) (fun _ _ _ h => h) (Or.inl ⟨by rfl, ?_⟩) ?_ ?_
           rotate_left; · intro w'; go_simp; with_reducible rfl
           rotate_left; · simp only [Act.put, z1_, z2_, z3_, i64_w, i32_w]; rfl
           refine one_ (i := 6) (N := some 92) m7_ rfl rfl (one_of HT_.out (by kernel_rfl)) (by decide) (fun K hK => ?_)
           refine goes_ Try.func24 (by kernel_rfl) rfl #[.slice Ao39 t307.length co39, .slice Ao40 t311.length co40] (by rfl) rfl rfl (by (try simp only [List.map_toArray, List.map_cons, List.map_nil]); first | done | rfl | (simp only [List.length_drop, List.length_take]; rfl)) ?_
           with_reducible refine (laws_sameInts.calls k _ _ t307 _ _ t311 true _ ?side1 ?side2 ?side3 ?side4 A21.out).mono ?_
           (case side1 => repeat (first | exact (Kd.R_reads' HO310.out).2.2 | (with_reducible refine Kd.C_alloc ?_ _) | (with_reducible refine Kd.C_drewN ?_ _) | (with_reducible refine Kd.C_drew ?_)))
           (case side2 => exact (Kd.R_reads' HO310.out).2.1)
           (case side3 => repeat (first | exact (Kd.R_reads' HO314.out).2.2 | (with_reducible refine Kd.C_alloc ?_ _) | (with_reducible refine Kd.C_drewN ?_ _) | (with_reducible refine Kd.C_drew ?_)))
           (case side4 => exact (Kd.R_reads' HO314.out).2.1)
           rintro e w' ⟨rfl, ⟨nd, rfl⟩⟩
           refine ⟨_, rfl, ?_⟩
           obtain ⟨Ao41, co41, eo41⟩ := Kd.R_slice HO318.out
           (first | subst eo41 | (injection eo41 with f1_ f2_ f3_; have f4_ := f1_.symm; have f5_ := f3_.symm; clear f1_ f2_ f3_; subst f4_; subst f5_))
           obtain ⟨Ao42, co42, eo42⟩ := Kd.R_slice HO322.out
           (first | subst eo42 | (injection eo42 with f1_ f2_ f3_; have f4_ := f1_.symm; have f5_ := f3_.symm; clear f1_ f2_ f3_; subst f4_; subst f5_))
           refine hK.out _ _ trivial (fun hHeld => ?_)
           clear hK K
           refine norm_ (a' := ?_) ?_ ?_
           rotate_left
           ·show Act.put _ (some 92) _ = _
            simp only [Act.put, z1_, z2_, z3_, i64_w, i32_w]
            rfl
           refine pure_ (i := 7) (N := some 93) (v := ?_) (a' := ?_) m8_ rfl rfl (any_of HT_.out (by kernel_rfl)) (fun _ _ _ h => h) (Or.inl ⟨by rfl, ?_⟩) ?_ ?_
           rotate_left; · intro w'; go_simp; with_reducible rfl
           rotate_left; · simp only [Act.put, z1_, z2_, z3_, i64_w, i32_w]; rfl
           refine pure_ (i := 8) (N := some 94) (v := ?_) (a' := ?_) m9_ rfl rfl (any_of HT_.out (by kernel_rfl)) (fun _ _ _ h => h) (Or.inl ⟨by rfl, ?_⟩) ?_ ?_
           rotate_left; · intro w'; go_simp; with_reducible rfl
           rotate_left; · simp only [Act.put, z1_, z2_, z3_, i64_w, i32_w]; rfl
           refine pure_ (i := 9) (N := some 95) (v := ?_) (a' := ?_) m10_ rfl rfl (any_of HT_.out (by kernel_rfl)) (fun _ _ _ h => h) (Or.inl ⟨by rfl, ?_⟩) ?_ ?_
           rotate_left; · intro w'; go_simp; with_reducible rfl
           rotate_left; · simp only [Act.put, z1_, z2_, z3_, i64_w, i32_w]; rfl
           refine pure_ (i := 10) (N := some 96) (v := ?_) (a' := ?_) m11_ rfl rfl (any_of HT_.out (by kernel_rfl)) (fun _ _ _ h => h) (Or.inl ⟨by rfl, ?_⟩) ?_ ?_
           rotate_left; · intro w'; go_simp; with_reducible rfl
           rotate_left; · simp only [Act.put, z1_, z2_, z3_, i64_w, i32_w]; rfl
           refine pure_ (i := 11) (N := some 97) (v := ?_) (a' := ?_) m12_ rfl rfl (any_of HT_.out (by kernel_rfl)) (fun _ _ _ h => h) (Or.inl ⟨by rfl, ?_⟩) ?_ ?_
           rotate_left; · intro w'; go_simp; with_reducible rfl
           rotate_left; · simp only [Act.put, z1_, z2_, z3_, i64_w, i32_w]; rfl
           refine pure_ (i := 12) (N := some 98) (v := ?_) (a' := ?_) m13_ rfl rfl (any_of HT_.out (by kernel_rfl)) (fun _ _ _ h => h) (Or.inl ⟨by rfl, ?_⟩) ?_ ?_
           rotate_left; · intro w'; go_simp; with_reducible rfl
           rotate_left; · simp only [Act.put, z1_, z2_, z3_, i64_w, i32_w]; rfl
           refine pure_ (i := 13) (N := some 99) (v := ?_) (a' := ?_) m14_ rfl rfl (any_of HT_.out (by kernel_rfl)) (fun _ _ _ h => h) (Or.inl ⟨by rfl, ?_⟩) ?_ ?_
           rotate_left; · intro w'; go_simp; with_reducible rfl
           rotate_left; · simp only [Act.put, z1_, z2_, z3_, i64_w, i32_w]; rfl
           refine pure_ (i := 14) (N := some 100) (v := ?_) (a' := ?_) m15_ rfl rfl (any_of HT_.out (by kernel_rfl)) (fun _ _ _ h => h) (Or.inl ⟨by rfl, ?_⟩) ?_ ?_
           rotate_left; · intro w'; go_simp; with_reducible rfl
           rotate_left; · simp only [Act.put, z1_, z2_, z3_, i64_w, i32_w]; rfl
           refine pure_ (i := 15) (N := some 101) (v := ?_) (a' := ?_) m16_ rfl rfl (any_of HT_.out (by kernel_rfl)) (fun _ _ _ h => h) (Or.inl ⟨by rfl, ?_⟩) ?_ ?_
           rotate_left; · intro w'; go_simp; with_reducible rfl
           rotate_left; · simp only [Act.put, z1_, z2_, z3_, i64_w, i32_w]; rfl
           refine pure_ (i := 16) (N := some 102) (v := ?_) (a' := ?_) m17_ rfl rfl (any_of HT_.out (by kernel_rfl)) (fun _ _ _ h => h) (Or.inl ⟨by rfl, ?_⟩) ?_ ?_
           rotate_left; · intro w'; go_simp; with_reducible rfl
           rotate_left; · simp only [Act.put, z1_, z2_, z3_, i64_w, i32_w]; rfl
           refine one_ (i := 17) (N := some 103) m18_ rfl rfl (one_of HT_.out (by kernel_rfl)) (by decide) (fun K hK => ?_)
           refine goes_ Try.func24 (by kernel_rfl) rfl #[.slice Ao41 t315.length co41, .slice Ao42 t319.length co42] (by rfl) rfl rfl (by (try simp only [List.map_toArray, List.map_cons, List.map_nil]); first | done | rfl | (simp only [List.length_drop, List.length_take]; rfl)) ?_
           with_reducible refine (laws_sameInts.calls k _ _ t315 _ _ t319 true _ ?side1 ?side2 ?side3 ?side4 A27.out).mono ?_
           (case side1 => repeat (first | exact (Kd.R_reads' HO318.out).2.2 | (with_reducible refine Kd.C_alloc ?_ _) | (with_reducible refine Kd.C_drewN ?_ _) | (with_reducible refine Kd.C_drew ?_)))
           (case side2 => exact (Kd.R_reads' HO318.out).2.1)
           (case side3 => repeat (first | exact (Kd.R_reads' HO322.out).2.2 | (with_reducible refine Kd.C_alloc ?_ _) | (with_reducible refine Kd.C_drewN ?_ _) | (with_reducible refine Kd.C_drew ?_)))
           (case side4 => exact (Kd.R_reads' HO322.out).2.1)
           rintro e w' ⟨rfl, ⟨nd, rfl⟩⟩
           refine ⟨_, rfl, ?_⟩
           obtain ⟨Ao43, co43, eo43⟩ := Kd.R_slice HO326.out
           (first | subst eo43 | (injection eo43 with f1_ f2_ f3_; have f4_ := f1_.symm; have f5_ := f3_.symm; clear f1_ f2_ f3_; subst f4_; subst f5_))
           obtain ⟨Ao44, co44, eo44⟩ := Kd.R_slice HO330.out
           (first | subst eo44 | (injection eo44 with f1_ f2_ f3_; have f4_ := f1_.symm; have f5_ := f3_.symm; clear f1_ f2_ f3_; subst f4_; subst f5_))
           refine hK.out _ _ trivial (fun hHeld => ?_)
           clear hK K
           refine norm_ (a' := ?_) ?_ ?_
           rotate_left
           ·show Act.put _ (some 103) _ = _
            simp only [Act.put, z1_, z2_, z3_, i64_w, i32_w]
            rfl
           refine pure_ (i := 18) (N := some 104) (v := ?_) (a' := ?_) m19_ rfl rfl (any_of HT_.out (by kernel_rfl)) (fun _ _ _ h => h) (Or.inl ⟨by rfl, ?_⟩) ?_ ?_
           rotate_left; · intro w'; go_simp; with_reducible rfl
           rotate_left; · simp only [Act.put, z1_, z2_, z3_, i64_w, i32_w]; rfl
           refine pure_ (i := 19) (N := some 105) (v := ?_) (a' := ?_) m20_ rfl rfl (any_of HT_.out (by kernel_rfl)) (fun _ _ _ h => h) (Or.inl ⟨by rfl, ?_⟩) ?_ ?_
           rotate_left; · intro w'; go_simp; with_reducible rfl
           rotate_left; · simp only [Act.put, z1_, z2_, z3_, i64_w, i32_w]; rfl
           refine pure_ (i := 20) (N := some 106) (v := ?_) (a' := ?_) m21_ rfl rfl (any_of HT_.out (by kernel_rfl)) (fun _ _ _ h => h) (Or.inl ⟨by rfl, ?_⟩) ?_ ?_
           rotate_left; · intro w'; go_simp; with_reducible rfl
           rotate_left; · simp only [Act.put, z1_, z2_, z3_, i64_w, i32_w]; rfl
           refine pure_ (i := 21) (N := some 107) (v := ?_) (a' := ?_) m22_ rfl rfl (any_of HT_.out (by kernel_rfl)) (fun _ _ _ h => h) (Or.inl ⟨by rfl, ?_⟩) ?_ ?_
           rotate_left; · intro w'; go_simp; with_reducible rfl
           rotate_left; · simp only [Act.put, z1_, z2_, z3_, i64_w, i32_w]; rfl
           refine pure_ (i := 22) (N := some 108) (v := ?_) (a' := ?_) m23_ rfl rfl (any_of HT_.out (by kernel_rfl)) (fun _ _ _ h => h) (Or.inl ⟨by rfl, ?_⟩) ?_ ?_
           rotate_left; · intro w'; go_simp; with_reducible rfl
           rotate_left; · simp only [Act.put, z1_, z2_, z3_, i64_w, i32_w]; rfl
           refine pure_ (i := 23) (N := some 109) (v := ?_) (a' := ?_) m24_ rfl rfl (any_of HT_.out (by kernel_rfl)) (fun _ _ _ h => h) (Or.inl ⟨by rfl, ?_⟩) ?_ ?_
           rotate_left; · intro w'; go_simp; with_reducible rfl
           rotate_left; · simp only [Act.put, z1_, z2_, z3_, i64_w, i32_w]; rfl
           refine pure_ (i := 24) (N := some 110) (v := ?_) (a' := ?_) m25_ rfl rfl (any_of HT_.out (by kernel_rfl)) (fun _ _ _ h => h) (Or.inl ⟨by rfl, ?_⟩) ?_ ?_
           rotate_left; · intro w'; go_simp; with_reducible rfl
           rotate_left; · simp only [Act.put, z1_, z2_, z3_, i64_w, i32_w]; rfl
           refine pure_ (i := 25) (N := some 111) (v := ?_) (a' := ?_) m26_ rfl rfl (any_of HT_.out (by kernel_rfl)) (fun _ _ _ h => h) (Or.inl ⟨by rfl, ?_⟩) ?_ ?_
           rotate_left; · intro w'; go_simp; with_reducible rfl
           rotate_left; · simp only [Act.put, z1_, z2_, z3_, i64_w, i32_w]; rfl
           refine pure_ (i := 26) (N := some 112) (v := ?_) (a' := ?_) m27_ rfl rfl (any_of HT_.out (by kernel_rfl)) (fun _ _ _ h => h) (Or.inl ⟨by rfl, ?_⟩) ?_ ?_
           rotate_left; · intro w'; go_simp; with_reducible rfl
           rotate_left; · simp only [Act.put, z1_, z2_, z3_, i64_w, i32_w]; rfl
           refine pure_ (i := 27) (N := some 113) (v := ?_) (a' := ?_) m28_ rfl rfl (any_of HT_.out (by kernel_rfl)) (fun _ _ _ h => h) (Or.inl ⟨by rfl, ?_⟩) ?_ ?_
           rotate_left; · intro w'; go_simp; with_reducible rfl
           rotate_left; · simp only [Act.put, z1_, z2_, z3_, i64_w, i32_w]; rfl
           refine one_ (i := 28) (N := some 114) m29_ rfl rfl (one_of HT_.out (by kernel_rfl)) (by decide) (fun K hK => ?_)
           refine goes_ Try.func24 (by kernel_rfl) rfl #[.slice Ao43 t323.length co43, .slice Ao44 t327.length co44] (by rfl) rfl rfl (by (try simp only [List.map_toArray, List.map_cons, List.map_nil]); first | done | rfl | (simp only [List.length_drop, List.length_take]; rfl)) ?_
           with_reducible refine (laws_sameInts.calls k _ _ t323 _ _ t327 true _ ?side1 ?side2 ?side3 ?side4 A35.out).mono ?_
           (case side1 => repeat (first | exact (Kd.R_reads' HO326.out).2.2 | (with_reducible refine Kd.C_alloc ?_ _) | (with_reducible refine Kd.C_drewN ?_ _) | (with_reducible refine Kd.C_drew ?_)))
           (case side2 => exact (Kd.R_reads' HO326.out).2.1)
           (case side3 => repeat (first | exact (Kd.R_reads' HO330.out).2.2 | (with_reducible refine Kd.C_alloc ?_ _) | (with_reducible refine Kd.C_drewN ?_ _) | (with_reducible refine Kd.C_drew ?_)))
           (case side4 => exact (Kd.R_reads' HO330.out).2.1)
           rintro e w' ⟨rfl, ⟨nd, rfl⟩⟩
           refine ⟨_, rfl, ?_⟩
           refine hK.out _ _ trivial (fun hHeld => ?_)
           clear hK K
           refine norm_ (a' := ?_) ?_ ?_
           rotate_left
           ·show Act.put _ (some 114) _ = _
            simp only [Act.put, z1_, z2_, z3_, i64_w, i32_w]
            rfl
           refine pure_ (i := 29) (N := some 115) (v := ?_) (a' := ?_) m30_ rfl rfl (any_of HT_.out (by kernel_rfl)) (fun _ _ _ h => h) (Or.inl ⟨by rfl, ?_⟩) ?_ ?_
           rotate_left; · intro w'; go_simp; with_reducible rfl
           rotate_left; · simp only [Act.put, z1_, z2_, z3_, i64_w, i32_w]; rfl
           refine pure_ (i := 30) (N := some 116) (v := ?_) (a' := ?_) m31_ rfl rfl (any_of HT_.out (by kernel_rfl)) (fun _ _ _ h => h) (Or.inl ⟨by rfl, ?_⟩) ?_ ?_
           rotate_left; · intro w'; go_simp; with_reducible rfl
           rotate_left; · simp only [Act.put, z1_, z2_, z3_, i64_w, i32_w]; rfl
           refine pure_ (i := 31) (N := some 117) (v := ?_) (a' := ?_) m32_ rfl rfl (any_of HT_.out (by kernel_rfl)) (fun _ _ _ h => h) (Or.inl ⟨by rfl, ?_⟩) ?_ ?_
           rotate_left; · intro w'; go_simp; with_reducible rfl
           rotate_left; · simp only [Act.put, z1_, z2_, z3_, i64_w, i32_w]; rfl
           refine pure_ (i := 32) (N := some 118) (v := ?_) (a' := ?_) m33_ rfl rfl (any_of HT_.out (by kernel_rfl)) (fun _ _ _ h => h) (Or.inl ⟨by rfl, ?_⟩) ?_ ?_
           rotate_left; · intro w'; go_simp; with_reducible rfl
           rotate_left; · simp only [Act.put, z1_, z2_, z3_, i64_w, i32_w]; rfl
           refine pure_ (i := 33) (N := some 119) (v := ?_) (a' := ?_) m34_ rfl rfl (any_of HT_.out (by kernel_rfl)) (fun _ _ _ h => h) (Or.inl ⟨by rfl, ?_⟩) ?_ ?_
           rotate_left; · intro w'; go_simp; with_reducible rfl
           rotate_left; · simp only [Act.put, z1_, z2_, z3_, i64_w, i32_w]; rfl
           refine pure_ (i := 34) (N := some 120) (v := ?_) (a' := ?_) m35_ rfl rfl (any_of HT_.out (by kernel_rfl)) (fun _ _ _ h => h) (Or.inl ⟨by rfl, ?_⟩) ?_ ?_
           rotate_left; · intro w'; go_simp; with_reducible rfl
           rotate_left; · simp only [Act.put, z1_, z2_, z3_, i64_w, i32_w]; rfl
           refine pure_ (i := 35) (N := some 121) (v := ?_) (a' := ?_) m36_ rfl rfl (any_of HT_.out (by kernel_rfl)) (fun _ _ _ h => h) (Or.inl ⟨by rfl, ?_⟩) ?_ ?_
           rotate_left; · intro w'; go_simp; with_reducible rfl
           rotate_left; · simp only [Act.put, z1_, z2_, z3_, i64_w, i32_w]; rfl
           refine pure_ (i := 36) (N := some 122) (v := ?_) (a' := ?_) m37_ rfl rfl (any_of HT_.out (by kernel_rfl)) (fun _ _ _ h => h) (Or.inl ⟨by rfl, ?_⟩) ?_ ?_
           rotate_left; · intro w'; go_simp; with_reducible rfl
           rotate_left; · simp only [Act.put, z1_, z2_, z3_, i64_w, i32_w]; rfl
           refine pure_ (i := 37) (N := some 123) (v := undef) (a' := ?_) m38_ rfl rfl (any_of HT_.out (by kernel_rfl)) (fun _ _ _ h => h) (Or.inr ⟨by rfl, rfl⟩) ?_ ?_
           rotate_left; · simp only [Act.put, z1_, z2_, z3_, i64_w, i32_w]; rfl
           refine pure_ (i := 38) (N := some 124) (v := undef) (a' := ?_) m39_ rfl rfl (any_of HT_.out (by kernel_rfl)) (fun _ _ _ h => h) (Or.inr ⟨by rfl, rfl⟩) ?_ ?_
           rotate_left; · simp only [Act.put, z1_, z2_, z3_, i64_w, i32_w]; rfl
           refine pure_ (i := 39) (N := some 125) (v := undef) (a' := ?_) m40_ rfl rfl (any_of HT_.out (by kernel_rfl)) (fun _ _ _ h => h) (Or.inr ⟨by rfl, rfl⟩) ?_ ?_
           rotate_left; · simp only [Act.put, z1_, z2_, z3_, i64_w, i32_w]; rfl
           refine pure_ (i := 40) (N := some 126) (v := undef) (a' := ?_) m41_ rfl rfl (any_of HT_.out (by kernel_rfl)) (fun _ _ _ h => h) (Or.inr ⟨by rfl, rfl⟩) ?_ ?_
           rotate_left; · simp only [Act.put, z1_, z2_, z3_, i64_w, i32_w]; rfl
           refine pure_ (i := 41) (N := some 127) (v := undef) (a' := ?_) m42_ rfl rfl (any_of HT_.out (by kernel_rfl)) (fun _ _ _ h => h) (Or.inr ⟨by rfl, rfl⟩) ?_ ?_
           rotate_left; · simp only [Act.put, z1_, z2_, z3_, i64_w, i32_w]; rfl
           refine pure_ (i := 42) (N := some 128) (v := undef) (a' := ?_) m43_ rfl rfl (any_of HT_.out (by kernel_rfl)) (fun _ _ _ h => h) (Or.inr ⟨by rfl, rfl⟩) ?_ ?_
           rotate_left; · simp only [Act.put, z1_, z2_, z3_, i64_w, i32_w]; rfl
           refine pure_ (i := 43) (N := some 129) (v := undef) (a' := ?_) m44_ rfl rfl (any_of HT_.out (by kernel_rfl)) (fun _ _ _ h => h) (Or.inr ⟨by rfl, rfl⟩) ?_ ?_
           rotate_left; · simp only [Act.put, z1_, z2_, z3_, i64_w, i32_w]; rfl
           refine pure_ (i := 44) (N := some 130) (v := undef) (a' := ?_) m45_ rfl rfl (any_of HT_.out (by kernel_rfl)) (fun _ _ _ h => h) (Or.inr ⟨by rfl, rfl⟩) ?_ ?_
           rotate_left; · simp only [Act.put, z1_, z2_, z3_, i64_w, i32_w]; rfl
           refine pure_ (i := 45) (N := some 131) (v := undef) (a' := ?_) m46_ rfl rfl (any_of HT_.out (by kernel_rfl)) (fun _ _ _ h => h) (Or.inr ⟨by rfl, rfl⟩) ?_ ?_
           rotate_left; · simp only [Act.put, z1_, z2_, z3_, i64_w, i32_w]; rfl
           refine pure_ (i := 46) (N := some 132) (v := undef) (a' := ?_) m47_ rfl rfl (any_of HT_.out (by kernel_rfl)) (fun _ _ _ h => h) (Or.inr ⟨by rfl, rfl⟩) ?_ ?_
           rotate_left; · simp only [Act.put, z1_, z2_, z3_, i64_w, i32_w]; rfl
           refine pure_ (i := 47) (N := some 133) (v := undef) (a' := ?_) m48_ rfl rfl (any_of HT_.out (by kernel_rfl)) (fun _ _ _ h => h) (Or.inr ⟨by rfl, rfl⟩) ?_ ?_
           rotate_left; · simp only [Act.put, z1_, z2_, z3_, i64_w, i32_w]; rfl
           refine pure_ (i := 48) (N := some 134) (v := undef) (a' := ?_) m49_ rfl rfl (any_of HT_.out (by kernel_rfl)) (fun _ _ _ h => h) (Or.inr ⟨by rfl, rfl⟩) ?_ ?_
           rotate_left; · simp only [Act.put, z1_, z2_, z3_, i64_w, i32_w]; rfl
           refine pure_ (i := 49) (N := some 135) (v := undef) (a' := ?_) m50_ rfl rfl (any_of HT_.out (by kernel_rfl)) (fun _ _ _ h => h) (Or.inr ⟨by rfl, rfl⟩) ?_ ?_
           rotate_left; · simp only [Act.put, z1_, z2_, z3_, i64_w, i32_w]; rfl
           refine pure_ (i := 50) (N := some 136) (v := undef) (a' := ?_) m51_ rfl rfl (any_of HT_.out (by kernel_rfl)) (fun _ _ _ h => h) (Or.inr ⟨by rfl, rfl⟩) ?_ ?_
           rotate_left; · simp only [Act.put, z1_, z2_, z3_, i64_w, i32_w]; rfl
           refine pure_ (i := 51) (N := some 137) (v := undef) (a' := ?_) m52_ rfl rfl (any_of HT_.out (by kernel_rfl)) (fun _ _ _ h => h) (Or.inr ⟨by rfl, rfl⟩) ?_ ?_
           rotate_left; · simp only [Act.put, z1_, z2_, z3_, i64_w, i32_w]; rfl
           refine pure_ (i := 52) (N := some 138) (v := undef) (a' := ?_) m53_ rfl rfl (any_of HT_.out (by kernel_rfl)) (fun _ _ _ h => h) (Or.inr ⟨by rfl, rfl⟩) ?_ ?_
           rotate_left; · simp only [Act.put, z1_, z2_, z3_, i64_w, i32_w]; rfl
           refine pure_ (i := 53) (N := some 139) (v := ?_) (a' := ?_) m54_ rfl rfl (any_of HT_.out (by kernel_rfl)) (fun _ _ _ h => h) (Or.inl ⟨by rfl, ?_⟩) ?_ ?_
           rotate_left; · intro w'; go_simp; with_reducible rfl
           rotate_left; · simp only [Act.put, z1_, z2_, z3_, i64_w, i32_w]; rfl
           refine done_ (done_of HT_.out (by kernel_rfl)) ?_
           try go_wp2
           go_meet
           case rel => exact ⟨_, (true), (by first | rfl | (simp; done) | (simp [*]; done)), H', ⟨by first | omega | exact Nat.le_refl _⟩, ⟨by (with_reducible repeat (first | apply Kd.R_alloc | apply Kd.R_drewN | apply Kd.R_drew)); exact Kd.R_mono HO322.out (fun _ hk => trivial)⟩, ⟨by repeat (first | (with_reducible first | exact HB.out | apply below_alloc | apply pw_below_drewN | apply below_drew1) | exact HB.out)⟩⟩
         ·rw [if_neg c37] at H
          have c37b0 : decide (3 < (t311.length : Int)) = false := decide_eq_false c37
          have c37b1 : decide (3 < t311.length) = false := decide_eq_false (by omega)
          clear c37
          by_cases c45 : (t311.length : Int) = 3
          ·rw [if_pos c45] at H
           have c45b0 : ((t311.length : Int) == 3) = true := beq_iff_eq.mpr c45
           have c45b1 : ((t311.length : Int) != 3) = false := bne_eq_false_iff_eq.mpr c45
           clear c45
           by_cases c46 : 0 < (t311.length : Int)
           ·rw [if_pos c46] at H
            have c46b0 : decide (0 < (t311.length : Int)) = true := decide_eq_true c46
            have c46b1 : decide (0 < t311.length) = true := decide_eq_true (by omega)
            clear c46
            by_cases c47 : 1 < (t311.length : Int)
            ·rw [if_pos c47] at H
             have c47b0 : decide (1 < (t311.length : Int)) = true := decide_eq_true c47
             have c47b1 : decide (1 < t311.length) = true := decide_eq_true (by omega)
             clear c47
             by_cases c48 : 2 < (t311.length : Int)
             ·rw [if_pos c48] at H
              have c48b0 : decide (2 < (t311.length : Int)) = true := decide_eq_true c48
              have c48b1 : decide (2 < t311.length) = true := decide_eq_true (by omega)
              clear c48
              as_aux_lemma =>
               have H' := Aside0.mk H
               clear H
               try go_wp2
               have n0_ := Aside0.mk (Kd.R_drew HO310.out)
               have n1_ := Aside0.mk (Kd.R_drew HO314.out)
               have n2_ := Aside0.mk (Kd.R_drew HO318.out)
               have n3_ := Aside0.mk (Kd.R_drew HO322.out)
               have n4_ := Aside0.mk (Kd.R_drew HO326.out)
               have n5_ := Aside0.mk (Kd.R_drew HO330.out)
               have n6_ := Aside0.mk (below_drew1 HB.out)
               clear HO310
               clear HO314
               clear HO318
               clear HO322
               clear HO326
               clear HO330
               clear HB
               have HO310 := n0_
               have HO314 := n1_
               have HO318 := n2_
               have HO322 := n3_
               have HO326 := n4_
               have HO330 := n5_
               have HB := n6_
               clear n0_ n1_ n2_ n3_ n4_ n5_ n6_
               obtain ⟨Ao50, co50, eo50⟩ := Kd.R_slice HO310.out
               (first | subst eo50 | (injection eo50 with f1_ f2_ f3_; have f4_ := f1_.symm; have f5_ := f3_.symm; clear f1_ f2_ f3_; subst f4_; subst f5_))
               obtain ⟨Ao51, co51, eo51⟩ := Kd.R_slice HO314.out
               (first | subst eo51 | (injection eo51 with f1_ f2_ f3_; have f4_ := f1_.symm; have f5_ := f3_.symm; clear f1_ f2_ f3_; subst f4_; subst f5_))
               have p334 : 0 ≤ (0 : Int) := (by omega)
               have q334 : 0 < (t311.length : Int) := of_decide_eq_true (by first | (with_reducible assumption) | assumption)
               obtain ⟨ad334, e334, hx334_0⟩ := Kd.at_int (Kd.R_reads' HO314.out).2.2 0 p334 q334
               cases e334
               have qi334 : (0 < t311.length) = True := eq_true (by omega)
               (try rw [show ((0 : Int)).toNat = 0 from rfl] at hx334_0)
               (try rw [Addr.add_zero'] at hx334_0)
               replace p334 := eq_true p334
               replace q334 := eq_true q334
               have p335 : 0 ≤ (1 : Int) := (by omega)
               have q335 : 1 < (t311.length : Int) := of_decide_eq_true (by first | (with_reducible assumption) | assumption)
               obtain ⟨ad335, e335, hx335_0⟩ := Kd.at_int (Kd.R_reads' HO314.out).2.2 1 p335 q335
               obtain rfl : ad334 = ad335 := (by injection e335)
               (try simp only [show (1 : Int).toNat = 1 from rfl, Nat.reduceMul, Nat.reduceEqDiff, Go.Addr.add, ↓reduceIte] at hx335_0)
               have qi335 : (1 < t311.length) = True := eq_true (by omega)
               (try rw [show ((1 : Int)).toNat = 1 from rfl] at hx335_0)
               replace p335 := eq_true p335
               replace q335 := eq_true q335
               have p336 : 0 ≤ (2 : Int) := (by omega)
               have q336 : 2 < (t311.length : Int) := of_decide_eq_true (by first | (with_reducible assumption) | assumption)
               obtain ⟨ad336, e336, hx336_0⟩ := Kd.at_int (Kd.R_reads' HO314.out).2.2 2 p336 q336
               obtain rfl : ad334 = ad336 := (by injection e336)
               (try simp only [show (2 : Int).toNat = 2 from rfl, Nat.reduceMul, Nat.reduceEqDiff, Go.Addr.add, ↓reduceIte] at hx336_0)
               have qi336 : (2 < t311.length) = True := eq_true (by omega)
               (try rw [show ((2 : Int)).toNat = 2 from rfl] at hx336_0)
               replace p336 := eq_true p336
               replace q336 := eq_true q336
               refine start_ (n := 54) (S := fun w' => w'.cell? ad334 = some (.int .i64 (rd t311 0)) ∧ w'.cell? ⟨ad334.block, ad334.off + 1, none⟩ = some (.int .i64 (rd t311 1)) ∧ w'.cell? ⟨ad334.block, ad334.off + 2, none⟩ = some (.int .i64 (rd t311 2))) (ds := []) m0_ (by kernel_rfl) rfl rfl ⟨hx334_0, hx335_0, hx336_0⟩ (fun hHeld => ?_); refine with_tabW laws_FnGaps.tab10 laws_FnGaps.bits10 (fun HT_ HW_ => ?_)
               generalize w18.drew = w49 at HO310 HO314 HO318 HO322 HO326 HO330 HB hx334_0 hx335_0 hx336_0 hHeld ⊢
               refine pure_ (i := 0) (N := some 86) (v := ?_) (a' := ?_) m1_ rfl rfl (any_of HT_.out (by kernel_rfl)) (fun _ _ _ h => h) (Or.inl ⟨by rfl, ?_⟩) ?_ ?_
               rotate_left; · intro w'; go_simp; with_reducible rfl
               rotate_left; · simp only [Act.put, z1_, z2_, z3_, i64_w, i32_w]; rfl
               refine pure_ (i := 1) (N := some 87) (v := ?_) (a' := ?_) m2_ rfl rfl (any_of HT_.out (by kernel_rfl)) (fun _ _ _ h => h) (Or.inl ⟨by rfl, ?_⟩) ?_ ?_
               rotate_left; · intro w'; go_simp; with_reducible rfl
               rotate_left; · simp only [Act.put, z1_, z2_, z3_, i64_w, i32_w]; rfl
               refine pure_ (i := 2) (N := some 88) (v := ?_) (a' := ?_) m3_ rfl rfl (any_of HT_.out (by kernel_rfl)) (fun _ _ _ h => h) (Or.inl ⟨by rfl, ?_⟩) ?_ ?_
               rotate_left; · intro w'; go_simp; with_reducible rfl
               rotate_left; · simp only [Act.put, z1_, z2_, z3_, i64_w, i32_w]; rfl
               refine pure_ (i := 3) (N := some 89) (v := ?_) (a' := ?_) m4_ rfl rfl (any_of HT_.out (by kernel_rfl)) (fun _ _ _ h => h) (Or.inl ⟨by rfl, ?_⟩) ?_ ?_
               rotate_left; · intro w'; go_simp; with_reducible rfl
               rotate_left; · simp only [Act.put, z1_, z2_, z3_, i64_w, i32_w]; rfl
               refine pure_ (i := 4) (N := some 90) (v := ?_) (a' := ?_) m5_ rfl rfl (any_of HT_.out (by kernel_rfl)) (fun _ _ _ h => h) (Or.inl ⟨by rfl, ?_⟩) ?_ ?_
               rotate_left; · intro w'; go_simp; with_reducible rfl
               rotate_left; · simp only [Act.put, z1_, z2_, z3_, i64_w, i32_w]; rfl
               refine pure_ (i := 5) (N := some 91) (v := ?_) (a' := ?_) m6_ rfl rfl (any_of HT_.out (by kernel_rfl)) (fun _ _ _ h => h) (Or.inl ⟨by rfl, ?_⟩) ?_ ?_
               rotate_left; · intro w'; go_simp; with_reducible rfl
               rotate_left; · simp only [Act.put, z1_, z2_, z3_, i64_w, i32_w]; rfl
               refine one_ (i := 6) (N := some 92) m7_ rfl rfl (one_of HT_.out (by kernel_rfl)) (by decide) (fun K hK => ?_)
               refine goes_ Try.func24 (by kernel_rfl) rfl #[.slice Ao50 t307.length co50, .slice (some ad334) t311.length co51] (by rfl) rfl rfl (by (try simp only [List.map_toArray, List.map_cons, List.map_nil]); first | done | rfl | (simp only [List.length_drop, List.length_take]; rfl)) ?_
               with_reducible refine (laws_sameInts.calls k _ _ t307 _ _ t311 true _ ?side1 ?side2 ?side3 ?side4 A21.out).mono ?_
               (case side1 => repeat (first | exact (Kd.R_reads' HO310.out).2.2 | (with_reducible refine Kd.C_alloc ?_ _) | (with_reducible refine Kd.C_drewN ?_ _) | (with_reducible refine Kd.C_drew ?_)))
               (case side2 => exact (Kd.R_reads' HO310.out).2.1)
               (case side3 => repeat (first | exact (Kd.R_reads' HO314.out).2.2 | (with_reducible refine Kd.C_alloc ?_ _) | (with_reducible refine Kd.C_drewN ?_ _) | (with_reducible refine Kd.C_drew ?_)))
               (case side4 => exact (Kd.R_reads' HO314.out).2.1)
               rintro e w' ⟨rfl, ⟨nd, rfl⟩⟩
               refine ⟨_, rfl, ?_⟩
               obtain ⟨Ao52, co52, eo52⟩ := Kd.R_slice HO318.out
               (first | subst eo52 | (injection eo52 with f1_ f2_ f3_; have f4_ := f1_.symm; have f5_ := f3_.symm; clear f1_ f2_ f3_; subst f4_; subst f5_))
               obtain ⟨Ao53, co53, eo53⟩ := Kd.R_slice HO322.out
               (first | subst eo53 | (injection eo53 with f1_ f2_ f3_; have f4_ := f1_.symm; have f5_ := f3_.symm; clear f1_ f2_ f3_; subst f4_; subst f5_))
               refine hK.out _ _ ⟨hHeld.1, hHeld.2.1, hHeld.2.2⟩ (fun hHeld => ?_)
               clear hK K
               refine norm_ (a' := ?_) ?_ ?_
               rotate_left
               ·show Act.put _ (some 92) _ = _
                simp only [Act.put, z1_, z2_, z3_, i64_w, i32_w]
                rfl
               refine pure_ (i := 7) (N := some 93) (v := ?_) (a' := ?_) m8_ rfl rfl (any_of HT_.out (by kernel_rfl)) (fun _ _ _ h => h) (Or.inl ⟨by rfl, ?_⟩) ?_ ?_
               rotate_left; · intro w'; go_simp; with_reducible rfl
               rotate_left; · simp only [Act.put, z1_, z2_, z3_, i64_w, i32_w]; rfl
               refine pure_ (i := 8) (N := some 94) (v := ?_) (a' := ?_) m9_ rfl rfl (any_of HT_.out (by kernel_rfl)) (fun _ _ _ h => h) (Or.inl ⟨by rfl, ?_⟩) ?_ ?_
               rotate_left; · intro w'; go_simp; with_reducible rfl
               rotate_left; · simp only [Act.put, z1_, z2_, z3_, i64_w, i32_w]; rfl
               refine pure_ (i := 9) (N := some 95) (v := ?_) (a' := ?_) m10_ rfl rfl (any_of HT_.out (by kernel_rfl)) (fun _ _ _ h => h) (Or.inl ⟨by rfl, ?_⟩) ?_ ?_
               rotate_left; · intro w'; go_simp; with_reducible rfl
               rotate_left; · simp only [Act.put, z1_, z2_, z3_, i64_w, i32_w]; rfl
               refine pure_ (i := 10) (N := some 96) (v := ?_) (a' := ?_) m11_ rfl rfl (any_of HT_.out (by kernel_rfl)) (fun _ _ _ h => h) (Or.inl ⟨by rfl, ?_⟩) ?_ ?_
               rotate_left; · intro w'; go_simp; with_reducible rfl
               rotate_left; · simp only [Act.put, z1_, z2_, z3_, i64_w, i32_w]; rfl
               refine pure_ (i := 11) (N := some 97) (v := ?_) (a' := ?_) m12_ rfl rfl (any_of HT_.out (by kernel_rfl)) (fun _ _ _ h => h) (Or.inl ⟨by rfl, ?_⟩) ?_ ?_
               rotate_left; · intro w'; go_simp; with_reducible rfl
               rotate_left; · simp only [Act.put, z1_, z2_, z3_, i64_w, i32_w]; rfl
               refine pure_ (i := 12) (N := some 98) (v := ?_) (a' := ?_) m13_ rfl rfl (any_of HT_.out (by kernel_rfl)) (fun _ _ _ h => h) (Or.inl ⟨by rfl, ?_⟩) ?_ ?_
               rotate_left; · intro w'; go_simp; with_reducible rfl
               rotate_left; · simp only [Act.put, z1_, z2_, z3_, i64_w, i32_w]; rfl
               refine pure_ (i := 13) (N := some 99) (v := ?_) (a' := ?_) m14_ rfl rfl (any_of HT_.out (by kernel_rfl)) (fun _ _ _ h => h) (Or.inl ⟨by rfl, ?_⟩) ?_ ?_
               rotate_left; · intro w'; go_simp; with_reducible rfl
               rotate_left; · simp only [Act.put, z1_, z2_, z3_, i64_w, i32_w]; rfl
               refine pure_ (i := 14) (N := some 100) (v := ?_) (a' := ?_) m15_ rfl rfl (any_of HT_.out (by kernel_rfl)) (fun _ _ _ h => h) (Or.inl ⟨by rfl, ?_⟩) ?_ ?_
               rotate_left; · intro w'; go_simp; with_reducible rfl
               rotate_left; · simp only [Act.put, z1_, z2_, z3_, i64_w, i32_w]; rfl
               refine pure_ (i := 15) (N := some 101) (v := ?_) (a' := ?_) m16_ rfl rfl (any_of HT_.out (by kernel_rfl)) (fun _ _ _ h => h) (Or.inl ⟨by rfl, ?_⟩) ?_ ?_
               rotate_left; · intro w'; go_simp; with_reducible rfl
               rotate_left; · simp only [Act.put, z1_, z2_, z3_, i64_w, i32_w]; rfl
               refine pure_ (i := 16) (N := some 102) (v := ?_) (a' := ?_) m17_ rfl rfl (any_of HT_.out (by kernel_rfl)) (fun _ _ _ h => h) (Or.inl ⟨by rfl, ?_⟩) ?_ ?_
               rotate_left; · intro w'; go_simp; with_reducible rfl
               rotate_left; · simp only [Act.put, z1_, z2_, z3_, i64_w, i32_w]; rfl
               refine one_ (i := 17) (N := some 103) m18_ rfl rfl (one_of HT_.out (by kernel_rfl)) (by decide) (fun K hK => ?_)
               refine goes_ Try.func24 (by kernel_rfl) rfl #[.slice Ao52 t315.length co52, .slice Ao53 t319.length co53] (by rfl) rfl rfl (by (try simp only [List.map_toArray, List.map_cons, List.map_nil]); first | done | rfl | (simp only [List.length_drop, List.length_take]; rfl)) ?_
               with_reducible refine (laws_sameInts.calls k _ _ t315 _ _ t319 true _ ?side1 ?side2 ?side3 ?side4 A27.out).mono ?_
               (case side1 => repeat (first | exact (Kd.R_reads' HO318.out).2.2 | (with_reducible refine Kd.C_alloc ?_ _) | (with_reducible refine Kd.C_drewN ?_ _) | (with_reducible refine Kd.C_drew ?_)))
               (case side2 => exact (Kd.R_reads' HO318.out).2.1)
               (case side3 => repeat (first | exact (Kd.R_reads' HO322.out).2.2 | (with_reducible refine Kd.C_alloc ?_ _) | (with_reducible refine Kd.C_drewN ?_ _) | (with_reducible refine Kd.C_drew ?_)))
               (case side4 => exact (Kd.R_reads' HO322.out).2.1)
               rintro e w' ⟨rfl, ⟨nd, rfl⟩⟩
               refine ⟨_, rfl, ?_⟩
               obtain ⟨Ao54, co54, eo54⟩ := Kd.R_slice HO326.out
               (first | subst eo54 | (injection eo54 with f1_ f2_ f3_; have f4_ := f1_.symm; have f5_ := f3_.symm; clear f1_ f2_ f3_; subst f4_; subst f5_))
               obtain ⟨Ao55, co55, eo55⟩ := Kd.R_slice HO330.out
               (first | subst eo55 | (injection eo55 with f1_ f2_ f3_; have f4_ := f1_.symm; have f5_ := f3_.symm; clear f1_ f2_ f3_; subst f4_; subst f5_))
               refine hK.out _ _ ⟨hHeld.1, hHeld.2.1, hHeld.2.2⟩ (fun hHeld => ?_)
               clear hK K
               refine norm_ (a' := ?_) ?_ ?_
               rotate_left
               ·show Act.put _ (some 103) _ = _
                simp only [Act.put, z1_, z2_, z3_, i64_w, i32_w]
                rfl
               refine pure_ (i := 18) (N := some 104) (v := ?_) (a' := ?_) m19_ rfl rfl (any_of HT_.out (by kernel_rfl)) (fun _ _ _ h => h) (Or.inl ⟨by rfl, ?_⟩) ?_ ?_
               rotate_left; · intro w'; go_simp; with_reducible rfl
               rotate_left; · simp only [Act.put, z1_, z2_, z3_, i64_w, i32_w]; rfl
               refine pure_ (i := 19) (N := some 105) (v := ?_) (a' := ?_) m20_ rfl rfl (any_of HT_.out (by kernel_rfl)) (fun _ _ _ h => h) (Or.inl ⟨by rfl, ?_⟩) ?_ ?_
               rotate_left; · intro w'; go_simp; with_reducible rfl
               rotate_left; · simp only [Act.put, z1_, z2_, z3_, i64_w, i32_w]; rfl
               refine pure_ (i := 20) (N := some 106) (v := ?_) (a' := ?_) m21_ rfl rfl (any_of HT_.out (by kernel_rfl)) (fun _ _ _ h => h) (Or.inl ⟨by rfl, ?_⟩) ?_ ?_
               rotate_left; · intro w'; go_simp; with_reducible rfl
               rotate_left; · simp only [Act.put, z1_, z2_, z3_, i64_w, i32_w]; rfl
               refine pure_ (i := 21) (N := some 107) (v := ?_) (a' := ?_) m22_ rfl rfl (any_of HT_.out (by kernel_rfl)) (fun _ _ _ h => h) (Or.inl ⟨by rfl, ?_⟩) ?_ ?_
               rotate_left; · intro w'; go_simp; with_reducible rfl
               rotate_left; · simp only [Act.put, z1_, z2_, z3_, i64_w, i32_w]; rfl
               refine pure_ (i := 22) (N := some 108) (v := ?_) (a' := ?_) m23_ rfl rfl (any_of HT_.out (by kernel_rfl)) (fun _ _ _ h => h) (Or.inl ⟨by rfl, ?_⟩) ?_ ?_
               rotate_left; · intro w'; go_simp; with_reducible rfl
               rotate_left; · simp only [Act.put, z1_, z2_, z3_, i64_w, i32_w]; rfl
               refine pure_ (i := 23) (N := some 109) (v := ?_) (a' := ?_) m24_ rfl rfl (any_of HT_.out (by kernel_rfl)) (fun _ _ _ h => h) (Or.inl ⟨by rfl, ?_⟩) ?_ ?_
               rotate_left; · intro w'; go_simp; with_reducible rfl
               rotate_left; · simp only [Act.put, z1_, z2_, z3_, i64_w, i32_w]; rfl
               refine pure_ (i := 24) (N := some 110) (v := ?_) (a' := ?_) m25_ rfl rfl (any_of HT_.out (by kernel_rfl)) (fun _ _ _ h => h) (Or.inl ⟨by rfl, ?_⟩) ?_ ?_
               rotate_left; · intro w'; go_simp; with_reducible rfl
               rotate_left; · simp only [Act.put, z1_, z2_, z3_, i64_w, i32_w]; rfl
               refine pure_ (i := 25) (N := some 111) (v := ?_) (a' := ?_) m26_ rfl rfl (any_of HT_.out (by kernel_rfl)) (fun _ _ _ h => h) (Or.inl ⟨by rfl, ?_⟩) ?_ ?_
               rotate_left; · intro w'; go_simp; with_reducible rfl
               rotate_left; · simp only [Act.put, z1_, z2_, z3_, i64_w, i32_w]; rfl
               refine pure_ (i := 26) (N := some 112) (v := ?_) (a' := ?_) m27_ rfl rfl (any_of HT_.out (by kernel_rfl)) (fun _ _ _ h => h) (Or.inl ⟨by rfl, ?_⟩) ?_ ?_
               rotate_left; · intro w'; go_simp; with_reducible rfl
               rotate_left; · simp only [Act.put, z1_, z2_, z3_, i64_w, i32_w]; rfl
               refine pure_ (i := 27) (N := some 113) (v := ?_) (a' := ?_) m28_ rfl rfl (any_of HT_.out (by kernel_rfl)) (fun _ _ _ h => h) (Or.inl ⟨by rfl, ?_⟩) ?_ ?_
               rotate_left; · intro w'; go_simp; with_reducible rfl
               rotate_left; · simp only [Act.put, z1_, z2_, z3_, i64_w, i32_w]; rfl
               refine one_ (i := 28) (N := some 114) m29_ rfl rfl (one_of HT_.out (by kernel_rfl)) (by decide) (fun K hK => ?_)
               refine goes_ Try.func24 (by kernel_rfl) rfl #[.slice Ao54 t323.length co54, .slice Ao55 t327.length co55] (by rfl) rfl rfl (by (try simp only [List.map_toArray, List.map_cons, List.map_nil]); first | done | rfl | (simp only [List.length_drop, List.length_take]; rfl)) ?_
               with_reducible refine (laws_sameInts.calls k _ _ t323 _ _ t327 true _ ?side1 ?side2 ?side3 ?side4 A35.out).mono ?_
               (case side1 => repeat (first | exact (Kd.R_reads' HO326.out).2.2 | (with_reducible refine Kd.C_alloc ?_ _) | (with_reducible refine Kd.C_drewN ?_ _) | (with_reducible refine Kd.C_drew ?_)))
               (case side2 => exact (Kd.R_reads' HO326.out).2.1)
               (case side3 => repeat (first | exact (Kd.R_reads' HO330.out).2.2 | (with_reducible refine Kd.C_alloc ?_ _) | (with_reducible refine Kd.C_drewN ?_ _) | (with_reducible refine Kd.C_drew ?_)))
               (case side4 => exact (Kd.R_reads' HO330.out).2.1)
               rintro e w' ⟨rfl, ⟨nd, rfl⟩⟩
               refine ⟨_, rfl, ?_⟩
               refine hK.out _ _ ⟨hHeld.1, hHeld.2.1, hHeld.2.2⟩ (fun hHeld => ?_)
               clear hK K
               refine norm_ (a' := ?_) ?_ ?_
               rotate_left
               ·show Act.put _ (some 114) _ = _
                simp only [Act.put, z1_, z2_, z3_, i64_w, i32_w]
                rfl
               refine pure_ (i := 29) (N := some 115) (v := ?_) (a' := ?_) m30_ rfl rfl (any_of HT_.out (by kernel_rfl)) (fun _ _ _ h => h) (Or.inl ⟨by rfl, ?_⟩) ?_ ?_
               rotate_left; · intro w'; go_simp; with_reducible rfl
               rotate_left; · simp only [Act.put, z1_, z2_, z3_, i64_w, i32_w]; rfl
               refine pure_ (i := 30) (N := some 116) (v := ?_) (a' := ?_) m31_ rfl rfl (any_of HT_.out (by kernel_rfl)) (fun _ _ _ h => h) (Or.inl ⟨by rfl, ?_⟩) ?_ ?_
               rotate_left; · intro w'; go_simp; with_reducible rfl
               rotate_left; · simp only [Act.put, z1_, z2_, z3_, i64_w, i32_w]; rfl
               refine pure_ (i := 31) (N := some 117) (v := ?_) (a' := ?_) m32_ rfl rfl (any_of HT_.out (by kernel_rfl)) (fun _ _ _ h => h) (Or.inl ⟨by rfl, ?_⟩) ?_ ?_
               rotate_left; · intro w'; go_simp; with_reducible rfl
               rotate_left; · simp only [Act.put, z1_, z2_, z3_, i64_w, i32_w]; rfl
               refine pure_ (i := 32) (N := some 118) (v := ?_) (a' := ?_) m33_ rfl rfl (any_of HT_.out (by kernel_rfl)) (fun _ _ _ h => h) (Or.inl ⟨by rfl, ?_⟩) ?_ ?_
               rotate_left; · intro w'; go_simp; with_reducible rfl
               rotate_left; · simp only [Act.put, z1_, z2_, z3_, i64_w, i32_w]; rfl
               refine pure_ (i := 33) (N := some 119) (v := ?_) (a' := ?_) m34_ rfl rfl (any_of HT_.out (by kernel_rfl)) (fun _ _ _ h => h) (Or.inl ⟨by rfl, ?_⟩) ?_ ?_
               rotate_left; · intro w'; go_simp; with_reducible rfl
               rotate_left; · simp only [Act.put, z1_, z2_, z3_, i64_w, i32_w]; rfl
               refine pure_ (i := 34) (N := some 120) (v := ?_) (a' := ?_) m35_ rfl rfl (any_of HT_.out (by kernel_rfl)) (fun _ _ _ h => h) (Or.inl ⟨by rfl, ?_⟩) ?_ ?_
               rotate_left; · intro w'; go_simp; with_reducible rfl
               rotate_left; · simp only [Act.put, z1_, z2_, z3_, i64_w, i32_w]; rfl
               refine pure_ (i := 35) (N := some 121) (v := ?_) (a' := ?_) m36_ rfl rfl (any_of HT_.out (by kernel_rfl)) (fun _ _ _ h => h) (Or.inl ⟨by rfl, ?_⟩) ?_ ?_
               rotate_left; · intro w'; go_simp; with_reducible rfl
               rotate_left; · simp only [Act.put, z1_, z2_, z3_, i64_w, i32_w]; rfl
               refine pure_ (i := 36) (N := some 122) (v := ?_) (a' := ?_) m37_ rfl rfl (any_of HT_.out (by kernel_rfl)) (fun _ _ _ h => h) (Or.inl ⟨by rfl, ?_⟩) ?_ ?_
               rotate_left; · intro w'; go_simp; with_reducible rfl
               rotate_left; · simp only [Act.put, z1_, z2_, z3_, i64_w, i32_w]; rfl
               refine pure_ (i := 37) (N := some 123) (v := ?_) (a' := ?_) m38_ rfl rfl (any_of HT_.out (by kernel_rfl)) (fun _ _ _ h => h) (Or.inl ⟨by rfl, ?_⟩) ?_ ?_
               rotate_left; · intro w'; go_simp; with_reducible rfl
               rotate_left; · simp only [Act.put, z1_, z2_, z3_, i64_w, i32_w]; rfl
               refine pure_ (i := 38) (N := some 124) (v := ?_) (a' := ?_) m39_ rfl rfl (any_of HT_.out (by kernel_rfl)) (fun _ _ _ h => h) (Or.inl ⟨by rfl, ?_⟩) ?_ ?_
               rotate_left; · intro w'; go_simp; with_reducible rfl
               rotate_left; · simp only [Act.put, z1_, z2_, z3_, i64_w, i32_w]; rfl
               refine pure_ (i := 39) (N := some 125) (v := ?_) (a' := ?_) m40_ rfl rfl (any_of HT_.out (by kernel_rfl)) (fun _ _ _ h => h) (Or.inl ⟨by rfl, ?_⟩) ?_ ?_
               rotate_left; · intro w'; go_simp; with_reducible rfl
               rotate_left; · simp only [Act.put, z1_, z2_, z3_, i64_w, i32_w]; rfl
               refine pure_ (i := 40) (N := some 126) (v := ?_) (a' := ?_) m41_ rfl rfl (any_of HT_.out (by kernel_rfl)) (fun _ _ _ h => h) (Or.inl ⟨by rfl, ?_⟩) ?_ ?_
               rotate_left; · intro w'; go_simp; with_reducible rfl
               rotate_left; · simp only [Act.put, z1_, z2_, z3_, i64_w, i32_w]; rfl
               refine pure_ (i := 41) (N := some 127) (v := ?_) (a' := ?_) m42_ rfl rfl (any_of HT_.out (by kernel_rfl)) (fun _ _ _ h => h) (Or.inl ⟨by rfl, ?_⟩) ?_ ?_
               rotate_left; · intro w'; go_simp; with_reducible rfl
               rotate_left; · simp only [Act.put, z1_, z2_, z3_, i64_w, i32_w]; rfl
               refine pure_ (i := 42) (N := some 128) (v := ?_) (a' := ?_) m43_ rfl rfl (any_of HT_.out (by kernel_rfl)) (fun _ _ _ h => h) (Or.inl ⟨by rfl, ?_⟩) ?_ ?_
               rotate_left; · intro w'; go_simp; with_reducible rfl
               rotate_left; · simp only [Act.put, z1_, z2_, z3_, i64_w, i32_w]; rfl
               refine pure_ (i := 44) (N := some 130) (v := ?_) (a' := ?_) #[true, true, true, true, true, true, true, true, true, true, true, true, true, true, true, true, true, true, true, true, true, true, true, true, true, true, true, true, true, true, true, true, true, true, true, true, true, true, true, true, true, true, true, false, true, false, false, false, false, false, false, false, false, false] rfl rfl (any_of HT_.out (by kernel_rfl)) (fun _ _ _ h => h) (Or.inl ⟨by rfl, ?_⟩) ?_ ?_
               rotate_left; · intro w'; go_simp; with_reducible rfl
               rotate_left; · simp only [Act.put, z1_, z2_, z3_, i64_w, i32_w]; rfl
               refine pure_ (i := 45) (N := some 131) (v := ?_) (a' := ?_) #[true, true, true, true, true, true, true, true, true, true, true, true, true, true, true, true, true, true, true, true, true, true, true, true, true, true, true, true, true, true, true, true, true, true, true, true, true, true, true, true, true, true, true, false, true, true, false, false, false, false, false, false, false, false] rfl rfl (any_of HT_.out (by kernel_rfl)) (fun _ _ _ h => h) (Or.inl ⟨by rfl, ?_⟩) ?_ ?_
               rotate_left; · intro w'; go_simp; with_reducible rfl
               rotate_left; · simp only [Act.put, z1_, z2_, z3_, i64_w, i32_w]; rfl
               refine pure_ (i := 48) (N := some 134) (v := ?_) (a' := ?_) #[true, true, true, true, true, true, true, true, true, true, true, true, true, true, true, true, true, true, true, true, true, true, true, true, true, true, true, true, true, true, true, true, true, true, true, true, true, true, true, true, true, true, true, false, true, true, false, false, true, false, false, false, false, false] rfl rfl (any_of HT_.out (by kernel_rfl)) (fun _ _ _ h => h) (Or.inl ⟨by rfl, ?_⟩) ?_ ?_
               rotate_left; · intro w'; go_simp; with_reducible rfl
               rotate_left; · simp only [Act.put, z1_, z2_, z3_, i64_w, i32_w]; rfl
               refine pure_ (i := 49) (N := some 135) (v := ?_) (a' := ?_) #[true, true, true, true, true, true, true, true, true, true, true, true, true, true, true, true, true, true, true, true, true, true, true, true, true, true, true, true, true, true, true, true, true, true, true, true, true, true, true, true, true, true, true, false, true, true, false, false, true, true, false, false, false, false] rfl rfl (any_of HT_.out (by kernel_rfl)) (fun _ _ _ h => h) (Or.inl ⟨by rfl, ?_⟩) ?_ ?_
               rotate_left; · intro w'; go_simp; with_reducible rfl
               rotate_left; · simp only [Act.put, z1_, z2_, z3_, i64_w, i32_w]; rfl
               refine take_ (i := 43) (N := some 129) (v := ?_) (a' := ?_) #[true, true, true, true, true, true, true, true, true, true, true, true, true, true, true, true, true, true, true, true, true, true, true, true, true, true, true, true, true, true, true, true, true, true, true, true, true, true, true, true, true, true, true, true, true, true, false, false, true, true, false, false, false, false] rfl rfl (take_ofW HT_.out HW_.out (by kernel_rfl)) (fun _ _ _ h => h) (Or.inl ⟨by rfl, ?_⟩) hHeld ?_ ?_
               rotate_left
               ·rintro w' ⟨s0, s1, s2⟩
                go_simp
                with_reducible rfl
               rotate_left; · simp only [Act.put, z1_, z2_, z3_, i64_w, i32_w]; rfl
               refine take_ (i := 46) (N := some 132) (v := ?_) (a' := ?_) #[true, true, true, true, true, true, true, true, true, true, true, true, true, true, true, true, true, true, true, true, true, true, true, true, true, true, true, true, true, true, true, true, true, true, true, true, true, true, true, true, true, true, true, true, true, true, true, false, true, true, false, false, false, false] rfl rfl (take_ofW HT_.out HW_.out (by kernel_rfl)) (fun _ _ _ h => h) (Or.inl ⟨by rfl, ?_⟩) hHeld ?_ ?_
               rotate_left
               ·rintro w' ⟨s0, s1, s2⟩
                go_simp
                with_reducible rfl
               rotate_left; · simp only [Act.put, z1_, z2_, z3_, i64_w, i32_w]; rfl
               refine pure_ (i := 47) (N := some 133) (v := ?_) (a' := ?_) m50_ rfl rfl (any_of HT_.out (by kernel_rfl)) (fun _ _ _ h => h) (Or.inl ⟨by rfl, ?_⟩) ?_ ?_
               rotate_left; · intro w'; go_simp; with_reducible rfl
               rotate_left; · simp only [Act.put, z1_, z2_, z3_, i64_w, i32_w]; rfl
               refine take_ (i := 50) (N := some 136) (v := ?_) (a' := ?_) m51_ rfl rfl (take_ofW HT_.out HW_.out (by kernel_rfl)) (fun _ _ _ h => h) (Or.inl ⟨by rfl, ?_⟩) hHeld ?_ ?_
               rotate_left
               ·rintro w' ⟨s0, s1, s2⟩
                go_simp
                with_reducible rfl
               rotate_left; · simp only [Act.put, z1_, z2_, z3_, i64_w, i32_w]; rfl
               refine pure_ (i := 51) (N := some 137) (v := ?_) (a' := ?_) m52_ rfl rfl (any_of HT_.out (by kernel_rfl)) (fun _ _ _ h => h) (Or.inl ⟨by rfl, ?_⟩) ?_ ?_
               rotate_left; · intro w'; go_simp; with_reducible rfl
               rotate_left; · simp only [Act.put, z1_, z2_, z3_, i64_w, i32_w]; rfl
               refine pure_ (i := 52) (N := some 138) (v := ?_) (a' := ?_) m53_ rfl rfl (any_of HT_.out (by kernel_rfl)) (fun _ _ _ h => h) (Or.inl ⟨by rfl, ?_⟩) ?_ ?_
               rotate_left; · intro w'; go_simp; with_reducible rfl
               rotate_left; · simp only [Act.put, z1_, z2_, z3_, i64_w, i32_w]; rfl
               refine pure_ (i := 53) (N := some 139) (v := ?_) (a' := ?_) m54_ rfl rfl (any_of HT_.out (by kernel_rfl)) (fun _ _ _ h => h) (Or.inl ⟨by rfl, ?_⟩) ?_ ?_
               rotate_left; · intro w'; go_simp; with_reducible rfl
               rotate_left; · simp only [Act.put, z1_, z2_, z3_, i64_w, i32_w]; rfl
               refine done_ (done_of HT_.out (by kernel_rfl)) ?_
               try go_wp2
               go_meet
               case rel => exact ⟨_, (((wrap64 ((rd t311 0) + (rd t311 1))) != (rd t311 2))), (by first | rfl | (simp; done) | (simp [*]; done)), H', ⟨by first | omega | exact Nat.le_refl _⟩, ⟨by (with_reducible repeat (first | apply Kd.R_alloc | apply Kd.R_drewN | apply Kd.R_drew)); exact Kd.R_mono HO322.out (fun _ hk => trivial)⟩, ⟨by repeat (first | (with_reducible first | exact HB.out | apply below_alloc | apply pw_below_drewN | apply below_drew1) | exact HB.out)⟩⟩
             ·rw [if_neg c48] at H
              exact absurd H (by simp)
            ·rw [if_neg c47] at H
             exact absurd H (by simp)
           ·rw [if_neg c46] at H
            exact absurd H (by simp)
          ·rw [if_neg c45] at H
           have c45b0 : ((t311.length : Int) == 3) = false := beq_eq_false_iff_ne.mpr c45
           have c45b1 : ((t311.length : Int) != 3) = true := bne_iff_ne.mpr c45
           as_aux_lemma =>
            have H' := Aside0.mk H
            clear H
            try go_wp2
            have n0_ := Aside0.mk (Kd.R_drew HO310.out)
            have n1_ := Aside0.mk (Kd.R_drew HO314.out)
            have n2_ := Aside0.mk (Kd.R_drew HO318.out)
            have n3_ := Aside0.mk (Kd.R_drew HO322.out)
            have n4_ := Aside0.mk (Kd.R_drew HO326.out)
            have n5_ := Aside0.mk (Kd.R_drew HO330.out)
            have n6_ := Aside0.mk (below_drew1 HB.out)
            clear HO310
            clear HO314
            clear HO318
            clear HO322
            clear HO326
            clear HO330
            clear HB
            have HO310 := n0_
            have HO314 := n1_
            have HO318 := n2_
            have HO322 := n3_
            have HO326 := n4_
            have HO330 := n5_
            have HB := n6_
            clear n0_ n1_ n2_ n3_ n4_ n5_ n6_
            obtain ⟨Ao57, co57, eo57⟩ := Kd.R_slice HO310.out
            (first | subst eo57 | (injection eo57 with f1_ f2_ f3_; have f4_ := f1_.symm; have f5_ := f3_.symm; clear f1_ f2_ f3_; subst f4_; subst f5_))
            obtain ⟨Ao58, co58, eo58⟩ := Kd.R_slice HO314.out
            (first | subst eo58 | (injection eo58 with f1_ f2_ f3_; have f4_ := f1_.symm; have f5_ := f3_.symm; clear f1_ f2_ f3_; subst f4_; subst f5_))
            refine start_ (n := 54) (S := fun w' => True) (ds := []) m0_ (by kernel_rfl) rfl rfl trivial (fun hHeld => ?_); refine with_tabW laws_FnGaps.tab10 laws_FnGaps.bits10 (fun HT_ HW_ => ?_)
            generalize w18.drew = w56 at HO310 HO314 HO318 HO322 HO326 HO330 HB hHeld ⊢
            refine pure_ (i := 0) (N := some 86) (v := ?_) (a' := ?_) m1_ rfl rfl (any_of HT_.out (by kernel_rfl)) (fun _ _ _ h => h) (Or.inl ⟨by rfl, ?_⟩) ?_ ?_
            rotate_left; · intro w'; go_simp; with_reducible rfl
            rotate_left; · simp only [Act.put, z1_, z2_, z3_, i64_w, i32_w]; rfl
            refine pure_ (i := 1) (N := some 87) (v := ?_) (a' := ?_) m2_ rfl rfl (any_of HT_.out (by kernel_rfl)) (fun _ _ _ h => h) (Or.inl ⟨by rfl, ?_⟩) ?_ ?_
            rotate_left; · intro w'; go_simp; with_reducible rfl
            rotate_left; · simp only [Act.put, z1_, z2_, z3_, i64_w, i32_w]; rfl
            refine pure_ (i := 2) (N := some 88) (v := ?_) (a' := ?_) m3_ rfl rfl (any_of HT_.out (by kernel_rfl)) (fun _ _ _ h => h) (Or.inl ⟨by rfl, ?_⟩) ?_ ?_
            rotate_left; · intro w'; go_simp; with_reducible rfl
            rotate_left; · simp only [Act.put, z1_, z2_, z3_, i64_w, i32_w]; rfl
            refine pure_ (i := 3) (N := some 89) (v := ?_) (a' := ?_) m4_ rfl rfl (any_of HT_.out (by kernel_rfl)) (fun _ _ _ h => h) (Or.inl ⟨by rfl, ?_⟩) ?_ ?_
            rotate_left; · intro w'; go_simp; with_reducible rfl
            rotate_left; · simp only [Act.put, z1_, z2_, z3_, i64_w, i32_w]; rfl
            refine pure_ (i := 4) (N := some 90) (v := ?_) (a' := ?_) m5_ rfl rfl (any_of HT_.out (by kernel_rfl)) (fun _ _ _ h => h) (Or.inl ⟨by rfl, ?_⟩) ?_ ?_
            rotate_left; · intro w'; go_simp; with_reducible rfl
            rotate_left; · simp only [Act.put, z1_, z2_, z3_, i64_w, i32_w]; rfl
            refine pure_ (i := 5) (N := some 91) (v := ?_) (a' := ?_) m6_ rfl rfl (any_of HT_.out (by kernel_rfl)) (fun _ _ _ h => h) (Or.inl ⟨by rfl, ?_⟩) ?_ ?_
            rotate_left; · intro w'; go_simp; with_reducible rfl
            rotate_left; · simp only [Act.put, z1_, z2_, z3_, i64_w, i32_w]; rfl
            refine one_ (i := 6) (N := some 92) m7_ rfl rfl (one_of HT_.out (by kernel_rfl)) (by decide) (fun K hK => ?_)
            refine goes_ Try.func24 (by kernel_rfl) rfl #[.slice Ao57 t307.length co57, .slice Ao58 t311.length co58] (by rfl) rfl rfl (by (try simp only [List.map_toArray, List.map_cons, List.map_nil]); first | done | rfl | (simp only [List.length_drop, List.length_take]; rfl)) ?_
            with_reducible refine (laws_sameInts.calls k _ _ t307 _ _ t311 true _ ?side1 ?side2 ?side3 ?side4 A21.out).mono ?_
            (case side1 => repeat (first | exact (Kd.R_reads' HO310.out).2.2 | (with_reducible refine Kd.C_alloc ?_ _) | (with_reducible refine Kd.C_drewN ?_ _) | (with_reducible refine Kd.C_drew ?_)))
            (case side2 => exact (Kd.R_reads' HO310.out).2.1)
            (case side3 => repeat (first | exact (Kd.R_reads' HO314.out).2.2 | (with_reducible refine Kd.C_alloc ?_ _) | (with_reducible refine Kd.C_drewN ?_ _) | (with_reducible refine Kd.C_drew ?_)))
            (case side4 => exact (Kd.R_reads' HO314.out).2.1)
            rintro e w' ⟨rfl, ⟨nd, rfl⟩⟩
            refine ⟨_, rfl, ?_⟩
            obtain ⟨Ao59, co59, eo59⟩ := Kd.R_slice HO318.out
            (first | subst eo59 | (injection eo59 with f1_ f2_ f3_; have f4_ := f1_.symm; have f5_ := f3_.symm; clear f1_ f2_ f3_; subst f4_; subst f5_))
            obtain ⟨Ao60, co60, eo60⟩ := Kd.R_slice HO322.out
            (first | subst eo60 | (injection eo60 with f1_ f2_ f3_; have f4_ := f1_.symm; have f5_ := f3_.symm; clear f1_ f2_ f3_; subst f4_; subst f5_))
            refine hK.out _ _ trivial (fun hHeld => ?_)
            clear hK K
            refine norm_ (a' := ?_) ?_ ?_
            rotate_left
            ·show Act.put _ (some 92) _ = _
             simp only [Act.put, z1_, z2_, z3_, i64_w, i32_w]
             rfl
            refine pure_ (i := 7) (N := some 93) (v := ?_) (a' := ?_) m8_ rfl rfl (any_of HT_.out (by kernel_rfl)) (fun _ _ _ h => h) (Or.inl ⟨by rfl, ?_⟩) ?_ ?_
            rotate_left; · intro w'; go_simp; with_reducible rfl
            rotate_left; · simp only [Act.put, z1_, z2_, z3_, i64_w, i32_w]; rfl
            refine pure_ (i := 8) (N := some 94) (v := ?_) (a' := ?_) m9_ rfl rfl (any_of HT_.out (by kernel_rfl)) (fun _ _ _ h => h) (Or.inl ⟨by rfl, ?_⟩) ?_ ?_
            rotate_left; · intro w'; go_simp; with_reducible rfl
            rotate_left; · simp only [Act.put, z1_, z2_, z3_, i64_w, i32_w]; rfl
            refine pure_ (i := 9) (N := some 95) (v := ?_) (a' := ?_) m10_ rfl rfl (any_of HT_.out (by kernel_rfl)) (fun _ _ _ h => h) (Or.inl ⟨by rfl, ?_⟩) ?_ ?_
            rotate_left; · intro w'; go_simp; with_reducible rfl
            rotate_left; · simp only [Act.put, z1_, z2_, z3_, i64_w, i32_w]; rfl
            refine pure_ (i := 10) (N := some 96) (v := ?_) (a' := ?_) m11_ rfl rfl (any_of HT_.out (by kernel_rfl)) (fun _ _ _ h => h) (Or.inl ⟨by rfl, ?_⟩) ?_ ?_
            rotate_left; · intro w'; go_simp; with_reducible rfl
            rotate_left; · simp only [Act.put, z1_, z2_, z3_, i64_w, i32_w]; rfl
            refine pure_ (i := 11) (N := some 97) (v := ?_) (a' := ?_) m12_ rfl rfl (any_of HT_.out (by kernel_rfl)) (fun _ _ _ h => h) (Or.inl ⟨by rfl, ?_⟩) ?_ ?_
            rotate_left; · intro w'; go_simp; with_reducible rfl
            rotate_left; · simp only [Act.put, z1_, z2_, z3_, i64_w, i32_w]; rfl
            refine pure_ (i := 12) (N := some 98) (v := ?_) (a' := ?_) m13_ rfl rfl (any_of HT_.out (by kernel_rfl)) (fun _ _ _ h => h) (Or.inl ⟨by rfl, ?_⟩) ?_ ?_
            rotate_left; · intro w'; go_simp; with_reducible rfl
            rotate_left; · simp only [Act.put, z1_, z2_, z3_, i64_w, i32_w]; rfl
            refine pure_ (i := 13) (N := some 99) (v := ?_) (a' := ?_) m14_ rfl rfl (any_of HT_.out (by kernel_rfl)) (fun _ _ _ h => h) (Or.inl ⟨by rfl, ?_⟩) ?_ ?_
            rotate_left; · intro w'; go_simp; with_reducible rfl
            rotate_left; · simp only [Act.put, z1_, z2_, z3_, i64_w, i32_w]; rfl
            refine pure_ (i := 14) (N := some 100) (v := ?_) (a' := ?_) m15_ rfl rfl (any_of HT_.out (by kernel_rfl)) (fun _ _ _ h => h) (Or.inl ⟨by rfl, ?_⟩) ?_ ?_
            rotate_left; · intro w'; go_simp; with_reducible rfl
            rotate_left; · simp only [Act.put, z1_, z2_, z3_, i64_w, i32_w]; rfl
            refine pure_ (i := 15) (N := some 101) (v := ?_) (a' := ?_) m16_ rfl rfl (any_of HT_.out (by kernel_rfl)) (fun _ _ _ h => h) (Or.inl ⟨by rfl, ?_⟩) ?_ ?_
            rotate_left; · intro w'; go_simp; with_reducible rfl
            rotate_left; · simp only [Act.put, z1_, z2_, z3_, i64_w, i32_w]; rfl
            refine pure_ (i := 16) (N := some 102) (v := ?_) (a' := ?_) m17_ rfl rfl (any_of HT_.out (by kernel_rfl)) (fun _ _ _ h => h) (Or.inl ⟨by rfl, ?_⟩) ?_ ?_
            rotate_left; · intro w'; go_simp; with_reducible rfl
            rotate_left; · simp only [Act.put, z1_, z2_, z3_, i64_w, i32_w]; rfl
            refine one_ (i := 17) (N := some 103) m18_ rfl rfl (one_of HT_.out (by kernel_rfl)) (by decide) (fun K hK => ?_)
            refine goes_ Try.func24 (by kernel_rfl) rfl #[.slice Ao59 t315.length co59, .slice Ao60 t319.length co60] (by rfl) rfl rfl (by (try simp only [List.map_toArray, List.map_cons, List.map_nil]); first | done | rfl | (simp only [List.length_drop, List.length_take]; rfl)) ?_
            with_reducible refine (laws_sameInts.calls k _ _ t315 _ _ t319 true _ ?side1 ?side2 ?side3 ?side4 A27.out).mono ?_
            (case side1 => repeat (first | exact (Kd.R_reads' HO318.out).2.2 | (with_reducible refine Kd.C_alloc ?_ _) | (with_reducible refine Kd.C_drewN ?_ _) | (with_reducible refine Kd.C_drew ?_)))
            (case side2 => exact (Kd.R_reads' HO318.out).2.1)
            (case side3 => repeat (first | exact (Kd.R_reads' HO322.out).2.2 | (with_reducible refine Kd.C_alloc ?_ _) | (with_reducible refine Kd.C_drewN ?_ _) | (with_reducible refine Kd.C_drew ?_)))
            (case side4 => exact (Kd.R_reads' HO322.out).2.1)
            rintro e w' ⟨rfl, ⟨nd, rfl⟩⟩
            refine ⟨_, rfl, ?_⟩
            obtain ⟨Ao61, co61, eo61⟩ := Kd.R_slice HO326.out
            (first | subst eo61 | (injection eo61 with f1_ f2_ f3_; have f4_ := f1_.symm; have f5_ := f3_.symm; clear f1_ f2_ f3_; subst f4_; subst f5_))
            obtain ⟨Ao62, co62, eo62⟩ := Kd.R_slice HO330.out
            (first | subst eo62 | (injection eo62 with f1_ f2_ f3_; have f4_ := f1_.symm; have f5_ := f3_.symm; clear f1_ f2_ f3_; subst f4_; subst f5_))
            refine hK.out _ _ trivial (fun hHeld => ?_)
            clear hK K
            refine norm_ (a' := ?_) ?_ ?_
            rotate_left
            ·show Act.put _ (some 103) _ = _
             simp only [Act.put, z1_, z2_, z3_, i64_w, i32_w]
             rfl
            refine pure_ (i := 18) (N := some 104) (v := ?_) (a' := ?_) m19_ rfl rfl (any_of HT_.out (by kernel_rfl)) (fun _ _ _ h => h) (Or.inl ⟨by rfl, ?_⟩) ?_ ?_
            rotate_left; · intro w'; go_simp; with_reducible rfl
            rotate_left; · simp only [Act.put, z1_, z2_, z3_, i64_w, i32_w]; rfl
            refine pure_ (i := 19) (N := some 105) (v := ?_) (a' := ?_) m20_ rfl rfl (any_of HT_.out (by kernel_rfl)) (fun _ _ _ h => h) (Or.inl ⟨by rfl, ?_⟩) ?_ ?_
            rotate_left; · intro w'; go_simp; with_reducible rfl
            rotate_left; · simp only [Act.put, z1_, z2_, z3_, i64_w, i32_w]; rfl
            refine pure_ (i := 20) (N := some 106) (v := ?_) (a' := ?_) m21_ rfl rfl (any_of HT_.out (by kernel_rfl)) (fun _ _ _ h => h) (Or.inl ⟨by rfl, ?_⟩) ?_ ?_
            rotate_left; · intro w'; go_simp; with_reducible rfl
            rotate_left; · simp only [Act.put, z1_, z2_, z3_, i64_w, i32_w]; rfl
            refine pure_ (i := 21) (N := some 107) (v := ?_) (a' := ?_) m22_ rfl rfl (any_of HT_.out (by kernel_rfl)) (fun _ _ _ h => h) (Or.inl ⟨by rfl, ?_⟩) ?_ ?_
            rotate_left; · intro w'; go_simp; with_reducible rfl
            rotate_left; · simp only [Act.put, z1_, z2_, z3_, i64_w, i32_w]; rfl
            refine pure_ (i := 22) (N := some 108) (v := ?_) (a' := ?_) m23_ rfl rfl (any_of HT_.out (by kernel_rfl)) (fun _ _ _ h => h) (Or.inl ⟨by rfl, ?_⟩) ?_ ?_
            rotate_left; · intro w'; go_simp; with_reducible rfl
            rotate_left; · simp only [Act.put, z1_, z2_, z3_, i64_w, i32_w]; rfl
            refine pure_ (i := 23) (N := some 109) (v := ?_) (a' := ?_) m24_ rfl rfl (any_of HT_.out (by kernel_rfl)) (fun _ _ _ h => h) (Or.inl ⟨by rfl, ?_⟩) ?_ ?_
            rotate_left; · intro w'; go_simp; with_reducible rfl
            rotate_left; · simp only [Act.put, z1_, z2_, z3_, i64_w, i32_w]; rfl
            refine pure_ (i := 24) (N := some 110) (v := ?_) (a' := ?_) m25_ rfl rfl (any_of HT_.out (by kernel_rfl)) (fun _ _ _ h => h) (Or.inl ⟨by rfl, ?_⟩) ?_ ?_
            rotate_left; · intro w'; go_simp; with_reducible rfl
            rotate_left; · simp only [Act.put, z1_, z2_, z3_, i64_w, i32_w]; rfl
            refine pure_ (i := 25) (N := some 111) (v := ?_) (a' := ?_) m26_ rfl rfl (any_of HT_.out (by kernel_rfl)) (fun _ _ _ h => h) (Or.inl ⟨by rfl, ?_⟩) ?_ ?_
            rotate_left; · intro w'; go_simp; with_reducible rfl
            rotate_left; · simp only [Act.put, z1_, z2_, z3_, i64_w, i32_w]; rfl
            refine pure_ (i := 26) (N := some 112) (v := ?_) (a' := ?_) m27_ rfl rfl (any_of HT_.out (by kernel_rfl)) (fun _ _ _ h => h) (Or.inl ⟨by rfl, ?_⟩) ?_ ?_
            rotate_left; · intro w'; go_simp; with_reducible rfl
            rotate_left; · simp only [Act.put, z1_, z2_, z3_, i64_w, i32_w]; rfl
            refine pure_ (i := 27) (N := some 113) (v := ?_) (a' := ?_) m28_ rfl rfl (any_of HT_.out (by kernel_rfl)) (fun _ _ _ h => h) (Or.inl ⟨by rfl, ?_⟩) ?_ ?_
            rotate_left; · intro w'; go_simp; with_reducible rfl
            rotate_left; · simp only [Act.put, z1_, z2_, z3_, i64_w, i32_w]; rfl
            refine one_ (i := 28) (N := some 114) m29_ rfl rfl (one_of HT_.out (by kernel_rfl)) (by decide) (fun K hK => ?_)
            refine goes_ Try.func24 (by kernel_rfl) rfl #[.slice Ao61 t323.length co61, .slice Ao62 t327.length co62] (by rfl) rfl rfl (by (try simp only [List.map_toArray, List.map_cons, List.map_nil]); first | done | rfl | (simp only [List.length_drop, List.length_take]; rfl)) ?_
            with_reducible refine (laws_sameInts.calls k _ _ t323 _ _ t327 true _ ?side1 ?side2 ?side3 ?side4 A35.out).mono ?_
            (case side1 => repeat (first | exact (Kd.R_reads' HO326.out).2.2 | (with_reducible refine Kd.C_alloc ?_ _) | (with_reducible refine Kd.C_drewN ?_ _) | (with_reducible refine Kd.C_drew ?_)))
            (case side2 => exact (Kd.R_reads' HO326.out).2.1)
            (case side3 => repeat (first | exact (Kd.R_reads' HO330.out).2.2 | (with_reducible refine Kd.C_alloc ?_ _) | (with_reducible refine Kd.C_drewN ?_ _) | (with_reducible refine Kd.C_drew ?_)))
            (case side4 => exact (Kd.R_reads' HO330.out).2.1)
            rintro e w' ⟨rfl, ⟨nd, rfl⟩⟩
            refine ⟨_, rfl, ?_⟩
            refine hK.out _ _ trivial (fun hHeld => ?_)
            clear hK K
            refine norm_ (a' := ?_) ?_ ?_
            rotate_left
            ·show Act.put _ (some 114) _ = _
             simp only [Act.put, z1_, z2_, z3_, i64_w, i32_w]
             rfl
            refine pure_ (i := 29) (N := some 115) (v := ?_) (a' := ?_) m30_ rfl rfl (any_of HT_.out (by kernel_rfl)) (fun _ _ _ h => h) (Or.inl ⟨by rfl, ?_⟩) ?_ ?_
            rotate_left; · intro w'; go_simp; with_reducible rfl
            rotate_left; · simp only [Act.put, z1_, z2_, z3_, i64_w, i32_w]; rfl
            refine pure_ (i := 30) (N := some 116) (v := ?_) (a' := ?_) m31_ rfl rfl (any_of HT_.out (by kernel_rfl)) (fun _ _ _ h => h) (Or.inl ⟨by rfl, ?_⟩) ?_ ?_
            rotate_left; · intro w'; go_simp; with_reducible rfl
            rotate_left; · simp only [Act.put, z1_, z2_, z3_, i64_w, i32_w]; rfl
            refine pure_ (i := 31) (N := some 117) (v := ?_) (a' := ?_) m32_ rfl rfl (any_of HT_.out (by kernel_rfl)) (fun _ _ _ h => h) (Or.inl ⟨by rfl, ?_⟩) ?_ ?_
            rotate_left; · intro w'; go_simp; with_reducible rfl
            rotate_left; · simp only [Act.put, z1_, z2_, z3_, i64_w, i32_w]; rfl
            refine pure_ (i := 32) (N := some 118) (v := ?_) (a' := ?_) m33_ rfl rfl (any_of HT_.out (by kernel_rfl)) (fun _ _ _ h => h) (Or.inl ⟨by rfl, ?_⟩) ?_ ?_
            rotate_left; · intro w'; go_simp; with_reducible rfl
            rotate_left; · simp only [Act.put, z1_, z2_, z3_, i64_w, i32_w]; rfl
            refine pure_ (i := 33) (N := some 119) (v := ?_) (a' := ?_) m34_ rfl rfl (any_of HT_.out (by kernel_rfl)) (fun _ _ _ h => h) (Or.inl ⟨by rfl, ?_⟩) ?_ ?_
            rotate_left; · intro w'; go_simp; with_reducible rfl
            rotate_left; · simp only [Act.put, z1_, z2_, z3_, i64_w, i32_w]; rfl
            refine pure_ (i := 34) (N := some 120) (v := ?_) (a' := ?_) m35_ rfl rfl (any_of HT_.out (by kernel_rfl)) (fun _ _ _ h => h) (Or.inl ⟨by rfl, ?_⟩) ?_ ?_
            rotate_left; · intro w'; go_simp; with_reducible rfl
            rotate_left; · simp only [Act.put, z1_, z2_, z3_, i64_w, i32_w]; rfl
            refine pure_ (i := 35) (N := some 121) (v := ?_) (a' := ?_) m36_ rfl rfl (any_of HT_.out (by kernel_rfl)) (fun _ _ _ h => h) (Or.inl ⟨by rfl, ?_⟩) ?_ ?_
            rotate_left; · intro w'; go_simp; with_reducible rfl
            rotate_left; · simp only [Act.put, z1_, z2_, z3_, i64_w, i32_w]; rfl
            refine pure_ (i := 36) (N := some 122) (v := ?_) (a' := ?_) m37_ rfl rfl (any_of HT_.out (by kernel_rfl)) (fun _ _ _ h => h) (Or.inl ⟨by rfl, ?_⟩) ?_ ?_
            rotate_left; · intro w'; go_simp; with_reducible rfl
            rotate_left; · simp only [Act.put, z1_, z2_, z3_, i64_w, i32_w]; rfl
            refine pure_ (i := 37) (N := some 123) (v := ?_) (a' := ?_) m38_ rfl rfl (any_of HT_.out (by kernel_rfl)) (fun _ _ _ h => h) (Or.inl ⟨by rfl, ?_⟩) ?_ ?_
            rotate_left; · intro w'; go_simp; with_reducible rfl
            rotate_left; · simp only [Act.put, z1_, z2_, z3_, i64_w, i32_w]; rfl
            refine pure_ (i := 38) (N := some 124) (v := ?_) (a' := ?_) m39_ rfl rfl (any_of HT_.out (by kernel_rfl)) (fun _ _ _ h => h) (Or.inl ⟨by rfl, ?_⟩) ?_ ?_
            rotate_left; · intro w'; go_simp; with_reducible rfl
            rotate_left; · simp only [Act.put, z1_, z2_, z3_, i64_w, i32_w]; rfl
            refine pure_ (i := 39) (N := some 125) (v := ?_) (a' := ?_) m40_ rfl rfl (any_of HT_.out (by kernel_rfl)) (fun _ _ _ h => h) (Or.inl ⟨by rfl, ?_⟩) ?_ ?_
            rotate_left; · intro w'; go_simp; with_reducible rfl
            rotate_left; · simp only [Act.put, z1_, z2_, z3_, i64_w, i32_w]; rfl
            refine pure_ (i := 40) (N := some 126) (v := ?_) (a' := ?_) m41_ rfl rfl (any_of HT_.out (by kernel_rfl)) (fun _ _ _ h => h) (Or.inl ⟨by rfl, ?_⟩) ?_ ?_
            rotate_left; · intro w'; go_simp; with_reducible rfl
            rotate_left; · simp only [Act.put, z1_, z2_, z3_, i64_w, i32_w]; rfl
            refine pure_ (i := 41) (N := some 127) (v := undef) (a' := ?_) m42_ rfl rfl (any_of HT_.out (by kernel_rfl)) (fun _ _ _ h => h) (Or.inr ⟨by rfl, rfl⟩) ?_ ?_
            rotate_left; · simp only [Act.put, z1_, z2_, z3_, i64_w, i32_w]; rfl
            refine pure_ (i := 42) (N := some 128) (v := undef) (a' := ?_) m43_ rfl rfl (any_of HT_.out (by kernel_rfl)) (fun _ _ _ h => h) (Or.inr ⟨by rfl, rfl⟩) ?_ ?_
            rotate_left; · simp only [Act.put, z1_, z2_, z3_, i64_w, i32_w]; rfl
            refine pure_ (i := 43) (N := some 129) (v := undef) (a' := ?_) m44_ rfl rfl (any_of HT_.out (by kernel_rfl)) (fun _ _ _ h => h) (Or.inr ⟨by rfl, rfl⟩) ?_ ?_
            rotate_left; · simp only [Act.put, z1_, z2_, z3_, i64_w, i32_w]; rfl
            refine pure_ (i := 44) (N := some 130) (v := undef) (a' := ?_) m45_ rfl rfl (any_of HT_.out (by kernel_rfl)) (fun _ _ _ h => h) (Or.inr ⟨by rfl, rfl⟩) ?_ ?_
            rotate_left; · simp only [Act.put, z1_, z2_, z3_, i64_w, i32_w]; rfl
            refine pure_ (i := 45) (N := some 131) (v := undef) (a' := ?_) m46_ rfl rfl (any_of HT_.out (by kernel_rfl)) (fun _ _ _ h => h) (Or.inr ⟨by rfl, rfl⟩) ?_ ?_
            rotate_left; · simp only [Act.put, z1_, z2_, z3_, i64_w, i32_w]; rfl
            refine pure_ (i := 46) (N := some 132) (v := undef) (a' := ?_) m47_ rfl rfl (any_of HT_.out (by kernel_rfl)) (fun _ _ _ h => h) (Or.inr ⟨by rfl, rfl⟩) ?_ ?_
            rotate_left; · simp only [Act.put, z1_, z2_, z3_, i64_w, i32_w]; rfl
            refine pure_ (i := 47) (N := some 133) (v := undef) (a' := ?_) m48_ rfl rfl (any_of HT_.out (by kernel_rfl)) (fun _ _ _ h => h) (Or.inr ⟨by rfl, rfl⟩) ?_ ?_
            rotate_left; · simp only [Act.put, z1_, z2_, z3_, i64_w, i32_w]; rfl
            refine pure_ (i := 48) (N := some 134) (v := undef) (a' := ?_) m49_ rfl rfl (any_of HT_.out (by kernel_rfl)) (fun _ _ _ h => h) (Or.inr ⟨by rfl, rfl⟩) ?_ ?_
            rotate_left; · simp only [Act.put, z1_, z2_, z3_, i64_w, i32_w]; rfl
            refine pure_ (i := 49) (N := some 135) (v := undef) (a' := ?_) m50_ rfl rfl (any_of HT_.out (by kernel_rfl)) (fun _ _ _ h => h) (Or.inr ⟨by rfl, rfl⟩) ?_ ?_
            rotate_left; · simp only [Act.put, z1_, z2_, z3_, i64_w, i32_w]; rfl
            refine pure_ (i := 50) (N := some 136) (v := undef) (a' := ?_) m51_ rfl rfl (any_of HT_.out (by kernel_rfl)) (fun _ _ _ h => h) (Or.inr ⟨by rfl, rfl⟩) ?_ ?_
            rotate_left; · simp only [Act.put, z1_, z2_, z3_, i64_w, i32_w]; rfl
            refine pure_ (i := 51) (N := some 137) (v := undef) (a' := ?_) m52_ rfl rfl (any_of HT_.out (by kernel_rfl)) (fun _ _ _ h => h) (Or.inr ⟨by rfl, rfl⟩) ?_ ?_
            rotate_left; · simp only [Act.put, z1_, z2_, z3_, i64_w, i32_w]; rfl
            refine pure_ (i := 52) (N := some 138) (v := ?_) (a' := ?_) m53_ rfl rfl (any_of HT_.out (by kernel_rfl)) (fun _ _ _ h => h) (Or.inl ⟨by rfl, ?_⟩) ?_ ?_
            rotate_left; · intro w'; go_simp; with_reducible rfl
            rotate_left; · simp only [Act.put, z1_, z2_, z3_, i64_w, i32_w]; rfl
            refine pure_ (i := 53) (N := some 139) (v := ?_) (a' := ?_) m54_ rfl rfl (any_of HT_.out (by kernel_rfl)) (fun _ _ _ h => h) (Or.inl ⟨by rfl, ?_⟩) ?_ ?_
            rotate_left; · intro w'; go_simp; with_reducible rfl
            rotate_left; · simp only [Act.put, z1_, z2_, z3_, i64_w, i32_w]; rfl
            refine done_ (done_of HT_.out (by kernel_rfl)) ?_
            try go_wp2
            go_meet
            case rel => exact ⟨_, (false), (by first | rfl | (simp; done) | (simp [*]; done)), H', ⟨by first | omega | exact Nat.le_refl _⟩, ⟨by (with_reducible repeat (first | apply Kd.R_alloc | apply Kd.R_drewN | apply Kd.R_drew)); exact Kd.R_mono HO322.out (fun _ hk => trivial)⟩, ⟨by repeat (first | (with_reducible first | exact HB.out | apply below_alloc | apply pw_below_drewN | apply below_drew1) | exact HB.out)⟩⟩
        ·replace c36 := Bool.eq_false_iff.mpr c36
         subst c36
         have H1 : (laws_FnGaps.j0 k l0 t305 t306 t308 t319 true) = some r := by rw [if_neg (show ¬ (false = true) by decide)] at H; exact H
         clear H
         have H := H1
         clear H1
         as_aux_lemma =>
          have H' := Aside0.mk H
          clear H
          try go_wp2
          have n0_ := Aside0.mk (Kd.R_drew HO310.out)
          have n1_ := Aside0.mk (Kd.R_drew HO314.out)
          have n2_ := Aside0.mk (Kd.R_drew HO318.out)
          have n3_ := Aside0.mk (Kd.R_drew HO322.out)
          have n4_ := Aside0.mk (Kd.R_drew HO326.out)
          have n5_ := Aside0.mk (Kd.R_drew HO330.out)
          have n6_ := Aside0.mk (below_drew1 HB.out)
          clear HO310
          clear HO314
          clear HO318
          clear HO322
          clear HO326
          clear HO330
          clear HB
          have HO310 := n0_
          have HO314 := n1_
          have HO318 := n2_
          have HO322 := n3_
          have HO326 := n4_
          have HO330 := n5_
          have HB := n6_
          clear n0_ n1_ n2_ n3_ n4_ n5_ n6_
          obtain ⟨Ao64, co64, eo64⟩ := Kd.R_slice HO310.out
          (first | subst eo64 | (injection eo64 with f1_ f2_ f3_; have f4_ := f1_.symm; have f5_ := f3_.symm; clear f1_ f2_ f3_; subst f4_; subst f5_))
          obtain ⟨Ao65, co65, eo65⟩ := Kd.R_slice HO314.out
          (first | subst eo65 | (injection eo65 with f1_ f2_ f3_; have f4_ := f1_.symm; have f5_ := f3_.symm; clear f1_ f2_ f3_; subst f4_; subst f5_))
          refine start_ (n := 54) (S := fun w' => True) (ds := []) m0_ (by kernel_rfl) rfl rfl trivial (fun hHeld => ?_); refine with_tabW laws_FnGaps.tab10 laws_FnGaps.bits10 (fun HT_ HW_ => ?_)
          generalize w18.drew = w63 at HO310 HO314 HO318 HO322 HO326 HO330 HB hHeld ⊢
          refine pure_ (i := 0) (N := some 86) (v := ?_) (a' := ?_) m1_ rfl rfl (any_of HT_.out (by kernel_rfl)) (fun _ _ _ h => h) (Or.inl ⟨by rfl, ?_⟩) ?_ ?_
          rotate_left; · intro w'; go_simp; with_reducible rfl
          rotate_left; · simp only [Act.put, z1_, z2_, z3_, i64_w, i32_w]; rfl
          refine pure_ (i := 1) (N := some 87) (v := ?_) (a' := ?_) m2_ rfl rfl (any_of HT_.out (by kernel_rfl)) (fun _ _ _ h => h) (Or.inl ⟨by rfl, ?_⟩) ?_ ?_
          rotate_left; · intro w'; go_simp; with_reducible rfl
          rotate_left; · simp only [Act.put, z1_, z2_, z3_, i64_w, i32_w]; rfl
          refine pure_ (i := 2) (N := some 88) (v := ?_) (a' := ?_) m3_ rfl rfl (any_of HT_.out (by kernel_rfl)) (fun _ _ _ h => h) (Or.inl ⟨by rfl, ?_⟩) ?_ ?_
          rotate_left; · intro w'; go_simp; with_reducible rfl
          rotate_left; · simp only [Act.put, z1_, z2_, z3_, i64_w, i32_w]; rfl
          refine pure_ (i := 3) (N := some 89) (v := ?_) (a' := ?_) m4_ rfl rfl (any_of HT_.out (by kernel_rfl)) (fun _ _ _ h => h) (Or.inl ⟨by rfl, ?_⟩) ?_ ?_
          rotate_left; · intro w'; go_simp; with_reducible rfl
          rotate_left; · simp only [Act.put, z1_, z2_, z3_, i64_w, i32_w]; rfl
          refine pure_ (i := 4) (N := some 90) (v := ?_) (a' := ?_) m5_ rfl rfl (any_of HT_.out (by kernel_rfl)) (fun _ _ _ h => h) (Or.inl ⟨by rfl, ?_⟩) ?_ ?_
          rotate_left; · intro w'; go_simp; with_reducible rfl
          rotate_left; · simp only [Act.put, z1_, z2_, z3_, i64_w, i32_w]; rfl
          refine pure_ (i := 5) (N := some 91) (v := ?_) (a' := ?_) m6_ rfl rfl (any_of HT_.out (by kernel_rfl)) (fun _ _ _ h => h) (Or.inl ⟨by rfl, ?_⟩) ?_ ?_
          rotate_left; · intro w'; go_simp; with_reducible rfl
          rotate_left; · simp only [Act.put, z1_, z2_, z3_, i64_w, i32_w]; rfl
          refine one_ (i := 6) (N := some 92) m7_ rfl rfl (one_of HT_.out (by kernel_rfl)) (by decide) (fun K hK => ?_)
          refine goes_ Try.func24 (by kernel_rfl) rfl #[.slice Ao64 t307.length co64, .slice Ao65 t311.length co65] (by rfl) rfl rfl (by (try simp only [List.map_toArray, List.map_cons, List.map_nil]); first | done | rfl | (simp only [List.length_drop, List.length_take]; rfl)) ?_
          with_reducible refine (laws_sameInts.calls k _ _ t307 _ _ t311 true _ ?side1 ?side2 ?side3 ?side4 A21.out).mono ?_
          (case side1 => repeat (first | exact (Kd.R_reads' HO310.out).2.2 | (with_reducible refine Kd.C_alloc ?_ _) | (with_reducible refine Kd.C_drewN ?_ _) | (with_reducible refine Kd.C_drew ?_)))
          (case side2 => exact (Kd.R_reads' HO310.out).2.1)
          (case side3 => repeat (first | exact (Kd.R_reads' HO314.out).2.2 | (with_reducible refine Kd.C_alloc ?_ _) | (with_reducible refine Kd.C_drewN ?_ _) | (with_reducible refine Kd.C_drew ?_)))
          (case side4 => exact (Kd.R_reads' HO314.out).2.1)
          rintro e w' ⟨rfl, ⟨nd, rfl⟩⟩
          refine ⟨_, rfl, ?_⟩
          obtain ⟨Ao66, co66, eo66⟩ := Kd.R_slice HO318.out
          (first | subst eo66 | (injection eo66 with f1_ f2_ f3_; have f4_ := f1_.symm; have f5_ := f3_.symm; clear f1_ f2_ f3_; subst f4_; subst f5_))
          obtain ⟨Ao67, co67, eo67⟩ := Kd.R_slice HO322.out
          (first | subst eo67 | (injection eo67 with f1_ f2_ f3_; have f4_ := f1_.symm; have f5_ := f3_.symm; clear f1_ f2_ f3_; subst f4_; subst f5_))
          refine hK.out _ _ trivial (fun hHeld => ?_)
          clear hK K
          refine norm_ (a' := ?_) ?_ ?_
          rotate_left
          ·show Act.put _ (some 92) _ = _
           simp only [Act.put, z1_, z2_, z3_, i64_w, i32_w]
           rfl
          refine pure_ (i := 7) (N := some 93) (v := ?_) (a' := ?_) m8_ rfl rfl (any_of HT_.out (by kernel_rfl)) (fun _ _ _ h => h) (Or.inl ⟨by rfl, ?_⟩) ?_ ?_
          rotate_left; · intro w'; go_simp; with_reducible rfl
          rotate_left; · simp only [Act.put, z1_, z2_, z3_, i64_w, i32_w]; rfl
          refine pure_ (i := 8) (N := some 94) (v := ?_) (a' := ?_) m9_ rfl rfl (any_of HT_.out (by kernel_rfl)) (fun _ _ _ h => h) (Or.inl ⟨by rfl, ?_⟩) ?_ ?_
          rotate_left; · intro w'; go_simp; with_reducible rfl
          rotate_left; · simp only [Act.put, z1_, z2_, z3_, i64_w, i32_w]; rfl
          refine pure_ (i := 9) (N := some 95) (v := ?_) (a' := ?_) m10_ rfl rfl (any_of HT_.out (by kernel_rfl)) (fun _ _ _ h => h) (Or.inl ⟨by rfl, ?_⟩) ?_ ?_
          rotate_left; · intro w'; go_simp; with_reducible rfl
          rotate_left; · simp only [Act.put, z1_, z2_, z3_, i64_w, i32_w]; rfl
          refine pure_ (i := 10) (N := some 96) (v := ?_) (a' := ?_) m11_ rfl rfl (any_of HT_.out (by kernel_rfl)) (fun _ _ _ h => h) (Or.inl ⟨by rfl, ?_⟩) ?_ ?_
          rotate_left; · intro w'; go_simp; with_reducible rfl
          rotate_left; · simp only [Act.put, z1_, z2_, z3_, i64_w, i32_w]; rfl
          refine pure_ (i := 11) (N := some 97) (v := ?_) (a' := ?_) m12_ rfl rfl (any_of HT_.out (by kernel_rfl)) (fun _ _ _ h => h) (Or.inl ⟨by rfl, ?_⟩) ?_ ?_
          rotate_left; · intro w'; go_simp; with_reducible rfl
          rotate_left; · simp only [Act.put, z1_, z2_, z3_, i64_w, i32_w]; rfl
          refine pure_ (i := 12) (N := some 98) (v := ?_) (a' := ?_) m13_ rfl rfl (any_of HT_.out (by kernel_rfl)) (fun _ _ _ h => h) (Or.inl ⟨by rfl, ?_⟩) ?_ ?_
          rotate_left; · intro w'; go_simp; with_reducible rfl
          rotate_left; · simp only [Act.put, z1_, z2_, z3_, i64_w, i32_w]; rfl
          refine pure_ (i := 13) (N := some 99) (v := ?_) (a' := ?_) m14_ rfl rfl (any_of HT_.out (by kernel_rfl)) (fun _ _ _ h => h) (Or.inl ⟨by rfl, ?_⟩) ?_ ?_
          rotate_left; · intro w'; go_simp; with_reducible rfl
          rotate_left; · simp only [Act.put, z1_, z2_, z3_, i64_w, i32_w]; rfl
          refine pure_ (i := 14) (N := some 100) (v := ?_) (a' := ?_) m15_ rfl rfl (any_of HT_.out (by kernel_rfl)) (fun _ _ _ h => h) (Or.inl ⟨by rfl, ?_⟩) ?_ ?_
          rotate_left; · intro w'; go_simp; with_reducible rfl
          rotate_left; · simp only [Act.put, z1_, z2_, z3_, i64_w, i32_w]; rfl
          refine pure_ (i := 15) (N := some 101) (v := ?_) (a' := ?_) m16_ rfl rfl (any_of HT_.out (by kernel_rfl)) (fun _ _ _ h => h) (Or.inl ⟨by rfl, ?_⟩) ?_ ?_
          rotate_left; · intro w'; go_simp; with_reducible rfl
          rotate_left; · simp only [Act.put, z1_, z2_, z3_, i64_w, i32_w]; rfl
          refine pure_ (i := 16) (N := some 102) (v := ?_) (a' := ?_) m17_ rfl rfl (any_of HT_.out (by kernel_rfl)) (fun _ _ _ h => h) (Or.inl ⟨by rfl, ?_⟩) ?_ ?_
          rotate_left; · intro w'; go_simp; with_reducible rfl
          rotate_left; · simp only [Act.put, z1_, z2_, z3_, i64_w, i32_w]; rfl
          refine one_ (i := 17) (N := some 103) m18_ rfl rfl (one_of HT_.out (by kernel_rfl)) (by decide) (fun K hK => ?_)
          refine goes_ Try.func24 (by kernel_rfl) rfl #[.slice Ao66 t315.length co66, .slice Ao67 t319.length co67] (by rfl) rfl rfl (by (try simp only [List.map_toArray, List.map_cons, List.map_nil]); first | done | rfl | (simp only [List.length_drop, List.length_take]; rfl)) ?_
          with_reducible refine (laws_sameInts.calls k _ _ t315 _ _ t319 true _ ?side1 ?side2 ?side3 ?side4 A27.out).mono ?_
          (case side1 => repeat (first | exact (Kd.R_reads' HO318.out).2.2 | (with_reducible refine Kd.C_alloc ?_ _) | (with_reducible refine Kd.C_drewN ?_ _) | (with_reducible refine Kd.C_drew ?_)))
          (case side2 => exact (Kd.R_reads' HO318.out).2.1)
          (case side3 => repeat (first | exact (Kd.R_reads' HO322.out).2.2 | (with_reducible refine Kd.C_alloc ?_ _) | (with_reducible refine Kd.C_drewN ?_ _) | (with_reducible refine Kd.C_drew ?_)))
          (case side4 => exact (Kd.R_reads' HO322.out).2.1)
          rintro e w' ⟨rfl, ⟨nd, rfl⟩⟩
          refine ⟨_, rfl, ?_⟩
          obtain ⟨Ao68, co68, eo68⟩ := Kd.R_slice HO326.out
          (first | subst eo68 | (injection eo68 with f1_ f2_ f3_; have f4_ := f1_.symm; have f5_ := f3_.symm; clear f1_ f2_ f3_; subst f4_; subst f5_))
          obtain ⟨Ao69, co69, eo69⟩ := Kd.R_slice HO330.out
          (first | subst eo69 | (injection eo69 with f1_ f2_ f3_; have f4_ := f1_.symm; have f5_ := f3_.symm; clear f1_ f2_ f3_; subst f4_; subst f5_))
          refine hK.out _ _ trivial (fun hHeld => ?_)
          clear hK K
          refine norm_ (a' := ?_) ?_ ?_
          rotate_left
          ·show Act.put _ (some 103) _ = _
           simp only [Act.put, z1_, z2_, z3_, i64_w, i32_w]
           rfl
          refine pure_ (i := 18) (N := some 104) (v := ?_) (a' := ?_) m19_ rfl rfl (any_of HT_.out (by kernel_rfl)) (fun _ _ _ h => h) (Or.inl ⟨by rfl, ?_⟩) ?_ ?_
          rotate_left; · intro w'; go_simp; with_reducible rfl
          rotate_left; · simp only [Act.put, z1_, z2_, z3_, i64_w, i32_w]; rfl
          refine pure_ (i := 19) (N := some 105) (v := ?_) (a' := ?_) m20_ rfl rfl (any_of HT_.out (by kernel_rfl)) (fun _ _ _ h => h) (Or.inl ⟨by rfl, ?_⟩) ?_ ?_
          rotate_left; · intro w'; go_simp; with_reducible rfl
          rotate_left; · simp only [Act.put, z1_, z2_, z3_, i64_w, i32_w]; rfl
          refine pure_ (i := 20) (N := some 106) (v := ?_) (a' := ?_) m21_ rfl rfl (any_of HT_.out (by kernel_rfl)) (fun _ _ _ h => h) (Or.inl ⟨by rfl, ?_⟩) ?_ ?_
          rotate_left; · intro w'; go_simp; with_reducible rfl
          rotate_left; · simp only [Act.put, z1_, z2_, z3_, i64_w, i32_w]; rfl
          refine pure_ (i := 21) (N := some 107) (v := ?_) (a' := ?_) m22_ rfl rfl (any_of HT_.out (by kernel_rfl)) (fun _ _ _ h => h) (Or.inl ⟨by rfl, ?_⟩) ?_ ?_
          rotate_left; · intro w'; go_simp; with_reducible rfl
          rotate_left; · simp only [Act.put, z1_, z2_, z3_, i64_w, i32_w]; rfl
          refine pure_ (i := 22) (N := some 108) (v := ?_) (a' := ?_) m23_ rfl rfl (any_of HT_.out (by kernel_rfl)) (fun _ _ _ h => h) (Or.inl ⟨by rfl, ?_⟩) ?_ ?_
          rotate_left; · intro w'; go_simp; with_reducible rfl
          rotate_left; · simp only [Act.put, z1_, z2_, z3_, i64_w, i32_w]; rfl
          refine pure_ (i := 23) (N := some 109) (v := ?_) (a' := ?_) m24_ rfl rfl (any_of HT_.out (by kernel_rfl)) (fun _ _ _ h => h) (Or.inl ⟨by rfl, ?_⟩) ?_ ?_
          rotate_left; · intro w'; go_simp; with_reducible rfl
          rotate_left; · simp only [Act.put, z1_, z2_, z3_, i64_w, i32_w]; rfl
          refine pure_ (i := 24) (N := some 110) (v := ?_) (a' := ?_) m25_ rfl rfl (any_of HT_.out (by kernel_rfl)) (fun _ _ _ h => h) (Or.inl ⟨by rfl, ?_⟩) ?_ ?_
          rotate_left; · intro w'; go_simp; with_reducible rfl
          rotate_left; · simp only [Act.put, z1_, z2_, z3_, i64_w, i32_w]; rfl
          refine pure_ (i := 25) (N := some 111) (v := ?_) (a' := ?_) m26_ rfl rfl (any_of HT_.out (by kernel_rfl)) (fun _ _ _ h => h) (Or.inl ⟨by rfl, ?_⟩) ?_ ?_
          rotate_left; · intro w'; go_simp; with_reducible rfl
          rotate_left; · simp only [Act.put, z1_, z2_, z3_, i64_w, i32_w]; rfl
          refine pure_ (i := 26) (N := some 112) (v := ?_) (a' := ?_) m27_ rfl rfl (any_of HT_.out (by kernel_rfl)) (fun _ _ _ h => h) (Or.inl ⟨by rfl, ?_⟩) ?_ ?_
          rotate_left; · intro w'; go_simp; with_reducible rfl
          rotate_left; · simp only [Act.put, z1_, z2_, z3_, i64_w, i32_w]; rfl
          refine pure_ (i := 27) (N := some 113) (v := ?_) (a' := ?_) m28_ rfl rfl (any_of HT_.out (by kernel_rfl)) (fun _ _ _ h => h) (Or.inl ⟨by rfl, ?_⟩) ?_ ?_
          rotate_left; · intro w'; go_simp; with_reducible rfl
          rotate_left; · simp only [Act.put, z1_, z2_, z3_, i64_w, i32_w]; rfl
          refine one_ (i := 28) (N := some 114) m29_ rfl rfl (one_of HT_.out (by kernel_rfl)) (by decide) (fun K hK => ?_)
          refine goes_ Try.func24 (by kernel_rfl) rfl #[.slice Ao68 t323.length co68, .slice Ao69 t327.length co69] (by rfl) rfl rfl (by (try simp only [List.map_toArray, List.map_cons, List.map_nil]); first | done | rfl | (simp only [List.length_drop, List.length_take]; rfl)) ?_
          with_reducible refine (laws_sameInts.calls k _ _ t323 _ _ t327 false _ ?side1 ?side2 ?side3 ?side4 A35.out).mono ?_
          (case side1 => repeat (first | exact (Kd.R_reads' HO326.out).2.2 | (with_reducible refine Kd.C_alloc ?_ _) | (with_reducible refine Kd.C_drewN ?_ _) | (with_reducible refine Kd.C_drew ?_)))
          (case side2 => exact (Kd.R_reads' HO326.out).2.1)
          (case side3 => repeat (first | exact (Kd.R_reads' HO330.out).2.2 | (with_reducible refine Kd.C_alloc ?_ _) | (with_reducible refine Kd.C_drewN ?_ _) | (with_reducible refine Kd.C_drew ?_)))
          (case side4 => exact (Kd.R_reads' HO330.out).2.1)
          rintro e w' ⟨rfl, ⟨nd, rfl⟩⟩
          refine ⟨_, rfl, ?_⟩
          refine hK.out _ _ trivial (fun hHeld => ?_)
          clear hK K
          refine norm_ (a' := ?_) ?_ ?_
          rotate_left
          ·show Act.put _ (some 114) _ = _
           simp only [Act.put, z1_, z2_, z3_, i64_w, i32_w]
           rfl
          refine pure_ (i := 29) (N := some 115) (v := ?_) (a' := ?_) m30_ rfl rfl (any_of HT_.out (by kernel_rfl)) (fun _ _ _ h => h) (Or.inl ⟨by rfl, ?_⟩) ?_ ?_
          rotate_left; · intro w'; go_simp; with_reducible rfl
          rotate_left; · simp only [Act.put, z1_, z2_, z3_, i64_w, i32_w]; rfl
          refine pure_ (i := 30) (N := some 116) (v := ?_) (a' := ?_) m31_ rfl rfl (any_of HT_.out (by kernel_rfl)) (fun _ _ _ h => h) (Or.inl ⟨by rfl, ?_⟩) ?_ ?_
          rotate_left; · intro w'; go_simp; with_reducible rfl
          rotate_left; · simp only [Act.put, z1_, z2_, z3_, i64_w, i32_w]; rfl
          refine pure_ (i := 31) (N := some 117) (v := ?_) (a' := ?_) m32_ rfl rfl (any_of HT_.out (by kernel_rfl)) (fun _ _ _ h => h) (Or.inl ⟨by rfl, ?_⟩) ?_ ?_
          rotate_left; · intro w'; go_simp; with_reducible rfl
          rotate_left; · simp only [Act.put, z1_, z2_, z3_, i64_w, i32_w]; rfl
          refine pure_ (i := 32) (N := some 118) (v := undef) (a' := ?_) m33_ rfl rfl (any_of HT_.out (by kernel_rfl)) (fun _ _ _ h => h) (Or.inr ⟨by rfl, rfl⟩) ?_ ?_
          rotate_left; · simp only [Act.put, z1_, z2_, z3_, i64_w, i32_w]; rfl
          refine pure_ (i := 33) (N := some 119) (v := undef) (a' := ?_) m34_ rfl rfl (any_of HT_.out (by kernel_rfl)) (fun _ _ _ h => h) (Or.inr ⟨by rfl, rfl⟩) ?_ ?_
          rotate_left; · simp only [Act.put, z1_, z2_, z3_, i64_w, i32_w]; rfl
          refine pure_ (i := 34) (N := some 120) (v := undef) (a' := ?_) m35_ rfl rfl (any_of HT_.out (by kernel_rfl)) (fun _ _ _ h => h) (Or.inr ⟨by rfl, rfl⟩) ?_ ?_
          rotate_left; · simp only [Act.put, z1_, z2_, z3_, i64_w, i32_w]; rfl
          refine pure_ (i := 35) (N := some 121) (v := ?_) (a' := ?_) m36_ rfl rfl (any_of HT_.out (by kernel_rfl)) (fun _ _ _ h => h) (Or.inl ⟨by rfl, ?_⟩) ?_ ?_
          rotate_left; · intro w'; go_simp; with_reducible rfl
          rotate_left; · simp only [Act.put, z1_, z2_, z3_, i64_w, i32_w]; rfl
          refine pure_ (i := 36) (N := some 122) (v := ?_) (a' := ?_) m37_ rfl rfl (any_of HT_.out (by kernel_rfl)) (fun _ _ _ h => h) (Or.inl ⟨by rfl, ?_⟩) ?_ ?_
          rotate_left; · intro w'; go_simp; with_reducible rfl
          rotate_left; · simp only [Act.put, z1_, z2_, z3_, i64_w, i32_w]; rfl
          refine pure_ (i := 37) (N := some 123) (v := undef) (a' := ?_) m38_ rfl rfl (any_of HT_.out (by kernel_rfl)) (fun _ _ _ h => h) (Or.inr ⟨by rfl, rfl⟩) ?_ ?_
          rotate_left; · simp only [Act.put, z1_, z2_, z3_, i64_w, i32_w]; rfl
          refine pure_ (i := 38) (N := some 124) (v := undef) (a' := ?_) m39_ rfl rfl (any_of HT_.out (by kernel_rfl)) (fun _ _ _ h => h) (Or.inr ⟨by rfl, rfl⟩) ?_ ?_
          rotate_left; · simp only [Act.put, z1_, z2_, z3_, i64_w, i32_w]; rfl
          refine pure_ (i := 39) (N := some 125) (v := undef) (a' := ?_) m40_ rfl rfl (any_of HT_.out (by kernel_rfl)) (fun _ _ _ h => h) (Or.inr ⟨by rfl, rfl⟩) ?_ ?_
          rotate_left; · simp only [Act.put, z1_, z2_, z3_, i64_w, i32_w]; rfl
          refine pure_ (i := 40) (N := some 126) (v := undef) (a' := ?_) m41_ rfl rfl (any_of HT_.out (by kernel_rfl)) (fun _ _ _ h => h) (Or.inr ⟨by rfl, rfl⟩) ?_ ?_
          rotate_left; · simp only [Act.put, z1_, z2_, z3_, i64_w, i32_w]; rfl
          refine pure_ (i := 41) (N := some 127) (v := undef) (a' := ?_) m42_ rfl rfl (any_of HT_.out (by kernel_rfl)) (fun _ _ _ h => h) (Or.inr ⟨by rfl, rfl⟩) ?_ ?_
          rotate_left; · simp only [Act.put, z1_, z2_, z3_, i64_w, i32_w]; rfl
          refine pure_ (i := 42) (N := some 128) (v := undef) (a' := ?_) m43_ rfl rfl (any_of HT_.out (by kernel_rfl)) (fun _ _ _ h => h) (Or.inr ⟨by rfl, rfl⟩) ?_ ?_
          rotate_left; · simp only [Act.put, z1_, z2_, z3_, i64_w, i32_w]; rfl
          refine pure_ (i := 43) (N := some 129) (v := undef) (a' := ?_) m44_ rfl rfl (any_of HT_.out (by kernel_rfl)) (fun _ _ _ h => h) (Or.inr ⟨by rfl, rfl⟩) ?_ ?_
          rotate_left; · simp only [Act.put, z1_, z2_, z3_, i64_w, i32_w]; rfl
          refine pure_ (i := 44) (N := some 130) (v := undef) (a' := ?_) m45_ rfl rfl (any_of HT_.out (by kernel_rfl)) (fun _ _ _ h => h) (Or.inr ⟨by rfl, rfl⟩) ?_ ?_
          rotate_left; · simp only [Act.put, z1_, z2_, z3_, i64_w, i32_w]; rfl
          refine pure_ (i := 45) (N := some 131) (v := undef) (a' := ?_) m46_ rfl rfl (any_of HT_.out (by kernel_rfl)) (fun _ _ _ h => h) (Or.inr ⟨by rfl, rfl⟩) ?_ ?_
          rotate_left; · simp only [Act.put, z1_, z2_, z3_, i64_w, i32_w]; rfl
          refine pure_ (i := 46) (N := some 132) (v := undef) (a' := ?_) m47_ rfl rfl (any_of HT_.out (by kernel_rfl)) (fun _ _ _ h => h) (Or.inr ⟨by rfl, rfl⟩) ?_ ?_
          rotate_left; · simp only [Act.put, z1_, z2_, z3_, i64_w, i32_w]; rfl
          refine pure_ (i := 47) (N := some 133) (v := undef) (a' := ?_) m48_ rfl rfl (any_of HT_.out (by kernel_rfl)) (fun _ _ _ h => h) (Or.inr ⟨by rfl, rfl⟩) ?_ ?_
          rotate_left; · simp only [Act.put, z1_, z2_, z3_, i64_w, i32_w]; rfl
          refine pure_ (i := 48) (N := some 134) (v := undef) (a' := ?_) m49_ rfl rfl (any_of HT_.out (by kernel_rfl)) (fun _ _ _ h => h) (Or.inr ⟨by rfl, rfl⟩) ?_ ?_
          rotate_left; · simp only [Act.put, z1_, z2_, z3_, i64_w, i32_w]; rfl
          refine pure_ (i := 49) (N := some 135) (v := undef) (a' := ?_) m50_ rfl rfl (any_of HT_.out (by kernel_rfl)) (fun _ _ _ h => h) (Or.inr ⟨by rfl, rfl⟩) ?_ ?_
          rotate_left; · simp only [Act.put, z1_, z2_, z3_, i64_w, i32_w]; rfl
          refine pure_ (i := 50) (N := some 136) (v := undef) (a' := ?_) m51_ rfl rfl (any_of HT_.out (by kernel_rfl)) (fun _ _ _ h => h) (Or.inr ⟨by rfl, rfl⟩) ?_ ?_
          rotate_left; · simp only [Act.put, z1_, z2_, z3_, i64_w, i32_w]; rfl
          refine pure_ (i := 51) (N := some 137) (v := undef) (a' := ?_) m52_ rfl rfl (any_of HT_.out (by kernel_rfl)) (fun _ _ _ h => h) (Or.inr ⟨by rfl, rfl⟩) ?_ ?_
          rotate_left; · simp only [Act.put, z1_, z2_, z3_, i64_w, i32_w]; rfl
          refine pure_ (i := 52) (N := some 138) (v := undef) (a' := ?_) m53_ rfl rfl (any_of HT_.out (by kernel_rfl)) (fun _ _ _ h => h) (Or.inr ⟨by rfl, rfl⟩) ?_ ?_
          rotate_left; · simp only [Act.put, z1_, z2_, z3_, i64_w, i32_w]; rfl
          refine pure_ (i := 53) (N := some 139) (v := ?_) (a' := ?_) m54_ rfl rfl (any_of HT_.out (by kernel_rfl)) (fun _ _ _ h => h) (Or.inl ⟨by rfl, ?_⟩) ?_ ?_
          rotate_left; · intro w'; go_simp; with_reducible rfl
          rotate_left; · simp only [Act.put, z1_, z2_, z3_, i64_w, i32_w]; rfl
          refine done_ (done_of HT_.out (by kernel_rfl)) ?_
          try go_wp2
          go_meet
          case rel => exact ⟨_, (true), (by first | rfl | (simp; done) | (simp [*]; done)), H', ⟨by first | omega | exact Nat.le_refl _⟩, ⟨by (with_reducible repeat (first | apply Kd.R_alloc | apply Kd.R_drewN | apply Kd.R_drew)); exact Kd.R_mono HO322.out (fun _ hk => trivial)⟩, ⟨by repeat (first | (with_reducible first | exact HB.out | apply below_alloc | apply pw_below_drewN | apply below_drew1) | exact HB.out)⟩⟩
      ·replace c28 := Bool.eq_false_iff.mpr c28
       subst c28
       have H1 : (laws_FnGaps.j0 k l0 t305 t306 t308 t319 true) = some r := by rw [if_neg (show ¬ (false = true) by decide)] at H; exact H
       clear H
       have H := H1
       clear H1
       as_aux_lemma =>
        have H' := Aside0.mk H
        clear H
        try go_wp2
        have n0_ := Aside0.mk (Kd.R_drew HO310.out)
        have n1_ := Aside0.mk (Kd.R_drew HO314.out)
        have n2_ := Aside0.mk (Kd.R_drew HO318.out)
        have n3_ := Aside0.mk (Kd.R_drew HO322.out)
        have n4_ := Aside0.mk (Kd.R_drew HO326.out)
        have n5_ := Aside0.mk (Kd.R_drew HO330.out)
        have n6_ := Aside0.mk (below_drew1 HB.out)
        clear HO310
        clear HO314
        clear HO318
        clear HO322
        clear HO326
        clear HO330
        clear HB
        have HO310 := n0_
        have HO314 := n1_
        have HO318 := n2_
        have HO322 := n3_
        have HO326 := n4_
        have HO330 := n5_
        have HB := n6_
        clear n0_ n1_ n2_ n3_ n4_ n5_ n6_
        obtain ⟨Ao71, co71, eo71⟩ := Kd.R_slice HO310.out
        (first | subst eo71 | (injection eo71 with f1_ f2_ f3_; have f4_ := f1_.symm; have f5_ := f3_.symm; clear f1_ f2_ f3_; subst f4_; subst f5_))
        obtain ⟨Ao72, co72, eo72⟩ := Kd.R_slice HO314.out
        (first | subst eo72 | (injection eo72 with f1_ f2_ f3_; have f4_ := f1_.symm; have f5_ := f3_.symm; clear f1_ f2_ f3_; subst f4_; subst f5_))
        refine start_ (n := 54) (S := fun w' => True) (ds := []) m0_ (by kernel_rfl) rfl rfl trivial (fun hHeld => ?_); refine with_tabW laws_FnGaps.tab10 laws_FnGaps.bits10 (fun HT_ HW_ => ?_)
        generalize w18.drew = w70 at HO310 HO314 HO318 HO322 HO326 HO330 HB hHeld ⊢
        refine pure_ (i := 0) (N := some 86) (v := ?_) (a' := ?_) m1_ rfl rfl (any_of HT_.out (by kernel_rfl)) (fun _ _ _ h => h) (Or.inl ⟨by rfl, ?_⟩) ?_ ?_
        rotate_left; · intro w'; go_simp; with_reducible rfl
        rotate_left; · simp only [Act.put, z1_, z2_, z3_, i64_w, i32_w]; rfl
        refine pure_ (i := 1) (N := some 87) (v := ?_) (a' := ?_) m2_ rfl rfl (any_of HT_.out (by kernel_rfl)) (fun _ _ _ h => h) (Or.inl ⟨by rfl, ?_⟩) ?_ ?_
        rotate_left; · intro w'; go_simp; with_reducible rfl
        rotate_left; · simp only [Act.put, z1_, z2_, z3_, i64_w, i32_w]; rfl
        refine pure_ (i := 2) (N := some 88) (v := ?_) (a' := ?_) m3_ rfl rfl (any_of HT_.out (by kernel_rfl)) (fun _ _ _ h => h) (Or.inl ⟨by rfl, ?_⟩) ?_ ?_
        rotate_left; · intro w'; go_simp; with_reducible rfl
        rotate_left; · simp only [Act.put, z1_, z2_, z3_, i64_w, i32_w]; rfl
        refine pure_ (i := 3) (N := some 89) (v := ?_) (a' := ?_) m4_ rfl rfl (any_of HT_.out (by kernel_rfl)) (fun _ _ _ h => h) (Or.inl ⟨by rfl, ?_⟩) ?_ ?_
        rotate_left; · intro w'; go_simp; with_reducible rfl
        rotate_left; · simp only [Act.put, z1_, z2_, z3_, i64_w, i32_w]; rfl
        refine pure_ (i := 4) (N := some 90) (v := ?_) (a' := ?_) m5_ rfl rfl (any_of HT_.out (by kernel_rfl)) (fun _ _ _ h => h) (Or.inl ⟨by rfl, ?_⟩) ?_ ?_
        rotate_left; · intro w'; go_simp; with_reducible rfl
        rotate_left; · simp only [Act.put, z1_, z2_, z3_, i64_w, i32_w]; rfl
        refine pure_ (i := 5) (N := some 91) (v := ?_) (a' := ?_) m6_ rfl rfl (any_of HT_.out (by kernel_rfl)) (fun _ _ _ h => h) (Or.inl ⟨by rfl, ?_⟩) ?_ ?_
        rotate_left; · intro w'; go_simp; with_reducible rfl
        rotate_left; · simp only [Act.put, z1_, z2_, z3_, i64_w, i32_w]; rfl
        refine one_ (i := 6) (N := some 92) m7_ rfl rfl (one_of HT_.out (by kernel_rfl)) (by decide) (fun K hK => ?_)
        refine goes_ Try.func24 (by kernel_rfl) rfl #[.slice Ao71 t307.length co71, .slice Ao72 t311.length co72] (by rfl) rfl rfl (by (try simp only [List.map_toArray, List.map_cons, List.map_nil]); first | done | rfl | (simp only [List.length_drop, List.length_take]; rfl)) ?_
        with_reducible refine (laws_sameInts.calls k _ _ t307 _ _ t311 true _ ?side1 ?side2 ?side3 ?side4 A21.out).mono ?_
        (case side1 => repeat (first | exact (Kd.R_reads' HO310.out).2.2 | (with_reducible refine Kd.C_alloc ?_ _) | (with_reducible refine Kd.C_drewN ?_ _) | (with_reducible refine Kd.C_drew ?_)))
        (case side2 => exact (Kd.R_reads' HO310.out).2.1)
        (case side3 => repeat (first | exact (Kd.R_reads' HO314.out).2.2 | (with_reducible refine Kd.C_alloc ?_ _) | (with_reducible refine Kd.C_drewN ?_ _) | (with_reducible refine Kd.C_drew ?_)))
        (case side4 => exact (Kd.R_reads' HO314.out).2.1)
        rintro e w' ⟨rfl, ⟨nd, rfl⟩⟩
        refine ⟨_, rfl, ?_⟩
        obtain ⟨Ao73, co73, eo73⟩ := Kd.R_slice HO318.out
        (first | subst eo73 | (injection eo73 with f1_ f2_ f3_; have f4_ := f1_.symm; have f5_ := f3_.symm; clear f1_ f2_ f3_; subst f4_; subst f5_))
        obtain ⟨Ao74, co74, eo74⟩ := Kd.R_slice HO322.out
        (first | subst eo74 | (injection eo74 with f1_ f2_ f3_; have f4_ := f1_.symm; have f5_ := f3_.symm; clear f1_ f2_ f3_; subst f4_; subst f5_))
        refine hK.out _ _ trivial (fun hHeld => ?_)
        clear hK K
        refine norm_ (a' := ?_) ?_ ?_
        rotate_left
        ·show Act.put _ (some 92) _ = _
         simp only [Act.put, z1_, z2_, z3_, i64_w, i32_w]
         rfl
        refine pure_ (i := 7) (N := some 93) (v := ?_) (a' := ?_) m8_ rfl rfl (any_of HT_.out (by kernel_rfl)) (fun _ _ _ h => h) (Or.inl ⟨by rfl, ?_⟩) ?_ ?_
        rotate_left; · intro w'; go_simp; with_reducible rfl
        rotate_left; · simp only [Act.put, z1_, z2_, z3_, i64_w, i32_w]; rfl
        refine pure_ (i := 8) (N := some 94) (v := ?_) (a' := ?_) m9_ rfl rfl (any_of HT_.out (by kernel_rfl)) (fun _ _ _ h => h) (Or.inl ⟨by rfl, ?_⟩) ?_ ?_
        rotate_left; · intro w'; go_simp; with_reducible rfl
        rotate_left; · simp only [Act.put, z1_, z2_, z3_, i64_w, i32_w]; rfl
        refine pure_ (i := 9) (N := some 95) (v := ?_) (a' := ?_) m10_ rfl rfl (any_of HT_.out (by kernel_rfl)) (fun _ _ _ h => h) (Or.inl ⟨by rfl, ?_⟩) ?_ ?_
        rotate_left; · intro w'; go_simp; with_reducible rfl
        rotate_left; · simp only [Act.put, z1_, z2_, z3_, i64_w, i32_w]; rfl
        refine pure_ (i := 10) (N := some 96) (v := ?_) (a' := ?_) m11_ rfl rfl (any_of HT_.out (by kernel_rfl)) (fun _ _ _ h => h) (Or.inl ⟨by rfl, ?_⟩) ?_ ?_
        rotate_left; · intro w'; go_simp; with_reducible rfl
        rotate_left; · simp only [Act.put, z1_, z2_, z3_, i64_w, i32_w]; rfl
        refine pure_ (i := 11) (N := some 97) (v := ?_) (a' := ?_) m12_ rfl rfl (any_of HT_.out (by kernel_rfl)) (fun _ _ _ h => h) (Or.inl ⟨by rfl, ?_⟩) ?_ ?_
        rotate_left; · intro w'; go_simp; with_reducible rfl
        rotate_left; · simp only [Act.put, z1_, z2_, z3_, i64_w, i32_w]; rfl
        refine pure_ (i := 12) (N := some 98) (v := ?_) (a' := ?_) m13_ rfl rfl (any_of HT_.out (by kernel_rfl)) (fun _ _ _ h => h) (Or.inl ⟨by rfl, ?_⟩) ?_ ?_
        rotate_left; · intro w'; go_simp; with_reducible rfl
        rotate_left; · simp only [Act.put, z1_, z2_, z3_, i64_w, i32_w]; rfl
        refine pure_ (i := 13) (N := some 99) (v := ?_) (a' := ?_) m14_ rfl rfl (any_of HT_.out (by kernel_rfl)) (fun _ _ _ h => h) (Or.inl ⟨by rfl, ?_⟩) ?_ ?_
        rotate_left; · intro w'; go_simp; with_reducible rfl
        rotate_left; · simp only [Act.put, z1_, z2_, z3_, i64_w, i32_w]; rfl
        refine pure_ (i := 14) (N := some 100) (v := ?_) (a' := ?_) m15_ rfl rfl (any_of HT_.out (by kernel_rfl)) (fun _ _ _ h => h) (Or.inl ⟨by rfl, ?_⟩) ?_ ?_
        rotate_left; · intro w'; go_simp; with_reducible rfl
        rotate_left; · simp only [Act.put, z1_, z2_, z3_, i64_w, i32_w]; rfl
        refine pure_ (i := 15) (N := some 101) (v := ?_) (a' := ?_) m16_ rfl rfl (any_of HT_.out (by kernel_rfl)) (fun _ _ _ h => h) (Or.inl ⟨by rfl, ?_⟩) ?_ ?_
        rotate_left; · intro w'; go_simp; with_reducible rfl
        rotate_left; · simp only [Act.put, z1_, z2_, z3_, i64_w, i32_w]; rfl
        refine pure_ (i := 16) (N := some 102) (v := ?_) (a' := ?_) m17_ rfl rfl (any_of HT_.out (by kernel_rfl)) (fun _ _ _ h => h) (Or.inl ⟨by rfl, ?_⟩) ?_ ?_
        rotate_left; · intro w'; go_simp; with_reducible rfl
        rotate_left; · simp only [Act.put, z1_, z2_, z3_, i64_w, i32_w]; rfl
        refine one_ (i := 17) (N := some 103) m18_ rfl rfl (one_of HT_.out (by kernel_rfl)) (by decide) (fun K hK => ?_)
        refine goes_ Try.func24 (by kernel_rfl) rfl #[.slice Ao73 t315.length co73, .slice Ao74 t319.length co74] (by rfl) rfl rfl (by (try simp only [List.map_toArray, List.map_cons, List.map_nil]); first | done | rfl | (simp only [List.length_drop, List.length_take]; rfl)) ?_
        with_reducible refine (laws_sameInts.calls k _ _ t315 _ _ t319 false _ ?side1 ?side2 ?side3 ?side4 A27.out).mono ?_
        (case side1 => repeat (first | exact (Kd.R_reads' HO318.out).2.2 | (with_reducible refine Kd.C_alloc ?_ _) | (with_reducible refine Kd.C_drewN ?_ _) | (with_reducible refine Kd.C_drew ?_)))
        (case side2 => exact (Kd.R_reads' HO318.out).2.1)
        (case side3 => repeat (first | exact (Kd.R_reads' HO322.out).2.2 | (with_reducible refine Kd.C_alloc ?_ _) | (with_reducible refine Kd.C_drewN ?_ _) | (with_reducible refine Kd.C_drew ?_)))
        (case side4 => exact (Kd.R_reads' HO322.out).2.1)
        rintro e w' ⟨rfl, ⟨nd, rfl⟩⟩
        refine ⟨_, rfl, ?_⟩
        refine hK.out _ _ trivial (fun hHeld => ?_)
        clear hK K
        refine norm_ (a' := ?_) ?_ ?_
        rotate_left
        ·show Act.put _ (some 103) _ = _
         simp only [Act.put, z1_, z2_, z3_, i64_w, i32_w]
         rfl
        refine pure_ (i := 18) (N := some 104) (v := ?_) (a' := ?_) m19_ rfl rfl (any_of HT_.out (by kernel_rfl)) (fun _ _ _ h => h) (Or.inl ⟨by rfl, ?_⟩) ?_ ?_
        rotate_left; · intro w'; go_simp; with_reducible rfl
        rotate_left; · simp only [Act.put, z1_, z2_, z3_, i64_w, i32_w]; rfl
        refine pure_ (i := 19) (N := some 105) (v := ?_) (a' := ?_) m20_ rfl rfl (any_of HT_.out (by kernel_rfl)) (fun _ _ _ h => h) (Or.inl ⟨by rfl, ?_⟩) ?_ ?_
        rotate_left; · intro w'; go_simp; with_reducible rfl
        rotate_left; · simp only [Act.put, z1_, z2_, z3_, i64_w, i32_w]; rfl
        refine pure_ (i := 20) (N := some 106) (v := ?_) (a' := ?_) m21_ rfl rfl (any_of HT_.out (by kernel_rfl)) (fun _ _ _ h => h) (Or.inl ⟨by rfl, ?_⟩) ?_ ?_
        rotate_left; · intro w'; go_simp; with_reducible rfl
        rotate_left; · simp only [Act.put, z1_, z2_, z3_, i64_w, i32_w]; rfl
        refine pure_ (i := 21) (N := some 107) (v := undef) (a' := ?_) m22_ rfl rfl (any_of HT_.out (by kernel_rfl)) (fun _ _ _ h => h) (Or.inr ⟨by rfl, rfl⟩) ?_ ?_
        rotate_left; · simp only [Act.put, z1_, z2_, z3_, i64_w, i32_w]; rfl
        refine pure_ (i := 22) (N := some 108) (v := undef) (a' := ?_) m23_ rfl rfl (any_of HT_.out (by kernel_rfl)) (fun _ _ _ h => h) (Or.inr ⟨by rfl, rfl⟩) ?_ ?_
        rotate_left; · simp only [Act.put, z1_, z2_, z3_, i64_w, i32_w]; rfl
        refine pure_ (i := 23) (N := some 109) (v := undef) (a' := ?_) m24_ rfl rfl (any_of HT_.out (by kernel_rfl)) (fun _ _ _ h => h) (Or.inr ⟨by rfl, rfl⟩) ?_ ?_
        rotate_left; · simp only [Act.put, z1_, z2_, z3_, i64_w, i32_w]; rfl
        refine pure_ (i := 24) (N := some 110) (v := ?_) (a' := ?_) m25_ rfl rfl (any_of HT_.out (by kernel_rfl)) (fun _ _ _ h => h) (Or.inl ⟨by rfl, ?_⟩) ?_ ?_
        rotate_left; · intro w'; go_simp; with_reducible rfl
        rotate_left; · simp only [Act.put, z1_, z2_, z3_, i64_w, i32_w]; rfl
        refine pure_ (i := 25) (N := some 111) (v := ?_) (a' := ?_) m26_ rfl rfl (any_of HT_.out (by kernel_rfl)) (fun _ _ _ h => h) (Or.inl ⟨by rfl, ?_⟩) ?_ ?_
        rotate_left; · intro w'; go_simp; with_reducible rfl
        rotate_left; · simp only [Act.put, z1_, z2_, z3_, i64_w, i32_w]; rfl
        refine pure_ (i := 26) (N := some 112) (v := undef) (a' := ?_) m27_ rfl rfl (any_of HT_.out (by kernel_rfl)) (fun _ _ _ h => h) (Or.inr ⟨by rfl, rfl⟩) ?_ ?_
        rotate_left; · simp only [Act.put, z1_, z2_, z3_, i64_w, i32_w]; rfl
        refine pure_ (i := 27) (N := some 113) (v := undef) (a' := ?_) m28_ rfl rfl (any_of HT_.out (by kernel_rfl)) (fun _ _ _ h => h) (Or.inr ⟨by rfl, rfl⟩) ?_ ?_
        rotate_left; · simp only [Act.put, z1_, z2_, z3_, i64_w, i32_w]; rfl
        refine pure_ (i := 28) (N := some 114) (v := undef) (a' := ?_) m29_ rfl rfl (any_of HT_.out (by kernel_rfl)) (fun _ _ _ h => h) (Or.inr ⟨by rfl, rfl⟩) ?_ ?_
        rotate_left; · simp only [Act.put, z1_, z2_, z3_, i64_w, i32_w]; rfl
        refine pure_ (i := 29) (N := some 115) (v := undef) (a' := ?_) m30_ rfl rfl (any_of HT_.out (by kernel_rfl)) (fun _ _ _ h => h) (Or.inr ⟨by rfl, rfl⟩) ?_ ?_
        rotate_left; · simp only [Act.put, z1_, z2_, z3_, i64_w, i32_w]; rfl
        refine pure_ (i := 30) (N := some 116) (v := ?_) (a' := ?_) m31_ rfl rfl (any_of HT_.out (by kernel_rfl)) (fun _ _ _ h => h) (Or.inl ⟨by rfl, ?_⟩) ?_ ?_
        rotate_left; · intro w'; go_simp; with_reducible rfl
        rotate_left; · simp only [Act.put, z1_, z2_, z3_, i64_w, i32_w]; rfl
        refine pure_ (i := 31) (N := some 117) (v := ?_) (a' := ?_) m32_ rfl rfl (any_of HT_.out (by kernel_rfl)) (fun _ _ _ h => h) (Or.inl ⟨by rfl, ?_⟩) ?_ ?_
        rotate_left; · intro w'; go_simp; with_reducible rfl
        rotate_left; · simp only [Act.put, z1_, z2_, z3_, i64_w, i32_w]; rfl
        refine pure_ (i := 32) (N := some 118) (v := undef) (a' := ?_) m33_ rfl rfl (any_of HT_.out (by kernel_rfl)) (fun _ _ _ h => h) (Or.inr ⟨by rfl, rfl⟩) ?_ ?_
        rotate_left; · simp only [Act.put, z1_, z2_, z3_, i64_w, i32_w]; rfl
        refine pure_ (i := 33) (N := some 119) (v := undef) (a' := ?_) m34_ rfl rfl (any_of HT_.out (by kernel_rfl)) (fun _ _ _ h => h) (Or.inr ⟨by rfl, rfl⟩) ?_ ?_
        rotate_left; · simp only [Act.put, z1_, z2_, z3_, i64_w, i32_w]; rfl
        refine pure_ (i := 34) (N := some 120) (v := undef) (a' := ?_) m35_ rfl rfl (any_of HT_.out (by kernel_rfl)) (fun _ _ _ h => h) (Or.inr ⟨by rfl, rfl⟩) ?_ ?_
        rotate_left; · simp only [Act.put, z1_, z2_, z3_, i64_w, i32_w]; rfl
        refine pure_ (i := 35) (N := some 121) (v := ?_) (a' := ?_) m36_ rfl rfl (any_of HT_.out (by kernel_rfl)) (fun _ _ _ h => h) (Or.inl ⟨by rfl, ?_⟩) ?_ ?_
        rotate_left; · intro w'; go_simp; with_reducible rfl
        rotate_left; · simp only [Act.put, z1_, z2_, z3_, i64_w, i32_w]; rfl
        refine pure_ (i := 36) (N := some 122) (v := ?_) (a' := ?_) m37_ rfl rfl (any_of HT_.out (by kernel_rfl)) (fun _ _ _ h => h) (Or.inl ⟨by rfl, ?_⟩) ?_ ?_
        rotate_left; · intro w'; go_simp; with_reducible rfl
        rotate_left; · simp only [Act.put, z1_, z2_, z3_, i64_w, i32_w]; rfl
        refine pure_ (i := 37) (N := some 123) (v := undef) (a' := ?_) m38_ rfl rfl (any_of HT_.out (by kernel_rfl)) (fun _ _ _ h => h) (Or.inr ⟨by rfl, rfl⟩) ?_ ?_
        rotate_left; · simp only [Act.put, z1_, z2_, z3_, i64_w, i32_w]; rfl
        refine pure_ (i := 38) (N := some 124) (v := undef) (a' := ?_) m39_ rfl rfl (any_of HT_.out (by kernel_rfl)) (fun _ _ _ h => h) (Or.inr ⟨by rfl, rfl⟩) ?_ ?_
        rotate_left; · simp only [Act.put, z1_, z2_, z3_, i64_w, i32_w]; rfl
        refine pure_ (i := 39) (N := some 125) (v := undef) (a' := ?_) m40_ rfl rfl (any_of HT_.out (by kernel_rfl)) (fun _ _ _ h => h) (Or.inr ⟨by rfl, rfl⟩) ?_ ?_
        rotate_left; · simp only [Act.put, z1_, z2_, z3_, i64_w, i32_w]; rfl
        refine pure_ (i := 40) (N := some 126) (v := undef) (a' := ?_) m41_ rfl rfl (any_of HT_.out (by kernel_rfl)) (fun _ _ _ h => h) (Or.inr ⟨by rfl, rfl⟩) ?_ ?_
        rotate_left; · simp only [Act.put, z1_, z2_, z3_, i64_w, i32_w]; rfl
        refine pure_ (i := 41) (N := some 127) (v := undef) (a' := ?_) m42_ rfl rfl (any_of HT_.out (by kernel_rfl)) (fun _ _ _ h => h) (Or.inr ⟨by rfl, rfl⟩) ?_ ?_
        rotate_left; · simp only [Act.put, z1_, z2_, z3_, i64_w, i32_w]; rfl
        refine pure_ (i := 42) (N := some 128) (v := undef) (a' := ?_) m43_ rfl rfl (any_of HT_.out (by kernel_rfl)) (fun _ _ _ h => h) (Or.inr ⟨by rfl, rfl⟩) ?_ ?_
        rotate_left; · simp only [Act.put, z1_, z2_, z3_, i64_w, i32_w]; rfl
        refine pure_ (i := 43) (N := some 129) (v := undef) (a' := ?_) m44_ rfl rfl (any_of HT_.out (by kernel_rfl)) (fun _ _ _ h => h) (Or.inr ⟨by rfl, rfl⟩) ?_ ?_
        rotate_left; · simp only [Act.put, z1_, z2_, z3_, i64_w, i32_w]; rfl
        refine pure_ (i := 44) (N := some 130) (v := undef) (a' := ?_) m45_ rfl rfl (any_of HT_.out (by kernel_rfl)) (fun _ _ _ h => h) (Or.inr ⟨by rfl, rfl⟩) ?_ ?_
        rotate_left; · simp only [Act.put, z1_, z2_, z3_, i64_w, i32_w]; rfl
        refine pure_ (i := 45) (N := some 131) (v := undef) (a' := ?_) m46_ rfl rfl (any_of HT_.out (by kernel_rfl)) (fun _ _ _ h => h) (Or.inr ⟨by rfl, rfl⟩) ?_ ?_
        rotate_left; · simp only [Act.put, z1_, z2_, z3_, i64_w, i32_w]; rfl
        refine pure_ (i := 46) (N := some 132) (v := undef) (a' := ?_) m47_ rfl rfl (any_of HT_.out (by kernel_rfl)) (fun _ _ _ h => h) (Or.inr ⟨by rfl, rfl⟩) ?_ ?_
        rotate_left; · simp only [Act.put, z1_, z2_, z3_, i64_w, i32_w]; rfl
        refine pure_ (i := 47) (N := some 133) (v := undef) (a' := ?_) m48_ rfl rfl (any_of HT_.out (by kernel_rfl)) (fun _ _ _ h => h) (Or.inr ⟨by rfl, rfl⟩) ?_ ?_
        rotate_left; · simp only [Act.put, z1_, z2_, z3_, i64_w, i32_w]; rfl
        refine pure_ (i := 48) (N := some 134) (v := undef) (a' := ?_) m49_ rfl rfl (any_of HT_.out (by kernel_rfl)) (fun _ _ _ h => h) (Or.inr ⟨by rfl, rfl⟩) ?_ ?_
        rotate_left; · simp only [Act.put, z1_, z2_, z3_, i64_w, i32_w]; rfl
        refine pure_ (i := 49) (N := some 135) (v := undef) (a' := ?_) m50_ rfl rfl (any_of HT_.out (by kernel_rfl)) (fun _ _ _ h => h) (Or.inr ⟨by rfl, rfl⟩) ?_ ?_
        rotate_left; · simp only [Act.put, z1_, z2_, z3_, i64_w, i32_w]; rfl
        refine pure_ (i := 50) (N := some 136) (v := undef) (a' := ?_) m51_ rfl rfl (any_of HT_.out (by kernel_rfl)) (fun _ _ _ h => h) (Or.inr ⟨by rfl, rfl⟩) ?_ ?_
        rotate_left; · simp only [Act.put, z1_, z2_, z3_, i64_w, i32_w]; rfl
        refine pure_ (i := 51) (N := some 137) (v := undef) (a' := ?_) m52_ rfl rfl (any_of HT_.out (by kernel_rfl)) (fun _ _ _ h => h) (Or.inr ⟨by rfl, rfl⟩) ?_ ?_
        rotate_left; · simp only [Act.put, z1_, z2_, z3_, i64_w, i32_w]; rfl
        refine pure_ (i := 52) (N := some 138) (v := undef) (a' := ?_) m53_ rfl rfl (any_of HT_.out (by kernel_rfl)) (fun _ _ _ h => h) (Or.inr ⟨by rfl, rfl⟩) ?_ ?_
        rotate_left; · simp only [Act.put, z1_, z2_, z3_, i64_w, i32_w]; rfl
        refine pure_ (i := 53) (N := some 139) (v := ?_) (a' := ?_) m54_ rfl rfl (any_of HT_.out (by kernel_rfl)) (fun _ _ _ h => h) (Or.inl ⟨by rfl, ?_⟩) ?_ ?_
        rotate_left; · intro w'; go_simp; with_reducible rfl
        rotate_left; · simp only [Act.put, z1_, z2_, z3_, i64_w, i32_w]; rfl
        refine done_ (done_of HT_.out (by kernel_rfl)) ?_
        try go_wp2
        go_meet
        case rel => exact ⟨_, (true), (by first | rfl | (simp; done) | (simp [*]; done)), H', ⟨by first | omega | exact Nat.le_refl _⟩, ⟨by (with_reducible repeat (first | apply Kd.R_alloc | apply Kd.R_drewN | apply Kd.R_drew)); exact Kd.R_mono HO322.out (fun _ hk => trivial)⟩, ⟨by repeat (first | (with_reducible first | exact HB.out | apply below_alloc | apply pw_below_drewN | apply below_drew1) | exact HB.out)⟩⟩
    ·replace c22 := Bool.eq_false_iff.mpr c22
     subst c22
     have H1 : (laws_FnGaps.j0 k l0 t305 t306 t308 t319 true) = some r := by rw [if_neg (show ¬ (false = true) by decide)] at H; exact H
     clear H
     have H := H1
     clear H1
     as_aux_lemma =>
      have H' := Aside0.mk H
      clear H
      try go_wp2
      have n0_ := Aside0.mk (Kd.R_drew HO310.out)
      have n1_ := Aside0.mk (Kd.R_drew HO314.out)
      have n2_ := Aside0.mk (Kd.R_drew HO318.out)
      have n3_ := Aside0.mk (Kd.R_drew HO322.out)
      have n4_ := Aside0.mk (Kd.R_drew HO326.out)
      have n5_ := Aside0.mk (Kd.R_drew HO330.out)
      have n6_ := Aside0.mk (below_drew1 HB.out)
      clear HO310
      clear HO314
      clear HO318
      clear HO322
      clear HO326
      clear HO330
      clear HB
      have HO310 := n0_
      have HO314 := n1_
      have HO318 := n2_
      have HO322 := n3_
      have HO326 := n4_
      have HO330 := n5_
      have HB := n6_
      clear n0_ n1_ n2_ n3_ n4_ n5_ n6_
      obtain ⟨Ao76, co76, eo76⟩ := Kd.R_slice HO310.out
      (first | subst eo76 | (injection eo76 with f1_ f2_ f3_; have f4_ := f1_.symm; have f5_ := f3_.symm; clear f1_ f2_ f3_; subst f4_; subst f5_))
      obtain ⟨Ao77, co77, eo77⟩ := Kd.R_slice HO314.out
      (first | subst eo77 | (injection eo77 with f1_ f2_ f3_; have f4_ := f1_.symm; have f5_ := f3_.symm; clear f1_ f2_ f3_; subst f4_; subst f5_))
      refine start_ (n := 54) (S := fun w' => True) (ds := []) m0_ (by kernel_rfl) rfl rfl trivial (fun hHeld => ?_); refine with_tabW laws_FnGaps.tab10 laws_FnGaps.bits10 (fun HT_ HW_ => ?_)
      generalize w18.drew = w75 at HO310 HO314 HO318 HO322 HO326 HO330 HB hHeld ⊢
      refine pure_ (i := 0) (N := some 86) (v := ?_) (a' := ?_) m1_ rfl rfl (any_of HT_.out (by kernel_rfl)) (fun _ _ _ h => h) (Or.inl ⟨by rfl, ?_⟩) ?_ ?_
      rotate_left; · intro w'; go_simp; with_reducible rfl
      rotate_left; · simp only [Act.put, z1_, z2_, z3_, i64_w, i32_w]; rfl
      refine pure_ (i := 1) (N := some 87) (v := ?_) (a' := ?_) m2_ rfl rfl (any_of HT_.out (by kernel_rfl)) (fun _ _ _ h => h) (Or.inl ⟨by rfl, ?_⟩) ?_ ?_
      rotate_left; · intro w'; go_simp; with_reducible rfl
      rotate_left; · simp only [Act.put, z1_, z2_, z3_, i64_w, i32_w]; rfl
      refine pure_ (i := 2) (N := some 88) (v := ?_) (a' := ?_) m3_ rfl rfl (any_of HT_.out (by kernel_rfl)) (fun _ _ _ h => h) (Or.inl ⟨by rfl, ?_⟩) ?_ ?_
      rotate_left; · intro w'; go_simp; with_reducible rfl
      rotate_left; · simp only [Act.put, z1_, z2_, z3_, i64_w, i32_w]; rfl
      refine pure_ (i := 3) (N := some 89) (v := ?_) (a' := ?_) m4_ rfl rfl (any_of HT_.out (by kernel_rfl)) (fun _ _ _ h => h) (Or.inl ⟨by rfl, ?_⟩) ?_ ?_
      rotate_left; · intro w'; go_simp; with_reducible rfl
      rotate_left; · simp only [Act.put, z1_, z2_, z3_, i64_w, i32_w]; rfl
      refine pure_ (i := 4) (N := some 90) (v := ?_) (a' := ?_) m5_ rfl rfl (any_of HT_.out (by kernel_rfl)) (fun _ _ _ h => h) (Or.inl ⟨by rfl, ?_⟩) ?_ ?_
      rotate_left; · intro w'; go_simp; with_reducible rfl
      rotate_left; · simp only [Act.put, z1_, z2_, z3_, i64_w, i32_w]; rfl
      refine pure_ (i := 5) (N := some 91) (v := ?_) (a' := ?_) m6_ rfl rfl (any_of HT_.out (by kernel_rfl)) (fun _ _ _ h => h) (Or.inl ⟨by rfl, ?_⟩) ?_ ?_
      rotate_left; · intro w'; go_simp; with_reducible rfl
      rotate_left; · simp only [Act.put, z1_, z2_, z3_, i64_w, i32_w]; rfl
      refine one_ (i := 6) (N := some 92) m7_ rfl rfl (one_of HT_.out (by kernel_rfl)) (by decide) (fun K hK => ?_)
      refine goes_ Try.func24 (by kernel_rfl) rfl #[.slice Ao76 t307.length co76, .slice Ao77 t311.length co77] (by rfl) rfl rfl (by (try simp only [List.map_toArray, List.map_cons, List.map_nil]); first | done | rfl | (simp only [List.length_drop, List.length_take]; rfl)) ?_
      with_reducible refine (laws_sameInts.calls k _ _ t307 _ _ t311 false _ ?side1 ?side2 ?side3 ?side4 A21.out).mono ?_
      (case side1 => repeat (first | exact (Kd.R_reads' HO310.out).2.2 | (with_reducible refine Kd.C_alloc ?_ _) | (with_reducible refine Kd.C_drewN ?_ _) | (with_reducible refine Kd.C_drew ?_)))
      (case side2 => exact (Kd.R_reads' HO310.out).2.1)
      (case side3 => repeat (first | exact (Kd.R_reads' HO314.out).2.2 | (with_reducible refine Kd.C_alloc ?_ _) | (with_reducible refine Kd.C_drewN ?_ _) | (with_reducible refine Kd.C_drew ?_)))
      (case side4 => exact (Kd.R_reads' HO314.out).2.1)
      rintro e w' ⟨rfl, ⟨nd, rfl⟩⟩
      refine ⟨_, rfl, ?_⟩
      refine hK.out _ _ trivial (fun hHeld => ?_)
      clear hK K
      refine norm_ (a' := ?_) ?_ ?_
      rotate_left
      ·show Act.put _ (some 92) _ = _
       simp only [Act.put, z1_, z2_, z3_, i64_w, i32_w]
       rfl
      refine pure_ (i := 7) (N := some 93) (v := ?_) (a' := ?_) m8_ rfl rfl (any_of HT_.out (by kernel_rfl)) (fun _ _ _ h => h) (Or.inl ⟨by rfl, ?_⟩) ?_ ?_
      rotate_left; · intro w'; go_simp; with_reducible rfl
      rotate_left; · simp only [Act.put, z1_, z2_, z3_, i64_w, i32_w]; rfl
      refine pure_ (i := 8) (N := some 94) (v := ?_) (a' := ?_) m9_ rfl rfl (any_of HT_.out (by kernel_rfl)) (fun _ _ _ h => h) (Or.inl ⟨by rfl, ?_⟩) ?_ ?_
      rotate_left; · intro w'; go_simp; with_reducible rfl
      rotate_left; · simp only [Act.put, z1_, z2_, z3_, i64_w, i32_w]; rfl
      refine pure_ (i := 9) (N := some 95) (v := ?_) (a' := ?_) m10_ rfl rfl (any_of HT_.out (by kernel_rfl)) (fun _ _ _ h => h) (Or.inl ⟨by rfl, ?_⟩) ?_ ?_
      rotate_left; · intro w'; go_simp; with_reducible rfl
      rotate_left; · simp only [Act.put, z1_, z2_, z3_, i64_w, i32_w]; rfl
      refine pure_ (i := 10) (N := some 96) (v := undef) (a' := ?_) m11_ rfl rfl (any_of HT_.out (by kernel_rfl)) (fun _ _ _ h => h) (Or.inr ⟨by rfl, rfl⟩) ?_ ?_
      rotate_left; · simp only [Act.put, z1_, z2_, z3_, i64_w, i32_w]; rfl
      refine pure_ (i := 11) (N := some 97) (v := undef) (a' := ?_) m12_ rfl rfl (any_of HT_.out (by kernel_rfl)) (fun _ _ _ h => h) (Or.inr ⟨by rfl, rfl⟩) ?_ ?_
      rotate_left; · simp only [Act.put, z1_, z2_, z3_, i64_w, i32_w]; rfl
      refine pure_ (i := 12) (N := some 98) (v := undef) (a' := ?_) m13_ rfl rfl (any_of HT_.out (by kernel_rfl)) (fun _ _ _ h => h) (Or.inr ⟨by rfl, rfl⟩) ?_ ?_
      rotate_left; · simp only [Act.put, z1_, z2_, z3_, i64_w, i32_w]; rfl
      refine pure_ (i := 13) (N := some 99) (v := ?_) (a' := ?_) m14_ rfl rfl (any_of HT_.out (by kernel_rfl)) (fun _ _ _ h => h) (Or.inl ⟨by rfl, ?_⟩) ?_ ?_
      rotate_left; · intro w'; go_simp; with_reducible rfl
      rotate_left; · simp only [Act.put, z1_, z2_, z3_, i64_w, i32_w]; rfl
      refine pure_ (i := 14) (N := some 100) (v := ?_) (a' := ?_) m15_ rfl rfl (any_of HT_.out (by kernel_rfl)) (fun _ _ _ h => h) (Or.inl ⟨by rfl, ?_⟩) ?_ ?_
      rotate_left; · intro w'; go_simp; with_reducible rfl
      rotate_left; · simp only [Act.put, z1_, z2_, z3_, i64_w, i32_w]; rfl
      refine pure_ (i := 15) (N := some 101) (v := undef) (a' := ?_) m16_ rfl rfl (any_of HT_.out (by kernel_rfl)) (fun _ _ _ h => h) (Or.inr ⟨by rfl, rfl⟩) ?_ ?_
      rotate_left; · simp only [Act.put, z1_, z2_, z3_, i64_w, i32_w]; rfl
      refine pure_ (i := 16) (N := some 102) (v := undef) (a' := ?_) m17_ rfl rfl (any_of HT_.out (by kernel_rfl)) (fun _ _ _ h => h) (Or.inr ⟨by rfl, rfl⟩) ?_ ?_
      rotate_left; · simp only [Act.put, z1_, z2_, z3_, i64_w, i32_w]; rfl
      refine pure_ (i := 17) (N := some 103) (v := undef) (a' := ?_) m18_ rfl rfl (any_of HT_.out (by kernel_rfl)) (fun _ _ _ h => h) (Or.inr ⟨by rfl, rfl⟩) ?_ ?_
      rotate_left; · simp only [Act.put, z1_, z2_, z3_, i64_w, i32_w]; rfl
      refine pure_ (i := 18) (N := some 104) (v := undef) (a' := ?_) m19_ rfl rfl (any_of HT_.out (by kernel_rfl)) (fun _ _ _ h => h) (Or.inr ⟨by rfl, rfl⟩) ?_ ?_
      rotate_left; · simp only [Act.put, z1_, z2_, z3_, i64_w, i32_w]; rfl
      refine pure_ (i := 19) (N := some 105) (v := ?_) (a' := ?_) m20_ rfl rfl (any_of HT_.out (by kernel_rfl)) (fun _ _ _ h => h) (Or.inl ⟨by rfl, ?_⟩) ?_ ?_
      rotate_left; · intro w'; go_simp; with_reducible rfl
      rotate_left; · simp only [Act.put, z1_, z2_, z3_, i64_w, i32_w]; rfl
      refine pure_ (i := 20) (N := some 106) (v := ?_) (a' := ?_) m21_ rfl rfl (any_of HT_.out (by kernel_rfl)) (fun _ _ _ h => h) (Or.inl ⟨by rfl, ?_⟩) ?_ ?_
      rotate_left; · intro w'; go_simp; with_reducible rfl
      rotate_left; · simp only [Act.put, z1_, z2_, z3_, i64_w, i32_w]; rfl
      refine pure_ (i := 21) (N := some 107) (v := undef) (a' := ?_) m22_ rfl rfl (any_of HT_.out (by kernel_rfl)) (fun _ _ _ h => h) (Or.inr ⟨by rfl, rfl⟩) ?_ ?_
      rotate_left; · simp only [Act.put, z1_, z2_, z3_, i64_w, i32_w]; rfl
      refine pure_ (i := 22) (N := some 108) (v := undef) (a' := ?_) m23_ rfl rfl (any_of HT_.out (by kernel_rfl)) (fun _ _ _ h => h) (Or.inr ⟨by rfl, rfl⟩) ?_ ?_
      rotate_left; · simp only [Act.put, z1_, z2_, z3_, i64_w, i32_w]; rfl
      refine pure_ (i := 23) (N := some 109) (v := undef) (a' := ?_) m24_ rfl rfl (any_of HT_.out (by kernel_rfl)) (fun _ _ _ h => h) (Or.inr ⟨by rfl, rfl⟩) ?_ ?_
      rotate_left; · simp only [Act.put, z1_, z2_, z3_, i64_w, i32_w]; rfl
      refine pure_ (i := 24) (N := some 110) (v := ?_) (a' := ?_) m25_ rfl rfl (any_of HT_.out (by kernel_rfl)) (fun _ _ _ h => h) (Or.inl ⟨by rfl, ?_⟩) ?_ ?_
      rotate_left; · intro w'; go_simp; with_reducible rfl
      rotate_left; · simp only [Act.put, z1_, z2_, z3_, i64_w, i32_w]; rfl
      refine pure_ (i := 25) (N := some 111) (v := ?_) (a' := ?_) m26_ rfl rfl (any_of HT_.out (by kernel_rfl)) (fun _ _ _ h => h) (Or.inl ⟨by rfl, ?_⟩) ?_ ?_
      rotate_left; · intro w'; go_simp; with_reducible rfl
      rotate_left; · simp only [Act.put, z1_, z2_, z3_, i64_w, i32_w]; rfl
      refine pure_ (i := 26) (N := some 112) (v := undef) (a' := ?_) m27_ rfl rfl (any_of HT_.out (by kernel_rfl)) (fun _ _ _ h => h) (Or.inr ⟨by rfl, rfl⟩) ?_ ?_
      rotate_left; · simp only [Act.put, z1_, z2_, z3_, i64_w, i32_w]; rfl
      refine pure_ (i := 27) (N := some 113) (v := undef) (a' := ?_) m28_ rfl rfl (any_of HT_.out (by kernel_rfl)) (fun _ _ _ h => h) (Or.inr ⟨by rfl, rfl⟩) ?_ ?_
      rotate_left; · simp only [Act.put, z1_, z2_, z3_, i64_w, i32_w]; rfl
      refine pure_ (i := 28) (N := some 114) (v := undef) (a' := ?_) m29_ rfl rfl (any_of HT_.out (by kernel_rfl)) (fun _ _ _ h => h) (Or.inr ⟨by rfl, rfl⟩) ?_ ?_
      rotate_left; · simp only [Act.put, z1_, z2_, z3_, i64_w, i32_w]; rfl
      refine pure_ (i := 29) (N := some 115) (v := undef) (a' := ?_) m30_ rfl rfl (any_of HT_.out (by kernel_rfl)) (fun _ _ _ h => h) (Or.inr ⟨by rfl, rfl⟩) ?_ ?_
      rotate_left; · simp only [Act.put, z1_, z2_, z3_, i64_w, i32_w]; rfl
      refine pure_ (i := 30) (N := some 116) (v := ?_) (a' := ?_) m31_ rfl rfl (any_of HT_.out (by kernel_rfl)) (fun _ _ _ h => h) (Or.inl ⟨by rfl, ?_⟩) ?_ ?_
      rotate_left; · intro w'; go_simp; with_reducible rfl
      rotate_left; · simp only [Act.put, z1_, z2_, z3_, i64_w, i32_w]; rfl
      refine pure_ (i := 31) (N := some 117) (v := ?_) (a' := ?_) m32_ rfl rfl (any_of HT_.out (by kernel_rfl)) (fun _ _ _ h => h) (Or.inl ⟨by rfl, ?_⟩) ?_ ?_
      rotate_left; · intro w'; go_simp; with_reducible rfl
      rotate_left; · simp only [Act.put, z1_, z2_, z3_, i64_w, i32_w]; rfl
      refine pure_ (i := 32) (N := some 118) (v := undef) (a' := ?_) m33_ rfl rfl (any_of HT_.out (by kernel_rfl)) (fun _ _ _ h => h) (Or.inr ⟨by rfl, rfl⟩) ?_ ?_
      rotate_left; · simp only [Act.put, z1_, z2_, z3_, i64_w, i32_w]; rfl
      refine pure_ (i := 33) (N := some 119) (v := undef) (a' := ?_) m34_ rfl rfl (any_of HT_.out (by kernel_rfl)) (fun _ _ _ h => h) (Or.inr ⟨by rfl, rfl⟩) ?_ ?_
      rotate_left; · simp only [Act.put, z1_, z2_, z3_, i64_w, i32_w]; rfl
      refine pure_ (i := 34) (N := some 120) (v := undef) (a' := ?_) m35_ rfl rfl (any_of HT_.out (by kernel_rfl)) (fun _ _ _ h => h) (Or.inr ⟨by rfl, rfl⟩) ?_ ?_
      rotate_left; · simp only [Act.put, z1_, z2_, z3_, i64_w, i32_w]; rfl
      refine pure_ (i := 35) (N := some 121) (v := ?_) (a' := ?_) m36_ rfl rfl (any_of HT_.out (by kernel_rfl)) (fun _ _ _ h => h) (Or.inl ⟨by rfl, ?_⟩) ?_ ?_
      rotate_left; · intro w'; go_simp; with_reducible rfl
      rotate_left; · simp only [Act.put, z1_, z2_, z3_, i64_w, i32_w]; rfl
      refine pure_ (i := 36) (N := some 122) (v := ?_) (a' := ?_) m37_ rfl rfl (any_of HT_.out (by kernel_rfl)) (fun _ _ _ h => h) (Or.inl ⟨by rfl, ?_⟩) ?_ ?_
      rotate_left; · intro w'; go_simp; with_reducible rfl
      rotate_left; · simp only [Act.put, z1_, z2_, z3_, i64_w, i32_w]; rfl
      refine pure_ (i := 37) (N := some 123) (v := undef) (a' := ?_) m38_ rfl rfl (any_of HT_.out (by kernel_rfl)) (fun _ _ _ h => h) (Or.inr ⟨by rfl, rfl⟩) ?_ ?_
      rotate_left; · simp only [Act.put, z1_, z2_, z3_, i64_w, i32_w]; rfl
      refine pure_ (i := 38) (N := some 124) (v := undef) (a' := ?_) m39_ rfl rfl (any_of HT_.out (by kernel_rfl)) (fun _ _ _ h => h) (Or.inr ⟨by rfl, rfl⟩) ?_ ?_
      rotate_left; · simp only [Act.put, z1_, z2_, z3_, i64_w, i32_w]; rfl
      refine pure_ (i := 39) (N := some 125) (v := undef) (a' := ?_) m40_ rfl rfl (any_of HT_.out (by kernel_rfl)) (fun _ _ _ h => h) (Or.inr ⟨by rfl, rfl⟩) ?_ ?_
      rotate_left; · simp only [Act.put, z1_, z2_, z3_, i64_w, i32_w]; rfl
      refine pure_ (i := 40) (N := some 126) (v := undef) (a' := ?_) m41_ rfl rfl (any_of HT_.out (by kernel_rfl)) (fun _ _ _ h => h) (Or.inr ⟨by rfl, rfl⟩) ?_ ?_
      rotate_left; · simp only [Act.put, z1_, z2_, z3_, i64_w, i32_w]; rfl
      refine pure_ (i := 41) (N := some 127) (v := undef) (a' := ?_) m42_ rfl rfl (any_of HT_.out (by kernel_rfl)) (fun _ _ _ h => h) (Or.inr ⟨by rfl, rfl⟩) ?_ ?_
      rotate_left; · simp only [Act.put, z1_, z2_, z3_, i64_w, i32_w]; rfl
      refine pure_ (i := 42) (N := some 128) (v := undef) (a' := ?_) m43_ rfl rfl (any_of HT_.out (by kernel_rfl)) (fun _ _ _ h => h) (Or.inr ⟨by rfl, rfl⟩) ?_ ?_
      rotate_left; · simp only [Act.put, z1_, z2_, z3_, i64_w, i32_w]; rfl
      refine pure_ (i := 43) (N := some 129) (v := undef) (a' := ?_) m44_ rfl rfl (any_of HT_.out (by kernel_rfl)) (fun _ _ _ h => h) (Or.inr ⟨by rfl, rfl⟩) ?_ ?_
      rotate_left; · simp only [Act.put, z1_, z2_, z3_, i64_w, i32_w]; rfl
      refine pure_ (i := 44) (N := some 130) (v := undef) (a' := ?_) m45_ rfl rfl (any_of HT_.out (by kernel_rfl)) (fun _ _ _ h => h) (Or.inr ⟨by rfl, rfl⟩) ?_ ?_
      rotate_left; · simp only [Act.put, z1_, z2_, z3_, i64_w, i32_w]; rfl
      refine pure_ (i := 45) (N := some 131) (v := undef) (a' := ?_) m46_ rfl rfl (any_of HT_.out (by kernel_rfl)) (fun _ _ _ h => h) (Or.inr ⟨by rfl, rfl⟩) ?_ ?_
      rotate_left; · simp only [Act.put, z1_, z2_, z3_, i64_w, i32_w]; rfl
      refine pure_ (i := 46) (N := some 132) (v := undef) (a' := ?_) m47_ rfl rfl (any_of HT_.out (by kernel_rfl)) (fun _ _ _ h => h) (Or.inr ⟨by rfl, rfl⟩) ?_ ?_
      rotate_left; · simp only [Act.put, z1_, z2_, z3_, i64_w, i32_w]; rfl
      refine pure_ (i := 47) (N := some 133) (v := undef) (a' := ?_) m48_ rfl rfl (any_of HT_.out (by kernel_rfl)) (fun _ _ _ h => h) (Or.inr ⟨by rfl, rfl⟩) ?_ ?_
      rotate_left; · simp only [Act.put, z1_, z2_, z3_, i64_w, i32_w]; rfl
      refine pure_ (i := 48) (N := some 134) (v := undef) (a' := ?_) m49_ rfl rfl (any_of HT_.out (by kernel_rfl)) (fun _ _ _ h => h) (Or.inr ⟨by rfl, rfl⟩) ?_ ?_
      rotate_left; · simp only [Act.put, z1_, z2_, z3_, i64_w, i32_w]; rfl
      refine pure_ (i := 49) (N := some 135) (v := undef) (a' := ?_) m50_ rfl rfl (any_of HT_.out (by kernel_rfl)) (fun _ _ _ h => h) (Or.inr ⟨by rfl, rfl⟩) ?_ ?_
      rotate_left; · simp only [Act.put, z1_, z2_, z3_, i64_w, i32_w]; rfl
      refine pure_ (i := 50) (N := some 136) (v := undef) (a' := ?_) m51_ rfl rfl (any_of HT_.out (by kernel_rfl)) (fun _ _ _ h => h) (Or.inr ⟨by rfl, rfl⟩) ?_ ?_
      rotate_left; · simp only [Act.put, z1_, z2_, z3_, i64_w, i32_w]; rfl
      refine pure_ (i := 51) (N := some 137) (v := undef) (a' := ?_) m52_ rfl rfl (any_of HT_.out (by kernel_rfl)) (fun _ _ _ h => h) (Or.inr ⟨by rfl, rfl⟩) ?_ ?_
      rotate_left; · simp only [Act.put, z1_, z2_, z3_, i64_w, i32_w]; rfl
      refine pure_ (i := 52) (N := some 138) (v := undef) (a' := ?_) m53_ rfl rfl (any_of HT_.out (by kernel_rfl)) (fun _ _ _ h => h) (Or.inr ⟨by rfl, rfl⟩) ?_ ?_
      rotate_left; · simp only [Act.put, z1_, z2_, z3_, i64_w, i32_w]; rfl
      refine pure_ (i := 53) (N := some 139) (v := ?_) (a' := ?_) m54_ rfl rfl (any_of HT_.out (by kernel_rfl)) (fun _ _ _ h => h) (Or.inl ⟨by rfl, ?_⟩) ?_ ?_
      rotate_left; · intro w'; go_simp; with_reducible rfl
      rotate_left; · simp only [Act.put, z1_, z2_, z3_, i64_w, i32_w]; rfl
      refine done_ (done_of HT_.out (by kernel_rfl)) ?_
      try go_wp2
      go_meet
      case rel => exact ⟨_, (true), (by first | rfl | (simp; done) | (simp [*]; done)), H', ⟨by first | omega | exact Nat.le_refl _⟩, ⟨by (with_reducible repeat (first | apply Kd.R_alloc | apply Kd.R_drewN | apply Kd.R_drew)); exact Kd.R_mono HO322.out (fun _ hk => trivial)⟩, ⟨by repeat (first | (with_reducible first | exact HB.out | apply below_alloc | apply pw_below_drewN | apply below_drew1) | exact HB.out)⟩⟩
  case rest => as_aux_lemma =>
   clear HC11
   try clear c2
   try clear p2
   try clear c22
   try clear c24
   obtain ⟨kq, x139_10, rfl, HA, HJ10, HO_12, HB⟩ := hcut
   cases kq with
   | zero => exact absurd HA.out (by simp [laws_FnGaps.j0])
   | succ kj10 =>
    have H := HA.out
    clear HA
    simp only [laws_FnGaps.j0] at H
    by_cases c78 : x139_10 = true
    ·subst c78
     have H1 : (some false) = some r := by rw [if_pos rfl] at H; exact H
     clear H
     have H := H1
     clear H1
     as_aux_lemma =>
      obtain rfl := Option.some.inj H
      go_wp2
      go_ret
      exact ⟨by first | rfl | (simp [errW_none, errW_some] <;> rfl) | (simp [*, errW_none, errW_some] <;> rfl), by repeat (first | (with_reducible first | exact HB.out | apply below_alloc | apply pw_below_drewN | apply below_drew1) | exact HB.out)⟩
    ·replace c78 := Bool.eq_false_iff.mpr c78
     subst c78
     have H1 : (laws_FnGaps.l0 kj10 l0 t305 t306 t308 t319 0 0) = some r := by rw [if_neg (show ¬ (false = true) by decide)] at H; exact H
     clear H
     have H := H1
     clear H1
     have H' := Aside0.mk H
     clear H
     go_wp2
     go_loopg [18, 19] kj10 (fun kq v18 v19 w' => ∃ (x18_2 : Int) (x19_2 : Int), v18 = .int .i64 x18_2 ∧ v19 = .int .i64 x19_2 ∧ Aside0 (laws_FnGaps.l0 kq l0 t305 t306 t308 t319 x18_2 x19_2 = some r) ∧ Aside0 (kq ≤ kj10) ∧ Aside0 (Kd.R (Kd.int .i64) 3 w' w.heap.size (fun _ => True) v321 t319) ∧ Aside0 (Below w.heap.size w w'))
     case atStart => exact ⟨(0), (0), (by first | rfl | (simp; done) | (simp [*]; done)), (by first | rfl | (simp; done) | (simp [*]; done)), H', ⟨Nat.le_refl _⟩, ⟨by (with_reducible repeat (first | apply Kd.R_alloc | apply Kd.R_drewN | apply Kd.R_drew)); exact HO_12.out⟩, ⟨by repeat (first | (with_reducible first | exact HB.out | apply below_alloc | apply pw_below_drewN | apply below_drew1) | exact HB.out)⟩⟩
     case round =>
      clear H'
      try clear c2
      try clear p2
      try clear c7
      try clear c22
      try clear c24
      try clear c78
      try clear p2
      obtain ⟨x18_2, x19_2, rfl, rfl, HA, HK2, HO_12, HB⟩ := hrel
      cases gk with
      | zero => exact absurd HA.out (by simp [laws_FnGaps.l0])
      | succ k2 =>
       have H := HA.out
       clear HA
       simp only [laws_FnGaps.l0] at H
       by_cases c79 : x19_2 < (t319.length : Int)
       ·rw [if_pos c79] at H
        have c79b0 : decide (x19_2 < (t319.length : Int)) = true := decide_eq_true c79
        clear c79
        by_cases c80 : 0 ≤ x19_2
        ·rw [if_pos c80] at H
         have c80b0 : decide (0 ≤ x19_2) = true := decide_eq_true c80
         clear c80
         as_aux_lemma =>
          have H' := Aside0.mk H
          clear H
          obtain ⟨Ao81, co81, eo81⟩ := Kd.R_slice HO_12.out
          subst eo81
          have p337 : 0 ≤ (x19_2 : Int) := of_decide_eq_true (by first | (with_reducible assumption) | assumption)
          have q337 : x19_2 < (t319.length : Int) := of_decide_eq_true (by first | (with_reducible assumption) | assumption)
          obtain ⟨ad337, e337, hx337_0⟩ := Kd.at_int (Kd.R_reads' HO_12.out).2.2 x19_2 p337 q337
          cases e337
          replace p337 := eq_true p337
          replace q337 := eq_true q337
          go_wp2
          go_roundg k2
          case measure => have := HJ10.out; have := HK2.out; omega
          case rel => exact ⟨(wrap64 (x18_2 + (rd t319 x19_2))), (wrap64 (x19_2 + 1)), (by first | rfl | (simp; done) | (simp [*]; done)), (by first | rfl | (simp; done) | (simp [*]; done)), H', ⟨by have := HJ10.out; have := HK2.out; omega⟩, ⟨by (with_reducible repeat (first | apply Kd.R_alloc | apply Kd.R_drewN | apply Kd.R_drew)); exact HO_12.out⟩, ⟨by repeat (first | (with_reducible first | exact HB.out | apply below_alloc | apply pw_below_drewN | apply below_drew1) | exact HB.out)⟩⟩
        ·rw [if_neg c80] at H
         exact absurd H (by simp)
       ·rw [if_neg c79] at H
        have c79b0 : decide (x19_2 < (t319.length : Int)) = false := decide_eq_false c79
        clear c79
        have HC82 := Aside0.mk H
        clear H
        obtain ⟨Ao83, co83, eo83⟩ := Kd.R_slice HO_12.out
        subst eo83
        go_upto_region 17 with (fail)
        go_cut [163] (fun v163 wc => ∃ (kq : Nat) (x163_81 : Bool), v163 = .bool x163_81 ∧ Aside0 (laws_FnGaps.j2 kq l0 x163_81 = some r) ∧ Aside0 (kq ≤ k2) ∧ Aside0 (Below w.heap.size w wc))
        case first => as_aux_lemma =>
         have H := HC82.out
         clear HC82
         by_cases c84 : t308 = true
         ·subst c84
          have H1 : (if x18_2 = t305 then (laws_FnGaps.j2 k2 l0 ((t319.length : Int) != t306)) else (laws_FnGaps.j2 k2 l0 true)) = some r := by rw [if_pos rfl] at H; exact H
          clear H
          have H := H1
          clear H1
          by_cases c85 : x18_2 = t305
          ·rw [if_pos c85] at H
           have c85b0 : (x18_2 == t305) = true := beq_iff_eq.mpr c85
           have c85b1 : (x18_2 != t305) = false := bne_eq_false_iff_eq.mpr c85
           clear c85
           (first | rw [c85b0] | (simp only [i64_w, i32_w]; rw [c85b0]) | skip)
           as_aux_lemma =>
            have H' := Aside0.mk H
            clear H
            go_wp2
            go_meet
            case rel => exact ⟨_, (((t319.length : Int) != t306)), (by first | rfl | (simp; done) | (simp [*]; done)), H', ⟨by have := HJ10.out; have := HK2.out; first | omega | exact Nat.le_refl _⟩, ⟨by repeat (first | (with_reducible first | exact HB.out | apply below_alloc | apply pw_below_drewN | apply below_drew1) | exact HB.out)⟩⟩
          ·rw [if_neg c85] at H
           have c85b0 : (x18_2 == t305) = false := beq_eq_false_iff_ne.mpr c85
           have c85b1 : (x18_2 != t305) = true := bne_iff_ne.mpr c85
           (first | rw [c85b0] | (simp only [i64_w, i32_w]; rw [c85b0]) | skip)
           as_aux_lemma =>
            have H' := Aside0.mk H
            clear H
            go_wp2
            go_meet
            case rel => exact ⟨_, (true), (by first | rfl | (simp; done) | (simp [*]; done)), H', ⟨by have := HJ10.out; have := HK2.out; first | omega | exact Nat.le_refl _⟩, ⟨by repeat (first | (with_reducible first | exact HB.out | apply below_alloc | apply pw_below_drewN | apply below_drew1) | exact HB.out)⟩⟩
         ·replace c84 := Bool.eq_false_iff.mpr c84
          subst c84
          have H1 : (laws_FnGaps.j2 k2 l0 false) = some r := by rw [if_neg (show ¬ (false = true) by decide)] at H; exact H
          clear H
          have H := H1
          clear H1
          as_aux_lemma =>
           have H' := Aside0.mk H
           clear H
           go_wp2
           go_meet
           case rel => exact ⟨_, (false), (by first | rfl | (simp; done) | (simp [*]; done)), H', ⟨by have := HJ10.out; have := HK2.out; first | omega | exact Nat.le_refl _⟩, ⟨by repeat (first | (with_reducible first | exact HB.out | apply below_alloc | apply pw_below_drewN | apply below_drew1) | exact HB.out)⟩⟩
        case rest => as_aux_lemma =>
         clear HC82
         try clear c2
         try clear p2
         try clear p3
         try clear q3
         try clear hx3
         try clear p6
         try clear c7
         try clear c8
         try clear c22
         try clear c24
         try clear p33
         try clear q33
         try clear hx33
         try clear p64
         try clear c78
         try clear c79
         try clear c79b0
         try clear c80
         try clear c80b0
         try clear c84
         try clear c85
         try clear c85b0
         try clear c85b1
         try clear hx337_0
         try clear p2
         try clear p337
         try clear q337
         obtain ⟨kq, x163_81, rfl, HA, HJ81, HB⟩ := hcut
         cases kq with
         | zero => exact absurd HA.out (by simp [laws_FnGaps.j2])
         | succ kj81 =>
          have H := HA.out
          clear HA
          simp only [laws_FnGaps.j2] at H
          by_cases c86 : x163_81 = true
          ·subst c86
           have H1 : (some false) = some r := by rw [if_pos rfl] at H; exact H
           clear H
           have H := H1
           clear H1
           as_aux_lemma =>
            obtain rfl := Option.some.inj H
            go_wp2
            go_ret
            exact ⟨by first | rfl | (simp [errW_none, errW_some] <;> rfl) | (simp [*, errW_none, errW_some] <;> rfl), by repeat (first | (with_reducible first | exact HB.out | apply below_alloc | apply pw_below_drewN | apply below_drew1) | exact HB.out)⟩
          ·replace c86 := Bool.eq_false_iff.mpr c86
           subst c86
           have H1 : ((spec_DrawNeighbourOf.f kj81 l0).bind fun bt338 => ((impl_NeighbourOf.f kj81 bt338.1 bt338.2.1 bt338.2.2.1 bt338.2.2.2).bind fun bt342 => ((spec_NeighbourOf.f kj81 bt338.1 bt338.2.1 bt338.2.2.1 bt338.2.2.2).bind fun bt344 => ((spec_DrawCutWord.f kj81 l0).bind fun bt346 => ((impl_CutWord.f kj81 bt346.1 bt346.2.1 bt346.2.2.1 bt346.2.2.2).bind fun bt350 => ((spec_CutWord.f kj81 bt346.1 bt346.2.1 bt346.2.2.1 bt346.2.2.2).bind fun bt352 => (if (bt342.2 == bt344.2) = true then (if bt342.1 = bt344.1 then (if (bt350.2 == bt352.2) = true then (if bt350.1 = bt352.1 then (if bt350.2 = true then (if bt352.1 ≥ 0 then (some (decide (bt352.1 < bt346.2.2.1))) else (some false)) else (some true)) else (some false)) else (some false)) else (some false)) else (some false)))))))) = some r := by rw [if_neg (show ¬ (false = true) by decide)] at H; exact H
           clear H
           have H := H1
           clear H1
           replace H := Option.bind_eq_some_iff.mp H
           obtain ⟨⟨t338, t339, t340, t341⟩, A870, H⟩ := H
           replace H : ((impl_NeighbourOf.f kj81 t338 t339 t340 t341).bind fun bt342 => ((spec_NeighbourOf.f kj81 t338 t339 t340 t341).bind fun bt344 => ((spec_DrawCutWord.f kj81 l0).bind fun bt346 => ((impl_CutWord.f kj81 bt346.1 bt346.2.1 bt346.2.2.1 bt346.2.2.2).bind fun bt350 => ((spec_CutWord.f kj81 bt346.1 bt346.2.1 bt346.2.2.1 bt346.2.2.2).bind fun bt352 => (if (bt342.2 == bt344.2) = true then (if bt342.1 = bt344.1 then (if (bt350.2 == bt352.2) = true then (if bt350.1 = bt352.1 then (if bt350.2 = true then (if bt352.1 ≥ 0 then (some (decide (bt352.1 < bt346.2.2.1))) else (some false)) else (some true)) else (some false)) else (some false)) else (some false)) else (some false))))))) = some r := H
           have A87 := Aside0.mk A870
           clear A870
           replace H := Option.bind_eq_some_iff.mp H
           obtain ⟨⟨t342, t343⟩, A880, H⟩ := H
           replace H : ((spec_NeighbourOf.f kj81 t338 t339 t340 t341).bind fun bt344 => ((spec_DrawCutWord.f kj81 l0).bind fun bt346 => ((impl_CutWord.f kj81 bt346.1 bt346.2.1 bt346.2.2.1 bt346.2.2.2).bind fun bt350 => ((spec_CutWord.f kj81 bt346.1 bt346.2.1 bt346.2.2.1 bt346.2.2.2).bind fun bt352 => (if (t343 == bt344.2) = true then (if t342 = bt344.1 then (if (bt350.2 == bt352.2) = true then (if bt350.1 = bt352.1 then (if bt350.2 = true then (if bt352.1 ≥ 0 then (some (decide (bt352.1 < bt346.2.2.1))) else (some false)) else (some true)) else (some false)) else (some false)) else (some false)) else (some false)))))) = some r := H
           have A88 := Aside0.mk A880
           clear A880
           replace H := Option.bind_eq_some_iff.mp H
           obtain ⟨⟨t344, t345⟩, A890, H⟩ := H
           replace H : ((spec_DrawCutWord.f kj81 l0).bind fun bt346 => ((impl_CutWord.f kj81 bt346.1 bt346.2.1 bt346.2.2.1 bt346.2.2.2).bind fun bt350 => ((spec_CutWord.f kj81 bt346.1 bt346.2.1 bt346.2.2.1 bt346.2.2.2).bind fun bt352 => (if (t343 == t345) = true then (if t342 = t344 then (if (bt350.2 == bt352.2) = true then (if bt350.1 = bt352.1 then (if bt350.2 = true then (if bt352.1 ≥ 0 then (some (decide (bt352.1 < bt346.2.2.1))) else (some false)) else (some true)) else (some false)) else (some false)) else (some false)) else (some false))))) = some r := H
           have A89 := Aside0.mk A890
           clear A890
           replace H := Option.bind_eq_some_iff.mp H
           obtain ⟨⟨t346, t347, t348, t349⟩, A900, H⟩ := H
           replace H : ((impl_CutWord.f kj81 t346 t347 t348 t349).bind fun bt350 => ((spec_CutWord.f kj81 t346 t347 t348 t349).bind fun bt352 => (if (t343 == t345) = true then (if t342 = t344 then (if (bt350.2 == bt352.2) = true then (if bt350.1 = bt352.1 then (if bt350.2 = true then (if bt352.1 ≥ 0 then (some (decide (bt352.1 < t348))) else (some false)) else (some true)) else (some false)) else (some false)) else (some false)) else (some false)))) = some r := H
           have A90 := Aside0.mk A900
           clear A900
           replace H := Option.bind_eq_some_iff.mp H
           obtain ⟨⟨t350, t351⟩, A910, H⟩ := H
           replace H : ((spec_CutWord.f kj81 t346 t347 t348 t349).bind fun bt352 => (if (t343 == t345) = true then (if t342 = t344 then (if (t351 == bt352.2) = true then (if t350 = bt352.1 then (if t351 = true then (if bt352.1 ≥ 0 then (some (decide (bt352.1 < t348))) else (some false)) else (some true)) else (some false)) else (some false)) else (some false)) else (some false))) = some r := H
           have A91 := Aside0.mk A910
           clear A910
           replace H := Option.bind_eq_some_iff.mp H
           obtain ⟨⟨t352, t353⟩, A920, H⟩ := H
           replace H : (if (t343 == t345) = true then (if t342 = t344 then (if (t351 == t353) = true then (if t350 = t352 then (if t351 = true then (if t352 ≥ 0 then (some (decide (t352 < t348))) else (some false)) else (some true)) else (some false)) else (some false)) else (some false)) else (some false)) = some r := H
           have A92 := Aside0.mk A920
           clear A920
           by_cases c93 : (t343 == t345) = true
           ·rw [if_pos c93] at H
            have c93b0 : (t343 == t345) = true := c93
            (try (have c93b1 : decide (t343 = t345) = true := by simpa using c93))
            (try (have c93b2 : (t343 == t345) = true := by simpa using c93))
            clear c93
            by_cases c94 : t342 = t344
            ·rw [if_pos c94] at H
             have c94b0 : (t342 == t344) = true := beq_iff_eq.mpr c94
             have c94b1 : (t342 != t344) = false := bne_eq_false_iff_eq.mpr c94
             clear c94
             by_cases c95 : (t351 == t353) = true
             ·rw [if_pos c95] at H
              have c95b0 : (t351 == t353) = true := c95
              (try (have c95b1 : decide (t351 = t353) = true := by simpa using c95))
              (try (have c95b2 : (t351 == t353) = true := by simpa using c95))
              clear c95
              by_cases c96 : t350 = t352
              ·rw [if_pos c96] at H
               have c96b0 : (t350 == t352) = true := beq_iff_eq.mpr c96
               have c96b1 : (t350 != t352) = false := bne_eq_false_iff_eq.mpr c96
               clear c96
               by_cases c97 : t351 = true
               ·subst c97
                have H1 : (if t352 ≥ 0 then (some (decide (t352 < t348))) else (some false)) = some r := by rw [if_pos rfl] at H; exact H
                clear H
                have H := H1
                clear H1
                by_cases c98 : t352 ≥ 0
                ·rw [if_pos c98] at H
                 have c98b0 : decide (0 ≤ t352) = true := decide_eq_true c98
                 clear c98
                 as_aux_lemma =>
                  obtain rfl := Option.some.inj H
                  go_wp2_with (first | ((with_reducible refine gate_callee (f := 25) rfl ?_); refine goesL_ (some 166) rfl rfl Try.func25 (by kernel_rfl) rfl #[.slice A0 l0.length c0] rfl (by (try simp only [List.map_toArray, List.map_cons, List.map_nil]); first | done | rfl | (simp only [List.length_drop, List.length_take]; rfl)) ?_; (with_reducible refine (spec_DrawNeighbourOf.calls kj81 _ _ l0 t338 t339 t340 t341 _ ?side1 ?side2 A87.out).mono ?_); (case side1 => repeat (first | exact (Kd.C_below HR0.out HB.out) | (with_reducible refine Kd.C_alloc ?_ _) | (with_reducible refine Kd.C_drewN ?_ _) | (with_reducible refine Kd.C_drew ?_))); (case side2 => exact HC0.out); rintro e w99 ⟨rfl, hb⟩; refine ⟨_, rfl, ?_⟩; have n0_ := Aside0.mk (below_step (by repeat (first | (with_reducible first | exact HB.out | apply below_alloc | apply pw_below_drewN | apply below_drew1) | exact HB.out)) hb); clear HB; have HB := n0_; clear n0_; (try clear hb); (try clear hb2); (try clear hk); (try clear hi)) | ((with_reducible refine gate_callee (f := 10) rfl ?_); refine goesL_ (some 176) rfl rfl Try.func10 (by kernel_rfl) rfl #[.int .i64 t338, .int .i64 t339, .int .i64 t340, .int .i64 t341] rfl (by (try simp only [List.map_toArray, List.map_cons, List.map_nil]); first | done | rfl | (simp only [List.length_drop, List.length_take]; rfl)) ?_; (with_reducible refine (impl_NeighbourOf.calls kj81 t338 t339 t340 t341 t342 t343 _ A88.out).mono ?_); rintro e w100 ⟨rfl, hb⟩; refine ⟨_, rfl, ?_⟩; have n0_ := Aside0.mk (below_step (by repeat (first | (with_reducible first | exact HB.out | apply below_alloc | apply pw_below_drewN | apply below_drew1) | exact HB.out)) hb); clear HB; have HB := n0_; clear n0_; (try clear hb); (try clear hb2); (try clear hk); (try clear hi)) | ((with_reducible refine gate_callee (f := 9) rfl ?_); refine goesL_ (some 184) rfl rfl Try.func9 (by kernel_rfl) rfl #[.int .i64 t338, .int .i64 t339, .int .i64 t340, .int .i64 t341] rfl (by (try simp only [List.map_toArray, List.map_cons, List.map_nil]); first | done | rfl | (simp only [List.length_drop, List.length_take]; rfl)) ?_; (with_reducible refine (spec_NeighbourOf.calls kj81 t338 t339 t340 t341 t344 t345 _ A89.out).mono ?_); rintro e w' ⟨rfl, ⟨nd, rfl⟩⟩; refine ⟨_, rfl, ?_⟩) | ((with_reducible refine gate_callee (f := 26) rfl ?_); refine goesL_ (some 189) rfl rfl Try.func26 (by kernel_rfl) rfl #[.slice A0 l0.length c0] rfl (by (try simp only [List.map_toArray, List.map_cons, List.map_nil]); first | done | rfl | (simp only [List.length_drop, List.length_take]; rfl)) ?_; (with_reducible refine (spec_DrawCutWord.calls kj81 _ _ l0 t346 t347 t348 t349 _ ?side1 ?side2 A90.out).mono ?_); (case side1 => repeat (first | exact (Kd.C_below HR0.out (by repeat (first | (with_reducible first | exact HB.out | apply below_alloc | apply pw_below_drewN | apply below_drew1) | exact HB.out))) | (with_reducible refine Kd.C_alloc ?_ _) | (with_reducible refine Kd.C_drewN ?_ _) | (with_reducible refine Kd.C_drew ?_))); (case side2 => exact HC0.out); rintro e w101 ⟨rfl, hb⟩; refine ⟨_, rfl, ?_⟩; have n0_ := Aside0.mk (below_step (by repeat (first | (with_reducible first | exact HB.out | apply below_alloc | apply pw_below_drewN | apply below_drew1) | exact HB.out)) hb); clear HB; have HB := n0_; clear n0_; (try clear hb); (try clear hb2); (try clear hk); (try clear hi)) | ((with_reducible refine gate_callee (f := 12) rfl ?_); refine goesL_ (some 199) rfl rfl Try.func12 (by kernel_rfl) rfl #[.int .i64 t346, .int .i64 t347, .int .i64 t348, .int .i64 t349] rfl (by (try simp only [List.map_toArray, List.map_cons, List.map_nil]); first | done | rfl | (simp only [List.length_drop, List.length_take]; rfl)) ?_; (with_reducible refine (impl_CutWord.calls kj81 t346 t347 t348 t349 t350 true _ A91.out).mono ?_); rintro e w102 ⟨rfl, hb⟩; refine ⟨_, rfl, ?_⟩; have n0_ := Aside0.mk (below_step (by repeat (first | (with_reducible first | exact HB.out | apply below_alloc | apply pw_below_drewN | apply below_drew1) | exact HB.out)) hb); clear HB; have HB := n0_; clear n0_; (try clear hb); (try clear hb2); (try clear hk); (try clear hi)) | ((with_reducible refine gate_callee (f := 11) rfl ?_); refine goesL_ (some 207) rfl rfl Try.func11 (by kernel_rfl) rfl #[.int .i64 t346, .int .i64 t347, .int .i64 t348, .int .i64 t349] rfl (by (try simp only [List.map_toArray, List.map_cons, List.map_nil]); first | done | rfl | (simp only [List.length_drop, List.length_take]; rfl)) ?_; (with_reducible refine (spec_CutWord.calls kj81 t346 t347 t348 t349 t352 t353 _ A92.out).mono ?_); rintro e w103 ⟨rfl, hb⟩; refine ⟨_, rfl, ?_⟩; have n0_ := Aside0.mk (below_step (by repeat (first | (with_reducible first | exact HB.out | apply below_alloc | apply pw_below_drewN | apply below_drew1) | exact HB.out)) hb); clear HB; have HB := n0_; clear n0_; (try clear hb); (try clear hb2); (try clear hk); (try clear hi)))
                  go_ret
                  exact ⟨by first | rfl | (simp [errW_none, errW_some] <;> rfl) | (simp [*, errW_none, errW_some] <;> rfl), by repeat (first | (with_reducible first | exact HB.out | apply below_alloc | apply pw_below_drewN | apply below_drew1) | exact HB.out)⟩
                ·rw [if_neg c98] at H
                 have c98b0 : decide (0 ≤ t352) = false := decide_eq_false c98
                 clear c98
                 as_aux_lemma =>
                  obtain rfl := Option.some.inj H
                  go_wp2_with (first | ((with_reducible refine gate_callee (f := 25) rfl ?_); refine goesL_ (some 166) rfl rfl Try.func25 (by kernel_rfl) rfl #[.slice A0 l0.length c0] rfl (by (try simp only [List.map_toArray, List.map_cons, List.map_nil]); first | done | rfl | (simp only [List.length_drop, List.length_take]; rfl)) ?_; (with_reducible refine (spec_DrawNeighbourOf.calls kj81 _ _ l0 t338 t339 t340 t341 _ ?side1 ?side2 A87.out).mono ?_); (case side1 => repeat (first | exact (Kd.C_below HR0.out HB.out) | (with_reducible refine Kd.C_alloc ?_ _) | (with_reducible refine Kd.C_drewN ?_ _) | (with_reducible refine Kd.C_drew ?_))); (case side2 => exact HC0.out); rintro e w104 ⟨rfl, hb⟩; refine ⟨_, rfl, ?_⟩; have n0_ := Aside0.mk (below_step (by repeat (first | (with_reducible first | exact HB.out | apply below_alloc | apply pw_below_drewN | apply below_drew1) | exact HB.out)) hb); clear HB; have HB := n0_; clear n0_; (try clear hb); (try clear hb2); (try clear hk); (try clear hi)) | ((with_reducible refine gate_callee (f := 10) rfl ?_); refine goesL_ (some 176) rfl rfl Try.func10 (by kernel_rfl) rfl #[.int .i64 t338, .int .i64 t339, .int .i64 t340, .int .i64 t341] rfl (by (try simp only [List.map_toArray, List.map_cons, List.map_nil]); first | done | rfl | (simp only [List.length_drop, List.length_take]; rfl)) ?_; (with_reducible refine (impl_NeighbourOf.calls kj81 t338 t339 t340 t341 t342 t343 _ A88.out).mono ?_); rintro e w105 ⟨rfl, hb⟩; refine ⟨_, rfl, ?_⟩; have n0_ := Aside0.mk (below_step (by repeat (first | (with_reducible first | exact HB.out | apply below_alloc | apply pw_below_drewN | apply below_drew1) | exact HB.out)) hb); clear HB; have HB := n0_; clear n0_; (try clear hb); (try clear hb2); (try clear hk); (try clear hi)) | ((with_reducible refine gate_callee (f := 9) rfl ?_); refine goesL_ (some 184) rfl rfl Try.func9 (by kernel_rfl) rfl #[.int .i64 t338, .int .i64 t339, .int .i64 t340, .int .i64 t341] rfl (by (try simp only [List.map_toArray, List.map_cons, List.map_nil]); first | done | rfl | (simp only [List.length_drop, List.length_take]; rfl)) ?_; (with_reducible refine (spec_NeighbourOf.calls kj81 t338 t339 t340 t341 t344 t345 _ A89.out).mono ?_); rintro e w' ⟨rfl, ⟨nd, rfl⟩⟩; refine ⟨_, rfl, ?_⟩) | ((with_reducible refine gate_callee (f := 26) rfl ?_); refine goesL_ (some 189) rfl rfl Try.func26 (by kernel_rfl) rfl #[.slice A0 l0.length c0] rfl (by (try simp only [List.map_toArray, List.map_cons, List.map_nil]); first | done | rfl | (simp only [List.length_drop, List.length_take]; rfl)) ?_; (with_reducible refine (spec_DrawCutWord.calls kj81 _ _ l0 t346 t347 t348 t349 _ ?side1 ?side2 A90.out).mono ?_); (case side1 => repeat (first | exact (Kd.C_below HR0.out (by repeat (first | (with_reducible first | exact HB.out | apply below_alloc | apply pw_below_drewN | apply below_drew1) | exact HB.out))) | (with_reducible refine Kd.C_alloc ?_ _) | (with_reducible refine Kd.C_drewN ?_ _) | (with_reducible refine Kd.C_drew ?_))); (case side2 => exact HC0.out); rintro e w106 ⟨rfl, hb⟩; refine ⟨_, rfl, ?_⟩; have n0_ := Aside0.mk (below_step (by repeat (first | (with_reducible first | exact HB.out | apply below_alloc | apply pw_below_drewN | apply below_drew1) | exact HB.out)) hb); clear HB; have HB := n0_; clear n0_; (try clear hb); (try clear hb2); (try clear hk); (try clear hi)) | ((with_reducible refine gate_callee (f := 12) rfl ?_); refine goesL_ (some 199) rfl rfl Try.func12 (by kernel_rfl) rfl #[.int .i64 t346, .int .i64 t347, .int .i64 t348, .int .i64 t349] rfl (by (try simp only [List.map_toArray, List.map_cons, List.map_nil]); first | done | rfl | (simp only [List.length_drop, List.length_take]; rfl)) ?_; (with_reducible refine (impl_CutWord.calls kj81 t346 t347 t348 t349 t350 true _ A91.out).mono ?_); rintro e w107 ⟨rfl, hb⟩; refine ⟨_, rfl, ?_⟩; have n0_ := Aside0.mk (below_step (by repeat (first | (with_reducible first | exact HB.out | apply below_alloc | apply pw_below_drewN | apply below_drew1) | exact HB.out)) hb); clear HB; have HB := n0_; clear n0_; (try clear hb); (try clear hb2); (try clear hk); (try clear hi)) | ((with_reducible refine gate_callee (f := 11) rfl ?_); refine goesL_ (some 207) rfl rfl Try.func11 (by kernel_rfl) rfl #[.int .i64 t346, .int .i64 t347, .int .i64 t348, .int .i64 t349] rfl (by (try simp only [List.map_toArray, List.map_cons, List.map_nil]); first | done | rfl | (simp only [List.length_drop, List.length_take]; rfl)) ?_; (with_reducible refine (spec_CutWord.calls kj81 t346 t347 t348 t349 t352 t353 _ A92.out).mono ?_); rintro e w108 ⟨rfl, hb⟩; refine ⟨_, rfl, ?_⟩; have n0_ := Aside0.mk (below_step (by repeat (first | (with_reducible first | exact HB.out | apply below_alloc | apply pw_below_drewN | apply below_drew1) | exact HB.out)) hb); clear HB; have HB := n0_; clear n0_; (try clear hb); (try clear hb2); (try clear hk); (try clear hi)))
                  go_ret
                  exact ⟨by first | rfl | (simp [errW_none, errW_some] <;> rfl) | (simp [*, errW_none, errW_some] <;> rfl), by repeat (first | (with_reducible first | exact HB.out | apply below_alloc | apply pw_below_drewN | apply below_drew1) | exact HB.out)⟩
               ·replace c97 := Bool.eq_false_iff.mpr c97
                subst c97
                have H1 : (some true) = some r := by rw [if_neg (show ¬ (false = true) by decide)] at H; exact H
                clear H
                have H := H1
                clear H1
                as_aux_lemma =>
                 obtain rfl := Option.some.inj H
                 go_wp2_with (first | ((with_reducible refine gate_callee (f := 25) rfl ?_); refine goesL_ (some 166) rfl rfl Try.func25 (by kernel_rfl) rfl #[.slice A0 l0.length c0] rfl (by (try simp only [List.map_toArray, List.map_cons, List.map_nil]); first | done | rfl | (simp only [List.length_drop, List.length_take]; rfl)) ?_; (with_reducible refine (spec_DrawNeighbourOf.calls kj81 _ _ l0 t338 t339 t340 t341 _ ?side1 ?side2 A87.out).mono ?_); (case side1 => repeat (first | exact (Kd.C_below HR0.out HB.out) | (with_reducible refine Kd.C_alloc ?_ _) | (with_reducible refine Kd.C_drewN ?_ _) | (with_reducible refine Kd.C_drew ?_))); (case side2 => exact HC0.out); rintro e w109 ⟨rfl, hb⟩; refine ⟨_, rfl, ?_⟩; have n0_ := Aside0.mk (below_step (by repeat (first | (with_reducible first | exact HB.out | apply below_alloc | apply pw_below_drewN | apply below_drew1) | exact HB.out)) hb); clear HB; have HB := n0_; clear n0_; (try clear hb); (try clear hb2); (try clear hk); (try clear hi)) | ((with_reducible refine gate_callee (f := 10) rfl ?_); refine goesL_ (some 176) rfl rfl Try.func10 (by kernel_rfl) rfl #[.int .i64 t338, .int .i64 t339, .int .i64 t340, .int .i64 t341] rfl (by (try simp only [List.map_toArray, List.map_cons, List.map_nil]); first | done | rfl | (simp only [List.length_drop, List.length_take]; rfl)) ?_; (with_reducible refine (impl_NeighbourOf.calls kj81 t338 t339 t340 t341 t342 t343 _ A88.out).mono ?_); rintro e w110 ⟨rfl, hb⟩; refine ⟨_, rfl, ?_⟩; have n0_ := Aside0.mk (below_step (by repeat (first | (with_reducible first | exact HB.out | apply below_alloc | apply pw_below_drewN | apply below_drew1) | exact HB.out)) hb); clear HB; have HB := n0_; clear n0_; (try clear hb); (try clear hb2); (try clear hk); (try clear hi)) | ((with_reducible refine gate_callee (f := 9) rfl ?_); refine goesL_ (some 184) rfl rfl Try.func9 (by kernel_rfl) rfl #[.int .i64 t338, .int .i64 t339, .int .i64 t340, .int .i64 t341] rfl (by (try simp only [List.map_toArray, List.map_cons, List.map_nil]); first | done | rfl | (simp only [List.length_drop, List.length_take]; rfl)) ?_; (with_reducible refine (spec_NeighbourOf.calls kj81 t338 t339 t340 t341 t344 t345 _ A89.out).mono ?_); rintro e w' ⟨rfl, ⟨nd, rfl⟩⟩; refine ⟨_, rfl, ?_⟩) | ((with_reducible refine gate_callee (f := 26) rfl ?_); refine goesL_ (some 189) rfl rfl Try.func26 (by kernel_rfl) rfl #[.slice A0 l0.length c0] rfl (by (try simp only [List.map_toArray, List.map_cons, List.map_nil]); first | done | rfl | (simp only [List.length_drop, List.length_take]; rfl)) ?_; (with_reducible refine (spec_DrawCutWord.calls kj81 _ _ l0 t346 t347 t348 t349 _ ?side1 ?side2 A90.out).mono ?_); (case side1 => repeat (first | exact (Kd.C_below HR0.out (by repeat (first | (with_reducible first | exact HB.out | apply below_alloc | apply pw_below_drewN | apply below_drew1) | exact HB.out))) | (with_reducible refine Kd.C_alloc ?_ _) | (with_reducible refine Kd.C_drewN ?_ _) | (with_reducible refine Kd.C_drew ?_))); (case side2 => exact HC0.out); rintro e w111 ⟨rfl, hb⟩; refine ⟨_, rfl, ?_⟩; have n0_ := Aside0.mk (below_step (by repeat (first | (with_reducible first | exact HB.out | apply below_alloc | apply pw_below_drewN | apply below_drew1) | exact HB.out)) hb); clear HB; have HB := n0_; clear n0_; (try clear hb); (try clear hb2); (try clear hk); (try clear hi)) | ((with_reducible refine gate_callee (f := 12) rfl ?_); refine goesL_ (some 199) rfl rfl Try.func12 (by kernel_rfl) rfl #[.int .i64 t346, .int .i64 t347, .int .i64 t348, .int .i64 t349] rfl (by (try simp only [List.map_toArray, List.map_cons, List.map_nil]); first | done | rfl | (simp only [List.length_drop, List.length_take]; rfl)) ?_; (with_reducible refine (impl_CutWord.calls kj81 t346 t347 t348 t349 t350 false _ A91.out).mono ?_); rintro e w112 ⟨rfl, hb⟩; refine ⟨_, rfl, ?_⟩; have n0_ := Aside0.mk (below_step (by repeat (first | (with_reducible first | exact HB.out | apply below_alloc | apply pw_below_drewN | apply below_drew1) | exact HB.out)) hb); clear HB; have HB := n0_; clear n0_; (try clear hb); (try clear hb2); (try clear hk); (try clear hi)) | ((with_reducible refine gate_callee (f := 11) rfl ?_); refine goesL_ (some 207) rfl rfl Try.func11 (by kernel_rfl) rfl #[.int .i64 t346, .int .i64 t347, .int .i64 t348, .int .i64 t349] rfl (by (try simp only [List.map_toArray, List.map_cons, List.map_nil]); first | done | rfl | (simp only [List.length_drop, List.length_take]; rfl)) ?_; (with_reducible refine (spec_CutWord.calls kj81 t346 t347 t348 t349 t352 t353 _ A92.out).mono ?_); rintro e w113 ⟨rfl, hb⟩; refine ⟨_, rfl, ?_⟩; have n0_ := Aside0.mk (below_step (by repeat (first | (with_reducible first | exact HB.out | apply below_alloc | apply pw_below_drewN | apply below_drew1) | exact HB.out)) hb); clear HB; have HB := n0_; clear n0_; (try clear hb); (try clear hb2); (try clear hk); (try clear hi)))
                 go_ret
                 exact ⟨by first | rfl | (simp [errW_none, errW_some] <;> rfl) | (simp [*, errW_none, errW_some] <;> rfl), by repeat (first | (with_reducible first | exact HB.out | apply below_alloc | apply pw_below_drewN | apply below_drew1) | exact HB.out)⟩
              ·rw [if_neg c96] at H
               have c96b0 : (t350 == t352) = false := beq_eq_false_iff_ne.mpr c96
               have c96b1 : (t350 != t352) = true := bne_iff_ne.mpr c96
               as_aux_lemma =>
                obtain rfl := Option.some.inj H
                go_wp2_with (first | ((with_reducible refine gate_callee (f := 25) rfl ?_); refine goesL_ (some 166) rfl rfl Try.func25 (by kernel_rfl) rfl #[.slice A0 l0.length c0] rfl (by (try simp only [List.map_toArray, List.map_cons, List.map_nil]); first | done | rfl | (simp only [List.length_drop, List.length_take]; rfl)) ?_; (with_reducible refine (spec_DrawNeighbourOf.calls kj81 _ _ l0 t338 t339 t340 t341 _ ?side1 ?side2 A87.out).mono ?_); (case side1 => repeat (first | exact (Kd.C_below HR0.out HB.out) | (with_reducible refine Kd.C_alloc ?_ _) | (with_reducible refine Kd.C_drewN ?_ _) | (with_reducible refine Kd.C_drew ?_))); (case side2 => exact HC0.out); rintro e w114 ⟨rfl, hb⟩; refine ⟨_, rfl, ?_⟩; have n0_ := Aside0.mk (below_step (by repeat (first | (with_reducible first | exact HB.out | apply below_alloc | apply pw_below_drewN | apply below_drew1) | exact HB.out)) hb); clear HB; have HB := n0_; clear n0_; (try clear hb); (try clear hb2); (try clear hk); (try clear hi)) | ((with_reducible refine gate_callee (f := 10) rfl ?_); refine goesL_ (some 176) rfl rfl Try.func10 (by kernel_rfl) rfl #[.int .i64 t338, .int .i64 t339, .int .i64 t340, .int .i64 t341] rfl (by (try simp only [List.map_toArray, List.map_cons, List.map_nil]); first | done | rfl | (simp only [List.length_drop, List.length_take]; rfl)) ?_; (with_reducible refine (impl_NeighbourOf.calls kj81 t338 t339 t340 t341 t342 t343 _ A88.out).mono ?_); rintro e w115 ⟨rfl, hb⟩; refine ⟨_, rfl, ?_⟩; have n0_ := Aside0.mk (below_step (by repeat (first | (with_reducible first | exact HB.out | apply below_alloc | apply pw_below_drewN | apply below_drew1) | exact HB.out)) hb); clear HB; have HB := n0_; clear n0_; (try clear hb); (try clear hb2); (try clear hk); (try clear hi)) | ((with_reducible refine gate_callee (f := 9) rfl ?_); refine goesL_ (some 184) rfl rfl Try.func9 (by kernel_rfl) rfl #[.int .i64 t338, .int .i64 t339, .int .i64 t340, .int .i64 t341] rfl (by (try simp only [List.map_toArray, List.map_cons, List.map_nil]); first | done | rfl | (simp only [List.length_drop, List.length_take]; rfl)) ?_; (with_reducible refine (spec_NeighbourOf.calls kj81 t338 t339 t340 t341 t344 t345 _ A89.out).mono ?_); rintro e w' ⟨rfl, ⟨nd, rfl⟩⟩; refine ⟨_, rfl, ?_⟩) | ((with_reducible refine gate_callee (f := 26) rfl ?_); refine goesL_ (some 189) rfl rfl Try.func26 (by kernel_rfl) rfl #[.slice A0 l0.length c0] rfl (by (try simp only [List.map_toArray, List.map_cons, List.map_nil]); first | done | rfl | (simp only [List.length_drop, List.length_take]; rfl)) ?_; (with_reducible refine (spec_DrawCutWord.calls kj81 _ _ l0 t346 t347 t348 t349 _ ?side1 ?side2 A90.out).mono ?_); (case side1 => repeat (first | exact (Kd.C_below HR0.out (by repeat (first | (with_reducible first | exact HB.out | apply below_alloc | apply pw_below_drewN | apply below_drew1) | exact HB.out))) | (with_reducible refine Kd.C_alloc ?_ _) | (with_reducible refine Kd.C_drewN ?_ _) | (with_reducible refine Kd.C_drew ?_))); (case side2 => exact HC0.out); rintro e w116 ⟨rfl, hb⟩; refine ⟨_, rfl, ?_⟩; have n0_ := Aside0.mk (below_step (by repeat (first | (with_reducible first | exact HB.out | apply below_alloc | apply pw_below_drewN | apply below_drew1) | exact HB.out)) hb); clear HB; have HB := n0_; clear n0_; (try clear hb); (try clear hb2); (try clear hk); (try clear hi)) | ((with_reducible refine gate_callee (f := 12) rfl ?_); refine goesL_ (some 199) rfl rfl Try.func12 (by kernel_rfl) rfl #[.int .i64 t346, .int .i64 t347, .int .i64 t348, .int .i64 t349] rfl (by (try simp only [List.map_toArray, List.map_cons, List.map_nil]); first | done | rfl | (simp only [List.length_drop, List.length_take]; rfl)) ?_; (with_reducible refine (impl_CutWord.calls kj81 t346 t347 t348 t349 t350 t351 _ A91.out).mono ?_); rintro e w117 ⟨rfl, hb⟩; refine ⟨_, rfl, ?_⟩; have n0_ := Aside0.mk (below_step (by repeat (first | (with_reducible first | exact HB.out | apply below_alloc | apply pw_below_drewN | apply below_drew1) | exact HB.out)) hb); clear HB; have HB := n0_; clear n0_; (try clear hb); (try clear hb2); (try clear hk); (try clear hi)) | ((with_reducible refine gate_callee (f := 11) rfl ?_); refine goesL_ (some 207) rfl rfl Try.func11 (by kernel_rfl) rfl #[.int .i64 t346, .int .i64 t347, .int .i64 t348, .int .i64 t349] rfl (by (try simp only [List.map_toArray, List.map_cons, List.map_nil]); first | done | rfl | (simp only [List.length_drop, List.length_take]; rfl)) ?_; (with_reducible refine (spec_CutWord.calls kj81 t346 t347 t348 t349 t352 t353 _ A92.out).mono ?_); rintro e w118 ⟨rfl, hb⟩; refine ⟨_, rfl, ?_⟩; have n0_ := Aside0.mk (below_step (by repeat (first | (with_reducible first | exact HB.out | apply below_alloc | apply pw_below_drewN | apply below_drew1) | exact HB.out)) hb); clear HB; have HB := n0_; clear n0_; (try clear hb); (try clear hb2); (try clear hk); (try clear hi)))
                go_ret
                exact ⟨by first | rfl | (simp [errW_none, errW_some] <;> rfl) | (simp [*, errW_none, errW_some] <;> rfl), by repeat (first | (with_reducible first | exact HB.out | apply below_alloc | apply pw_below_drewN | apply below_drew1) | exact HB.out)⟩
             ·rw [if_neg c95] at H
              have c95b0 : (t351 == t353) = false := by simpa using c95
              (try (have c95b1 : decide (t351 = t353) = false := by simpa using c95))
              (try (have c95b2 : (t351 == t353) = false := by simpa using c95))
              (try (have c95b3 : ¬ (t351 = t353) := by simpa using c95))
              clear c95
              as_aux_lemma =>
               obtain rfl := Option.some.inj H
               go_wp2_with (first | ((with_reducible refine gate_callee (f := 25) rfl ?_); refine goesL_ (some 166) rfl rfl Try.func25 (by kernel_rfl) rfl #[.slice A0 l0.length c0] rfl (by (try simp only [List.map_toArray, List.map_cons, List.map_nil]); first | done | rfl | (simp only [List.length_drop, List.length_take]; rfl)) ?_; (with_reducible refine (spec_DrawNeighbourOf.calls kj81 _ _ l0 t338 t339 t340 t341 _ ?side1 ?side2 A87.out).mono ?_); (case side1 => repeat (first | exact (Kd.C_below HR0.out HB.out) | (with_reducible refine Kd.C_alloc ?_ _) | (with_reducible refine Kd.C_drewN ?_ _) | (with_reducible refine Kd.C_drew ?_))); (case side2 => exact HC0.out); rintro e w119 ⟨rfl, hb⟩; refine ⟨_, rfl, ?_⟩; have n0_ := Aside0.mk (below_step (by repeat (first | (with_reducible first | exact HB.out | apply below_alloc | apply pw_below_drewN | apply below_drew1) | exact HB.out)) hb); clear HB; have HB := n0_; clear n0_; (try clear hb); (try clear hb2); (try clear hk); (try clear hi)) | ((with_reducible refine gate_callee (f := 10) rfl ?_); refine goesL_ (some 176) rfl rfl Try.func10 (by kernel_rfl) rfl #[.int .i64 t338, .int .i64 t339, .int .i64 t340, .int .i64 t341] rfl (by (try simp only [List.map_toArray, List.map_cons, List.map_nil]); first | done | rfl | (simp only [List.length_drop, List.length_take]; rfl)) ?_; (with_reducible refine (impl_NeighbourOf.calls kj81 t338 t339 t340 t341 t342 t343 _ A88.out).mono ?_); rintro e w120 ⟨rfl, hb⟩; refine ⟨_, rfl, ?_⟩; have n0_ := Aside0.mk (below_step (by repeat (first | (with_reducible first | exact HB.out | apply below_alloc | apply pw_below_drewN | apply below_drew1) | exact HB.out)) hb); clear HB; have HB := n0_; clear n0_; (try clear hb); (try clear hb2); (try clear hk); (try clear hi)) | ((with_reducible refine gate_callee (f := 9) rfl ?_); refine goesL_ (some 184) rfl rfl Try.func9 (by kernel_rfl) rfl #[.int .i64 t338, .int .i64 t339, .int .i64 t340, .int .i64 t341] rfl (by (try simp only [List.map_toArray, List.map_cons, List.map_nil]); first | done | rfl | (simp only [List.length_drop, List.length_take]; rfl)) ?_; (with_reducible refine (spec_NeighbourOf.calls kj81 t338 t339 t340 t341 t344 t345 _ A89.out).mono ?_); rintro e w' ⟨rfl, ⟨nd, rfl⟩⟩; refine ⟨_, rfl, ?_⟩) | ((with_reducible refine gate_callee (f := 26) rfl ?_); refine goesL_ (some 189) rfl rfl Try.func26 (by kernel_rfl) rfl #[.slice A0 l0.length c0] rfl (by (try simp only [List.map_toArray, List.map_cons, List.map_nil]); first | done | rfl | (simp only [List.length_drop, List.length_take]; rfl)) ?_; (with_reducible refine (spec_DrawCutWord.calls kj81 _ _ l0 t346 t347 t348 t349 _ ?side1 ?side2 A90.out).mono ?_); (case side1 => repeat (first | exact (Kd.C_below HR0.out (by repeat (first | (with_reducible first | exact HB.out | apply below_alloc | apply pw_below_drewN | apply below_drew1) | exact HB.out))) | (with_reducible refine Kd.C_alloc ?_ _) | (with_reducible refine Kd.C_drewN ?_ _) | (with_reducible refine Kd.C_drew ?_))); (case side2 => exact HC0.out); rintro e w121 ⟨rfl, hb⟩; refine ⟨_, rfl, ?_⟩; have n0_ := Aside0.mk (below_step (by repeat (first | (with_reducible first | exact HB.out | apply below_alloc | apply pw_below_drewN | apply below_drew1) | exact HB.out)) hb); clear HB; have HB := n0_; clear n0_; (try clear hb); (try clear hb2); (try clear hk); (try clear hi)) | ((with_reducible refine gate_callee (f := 12) rfl ?_); refine goesL_ (some 199) rfl rfl Try.func12 (by kernel_rfl) rfl #[.int .i64 t346, .int .i64 t347, .int .i64 t348, .int .i64 t349] rfl (by (try simp only [List.map_toArray, List.map_cons, List.map_nil]); first | done | rfl | (simp only [List.length_drop, List.length_take]; rfl)) ?_; (with_reducible refine (impl_CutWord.calls kj81 t346 t347 t348 t349 t350 t351 _ A91.out).mono ?_); rintro e w122 ⟨rfl, hb⟩; refine ⟨_, rfl, ?_⟩; have n0_ := Aside0.mk (below_step (by repeat (first | (with_reducible first | exact HB.out | apply below_alloc | apply pw_below_drewN | apply below_drew1) | exact HB.out)) hb); clear HB; have HB := n0_; clear n0_; (try clear hb); (try clear hb2); (try clear hk); (try clear hi)) | ((with_reducible refine gate_callee (f := 11) rfl ?_); refine goesL_ (some 207) rfl rfl Try.func11 (by kernel_rfl) rfl #[.int .i64 t346, .int .i64 t347, .int .i64 t348, .int .i64 t349] rfl (by (try simp only [List.map_toArray, List.map_cons, List.map_nil]); first | done | rfl | (simp only [List.length_drop, List.length_take]; rfl)) ?_; (with_reducible refine (spec_CutWord.calls kj81 t346 t347 t348 t349 t352 t353 _ A92.out).mono ?_); rintro e w123 ⟨rfl, hb⟩; refine ⟨_, rfl, ?_⟩; have n0_ := Aside0.mk (below_step (by repeat (first | (with_reducible first | exact HB.out | apply below_alloc | apply pw_below_drewN | apply below_drew1) | exact HB.out)) hb); clear HB; have HB := n0_; clear n0_; (try clear hb); (try clear hb2); (try clear hk); (try clear hi)))
               go_ret
               exact ⟨by first | rfl | (simp [errW_none, errW_some] <;> rfl) | (simp [*, errW_none, errW_some] <;> rfl), by repeat (first | (with_reducible first | exact HB.out | apply below_alloc | apply pw_below_drewN | apply below_drew1) | exact HB.out)⟩
            ·rw [if_neg c94] at H
             have c94b0 : (t342 == t344) = false := beq_eq_false_iff_ne.mpr c94
             have c94b1 : (t342 != t344) = true := bne_iff_ne.mpr c94
             as_aux_lemma =>
              obtain rfl := Option.some.inj H
              go_wp2_with (first | ((with_reducible refine gate_callee (f := 25) rfl ?_); refine goesL_ (some 166) rfl rfl Try.func25 (by kernel_rfl) rfl #[.slice A0 l0.length c0] rfl (by (try simp only [List.map_toArray, List.map_cons, List.map_nil]); first | done | rfl | (simp only [List.length_drop, List.length_take]; rfl)) ?_; (with_reducible refine (spec_DrawNeighbourOf.calls kj81 _ _ l0 t338 t339 t340 t341 _ ?side1 ?side2 A87.out).mono ?_); (case side1 => repeat (first | exact (Kd.C_below HR0.out HB.out) | (with_reducible refine Kd.C_alloc ?_ _) | (with_reducible refine Kd.C_drewN ?_ _) | (with_reducible refine Kd.C_drew ?_))); (case side2 => exact HC0.out); rintro e w124 ⟨rfl, hb⟩; refine ⟨_, rfl, ?_⟩; have n0_ := Aside0.mk (below_step (by repeat (first | (with_reducible first | exact HB.out | apply below_alloc | apply pw_below_drewN | apply below_drew1) | exact HB.out)) hb); clear HB; have HB := n0_; clear n0_; (try clear hb); (try clear hb2); (try clear hk); (try clear hi)) | ((with_reducible refine gate_callee (f := 10) rfl ?_); refine goesL_ (some 176) rfl rfl Try.func10 (by kernel_rfl) rfl #[.int .i64 t338, .int .i64 t339, .int .i64 t340, .int .i64 t341] rfl (by (try simp only [List.map_toArray, List.map_cons, List.map_nil]); first | done | rfl | (simp only [List.length_drop, List.length_take]; rfl)) ?_; (with_reducible refine (impl_NeighbourOf.calls kj81 t338 t339 t340 t341 t342 t343 _ A88.out).mono ?_); rintro e w125 ⟨rfl, hb⟩; refine ⟨_, rfl, ?_⟩; have n0_ := Aside0.mk (below_step (by repeat (first | (with_reducible first | exact HB.out | apply below_alloc | apply pw_below_drewN | apply below_drew1) | exact HB.out)) hb); clear HB; have HB := n0_; clear n0_; (try clear hb); (try clear hb2); (try clear hk); (try clear hi)) | ((with_reducible refine gate_callee (f := 9) rfl ?_); refine goesL_ (some 184) rfl rfl Try.func9 (by kernel_rfl) rfl #[.int .i64 t338, .int .i64 t339, .int .i64 t340, .int .i64 t341] rfl (by (try simp only [List.map_toArray, List.map_cons, List.map_nil]); first | done | rfl | (simp only [List.length_drop, List.length_take]; rfl)) ?_; (with_reducible refine (spec_NeighbourOf.calls kj81 t338 t339 t340 t341 t344 t345 _ A89.out).mono ?_); rintro e w' ⟨rfl, ⟨nd, rfl⟩⟩; refine ⟨_, rfl, ?_⟩) | ((with_reducible refine gate_callee (f := 26) rfl ?_); refine goesL_ (some 189) rfl rfl Try.func26 (by kernel_rfl) rfl #[.slice A0 l0.length c0] rfl (by (try simp only [List.map_toArray, List.map_cons, List.map_nil]); first | done | rfl | (simp only [List.length_drop, List.length_take]; rfl)) ?_; (with_reducible refine (spec_DrawCutWord.calls kj81 _ _ l0 t346 t347 t348 t349 _ ?side1 ?side2 A90.out).mono ?_); (case side1 => repeat (first | exact (Kd.C_below HR0.out (by repeat (first | (with_reducible first | exact HB.out | apply below_alloc | apply pw_below_drewN | apply below_drew1) | exact HB.out))) | (with_reducible refine Kd.C_alloc ?_ _) | (with_reducible refine Kd.C_drewN ?_ _) | (with_reducible refine Kd.C_drew ?_))); (case side2 => exact HC0.out); rintro e w126 ⟨rfl, hb⟩; refine ⟨_, rfl, ?_⟩; have n0_ := Aside0.mk (below_step (by repeat (first | (with_reducible first | exact HB.out | apply below_alloc | apply pw_below_drewN | apply below_drew1) | exact HB.out)) hb); clear HB; have HB := n0_; clear n0_; (try clear hb); (try clear hb2); (try clear hk); (try clear hi)) | ((with_reducible refine gate_callee (f := 12) rfl ?_); refine goesL_ (some 199) rfl rfl Try.func12 (by kernel_rfl) rfl #[.int .i64 t346, .int .i64 t347, .int .i64 t348, .int .i64 t349] rfl (by (try simp only [List.map_toArray, List.map_cons, List.map_nil]); first | done | rfl | (simp only [List.length_drop, List.length_take]; rfl)) ?_; (with_reducible refine (impl_CutWord.calls kj81 t346 t347 t348 t349 t350 t351 _ A91.out).mono ?_); rintro e w127 ⟨rfl, hb⟩; refine ⟨_, rfl, ?_⟩; have n0_ := Aside0.mk (below_step (by repeat (first | (with_reducible first | exact HB.out | apply below_alloc | apply pw_below_drewN | apply below_drew1) | exact HB.out)) hb); clear HB; have HB := n0_; clear n0_; (try clear hb); (try clear hb2); (try clear hk); (try clear hi)) | ((with_reducible refine gate_callee (f := 11) rfl ?_); refine goesL_ (some 207) rfl rfl Try.func11 (by kernel_rfl) rfl #[.int .i64 t346, .int .i64 t347, .int .i64 t348, .int .i64 t349] rfl (by (try simp only [List.map_toArray, List.map_cons, List.map_nil]); first | done | rfl | (simp only [List.length_drop, List.length_take]; rfl)) ?_; (with_reducible refine (spec_CutWord.calls kj81 t346 t347 t348 t349 t352 t353 _ A92.out).mono ?_); rintro e w128 ⟨rfl, hb⟩; refine ⟨_, rfl, ?_⟩; have n0_ := Aside0.mk (below_step (by repeat (first | (with_reducible first | exact HB.out | apply below_alloc | apply pw_below_drewN | apply below_drew1) | exact HB.out)) hb); clear HB; have HB := n0_; clear n0_; (try clear hb); (try clear hb2); (try clear hk); (try clear hi)))
              go_ret
              exact ⟨by first | rfl | (simp [errW_none, errW_some] <;> rfl) | (simp [*, errW_none, errW_some] <;> rfl), by repeat (first | (with_reducible first | exact HB.out | apply below_alloc | apply pw_below_drewN | apply below_drew1) | exact HB.out)⟩
           ·rw [if_neg c93] at H
            have c93b0 : (t343 == t345) = false := by simpa using c93
            (try (have c93b1 : decide (t343 = t345) = false := by simpa using c93))
            (try (have c93b2 : (t343 == t345) = false := by simpa using c93))
            (try (have c93b3 : ¬ (t343 = t345) := by simpa using c93))
            clear c93
            as_aux_lemma =>
             obtain rfl := Option.some.inj H
             go_wp2_with (first | ((with_reducible refine gate_callee (f := 25) rfl ?_); refine goesL_ (some 166) rfl rfl Try.func25 (by kernel_rfl) rfl #[.slice A0 l0.length c0] rfl (by (try simp only [List.map_toArray, List.map_cons, List.map_nil]); first | done | rfl | (simp only [List.length_drop, List.length_take]; rfl)) ?_; (with_reducible refine (spec_DrawNeighbourOf.calls kj81 _ _ l0 t338 t339 t340 t341 _ ?side1 ?side2 A87.out).mono ?_); (case side1 => repeat (first | exact (Kd.C_below HR0.out HB.out) | (with_reducible refine Kd.C_alloc ?_ _) | (with_reducible refine Kd.C_drewN ?_ _) | (with_reducible refine Kd.C_drew ?_))); (case side2 => exact HC0.out); rintro e w129 ⟨rfl, hb⟩; refine ⟨_, rfl, ?_⟩; have n0_ := Aside0.mk (below_step (by repeat (first | (with_reducible first | exact HB.out | apply below_alloc | apply pw_below_drewN | apply below_drew1) | exact HB.out)) hb); clear HB; have HB := n0_; clear n0_; (try clear hb); (try clear hb2); (try clear hk); (try clear hi)) | ((with_reducible refine gate_callee (f := 10) rfl ?_); refine goesL_ (some 176) rfl rfl Try.func10 (by kernel_rfl) rfl #[.int .i64 t338, .int .i64 t339, .int .i64 t340, .int .i64 t341] rfl (by (try simp only [List.map_toArray, List.map_cons, List.map_nil]); first | done | rfl | (simp only [List.length_drop, List.length_take]; rfl)) ?_; (with_reducible refine (impl_NeighbourOf.calls kj81 t338 t339 t340 t341 t342 t343 _ A88.out).mono ?_); rintro e w130 ⟨rfl, hb⟩; refine ⟨_, rfl, ?_⟩; have n0_ := Aside0.mk (below_step (by repeat (first | (with_reducible first | exact HB.out | apply below_alloc | apply pw_below_drewN | apply below_drew1) | exact HB.out)) hb); clear HB; have HB := n0_; clear n0_; (try clear hb); (try clear hb2); (try clear hk); (try clear hi)) | ((with_reducible refine gate_callee (f := 9) rfl ?_); refine goesL_ (some 184) rfl rfl Try.func9 (by kernel_rfl) rfl #[.int .i64 t338, .int .i64 t339, .int .i64 t340, .int .i64 t341] rfl (by (try simp only [List.map_toArray, List.map_cons, List.map_nil]); first | done | rfl | (simp only [List.length_drop, List.length_take]; rfl)) ?_; (with_reducible refine (spec_NeighbourOf.calls kj81 t338 t339 t340 t341 t344 t345 _ A89.out).mono ?_); rintro e w' ⟨rfl, ⟨nd, rfl⟩⟩; refine ⟨_, rfl, ?_⟩) | ((with_reducible refine gate_callee (f := 26) rfl ?_); refine goesL_ (some 189) rfl rfl Try.func26 (by kernel_rfl) rfl #[.slice A0 l0.length c0] rfl (by (try simp only [List.map_toArray, List.map_cons, List.map_nil]); first | done | rfl | (simp only [List.length_drop, List.length_take]; rfl)) ?_; (with_reducible refine (spec_DrawCutWord.calls kj81 _ _ l0 t346 t347 t348 t349 _ ?side1 ?side2 A90.out).mono ?_); (case side1 => repeat (first | exact (Kd.C_below HR0.out (by repeat (first | (with_reducible first | exact HB.out | apply below_alloc | apply pw_below_drewN | apply below_drew1) | exact HB.out))) | (with_reducible refine Kd.C_alloc ?_ _) | (with_reducible refine Kd.C_drewN ?_ _) | (with_reducible refine Kd.C_drew ?_))); (case side2 => exact HC0.out); rintro e w131 ⟨rfl, hb⟩; refine ⟨_, rfl, ?_⟩; have n0_ := Aside0.mk (below_step (by repeat (first | (with_reducible first | exact HB.out | apply below_alloc | apply pw_below_drewN | apply below_drew1) | exact HB.out)) hb); clear HB; have HB := n0_; clear n0_; (try clear hb); (try clear hb2); (try clear hk); (try clear hi)) | ((with_reducible refine gate_callee (f := 12) rfl ?_); refine goesL_ (some 199) rfl rfl Try.func12 (by kernel_rfl) rfl #[.int .i64 t346, .int .i64 t347, .int .i64 t348, .int .i64 t349] rfl (by (try simp only [List.map_toArray, List.map_cons, List.map_nil]); first | done | rfl | (simp only [List.length_drop, List.length_take]; rfl)) ?_; (with_reducible refine (impl_CutWord.calls kj81 t346 t347 t348 t349 t350 t351 _ A91.out).mono ?_); rintro e w132 ⟨rfl, hb⟩; refine ⟨_, rfl, ?_⟩; have n0_ := Aside0.mk (below_step (by repeat (first | (with_reducible first | exact HB.out | apply below_alloc | apply pw_below_drewN | apply below_drew1) | exact HB.out)) hb); clear HB; have HB := n0_; clear n0_; (try clear hb); (try clear hb2); (try clear hk); (try clear hi)) | ((with_reducible refine gate_callee (f := 11) rfl ?_); refine goesL_ (some 207) rfl rfl Try.func11 (by kernel_rfl) rfl #[.int .i64 t346, .int .i64 t347, .int .i64 t348, .int .i64 t349] rfl (by (try simp only [List.map_toArray, List.map_cons, List.map_nil]); first | done | rfl | (simp only [List.length_drop, List.length_take]; rfl)) ?_; (with_reducible refine (spec_CutWord.calls kj81 t346 t347 t348 t349 t352 t353 _ A92.out).mono ?_); rintro e w133 ⟨rfl, hb⟩; refine ⟨_, rfl, ?_⟩; have n0_ := Aside0.mk (below_step (by repeat (first | (with_reducible first | exact HB.out | apply below_alloc | apply pw_below_drewN | apply below_drew1) | exact HB.out)) hb); clear HB; have HB := n0_; clear n0_; (try clear hb); (try clear hb2); (try clear hk); (try clear hi)))
             go_ret
             exact ⟨by first | rfl | (simp [errW_none, errW_some] <;> rfl) | (simp [*, errW_none, errW_some] <;> rfl), by repeat (first | (with_reducible first | exact HB.out | apply below_alloc | apply pw_below_drewN | apply below_drew1) | exact HB.out)⟩

/-- THE ONE PURE STATEMENT of laws_FnGaps: yours. -/
def laws_FnGaps.Pure : Prop := ∀ (l0 : List Int), l0.length ≤ maxLen → l0.length * 1 ≤ 140737488351232 → (∀ x ∈ l0, (Lit.int .u8 x).wf = true) → ∃ k, laws_FnGaps.f k l0 = some true
theorem laws_FnGaps.walk (P : laws_FnGaps.Pure) (a0 : Option Addr) (len0 cap0 : Nat) (z0 : List Int) (w : World) (w0 : (a0 = none ∧ len0 = 0 ∧ cap0 = 0 ∧ z0 = []) ∨ ∃ x, a0 = some x ∧ len0 ≤ cap0 ∧ cap0 ≤ maxLen ∧ z0.length = cap0 ∧ (∀ i, i < z0.length → w.cell? (x.add i) = some (.int .u8 (z0.getD i 0))) ∧ ∀ n ∈ z0, (Lit.int .u8 n).wf = true) (y0 : len0 * 1 ≤ 140737488351232) :
  Calls Try.prog 8 #[.slice a0 len0 cap0] w fun e w' => e = .returned (.bool true) ∧ Below w.heap.size w w' := by
 obtain ⟨l0, rfl, hr0, hm0, hw0, hc0⟩ := ReadsInt.ofRowC w0
 obtain ⟨k, h⟩ := P l0 hm0 y0 hw0
 refine (laws_FnGaps.calls k _ _ l0 true w (Kd.C_of_reads (d := (0 : Int)) (h1 := fun _ => rfl) hr0) hc0 h).mono ?_
 rintro e w' ⟨rfl, hd⟩
 exact ⟨rfl, hd⟩

end Go.Proofs.Ytjdnbakmeieknaa.PFnGaps
