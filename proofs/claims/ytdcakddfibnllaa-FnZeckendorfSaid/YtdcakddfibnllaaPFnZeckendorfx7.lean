/- Written by this session's own program (wip/myprint.py): the machine side of one law, some contracts of it typed by hand. -/
import Derived.Test.YtdcakddfibnllaaPFnZeckendorfx0
import Derived.Test.YtdcakddfibnllaaPFnZeckendorfx1
import Derived.Test.YtdcakddfibnllaaPFnZeckendorfx2
import Derived.Test.YtdcakddfibnllaaPFnZeckendorfx3
import Derived.Test.YtdcakddfibnllaaPFnZeckendorfx4
import Derived.Test.YtdcakddfibnllaaPFnZeckendorfx5
import Derived.Test.YtdcakddfibnllaaPFnZeckendorfx6
namespace Go.Proofs.Ytdcakddfibnllaa.PFnZeckendorf
open Go.RowKit Go.Proofs.YtdcakddfibnllaaW.PrintWords Go.Proofs.YtdcakddfibnllaaW.PrintLast Go.Proofs.YtdcakddfibnllaaW.PrintMore
attribute [local go_sem] max2_int min2_int max_two min_two max_three min_three max_four min_four   -- for this text's walks alone
set_option linter.unusedVariables false
set_option linter.unusedSimpArgs false

/-! ### laws_FnZeckendorf: function 10 -/
mutual
def laws_FnZeckendorf.j0 : Nat → List Int → Int → List Int → Bool → Option (Bool)
 | 0, _, _, _, _ => none
 | k + 1, x0, x3, x4, x38 => if x38 = true then (some false) else (if x3 ≥ 0 then ((spec_FibonacciNumber.f k 40).bind fun t368 => (if x3 < t368 then ((impl_IsZeckendorf.f k x4).bind fun t369 => (if t369 = true then ((impl_ZeckendorfValue.f k x4).bind fun t370 => (laws_FnZeckendorf.j1 k x0 (t370 != x3))) else (laws_FnZeckendorf.j1 k x0 true))) else (laws_FnZeckendorf.j1 k x0 false))) else (laws_FnZeckendorf.j1 k x0 false))
def laws_FnZeckendorf.j1 : Nat → List Int → Bool → Option (Bool)
 | 0, _, _ => none
 | k + 1, x0, x56 => if x56 = true then (some false) else ((spec_DrawAddZeckendorf.f k x0).bind fun bt371 => ((impl_AddZeckendorf.f k bt371.1 bt371.2).bind fun bt377 => ((spec_AddZeckendorf.f k bt371.1 bt371.2).bind fun bt381 => ((impl_CompareZeckendorf.f k bt371.1 bt371.2).bind fun t385 => (if (bt377.2 != bt381.2) = true then (laws_FnZeckendorf.j2 k x0 bt371.1 bt371.2 bt377.2 t385 true) else ((laws_sameInts.f k bt377.1 bt381.1).bind fun t386 => (if t386 = true then ((spec_CompareZeckendorf.f k bt371.1 bt371.2).bind fun t387 => (if t385 = t387 then (if bt377.2 = true then ((impl_ZeckendorfValue.f k bt381.1).bind fun t388 => ((spec_ZeckendorfValue.f k bt371.1).bind fun t389 => ((spec_ZeckendorfValue.f k bt371.2).bind fun t390 => (laws_FnZeckendorf.j2 k x0 bt371.1 bt371.2 bt377.2 t385 (t388 != (wrap64 (t389 + t390))))))) else (laws_FnZeckendorf.j2 k x0 bt371.1 bt371.2 bt377.2 t385 false)) else (laws_FnZeckendorf.j2 k x0 bt371.1 bt371.2 bt377.2 t385 true))) else (laws_FnZeckendorf.j2 k x0 bt371.1 bt371.2 bt377.2 t385 true))))))))
def laws_FnZeckendorf.j2 : Nat → List Int → List Int → List Int → Bool → Int → Bool → Option (Bool)
 | 0, _, _, _, _, _, _ => none
 | k + 1, x0, x5, x6, x8, x11, x105 => if x105 = true then (some false) else (if x8 = true then ((spec_ZeckendorfValue.f k x5).bind fun t391 => ((spec_ZeckendorfValue.f k x6).bind fun t392 => (if ((decide (x11 < 0)) != (decide (t391 < t392))) = true then (some false) else (if ((x11 == 0) != (t391 == t392)) = true then (some false) else (laws_FnZeckendorf.j3 k x0))))) else (laws_FnZeckendorf.j3 k x0))
def laws_FnZeckendorf.j3 : Nat → List Int → Option (Bool)
 | 0, _ => none
 | k + 1, x0 => (spec_DrawNextZeckendorf.f k x0).bind fun t393 => ((impl_NextZeckendorf.f k t393).bind fun bt396 => ((spec_NextZeckendorf.f k t393).bind fun bt400 => ((spec_DrawIsZeckendorf.f k x0).bind fun t404 => ((spec_DrawFibonacciNumber.f k x0).bind fun t407 => (if (bt396.2 == bt400.2) = true then ((laws_sameInts.f k bt396.1 bt400.1).bind fun t408 => (if t408 = true then ((impl_IsZeckendorf.f k t404).bind fun t409 => ((spec_IsZeckendorf.f k t404).bind fun t410 => (if (t409 == t410) = true then ((impl_ZeckendorfValue.f k t404).bind fun t411 => ((spec_ZeckendorfValue.f k t404).bind fun t412 => (if t411 = t412 then ((impl_FibonacciNumber.f t407).bind fun t413 => ((spec_FibonacciNumber.f k t407).bind fun t414 => (if t413 = t414 then ((impl_IsZeckendorf.f k t404).bind fun t415 => (if t415 = true then ((impl_ZeckendorfValue.f k t404).bind fun t416 => ((impl_ZeckendorfOf.f k t416).bind fun t417 => ((laws_sameInts.f k t417 t404).bind fun t420 => (some t420)))) else (some true))) else (some false)))) else (some false)))) else (some false)))) else (some false))) else (some false))))))
end
def laws_FnZeckendorf.f (k : Nat) (l0 : List Int) : Option (Bool) := (laws_big.f l0).bind fun t357 => (if t357 = true then (some true) else ((spec_DrawZeckendorfOf.f k l0).bind fun t358 => ((impl_ZeckendorfOf.f k t358).bind fun t359 => ((spec_ZeckendorfOf.f k t358).bind fun t362 => ((laws_sameInts.f k t359 t362).bind fun t365 => (if t365 = true then ((impl_ShiftZeckendorf.f k t358).bind fun t366 => ((spec_ShiftZeckendorf.f k t358).bind fun t367 => (laws_FnZeckendorf.j0 k l0 t358 t359 (t366 != t367)))) else (laws_FnZeckendorf.j0 k l0 t358 t359 true)))))))
theorem laws_FnZeckendorf.mono_l : ∀ k, (∀ y0 y1 y2 y3, LeO (laws_FnZeckendorf.j0 k y0 y1 y2 y3) (laws_FnZeckendorf.j0 (k + 1) y0 y1 y2 y3)) ∧ (∀ y0 y1, LeO (laws_FnZeckendorf.j1 k y0 y1) (laws_FnZeckendorf.j1 (k + 1) y0 y1)) ∧ (∀ y0 y1 y2 y3 y4 y5, LeO (laws_FnZeckendorf.j2 k y0 y1 y2 y3 y4 y5) (laws_FnZeckendorf.j2 (k + 1) y0 y1 y2 y3 y4 y5)) ∧ (∀ y0, LeO (laws_FnZeckendorf.j3 k y0) (laws_FnZeckendorf.j3 (k + 1) y0))
 | 0 => ⟨fun _ _ _ _ r h => by simp [laws_FnZeckendorf.j0] at h, fun _ _ r h => by simp [laws_FnZeckendorf.j1] at h, fun _ _ _ _ _ _ r h => by simp [laws_FnZeckendorf.j2] at h, fun _ r h => by simp [laws_FnZeckendorf.j3] at h⟩
 | k + 1 => by
  obtain ⟨ih0, ih1, ih2, ih3⟩ := laws_FnZeckendorf.mono_l k
  refine ⟨?_, ?_, ?_, ?_⟩
  ·intro y0 y1 y2 y3
   unfold laws_FnZeckendorf.j0
   repeat' first
   | (with_reducible exact ih0 _ _ _ _)
   | (with_reducible exact ih1 _ _)
   | (with_reducible exact ih2 _ _ _ _ _ _)
   | (with_reducible exact ih3 _)
   | (with_reducible exact impl_AddZeckendorf.mono _ _ _)
   | (with_reducible exact impl_CompareZeckendorf.mono _ _ _)
   | (with_reducible exact impl_IsZeckendorf.mono _ _)
   | (with_reducible exact impl_NextZeckendorf.mono _ _)
   | (with_reducible exact impl_ShiftZeckendorf.mono _ _)
   | (with_reducible exact impl_ZeckendorfOf.mono _ _)
   | (with_reducible exact impl_ZeckendorfValue.mono _ _)
   | (with_reducible exact laws_sameInts.mono _ _ _)
   | (with_reducible exact spec_AddZeckendorf.mono _ _ _)
   | (with_reducible exact spec_CompareZeckendorf.mono _ _ _)
   | (with_reducible exact spec_DrawAddZeckendorf.mono _ _)
   | (with_reducible exact spec_DrawFibonacciNumber.mono _ _)
   | (with_reducible exact spec_DrawIsZeckendorf.mono _ _)
   | (with_reducible exact spec_DrawNextZeckendorf.mono _ _)
   | (with_reducible exact spec_DrawZeckendorfOf.mono _ _)
   | (with_reducible exact spec_FibonacciNumber.mono _ _)
   | (with_reducible exact spec_IsZeckendorf.mono _ _)
   | (with_reducible exact spec_NextZeckendorf.mono _ _)
   | (with_reducible exact spec_ShiftZeckendorf.mono _ _)
   | (with_reducible exact spec_ZeckendorfOf.mono _ _)
   | (with_reducible exact spec_ZeckendorfValue.mono _ _)
   | (with_reducible exact LeO.refl _)
   | (with_reducible exact LeO.none _)
   | (with_reducible refine LeO.ite ?_ ?_)
   | (with_reducible refine LeO.bind ?_ (fun _ => ?_))
   | exact ih0 _ _ _ _
   | exact ih1 _ _
   | exact ih2 _ _ _ _ _ _
   | exact ih3 _
   | exact impl_AddZeckendorf.mono _ _ _
   | exact impl_CompareZeckendorf.mono _ _ _
   | exact impl_IsZeckendorf.mono _ _
   | exact impl_NextZeckendorf.mono _ _
   | exact impl_ShiftZeckendorf.mono _ _
   | exact impl_ZeckendorfOf.mono _ _
   | exact impl_ZeckendorfValue.mono _ _
   | exact laws_sameInts.mono _ _ _
   | exact spec_AddZeckendorf.mono _ _ _
   | exact spec_CompareZeckendorf.mono _ _ _
   | exact spec_DrawAddZeckendorf.mono _ _
   | exact spec_DrawFibonacciNumber.mono _ _
   | exact spec_DrawIsZeckendorf.mono _ _
   | exact spec_DrawNextZeckendorf.mono _ _
   | exact spec_DrawZeckendorfOf.mono _ _
   | exact spec_FibonacciNumber.mono _ _
   | exact spec_IsZeckendorf.mono _ _
   | exact spec_NextZeckendorf.mono _ _
   | exact spec_ShiftZeckendorf.mono _ _
   | exact spec_ZeckendorfOf.mono _ _
   | exact spec_ZeckendorfValue.mono _ _
   | exact LeO.none _
   | refine LeO.ite ?_ ?_
   | refine LeO.bind ?_ (fun _ => ?_)
  ·intro y0 y1
   unfold laws_FnZeckendorf.j1
   repeat' first
   | (with_reducible exact ih0 _ _ _ _)
   | (with_reducible exact ih1 _ _)
   | (with_reducible exact ih2 _ _ _ _ _ _)
   | (with_reducible exact ih3 _)
   | (with_reducible exact impl_AddZeckendorf.mono _ _ _)
   | (with_reducible exact impl_CompareZeckendorf.mono _ _ _)
   | (with_reducible exact impl_IsZeckendorf.mono _ _)
   | (with_reducible exact impl_NextZeckendorf.mono _ _)
   | (with_reducible exact impl_ShiftZeckendorf.mono _ _)
   | (with_reducible exact impl_ZeckendorfOf.mono _ _)
   | (with_reducible exact impl_ZeckendorfValue.mono _ _)
   | (with_reducible exact laws_sameInts.mono _ _ _)
   | (with_reducible exact spec_AddZeckendorf.mono _ _ _)
   | (with_reducible exact spec_CompareZeckendorf.mono _ _ _)
   | (with_reducible exact spec_DrawAddZeckendorf.mono _ _)
   | (with_reducible exact spec_DrawFibonacciNumber.mono _ _)
   | (with_reducible exact spec_DrawIsZeckendorf.mono _ _)
   | (with_reducible exact spec_DrawNextZeckendorf.mono _ _)
   | (with_reducible exact spec_DrawZeckendorfOf.mono _ _)
   | (with_reducible exact spec_FibonacciNumber.mono _ _)
   | (with_reducible exact spec_IsZeckendorf.mono _ _)
   | (with_reducible exact spec_NextZeckendorf.mono _ _)
   | (with_reducible exact spec_ShiftZeckendorf.mono _ _)
   | (with_reducible exact spec_ZeckendorfOf.mono _ _)
   | (with_reducible exact spec_ZeckendorfValue.mono _ _)
   | (with_reducible exact LeO.refl _)
   | (with_reducible exact LeO.none _)
   | (with_reducible refine LeO.ite ?_ ?_)
   | (with_reducible refine LeO.bind ?_ (fun _ => ?_))
   | exact ih0 _ _ _ _
   | exact ih1 _ _
   | exact ih2 _ _ _ _ _ _
   | exact ih3 _
   | exact impl_AddZeckendorf.mono _ _ _
   | exact impl_CompareZeckendorf.mono _ _ _
   | exact impl_IsZeckendorf.mono _ _
   | exact impl_NextZeckendorf.mono _ _
   | exact impl_ShiftZeckendorf.mono _ _
   | exact impl_ZeckendorfOf.mono _ _
   | exact impl_ZeckendorfValue.mono _ _
   | exact laws_sameInts.mono _ _ _
   | exact spec_AddZeckendorf.mono _ _ _
   | exact spec_CompareZeckendorf.mono _ _ _
   | exact spec_DrawAddZeckendorf.mono _ _
   | exact spec_DrawFibonacciNumber.mono _ _
   | exact spec_DrawIsZeckendorf.mono _ _
   | exact spec_DrawNextZeckendorf.mono _ _
   | exact spec_DrawZeckendorfOf.mono _ _
   | exact spec_FibonacciNumber.mono _ _
   | exact spec_IsZeckendorf.mono _ _
   | exact spec_NextZeckendorf.mono _ _
   | exact spec_ShiftZeckendorf.mono _ _
   | exact spec_ZeckendorfOf.mono _ _
   | exact spec_ZeckendorfValue.mono _ _
   | exact LeO.none _
   | refine LeO.ite ?_ ?_
   | refine LeO.bind ?_ (fun _ => ?_)
  ·intro y0 y1 y2 y3 y4 y5
   unfold laws_FnZeckendorf.j2
   repeat' first
   | (with_reducible exact ih0 _ _ _ _)
   | (with_reducible exact ih1 _ _)
   | (with_reducible exact ih2 _ _ _ _ _ _)
   | (with_reducible exact ih3 _)
   | (with_reducible exact impl_AddZeckendorf.mono _ _ _)
   | (with_reducible exact impl_CompareZeckendorf.mono _ _ _)
   | (with_reducible exact impl_IsZeckendorf.mono _ _)
   | (with_reducible exact impl_NextZeckendorf.mono _ _)
   | (with_reducible exact impl_ShiftZeckendorf.mono _ _)
   | (with_reducible exact impl_ZeckendorfOf.mono _ _)
   | (with_reducible exact impl_ZeckendorfValue.mono _ _)
   | (with_reducible exact laws_sameInts.mono _ _ _)
   | (with_reducible exact spec_AddZeckendorf.mono _ _ _)
   | (with_reducible exact spec_CompareZeckendorf.mono _ _ _)
   | (with_reducible exact spec_DrawAddZeckendorf.mono _ _)
   | (with_reducible exact spec_DrawFibonacciNumber.mono _ _)
   | (with_reducible exact spec_DrawIsZeckendorf.mono _ _)
   | (with_reducible exact spec_DrawNextZeckendorf.mono _ _)
   | (with_reducible exact spec_DrawZeckendorfOf.mono _ _)
   | (with_reducible exact spec_FibonacciNumber.mono _ _)
   | (with_reducible exact spec_IsZeckendorf.mono _ _)
   | (with_reducible exact spec_NextZeckendorf.mono _ _)
   | (with_reducible exact spec_ShiftZeckendorf.mono _ _)
   | (with_reducible exact spec_ZeckendorfOf.mono _ _)
   | (with_reducible exact spec_ZeckendorfValue.mono _ _)
   | (with_reducible exact LeO.refl _)
   | (with_reducible exact LeO.none _)
   | (with_reducible refine LeO.ite ?_ ?_)
   | (with_reducible refine LeO.bind ?_ (fun _ => ?_))
   | exact ih0 _ _ _ _
   | exact ih1 _ _
   | exact ih2 _ _ _ _ _ _
   | exact ih3 _
   | exact impl_AddZeckendorf.mono _ _ _
   | exact impl_CompareZeckendorf.mono _ _ _
   | exact impl_IsZeckendorf.mono _ _
   | exact impl_NextZeckendorf.mono _ _
   | exact impl_ShiftZeckendorf.mono _ _
   | exact impl_ZeckendorfOf.mono _ _
   | exact impl_ZeckendorfValue.mono _ _
   | exact laws_sameInts.mono _ _ _
   | exact spec_AddZeckendorf.mono _ _ _
   | exact spec_CompareZeckendorf.mono _ _ _
   | exact spec_DrawAddZeckendorf.mono _ _
   | exact spec_DrawFibonacciNumber.mono _ _
   | exact spec_DrawIsZeckendorf.mono _ _
   | exact spec_DrawNextZeckendorf.mono _ _
   | exact spec_DrawZeckendorfOf.mono _ _
   | exact spec_FibonacciNumber.mono _ _
   | exact spec_IsZeckendorf.mono _ _
   | exact spec_NextZeckendorf.mono _ _
   | exact spec_ShiftZeckendorf.mono _ _
   | exact spec_ZeckendorfOf.mono _ _
   | exact spec_ZeckendorfValue.mono _ _
   | exact LeO.none _
   | refine LeO.ite ?_ ?_
   | refine LeO.bind ?_ (fun _ => ?_)
  ·intro y0
   unfold laws_FnZeckendorf.j3
   repeat' first
   | (with_reducible exact ih0 _ _ _ _)
   | (with_reducible exact ih1 _ _)
   | (with_reducible exact ih2 _ _ _ _ _ _)
   | (with_reducible exact ih3 _)
   | (with_reducible exact impl_AddZeckendorf.mono _ _ _)
   | (with_reducible exact impl_CompareZeckendorf.mono _ _ _)
   | (with_reducible exact impl_IsZeckendorf.mono _ _)
   | (with_reducible exact impl_NextZeckendorf.mono _ _)
   | (with_reducible exact impl_ShiftZeckendorf.mono _ _)
   | (with_reducible exact impl_ZeckendorfOf.mono _ _)
   | (with_reducible exact impl_ZeckendorfValue.mono _ _)
   | (with_reducible exact laws_sameInts.mono _ _ _)
   | (with_reducible exact spec_AddZeckendorf.mono _ _ _)
   | (with_reducible exact spec_CompareZeckendorf.mono _ _ _)
   | (with_reducible exact spec_DrawAddZeckendorf.mono _ _)
   | (with_reducible exact spec_DrawFibonacciNumber.mono _ _)
   | (with_reducible exact spec_DrawIsZeckendorf.mono _ _)
   | (with_reducible exact spec_DrawNextZeckendorf.mono _ _)
   | (with_reducible exact spec_DrawZeckendorfOf.mono _ _)
   | (with_reducible exact spec_FibonacciNumber.mono _ _)
   | (with_reducible exact spec_IsZeckendorf.mono _ _)
   | (with_reducible exact spec_NextZeckendorf.mono _ _)
   | (with_reducible exact spec_ShiftZeckendorf.mono _ _)
   | (with_reducible exact spec_ZeckendorfOf.mono _ _)
   | (with_reducible exact spec_ZeckendorfValue.mono _ _)
   | (with_reducible exact LeO.refl _)
   | (with_reducible exact LeO.none _)
   | (with_reducible refine LeO.ite ?_ ?_)
   | (with_reducible refine LeO.bind ?_ (fun _ => ?_))
   | exact ih0 _ _ _ _
   | exact ih1 _ _
   | exact ih2 _ _ _ _ _ _
   | exact ih3 _
   | exact impl_AddZeckendorf.mono _ _ _
   | exact impl_CompareZeckendorf.mono _ _ _
   | exact impl_IsZeckendorf.mono _ _
   | exact impl_NextZeckendorf.mono _ _
   | exact impl_ShiftZeckendorf.mono _ _
   | exact impl_ZeckendorfOf.mono _ _
   | exact impl_ZeckendorfValue.mono _ _
   | exact laws_sameInts.mono _ _ _
   | exact spec_AddZeckendorf.mono _ _ _
   | exact spec_CompareZeckendorf.mono _ _ _
   | exact spec_DrawAddZeckendorf.mono _ _
   | exact spec_DrawFibonacciNumber.mono _ _
   | exact spec_DrawIsZeckendorf.mono _ _
   | exact spec_DrawNextZeckendorf.mono _ _
   | exact spec_DrawZeckendorfOf.mono _ _
   | exact spec_FibonacciNumber.mono _ _
   | exact spec_IsZeckendorf.mono _ _
   | exact spec_NextZeckendorf.mono _ _
   | exact spec_ShiftZeckendorf.mono _ _
   | exact spec_ZeckendorfOf.mono _ _
   | exact spec_ZeckendorfValue.mono _ _
   | exact LeO.none _
   | refine LeO.ite ?_ ?_
   | refine LeO.bind ?_ (fun _ => ?_)
theorem laws_FnZeckendorf.mono : ∀ a0 k, LeO (laws_FnZeckendorf.f k a0) (laws_FnZeckendorf.f (k + 1) a0) := by
 intro a0 k
 obtain ⟨ih0, ih1, ih2, ih3⟩ := laws_FnZeckendorf.mono_l k
 unfold laws_FnZeckendorf.f
 repeat' first
   | (with_reducible exact ih0 _ _ _ _)
   | (with_reducible exact ih1 _ _)
   | (with_reducible exact ih2 _ _ _ _ _ _)
   | (with_reducible exact ih3 _)
   | (with_reducible exact impl_AddZeckendorf.mono _ _ _)
   | (with_reducible exact impl_CompareZeckendorf.mono _ _ _)
   | (with_reducible exact impl_IsZeckendorf.mono _ _)
   | (with_reducible exact impl_NextZeckendorf.mono _ _)
   | (with_reducible exact impl_ShiftZeckendorf.mono _ _)
   | (with_reducible exact impl_ZeckendorfOf.mono _ _)
   | (with_reducible exact impl_ZeckendorfValue.mono _ _)
   | (with_reducible exact laws_sameInts.mono _ _ _)
   | (with_reducible exact spec_AddZeckendorf.mono _ _ _)
   | (with_reducible exact spec_CompareZeckendorf.mono _ _ _)
   | (with_reducible exact spec_DrawAddZeckendorf.mono _ _)
   | (with_reducible exact spec_DrawFibonacciNumber.mono _ _)
   | (with_reducible exact spec_DrawIsZeckendorf.mono _ _)
   | (with_reducible exact spec_DrawNextZeckendorf.mono _ _)
   | (with_reducible exact spec_DrawZeckendorfOf.mono _ _)
   | (with_reducible exact spec_FibonacciNumber.mono _ _)
   | (with_reducible exact spec_IsZeckendorf.mono _ _)
   | (with_reducible exact spec_NextZeckendorf.mono _ _)
   | (with_reducible exact spec_ShiftZeckendorf.mono _ _)
   | (with_reducible exact spec_ZeckendorfOf.mono _ _)
   | (with_reducible exact spec_ZeckendorfValue.mono _ _)
   | (with_reducible exact LeO.refl _)
   | (with_reducible exact LeO.none _)
   | (with_reducible refine LeO.ite ?_ ?_)
   | (with_reducible refine LeO.bind ?_ (fun _ => ?_))
   | exact ih0 _ _ _ _
   | exact ih1 _ _
   | exact ih2 _ _ _ _ _ _
   | exact ih3 _
   | exact impl_AddZeckendorf.mono _ _ _
   | exact impl_CompareZeckendorf.mono _ _ _
   | exact impl_IsZeckendorf.mono _ _
   | exact impl_NextZeckendorf.mono _ _
   | exact impl_ShiftZeckendorf.mono _ _
   | exact impl_ZeckendorfOf.mono _ _
   | exact impl_ZeckendorfValue.mono _ _
   | exact laws_sameInts.mono _ _ _
   | exact spec_AddZeckendorf.mono _ _ _
   | exact spec_CompareZeckendorf.mono _ _ _
   | exact spec_DrawAddZeckendorf.mono _ _
   | exact spec_DrawFibonacciNumber.mono _ _
   | exact spec_DrawIsZeckendorf.mono _ _
   | exact spec_DrawNextZeckendorf.mono _ _
   | exact spec_DrawZeckendorfOf.mono _ _
   | exact spec_FibonacciNumber.mono _ _
   | exact spec_IsZeckendorf.mono _ _
   | exact spec_NextZeckendorf.mono _ _
   | exact spec_ShiftZeckendorf.mono _ _
   | exact spec_ZeckendorfOf.mono _ _
   | exact spec_ZeckendorfValue.mono _ _
   | exact LeO.none _
   | refine LeO.ite ?_ ?_
   | refine LeO.bind ?_ (fun _ => ?_)
set_option maxHeartbeats 8000000 in
set_option maxRecDepth 100000 in
theorem laws_FnZeckendorf.calls (k : Nat) (A0 : Option Addr) (c0 : Nat) (l0 : List Int) (r : Bool) (w : World) (hr0 : Kd.C (Kd.int .u8) w A0 l0.length l0) (hc0 : l0.length ≤ c0) (h : laws_FnZeckendorf.f k l0 = some r) :
  Calls Try.prog 10 #[.slice A0 l0.length c0] w fun e w' => e = .returned (.bool r) ∧ Below w.heap.size w w' := by
 have HR0 := Aside0.mk hr0
 have HC0 := Aside0.mk hc0
 clear hr0 hc0
 have HB := Aside0.mk (Below.refl w.heap.size w)
 have H : ((laws_big.f l0).bind fun t357 => (if t357 = true then (some true) else ((spec_DrawZeckendorfOf.f k l0).bind fun t358 => ((impl_ZeckendorfOf.f k t358).bind fun t359 => ((spec_ZeckendorfOf.f k t358).bind fun t362 => ((laws_sameInts.f k t359 t362).bind fun t365 => (if t365 = true then ((impl_ShiftZeckendorf.f k t358).bind fun t366 => ((spec_ShiftZeckendorf.f k t358).bind fun t367 => (laws_FnZeckendorf.j0 k l0 t358 t359 (t366 != t367)))) else (laws_FnZeckendorf.j0 k l0 t358 t359 true)))))))) = some r := h
 clear h
 replace H := Option.bind_eq_some_iff.mp H
 obtain ⟨t357, A20, H⟩ := H
 replace H : (if t357 = true then (some true) else ((spec_DrawZeckendorfOf.f k l0).bind fun t358 => ((impl_ZeckendorfOf.f k t358).bind fun t359 => ((spec_ZeckendorfOf.f k t358).bind fun t362 => ((laws_sameInts.f k t359 t362).bind fun t365 => (if t365 = true then ((impl_ShiftZeckendorf.f k t358).bind fun t366 => ((spec_ShiftZeckendorf.f k t358).bind fun t367 => (laws_FnZeckendorf.j0 k l0 t358 t359 (t366 != t367)))) else (laws_FnZeckendorf.j0 k l0 t358 t359 true))))))) = some r := H
 have A2 := Aside0.mk A20
 clear A20
 by_cases c3 : t357 = true
 ·subst c3
  have H1 : (some true) = some r := by rw [if_pos rfl] at H; exact H
  clear H
  have H := H1
  clear H1
  as_aux_lemma =>
   obtain rfl := Option.some.inj H
   go_enter Try.func10, Try.ntmps10
   go_wp2_with (first | ((with_reducible refine gate_callee (f := 30) rfl ?_); refine goesL_ (some 22) rfl rfl Try.func30 (by kernel_rfl) rfl #[.slice A0 l0.length c0] rfl (by (try simp only [List.map_toArray, List.map_cons, List.map_nil]); first | done | rfl | (simp only [List.length_drop, List.length_take]; rfl)) ?_; (with_reducible refine (laws_big.calls _ _ l0 true _ ?side1 ?side2 A2.out).mono ?_); (case side1 => repeat (first | exact HR0.out | (with_reducible refine Kd.C_alloc ?_ _) | (with_reducible refine Kd.C_drewN ?_ _) | (with_reducible refine Kd.C_drew ?_))); (case side2 => exact HC0.out); rintro e w' ⟨rfl, ⟨nd, rfl⟩⟩; refine ⟨_, rfl, ?_⟩))
   go_ret
   exact ⟨by first | rfl | (simp [errW_none, errW_some] <;> rfl) | (simp [*, errW_none, errW_some] <;> rfl), by repeat (first | (with_reducible first | exact HB.out | apply below_alloc | apply pw_below_drewN | apply below_drew1) | exact HB.out)⟩
 ·replace c3 := Bool.eq_false_iff.mpr c3
  subst c3
  have H1 : ((spec_DrawZeckendorfOf.f k l0).bind fun t358 => ((impl_ZeckendorfOf.f k t358).bind fun t359 => ((spec_ZeckendorfOf.f k t358).bind fun t362 => ((laws_sameInts.f k t359 t362).bind fun t365 => (if t365 = true then ((impl_ShiftZeckendorf.f k t358).bind fun t366 => ((spec_ShiftZeckendorf.f k t358).bind fun t367 => (laws_FnZeckendorf.j0 k l0 t358 t359 (t366 != t367)))) else (laws_FnZeckendorf.j0 k l0 t358 t359 true)))))) = some r := by rw [if_neg (show ¬ (false = true) by decide)] at H; exact H
  clear H
  have H := H1
  clear H1
  replace H := Option.bind_eq_some_iff.mp H
  obtain ⟨t358, A40, H⟩ := H
  replace H : ((impl_ZeckendorfOf.f k t358).bind fun t359 => ((spec_ZeckendorfOf.f k t358).bind fun t362 => ((laws_sameInts.f k t359 t362).bind fun t365 => (if t365 = true then ((impl_ShiftZeckendorf.f k t358).bind fun t366 => ((spec_ShiftZeckendorf.f k t358).bind fun t367 => (laws_FnZeckendorf.j0 k l0 t358 t359 (t366 != t367)))) else (laws_FnZeckendorf.j0 k l0 t358 t359 true))))) = some r := H
  have A4 := Aside0.mk A40
  clear A40
  replace H := Option.bind_eq_some_iff.mp H
  obtain ⟨t359, A50, H⟩ := H
  replace H : ((spec_ZeckendorfOf.f k t358).bind fun t362 => ((laws_sameInts.f k t359 t362).bind fun t365 => (if t365 = true then ((impl_ShiftZeckendorf.f k t358).bind fun t366 => ((spec_ShiftZeckendorf.f k t358).bind fun t367 => (laws_FnZeckendorf.j0 k l0 t358 t359 (t366 != t367)))) else (laws_FnZeckendorf.j0 k l0 t358 t359 true)))) = some r := H
  have A5 := Aside0.mk A50
  clear A50
  have HC6 := Aside0.mk H
  clear H
  go_enter Try.func10, Try.ntmps10
  go_upto_region 5 with (first | ((with_reducible refine gate_callee (f := 30) rfl ?_); refine goesL_ (some 22) rfl rfl Try.func30 (by kernel_rfl) rfl #[.slice A0 l0.length c0] rfl (by (try simp only [List.map_toArray, List.map_cons, List.map_nil]); first | done | rfl | (simp only [List.length_drop, List.length_take]; rfl)) ?_; (with_reducible refine (laws_big.calls _ _ l0 false _ ?side1 ?side2 A2.out).mono ?_); (case side1 => repeat (first | exact HR0.out | (with_reducible refine Kd.C_alloc ?_ _) | (with_reducible refine Kd.C_drewN ?_ _) | (with_reducible refine Kd.C_drew ?_))); (case side2 => exact HC0.out); rintro e w' ⟨rfl, ⟨nd, rfl⟩⟩; refine ⟨_, rfl, ?_⟩) | ((with_reducible refine gate_callee (f := 31) rfl ?_); refine goesL_ (some 24) rfl rfl Try.func31 (by kernel_rfl) rfl #[.slice A0 l0.length c0] rfl (by (try simp only [List.map_toArray, List.map_cons, List.map_nil]); first | done | rfl | (simp only [List.length_drop, List.length_take]; rfl)) ?_; (with_reducible refine (spec_DrawZeckendorfOf.calls k _ _ l0 t358 _ ?side1 ?side2 A4.out).mono ?_); (case side1 => repeat (first | exact HR0.out | (with_reducible refine Kd.C_alloc ?_ _) | (with_reducible refine Kd.C_drewN ?_ _) | (with_reducible refine Kd.C_drew ?_))); (case side2 => exact HC0.out); rintro e w7 ⟨rfl, hb⟩; refine ⟨_, rfl, ?_⟩; have n0_ := Aside0.mk (below_step (by repeat (first | (with_reducible first | exact HB.out | apply below_alloc | apply pw_below_drewN | apply below_drew1) | exact HB.out)) hb); clear HB; have HB := n0_; clear n0_; (try clear hb); (try clear hb2); (try clear hk); (try clear hi)) | ((with_reducible refine gate_callee (f := 32) rfl ?_); refine goesL_ (some 26) rfl rfl Try.func32 (by kernel_rfl) rfl #[.int .i64 t358] rfl (by (try simp only [List.map_toArray, List.map_cons, List.map_nil]); first | done | rfl | (simp only [List.length_drop, List.length_take]; rfl)) ?_; (with_reducible refine (impl_ZeckendorfOf.calls k t358 t359 _ A5.out).mono ?_); rintro e w8 ⟨v360, rfl, ho0, hb⟩; refine ⟨_, rfl, ?_⟩; have n0_ := Aside0.mk (Kd.R_lower ho0 (below_size (by repeat (first | (with_reducible first | exact HB.out | apply below_alloc | apply pw_below_drewN | apply below_drew1) | exact HB.out)))); have n1_ := Aside0.mk (below_step (by repeat (first | (with_reducible first | exact HB.out | apply below_alloc | apply pw_below_drewN | apply below_drew1) | exact HB.out)) hb); clear HB; have HO361 := n0_; have HB := n1_; clear n0_ n1_; (try clear hb); (try clear hb2); (try clear hk); (try clear hi); (try clear ho0)))
  (try simp only [Act.put, List.setIfInBounds_toArray, List.set_cons_zero, List.set_cons_succ])
  go_cut [38] (fun v38 wc => ∃ (kq : Nat) (x38_5 : Bool), v38 = .bool x38_5 ∧ Aside0 (laws_FnZeckendorf.j0 kq l0 t358 t359 x38_5 = some r) ∧ Aside0 (kq ≤ k) ∧ Aside0 (Kd.R (Kd.int .i64) 3 wc w.heap.size (fun _ => True) v360 t359) ∧ Aside0 (Below w.heap.size w wc))
  case first => as_aux_lemma =>
   have H := HC6.out
   clear HC6
   replace H := Option.bind_eq_some_iff.mp H
   obtain ⟨t362, A90, H⟩ := H
   replace H : ((laws_sameInts.f k t359 t362).bind fun t365 => (if t365 = true then ((impl_ShiftZeckendorf.f k t358).bind fun t366 => ((spec_ShiftZeckendorf.f k t358).bind fun t367 => (laws_FnZeckendorf.j0 k l0 t358 t359 (t366 != t367)))) else (laws_FnZeckendorf.j0 k l0 t358 t359 true))) = some r := H
   have A9 := Aside0.mk A90
   clear A90
   replace H := Option.bind_eq_some_iff.mp H
   obtain ⟨t365, A100, H⟩ := H
   replace H : (if t365 = true then ((impl_ShiftZeckendorf.f k t358).bind fun t366 => ((spec_ShiftZeckendorf.f k t358).bind fun t367 => (laws_FnZeckendorf.j0 k l0 t358 t359 (t366 != t367)))) else (laws_FnZeckendorf.j0 k l0 t358 t359 true)) = some r := H
   have A10 := Aside0.mk A100
   clear A100
   by_cases c11 : t365 = true
   ·subst c11
    have H1 : ((impl_ShiftZeckendorf.f k t358).bind fun t366 => ((spec_ShiftZeckendorf.f k t358).bind fun t367 => (laws_FnZeckendorf.j0 k l0 t358 t359 (t366 != t367)))) = some r := by rw [if_pos rfl] at H; exact H
    clear H
    have H := H1
    clear H1
    replace H := Option.bind_eq_some_iff.mp H
    obtain ⟨t366, A120, H⟩ := H
    replace H : ((spec_ShiftZeckendorf.f k t358).bind fun t367 => (laws_FnZeckendorf.j0 k l0 t358 t359 (t366 != t367))) = some r := H
    have A12 := Aside0.mk A120
    clear A120
    replace H := Option.bind_eq_some_iff.mp H
    obtain ⟨t367, A130, H⟩ := H
    replace H : (laws_FnZeckendorf.j0 k l0 t358 t359 (t366 != t367)) = some r := H
    have A13 := Aside0.mk A130
    clear A130
    as_aux_lemma =>
     have H' := Aside0.mk H
     clear H
     go_wp2_with (first | ((with_reducible refine gate_callee (f := 34) rfl ?_); refine goesL_ (some 29) rfl rfl Try.func34 (by kernel_rfl) rfl #[.int .i64 t358] rfl (by (try simp only [List.map_toArray, List.map_cons, List.map_nil]); first | done | rfl | (simp only [List.length_drop, List.length_take]; rfl)) ?_; (with_reducible refine (spec_ZeckendorfOf.calls k t358 t362 _ A9.out).mono ?_); rintro e w14 ⟨v363, rfl, ho0, hb⟩; refine ⟨_, rfl, ?_⟩; have n0_ := Aside0.mk (Kd.R_elder' (by (with_reducible repeat (first | apply Kd.R_alloc | apply Kd.R_drewN | apply Kd.R_drew)); exact HO361.out) (Kd.R_base ho0) hb); have n1_ := Aside0.mk (Kd.R_lower (Kd.R_new' ho0 (Kd.R_lt (by (with_reducible repeat (first | apply Kd.R_alloc | apply Kd.R_drewN | apply Kd.R_drew)); exact HO361.out))) (below_size (by repeat (first | (with_reducible first | exact HB.out | apply below_alloc | apply pw_below_drewN | apply below_drew1) | exact HB.out)))); have n2_ := Aside0.mk (below_step (by repeat (first | (with_reducible first | exact HB.out | apply below_alloc | apply pw_below_drewN | apply below_drew1) | exact HB.out)) hb); clear HO361; clear HB; have HO361 := n0_; have HO364 := n1_; have HB := n2_; clear n0_ n1_ n2_; (try clear hb); (try clear hb2); (try clear hk); (try clear hi); (try clear ho0); obtain ⟨Ao15, co15, eo15⟩ := Kd.R_slice HO361.out; subst eo15; obtain ⟨Ao16, co16, eo16⟩ := Kd.R_slice HO364.out; subst eo16) | ((with_reducible refine gate_callee (f := 33) rfl ?_); refine goesL_ (some 30) rfl rfl Try.func33 (by kernel_rfl) rfl #[.slice Ao15 t359.length co15, .slice Ao16 t362.length co16] rfl (by (try simp only [List.map_toArray, List.map_cons, List.map_nil]); first | done | rfl | (simp only [List.length_drop, List.length_take]; rfl)) ?_; (with_reducible refine (laws_sameInts.calls k _ _ t359 _ _ t362 true _ ?side1 ?side2 ?side3 ?side4 A10.out).mono ?_); (case side1 => repeat (first | exact (Kd.R_reads' HO361.out).2.2 | (with_reducible refine Kd.C_alloc ?_ _) | (with_reducible refine Kd.C_drewN ?_ _) | (with_reducible refine Kd.C_drew ?_))); (case side2 => exact (Kd.R_reads' HO361.out).2.1); (case side3 => repeat (first | exact (Kd.R_reads' HO364.out).2.2 | (with_reducible refine Kd.C_alloc ?_ _) | (with_reducible refine Kd.C_drewN ?_ _) | (with_reducible refine Kd.C_drew ?_))); (case side4 => exact (Kd.R_reads' HO364.out).2.1); rintro e w' ⟨rfl, ⟨nd, rfl⟩⟩; refine ⟨_, rfl, ?_⟩) | (go_at_call 35; (with_reducible refine (impl_ShiftZeckendorf.calls k t358 t366 _ A12.out).mono ?_); rintro e w17 ⟨rfl, hb⟩; have n0_ := Aside0.mk (Kd.R_below (by (with_reducible repeat (first | apply Kd.R_alloc | apply Kd.R_drewN | apply Kd.R_drew)); exact HO361.out) hb); have n1_ := Aside0.mk (Kd.R_below (by (with_reducible repeat (first | apply Kd.R_alloc | apply Kd.R_drewN | apply Kd.R_drew)); exact HO364.out) hb); have n2_ := Aside0.mk (below_step (by repeat (first | (with_reducible first | exact HB.out | apply below_alloc | apply pw_below_drewN | apply below_drew1) | exact HB.out)) hb); clear HO361; clear HO364; clear HB; have HO361 := n0_; have HO364 := n1_; have HB := n2_; clear n0_ n1_ n2_; (try clear hb); (try clear hb2); (try clear hk); (try clear hi)) | (go_at_call 36; (with_reducible refine (spec_ShiftZeckendorf.calls k t358 t367 _ A13.out).mono ?_); rintro e w18 ⟨rfl, hb⟩; have n0_ := Aside0.mk (Kd.R_below (by (with_reducible repeat (first | apply Kd.R_alloc | apply Kd.R_drewN | apply Kd.R_drew)); exact HO361.out) hb); have n1_ := Aside0.mk (Kd.R_below (by (with_reducible repeat (first | apply Kd.R_alloc | apply Kd.R_drewN | apply Kd.R_drew)); exact HO364.out) hb); have n2_ := Aside0.mk (below_step (by repeat (first | (with_reducible first | exact HB.out | apply below_alloc | apply pw_below_drewN | apply below_drew1) | exact HB.out)) hb); clear HO361; clear HO364; clear HB; have HO361 := n0_; have HO364 := n1_; have HB := n2_; clear n0_ n1_ n2_; (try clear hb); (try clear hb2); (try clear hk); (try clear hi)))
     go_meet
     case rel => exact ⟨_, ((t366 != t367)), (by first | rfl | (simp; done) | (simp [*]; done)), H', ⟨by first | omega | exact Nat.le_refl _⟩, ⟨by (with_reducible repeat (first | apply Kd.R_alloc | apply Kd.R_drewN | apply Kd.R_drew)); exact Kd.R_mono HO361.out (fun _ hk => trivial)⟩, ⟨by repeat (first | (with_reducible first | exact HB.out | apply below_alloc | apply pw_below_drewN | apply below_drew1) | exact HB.out)⟩⟩
   ·replace c11 := Bool.eq_false_iff.mpr c11
    subst c11
    have H1 : (laws_FnZeckendorf.j0 k l0 t358 t359 true) = some r := by rw [if_neg (show ¬ (false = true) by decide)] at H; exact H
    clear H
    have H := H1
    clear H1
    as_aux_lemma =>
     have H' := Aside0.mk H
     clear H
     go_wp2_with (first | ((with_reducible refine gate_callee (f := 34) rfl ?_); refine goesL_ (some 29) rfl rfl Try.func34 (by kernel_rfl) rfl #[.int .i64 t358] rfl (by (try simp only [List.map_toArray, List.map_cons, List.map_nil]); first | done | rfl | (simp only [List.length_drop, List.length_take]; rfl)) ?_; (with_reducible refine (spec_ZeckendorfOf.calls k t358 t362 _ A9.out).mono ?_); rintro e w19 ⟨v363, rfl, ho0, hb⟩; refine ⟨_, rfl, ?_⟩; have n0_ := Aside0.mk (Kd.R_elder' (by (with_reducible repeat (first | apply Kd.R_alloc | apply Kd.R_drewN | apply Kd.R_drew)); exact HO361.out) (Kd.R_base ho0) hb); have n1_ := Aside0.mk (Kd.R_lower (Kd.R_new' ho0 (Kd.R_lt (by (with_reducible repeat (first | apply Kd.R_alloc | apply Kd.R_drewN | apply Kd.R_drew)); exact HO361.out))) (below_size (by repeat (first | (with_reducible first | exact HB.out | apply below_alloc | apply pw_below_drewN | apply below_drew1) | exact HB.out)))); have n2_ := Aside0.mk (below_step (by repeat (first | (with_reducible first | exact HB.out | apply below_alloc | apply pw_below_drewN | apply below_drew1) | exact HB.out)) hb); clear HO361; clear HB; have HO361 := n0_; have HO364 := n1_; have HB := n2_; clear n0_ n1_ n2_; (try clear hb); (try clear hb2); (try clear hk); (try clear hi); (try clear ho0); obtain ⟨Ao20, co20, eo20⟩ := Kd.R_slice HO361.out; subst eo20; obtain ⟨Ao21, co21, eo21⟩ := Kd.R_slice HO364.out; subst eo21) | ((with_reducible refine gate_callee (f := 33) rfl ?_); refine goesL_ (some 30) rfl rfl Try.func33 (by kernel_rfl) rfl #[.slice Ao20 t359.length co20, .slice Ao21 t362.length co21] rfl (by (try simp only [List.map_toArray, List.map_cons, List.map_nil]); first | done | rfl | (simp only [List.length_drop, List.length_take]; rfl)) ?_; (with_reducible refine (laws_sameInts.calls k _ _ t359 _ _ t362 false _ ?side1 ?side2 ?side3 ?side4 A10.out).mono ?_); (case side1 => repeat (first | exact (Kd.R_reads' HO361.out).2.2 | (with_reducible refine Kd.C_alloc ?_ _) | (with_reducible refine Kd.C_drewN ?_ _) | (with_reducible refine Kd.C_drew ?_))); (case side2 => exact (Kd.R_reads' HO361.out).2.1); (case side3 => repeat (first | exact (Kd.R_reads' HO364.out).2.2 | (with_reducible refine Kd.C_alloc ?_ _) | (with_reducible refine Kd.C_drewN ?_ _) | (with_reducible refine Kd.C_drew ?_))); (case side4 => exact (Kd.R_reads' HO364.out).2.1); rintro e w' ⟨rfl, ⟨nd, rfl⟩⟩; refine ⟨_, rfl, ?_⟩))
     go_meet
     case rel => exact ⟨_, (true), (by first | rfl | (simp; done) | (simp [*]; done)), H', ⟨by first | omega | exact Nat.le_refl _⟩, ⟨by (with_reducible repeat (first | apply Kd.R_alloc | apply Kd.R_drewN | apply Kd.R_drew)); exact Kd.R_mono HO361.out (fun _ hk => trivial)⟩, ⟨by repeat (first | (with_reducible first | exact HB.out | apply below_alloc | apply pw_below_drewN | apply below_drew1) | exact HB.out)⟩⟩
  case rest => as_aux_lemma =>
   clear HC6
   try clear c1
   try clear p2
   try clear c3
   try clear c10
   try clear c11
   obtain ⟨kq, x38_5, rfl, HA, HJ5, HO_4, HB⟩ := hcut
   cases kq with
   | zero => exact absurd HA.out (by simp [laws_FnZeckendorf.j0])
   | succ kj5 =>
    have H := HA.out
    clear HA
    simp only [laws_FnZeckendorf.j0] at H
    by_cases c22 : x38_5 = true
    ·subst c22
     have H1 : (some false) = some r := by rw [if_pos rfl] at H; exact H
     clear H
     have H := H1
     clear H1
     as_aux_lemma =>
      obtain rfl := Option.some.inj H
      go_wp2
      go_ret
      exact ⟨by first | rfl | (simp [errW_none, errW_some] <;> rfl) | (simp [*, errW_none, errW_some] <;> rfl), by repeat (first | (with_reducible first | exact HB.out | apply below_alloc | apply pw_below_drewN | apply below_drew1) | exact HB.out)⟩
    ·replace c22 := Bool.eq_false_iff.mpr c22
     subst c22
     have H1 : (if t358 ≥ 0 then ((spec_FibonacciNumber.f kj5 40).bind fun t368 => (if t358 < t368 then ((impl_IsZeckendorf.f kj5 t359).bind fun t369 => (if t369 = true then ((impl_ZeckendorfValue.f kj5 t359).bind fun t370 => (laws_FnZeckendorf.j1 kj5 l0 (t370 != t358))) else (laws_FnZeckendorf.j1 kj5 l0 true))) else (laws_FnZeckendorf.j1 kj5 l0 false))) else (laws_FnZeckendorf.j1 kj5 l0 false)) = some r := by rw [if_neg (show ¬ (false = true) by decide)] at H; exact H
     clear H
     have H := H1
     clear H1
     have HC23 := Aside0.mk H
     clear H
     go_upto_region 7 with (fail)
     go_cut [56] (fun v56 wc => ∃ (kq : Nat) (x56_22 : Bool), v56 = .bool x56_22 ∧ Aside0 (laws_FnZeckendorf.j1 kq l0 x56_22 = some r) ∧ Aside0 (kq ≤ kj5) ∧ Aside0 (Below w.heap.size w wc))
     case first => as_aux_lemma =>
      have H := HC23.out
      clear HC23
      by_cases c24 : t358 ≥ 0
      ·rw [if_pos c24] at H
       have c24b0 : decide (0 ≤ t358) = true := decide_eq_true c24
       clear c24
       (first | rw [c24b0] | (simp only [i64_w, i32_w]; rw [c24b0]) | skip)
       replace H := Option.bind_eq_some_iff.mp H
       obtain ⟨t368, A250, H⟩ := H
       replace H : (if t358 < t368 then ((impl_IsZeckendorf.f kj5 t359).bind fun t369 => (if t369 = true then ((impl_ZeckendorfValue.f kj5 t359).bind fun t370 => (laws_FnZeckendorf.j1 kj5 l0 (t370 != t358))) else (laws_FnZeckendorf.j1 kj5 l0 true))) else (laws_FnZeckendorf.j1 kj5 l0 false)) = some r := H
       have A25 := Aside0.mk A250
       clear A250
       by_cases c26 : t358 < t368
       ·rw [if_pos c26] at H
        have c26b0 : decide (t358 < t368) = true := decide_eq_true c26
        clear c26
        replace H := Option.bind_eq_some_iff.mp H
        obtain ⟨t369, A270, H⟩ := H
        replace H : (if t369 = true then ((impl_ZeckendorfValue.f kj5 t359).bind fun t370 => (laws_FnZeckendorf.j1 kj5 l0 (t370 != t358))) else (laws_FnZeckendorf.j1 kj5 l0 true)) = some r := H
        have A27 := Aside0.mk A270
        clear A270
        by_cases c28 : t369 = true
        ·subst c28
         have H1 : ((impl_ZeckendorfValue.f kj5 t359).bind fun t370 => (laws_FnZeckendorf.j1 kj5 l0 (t370 != t358))) = some r := by rw [if_pos rfl] at H; exact H
         clear H
         have H := H1
         clear H1
         replace H := Option.bind_eq_some_iff.mp H
         obtain ⟨t370, A290, H⟩ := H
         replace H : (laws_FnZeckendorf.j1 kj5 l0 (t370 != t358)) = some r := H
         have A29 := Aside0.mk A290
         clear A290
         as_aux_lemma =>
          have H' := Aside0.mk H
          clear H
          go_wp2_with (first | (go_at_call 37; (with_reducible refine (spec_FibonacciNumber.calls kj5 40 t368 _ A25.out).mono ?_); rintro e w' ⟨rfl, ⟨nd, rfl⟩⟩; obtain ⟨Ao30, co30, eo30⟩ := Kd.R_slice HO_4.out; subst eo30) | (go_at_call 38; (with_reducible refine (impl_IsZeckendorf.calls kj5 _ _ t359 true _ ?side1 ?side2 A27.out).mono ?_); (case side1 => repeat (first | exact (Kd.R_reads' HO_4.out).2.2 | (with_reducible refine Kd.C_alloc ?_ _) | (with_reducible refine Kd.C_drewN ?_ _) | (with_reducible refine Kd.C_drew ?_))); (case side2 => exact (Kd.R_reads' HO_4.out).2.1); rintro e w' ⟨rfl, ⟨nd, rfl⟩⟩) | (go_at_call 39; (with_reducible refine (impl_ZeckendorfValue.calls kj5 _ _ t359 t370 _ ?side1 ?side2 A29.out).mono ?_); (case side1 => repeat (first | exact (Kd.R_reads' HO_4.out).2.2 | (with_reducible refine Kd.C_alloc ?_ _) | (with_reducible refine Kd.C_drewN ?_ _) | (with_reducible refine Kd.C_drew ?_))); (case side2 => exact (Kd.R_reads' HO_4.out).2.1); rintro e w31 ⟨rfl, hb⟩; have n0_ := Aside0.mk (Kd.R_below (by (with_reducible repeat (first | apply Kd.R_alloc | apply Kd.R_drewN | apply Kd.R_drew)); exact HO_4.out) hb); have n1_ := Aside0.mk (below_step (by repeat (first | (with_reducible first | exact HB.out | apply below_alloc | apply pw_below_drewN | apply below_drew1) | exact HB.out)) hb); clear HO_4; clear HB; have HO_4 := n0_; have HB := n1_; clear n0_ n1_; (try clear hb); (try clear hb2); (try clear hk); (try clear hi)))
          go_meet
          case rel => exact ⟨_, ((t370 != t358)), (by first | rfl | (simp; done) | (simp [*]; done)), H', ⟨by have := HJ5.out; first | omega | exact Nat.le_refl _⟩, ⟨by repeat (first | (with_reducible first | exact HB.out | apply below_alloc | apply pw_below_drewN | apply below_drew1) | exact HB.out)⟩⟩
        ·replace c28 := Bool.eq_false_iff.mpr c28
         subst c28
         have H1 : (laws_FnZeckendorf.j1 kj5 l0 true) = some r := by rw [if_neg (show ¬ (false = true) by decide)] at H; exact H
         clear H
         have H := H1
         clear H1
         as_aux_lemma =>
          have H' := Aside0.mk H
          clear H
          go_wp2_with (first | (go_at_call 37; (with_reducible refine (spec_FibonacciNumber.calls kj5 40 t368 _ A25.out).mono ?_); rintro e w' ⟨rfl, ⟨nd, rfl⟩⟩; obtain ⟨Ao32, co32, eo32⟩ := Kd.R_slice HO_4.out; subst eo32) | (go_at_call 38; (with_reducible refine (impl_IsZeckendorf.calls kj5 _ _ t359 false _ ?side1 ?side2 A27.out).mono ?_); (case side1 => repeat (first | exact (Kd.R_reads' HO_4.out).2.2 | (with_reducible refine Kd.C_alloc ?_ _) | (with_reducible refine Kd.C_drewN ?_ _) | (with_reducible refine Kd.C_drew ?_))); (case side2 => exact (Kd.R_reads' HO_4.out).2.1); rintro e w' ⟨rfl, ⟨nd, rfl⟩⟩))
          go_meet
          case rel => exact ⟨_, (true), (by first | rfl | (simp; done) | (simp [*]; done)), H', ⟨by have := HJ5.out; first | omega | exact Nat.le_refl _⟩, ⟨by repeat (first | (with_reducible first | exact HB.out | apply below_alloc | apply pw_below_drewN | apply below_drew1) | exact HB.out)⟩⟩
       ·rw [if_neg c26] at H
        have c26b0 : decide (t358 < t368) = false := decide_eq_false c26
        clear c26
        as_aux_lemma =>
         have H' := Aside0.mk H
         clear H
         go_wp2_with (first | (go_at_call 37; (with_reducible refine (spec_FibonacciNumber.calls kj5 40 t368 _ A25.out).mono ?_); rintro e w' ⟨rfl, ⟨nd, rfl⟩⟩))
         go_meet
         case rel => exact ⟨_, (false), (by first | rfl | (simp; done) | (simp [*]; done)), H', ⟨by have := HJ5.out; first | omega | exact Nat.le_refl _⟩, ⟨by repeat (first | (with_reducible first | exact HB.out | apply below_alloc | apply pw_below_drewN | apply below_drew1) | exact HB.out)⟩⟩
      ·rw [if_neg c24] at H
       have c24b0 : decide (0 ≤ t358) = false := decide_eq_false c24
       clear c24
       (first | rw [c24b0] | (simp only [i64_w, i32_w]; rw [c24b0]) | skip)
       as_aux_lemma =>
        have H' := Aside0.mk H
        clear H
        go_wp2
        go_meet
        case rel => exact ⟨_, (false), (by first | rfl | (simp; done) | (simp [*]; done)), H', ⟨by have := HJ5.out; first | omega | exact Nat.le_refl _⟩, ⟨by repeat (first | (with_reducible first | exact HB.out | apply below_alloc | apply pw_below_drewN | apply below_drew1) | exact HB.out)⟩⟩
     case rest => as_aux_lemma =>
      clear HC23
      try clear c1
      try clear c2
      try clear p2
      try clear c3
      try clear c10
      try clear c11
      try clear c22
      try clear c24
      try clear c24b0
      try clear c26
      try clear c26b0
      try clear c28
      try clear c30
      try clear c31
      try clear c32
      try clear p2
      obtain ⟨kq, x56_22, rfl, HA, HJ22, HB⟩ := hcut
      cases kq with
      | zero => exact absurd HA.out (by simp [laws_FnZeckendorf.j1])
      | succ kj22 =>
       have H := HA.out
       clear HA
       simp only [laws_FnZeckendorf.j1] at H
       by_cases c33 : x56_22 = true
       ·subst c33
        have H1 : (some false) = some r := by rw [if_pos rfl] at H; exact H
        clear H
        have H := H1
        clear H1
        as_aux_lemma =>
         obtain rfl := Option.some.inj H
         go_wp2
         go_ret
         exact ⟨by first | rfl | (simp [errW_none, errW_some] <;> rfl) | (simp [*, errW_none, errW_some] <;> rfl), by repeat (first | (with_reducible first | exact HB.out | apply below_alloc | apply pw_below_drewN | apply below_drew1) | exact HB.out)⟩
       ·replace c33 := Bool.eq_false_iff.mpr c33
        subst c33
        have H1 : ((spec_DrawAddZeckendorf.f kj22 l0).bind fun bt371 => ((impl_AddZeckendorf.f kj22 bt371.1 bt371.2).bind fun bt377 => ((spec_AddZeckendorf.f kj22 bt371.1 bt371.2).bind fun bt381 => ((impl_CompareZeckendorf.f kj22 bt371.1 bt371.2).bind fun t385 => (if (bt377.2 != bt381.2) = true then (laws_FnZeckendorf.j2 kj22 l0 bt371.1 bt371.2 bt377.2 t385 true) else ((laws_sameInts.f kj22 bt377.1 bt381.1).bind fun t386 => (if t386 = true then ((spec_CompareZeckendorf.f kj22 bt371.1 bt371.2).bind fun t387 => (if t385 = t387 then (if bt377.2 = true then ((impl_ZeckendorfValue.f kj22 bt381.1).bind fun t388 => ((spec_ZeckendorfValue.f kj22 bt371.1).bind fun t389 => ((spec_ZeckendorfValue.f kj22 bt371.2).bind fun t390 => (laws_FnZeckendorf.j2 kj22 l0 bt371.1 bt371.2 bt377.2 t385 (t388 != (wrap64 (t389 + t390))))))) else (laws_FnZeckendorf.j2 kj22 l0 bt371.1 bt371.2 bt377.2 t385 false)) else (laws_FnZeckendorf.j2 kj22 l0 bt371.1 bt371.2 bt377.2 t385 true))) else (laws_FnZeckendorf.j2 kj22 l0 bt371.1 bt371.2 bt377.2 t385 true)))))))) = some r := by rw [if_neg (show ¬ (false = true) by decide)] at H; exact H
        clear H
        have H := H1
        clear H1
        replace H := Option.bind_eq_some_iff.mp H
        obtain ⟨⟨t371, t372⟩, A340, H⟩ := H
        replace H : ((impl_AddZeckendorf.f kj22 t371 t372).bind fun bt377 => ((spec_AddZeckendorf.f kj22 t371 t372).bind fun bt381 => ((impl_CompareZeckendorf.f kj22 t371 t372).bind fun t385 => (if (bt377.2 != bt381.2) = true then (laws_FnZeckendorf.j2 kj22 l0 t371 t372 bt377.2 t385 true) else ((laws_sameInts.f kj22 bt377.1 bt381.1).bind fun t386 => (if t386 = true then ((spec_CompareZeckendorf.f kj22 t371 t372).bind fun t387 => (if t385 = t387 then (if bt377.2 = true then ((impl_ZeckendorfValue.f kj22 bt381.1).bind fun t388 => ((spec_ZeckendorfValue.f kj22 t371).bind fun t389 => ((spec_ZeckendorfValue.f kj22 t372).bind fun t390 => (laws_FnZeckendorf.j2 kj22 l0 t371 t372 bt377.2 t385 (t388 != (wrap64 (t389 + t390))))))) else (laws_FnZeckendorf.j2 kj22 l0 t371 t372 bt377.2 t385 false)) else (laws_FnZeckendorf.j2 kj22 l0 t371 t372 bt377.2 t385 true))) else (laws_FnZeckendorf.j2 kj22 l0 t371 t372 bt377.2 t385 true))))))) = some r := H
        have A34 := Aside0.mk A340
        clear A340
        replace H := Option.bind_eq_some_iff.mp H
        obtain ⟨⟨t377, t378⟩, A350, H⟩ := H
        replace H : ((spec_AddZeckendorf.f kj22 t371 t372).bind fun bt381 => ((impl_CompareZeckendorf.f kj22 t371 t372).bind fun t385 => (if (t378 != bt381.2) = true then (laws_FnZeckendorf.j2 kj22 l0 t371 t372 t378 t385 true) else ((laws_sameInts.f kj22 t377 bt381.1).bind fun t386 => (if t386 = true then ((spec_CompareZeckendorf.f kj22 t371 t372).bind fun t387 => (if t385 = t387 then (if t378 = true then ((impl_ZeckendorfValue.f kj22 bt381.1).bind fun t388 => ((spec_ZeckendorfValue.f kj22 t371).bind fun t389 => ((spec_ZeckendorfValue.f kj22 t372).bind fun t390 => (laws_FnZeckendorf.j2 kj22 l0 t371 t372 t378 t385 (t388 != (wrap64 (t389 + t390))))))) else (laws_FnZeckendorf.j2 kj22 l0 t371 t372 t378 t385 false)) else (laws_FnZeckendorf.j2 kj22 l0 t371 t372 t378 t385 true))) else (laws_FnZeckendorf.j2 kj22 l0 t371 t372 t378 t385 true)))))) = some r := H
        have A35 := Aside0.mk A350
        clear A350
        replace H := Option.bind_eq_some_iff.mp H
        obtain ⟨⟨t381, t382⟩, A360, H⟩ := H
        replace H : ((impl_CompareZeckendorf.f kj22 t371 t372).bind fun t385 => (if (t378 != t382) = true then (laws_FnZeckendorf.j2 kj22 l0 t371 t372 t378 t385 true) else ((laws_sameInts.f kj22 t377 t381).bind fun t386 => (if t386 = true then ((spec_CompareZeckendorf.f kj22 t371 t372).bind fun t387 => (if t385 = t387 then (if t378 = true then ((impl_ZeckendorfValue.f kj22 t381).bind fun t388 => ((spec_ZeckendorfValue.f kj22 t371).bind fun t389 => ((spec_ZeckendorfValue.f kj22 t372).bind fun t390 => (laws_FnZeckendorf.j2 kj22 l0 t371 t372 t378 t385 (t388 != (wrap64 (t389 + t390))))))) else (laws_FnZeckendorf.j2 kj22 l0 t371 t372 t378 t385 false)) else (laws_FnZeckendorf.j2 kj22 l0 t371 t372 t378 t385 true))) else (laws_FnZeckendorf.j2 kj22 l0 t371 t372 t378 t385 true))))) = some r := H
        have A36 := Aside0.mk A360
        clear A360
        replace H := Option.bind_eq_some_iff.mp H
        obtain ⟨t385, A370, H⟩ := H
        replace H : (if (t378 != t382) = true then (laws_FnZeckendorf.j2 kj22 l0 t371 t372 t378 t385 true) else ((laws_sameInts.f kj22 t377 t381).bind fun t386 => (if t386 = true then ((spec_CompareZeckendorf.f kj22 t371 t372).bind fun t387 => (if t385 = t387 then (if t378 = true then ((impl_ZeckendorfValue.f kj22 t381).bind fun t388 => ((spec_ZeckendorfValue.f kj22 t371).bind fun t389 => ((spec_ZeckendorfValue.f kj22 t372).bind fun t390 => (laws_FnZeckendorf.j2 kj22 l0 t371 t372 t378 t385 (t388 != (wrap64 (t389 + t390))))))) else (laws_FnZeckendorf.j2 kj22 l0 t371 t372 t378 t385 false)) else (laws_FnZeckendorf.j2 kj22 l0 t371 t372 t378 t385 true))) else (laws_FnZeckendorf.j2 kj22 l0 t371 t372 t378 t385 true)))) = some r := H
        have A37 := Aside0.mk A370
        clear A370
        have HC38 := Aside0.mk H
        clear H
        go_upto_region 13 with (first | ((with_reducible refine gate_callee (f := 40) rfl ?_); refine goesL_ (some 59) rfl rfl Try.func40 (by kernel_rfl) rfl #[.slice A0 l0.length c0] rfl (by (try simp only [List.map_toArray, List.map_cons, List.map_nil]); first | done | rfl | (simp only [List.length_drop, List.length_take]; rfl)) ?_; (with_reducible refine (spec_DrawAddZeckendorf.calls kj22 _ _ l0 t371 t372 _ ?side1 ?side2 A34.out).mono ?_); (case side1 => repeat (first | exact (Kd.C_below HR0.out HB.out) | (with_reducible refine Kd.C_alloc ?_ _) | (with_reducible refine Kd.C_drewN ?_ _) | (with_reducible refine Kd.C_drew ?_))); (case side2 => exact HC0.out); rintro e w39 ⟨v373, v375, rfl, ho0, ho1, hb⟩; refine ⟨_, rfl, ?_⟩; have n0_ := Aside0.mk (Kd.R_lower ho0 (below_size (by repeat (first | (with_reducible first | exact HB.out | apply below_alloc | apply pw_below_drewN | apply below_drew1) | exact HB.out)))); have n1_ := Aside0.mk (Kd.R_lower ho1 (below_size (by repeat (first | (with_reducible first | exact HB.out | apply below_alloc | apply pw_below_drewN | apply below_drew1) | exact HB.out)))); have n2_ := Aside0.mk (below_step (by repeat (first | (with_reducible first | exact HB.out | apply below_alloc | apply pw_below_drewN | apply below_drew1) | exact HB.out)) hb); clear HB; have HO374 := n0_; have HO376 := n1_; have HB := n2_; clear n0_ n1_ n2_; (try clear hb); (try clear hb2); (try clear hk); (try clear hi); (try clear ho0); (try clear ho1); obtain ⟨Ao40, co40, eo40⟩ := Kd.R_slice HO374.out; subst eo40; obtain ⟨Ao41, co41, eo41⟩ := Kd.R_slice HO376.out; subst eo41) | ((with_reducible refine gate_callee (f := 29) rfl ?_); refine goesL_ (some 65) rfl rfl Try.func29 (by kernel_rfl) rfl #[.slice Ao40 t371.length co40, .slice Ao41 t372.length co41] rfl (by (try simp only [List.map_toArray, List.map_cons, List.map_nil]); first | done | rfl | (simp only [List.length_drop, List.length_take]; rfl)) ?_; (with_reducible refine (impl_AddZeckendorf.calls kj22 _ _ t371 _ _ t372 t377 t378 _ ?side1 ?side2 ?side3 ?side4 A35.out).mono ?_); (case side1 => repeat (first | exact (Kd.R_reads' HO374.out).2.2 | (with_reducible refine Kd.C_alloc ?_ _) | (with_reducible refine Kd.C_drewN ?_ _) | (with_reducible refine Kd.C_drew ?_))); (case side2 => exact (Kd.R_reads' HO374.out).2.1); (case side3 => repeat (first | exact (Kd.R_reads' HO376.out).2.2 | (with_reducible refine Kd.C_alloc ?_ _) | (with_reducible refine Kd.C_drewN ?_ _) | (with_reducible refine Kd.C_drew ?_))); (case side4 => exact (Kd.R_reads' HO376.out).2.1); rintro e w42 ⟨v379, rfl, ho0, hb⟩; refine ⟨_, rfl, ?_⟩; have n0_ := Aside0.mk (Kd.R_elder' (by (with_reducible repeat (first | apply Kd.R_alloc | apply Kd.R_drewN | apply Kd.R_drew)); exact HO374.out) (Kd.R_base ho0) hb); have n1_ := Aside0.mk (Kd.R_elder' (by (with_reducible repeat (first | apply Kd.R_alloc | apply Kd.R_drewN | apply Kd.R_drew)); exact HO376.out) (Kd.R_base ho0) hb); have n2_ := Aside0.mk (Kd.R_lower (Kd.R_new' (Kd.R_new' ho0 (Kd.R_lt (by (with_reducible repeat (first | apply Kd.R_alloc | apply Kd.R_drewN | apply Kd.R_drew)); exact HO374.out))) (Kd.R_lt (by (with_reducible repeat (first | apply Kd.R_alloc | apply Kd.R_drewN | apply Kd.R_drew)); exact HO376.out))) (below_size (by repeat (first | (with_reducible first | exact HB.out | apply below_alloc | apply pw_below_drewN | apply below_drew1) | exact HB.out)))); have n3_ := Aside0.mk (below_step (by repeat (first | (with_reducible first | exact HB.out | apply below_alloc | apply pw_below_drewN | apply below_drew1) | exact HB.out)) hb); clear HO374; clear HO376; clear HB; have HO374 := n0_; have HO376 := n1_; have HO380 := n2_; have HB := n3_; clear n0_ n1_ n2_ n3_; (try clear hb); (try clear hb2); (try clear hk); (try clear hi); (try clear ho0)) | ((with_reducible refine gate_callee (f := 28) rfl ?_); refine goesL_ (some 71) rfl rfl Try.func28 (by kernel_rfl) rfl #[.slice Ao40 t371.length co40, .slice Ao41 t372.length co41] rfl (by (try simp only [List.map_toArray, List.map_cons, List.map_nil]); first | done | rfl | (simp only [List.length_drop, List.length_take]; rfl)) ?_; (with_reducible refine (spec_AddZeckendorf.calls kj22 _ _ t371 _ _ t372 t381 t382 _ ?side1 ?side2 ?side3 ?side4 A36.out).mono ?_); (case side1 => repeat (first | exact (Kd.R_reads' HO374.out).2.2 | (with_reducible refine Kd.C_alloc ?_ _) | (with_reducible refine Kd.C_drewN ?_ _) | (with_reducible refine Kd.C_drew ?_))); (case side2 => exact (Kd.R_reads' HO374.out).2.1); (case side3 => repeat (first | exact (Kd.R_reads' HO376.out).2.2 | (with_reducible refine Kd.C_alloc ?_ _) | (with_reducible refine Kd.C_drewN ?_ _) | (with_reducible refine Kd.C_drew ?_))); (case side4 => exact (Kd.R_reads' HO376.out).2.1); rintro e w43 ⟨v383, rfl, ho0, hb⟩; refine ⟨_, rfl, ?_⟩; have n0_ := Aside0.mk (Kd.R_elder' (by (with_reducible repeat (first | apply Kd.R_alloc | apply Kd.R_drewN | apply Kd.R_drew)); exact HO374.out) (Kd.R_base ho0) hb); have n1_ := Aside0.mk (Kd.R_elder' (by (with_reducible repeat (first | apply Kd.R_alloc | apply Kd.R_drewN | apply Kd.R_drew)); exact HO376.out) (Kd.R_base ho0) hb); have n2_ := Aside0.mk (Kd.R_elder' (by (with_reducible repeat (first | apply Kd.R_alloc | apply Kd.R_drewN | apply Kd.R_drew)); exact HO380.out) (Kd.R_base ho0) hb); have n3_ := Aside0.mk (Kd.R_lower (Kd.R_new' (Kd.R_new' (Kd.R_new' ho0 (Kd.R_lt (by (with_reducible repeat (first | apply Kd.R_alloc | apply Kd.R_drewN | apply Kd.R_drew)); exact HO374.out))) (Kd.R_lt (by (with_reducible repeat (first | apply Kd.R_alloc | apply Kd.R_drewN | apply Kd.R_drew)); exact HO376.out))) (Kd.R_lt (by (with_reducible repeat (first | apply Kd.R_alloc | apply Kd.R_drewN | apply Kd.R_drew)); exact HO380.out))) (below_size (by repeat (first | (with_reducible first | exact HB.out | apply below_alloc | apply pw_below_drewN | apply below_drew1) | exact HB.out)))); have n4_ := Aside0.mk (below_step (by repeat (first | (with_reducible first | exact HB.out | apply below_alloc | apply pw_below_drewN | apply below_drew1) | exact HB.out)) hb); clear HO374; clear HO376; clear HO380; clear HB; have HO374 := n0_; have HO376 := n1_; have HO380 := n2_; have HO384 := n3_; have HB := n4_; clear n0_ n1_ n2_ n3_ n4_; (try clear hb); (try clear hb2); (try clear hk); (try clear hi); (try clear ho0)) | ((with_reducible refine gate_callee (f := 41) rfl ?_); refine goesL_ (some 76) rfl rfl Try.func41 (by kernel_rfl) rfl #[.slice Ao40 t371.length co40, .slice Ao41 t372.length co41] rfl (by (try simp only [List.map_toArray, List.map_cons, List.map_nil]); first | done | rfl | (simp only [List.length_drop, List.length_take]; rfl)) ?_; (with_reducible refine (impl_CompareZeckendorf.calls kj22 _ _ t371 _ _ t372 t385 _ ?side1 ?side2 ?side3 ?side4 A37.out).mono ?_); (case side1 => repeat (first | exact (Kd.R_reads' HO374.out).2.2 | (with_reducible refine Kd.C_alloc ?_ _) | (with_reducible refine Kd.C_drewN ?_ _) | (with_reducible refine Kd.C_drew ?_))); (case side2 => exact (Kd.R_reads' HO374.out).2.1); (case side3 => repeat (first | exact (Kd.R_reads' HO376.out).2.2 | (with_reducible refine Kd.C_alloc ?_ _) | (with_reducible refine Kd.C_drewN ?_ _) | (with_reducible refine Kd.C_drew ?_))); (case side4 => exact (Kd.R_reads' HO376.out).2.1); rintro e w44 ⟨rfl, hb⟩; refine ⟨_, rfl, ?_⟩; have n0_ := Aside0.mk (Kd.R_below (by (with_reducible repeat (first | apply Kd.R_alloc | apply Kd.R_drewN | apply Kd.R_drew)); exact HO374.out) hb); have n1_ := Aside0.mk (Kd.R_below (by (with_reducible repeat (first | apply Kd.R_alloc | apply Kd.R_drewN | apply Kd.R_drew)); exact HO376.out) hb); have n2_ := Aside0.mk (Kd.R_below (by (with_reducible repeat (first | apply Kd.R_alloc | apply Kd.R_drewN | apply Kd.R_drew)); exact HO380.out) hb); have n3_ := Aside0.mk (Kd.R_below (by (with_reducible repeat (first | apply Kd.R_alloc | apply Kd.R_drewN | apply Kd.R_drew)); exact HO384.out) hb); have n4_ := Aside0.mk (below_step (by repeat (first | (with_reducible first | exact HB.out | apply below_alloc | apply pw_below_drewN | apply below_drew1) | exact HB.out)) hb); clear HO374; clear HO376; clear HO380; clear HO384; clear HB; have HO374 := n0_; have HO376 := n1_; have HO380 := n2_; have HO384 := n3_; have HB := n4_; clear n0_ n1_ n2_ n3_ n4_; (try clear hb); (try clear hb2); (try clear hk); (try clear hi)))
        (try simp only [Act.put, List.setIfInBounds_toArray, List.set_cons_zero, List.set_cons_succ])
        go_cut [105] (fun v105 wc => ∃ (kq : Nat) (x105_37 : Bool), v105 = .bool x105_37 ∧ Aside0 (laws_FnZeckendorf.j2 kq l0 t371 t372 t378 t385 x105_37 = some r) ∧ Aside0 (kq ≤ kj22) ∧ Aside0 (Kd.R (Kd.int .i64) 3 wc w.heap.size (fun k_ => some k_ ≠ ((.slice Ao41 t372.length co41) : Value).ownBlock) (.slice Ao40 t371.length co40) t371) ∧ Aside0 (Kd.R (Kd.int .i64) 3 wc w.heap.size (fun k_ => some k_ ≠ ((.slice Ao40 t371.length co40) : Value).ownBlock) (.slice Ao41 t372.length co41) t372) ∧ Aside0 (Below w.heap.size w wc))
        case first => as_aux_lemma =>
         have H := HC38.out
         clear HC38
         by_cases c45 : (t378 != t382) = true
         ·rw [if_pos c45] at H
          have c45b0 : (t378 != t382) = true := c45
          (try (have c45b1 : decide (t378 = t382) = false := by simpa using c45))
          (try (have c45b2 : (t378 == t382) = false := by simpa using c45))
          (try (have c45b3 : ¬ (t378 = t382) := by simpa using c45))
          clear c45
          (first | rw [c45b0] | (simp only [i64_w, i32_w]; rw [c45b0]) | skip)
          as_aux_lemma =>
           have H' := Aside0.mk H
           clear H
           go_wp2
           go_meet
           case rel => exact ⟨_, (true), (by first | rfl | (simp; done) | (simp [*]; done)), H', ⟨by have := HJ5.out; have := HJ22.out; first | omega | exact Nat.le_refl _⟩, ⟨by (with_reducible repeat (first | apply Kd.R_alloc | apply Kd.R_drewN | apply Kd.R_drew)); exact Kd.R_mono HO374.out (fun _ hk => hk.1.1)⟩, ⟨by (with_reducible repeat (first | apply Kd.R_alloc | apply Kd.R_drewN | apply Kd.R_drew)); exact Kd.R_mono HO376.out (fun _ hk => hk.1.1)⟩, ⟨by repeat (first | (with_reducible first | exact HB.out | apply below_alloc | apply pw_below_drewN | apply below_drew1) | exact HB.out)⟩⟩
         ·rw [if_neg c45] at H
          have c45b0 : (t378 != t382) = false := by simpa using c45
          (try (have c45b1 : decide (t378 = t382) = true := by simpa using c45))
          (try (have c45b2 : (t378 == t382) = true := by simpa using c45))
          clear c45
          (first | rw [c45b0] | (simp only [i64_w, i32_w]; rw [c45b0]) | skip)
          replace H := Option.bind_eq_some_iff.mp H
          obtain ⟨t386, A460, H⟩ := H
          replace H : (if t386 = true then ((spec_CompareZeckendorf.f kj22 t371 t372).bind fun t387 => (if t385 = t387 then (if t378 = true then ((impl_ZeckendorfValue.f kj22 t381).bind fun t388 => ((spec_ZeckendorfValue.f kj22 t371).bind fun t389 => ((spec_ZeckendorfValue.f kj22 t372).bind fun t390 => (laws_FnZeckendorf.j2 kj22 l0 t371 t372 t378 t385 (t388 != (wrap64 (t389 + t390))))))) else (laws_FnZeckendorf.j2 kj22 l0 t371 t372 t378 t385 false)) else (laws_FnZeckendorf.j2 kj22 l0 t371 t372 t378 t385 true))) else (laws_FnZeckendorf.j2 kj22 l0 t371 t372 t378 t385 true)) = some r := H
          have A46 := Aside0.mk A460
          clear A460
          by_cases c47 : t386 = true
          ·subst c47
           have H1 : ((spec_CompareZeckendorf.f kj22 t371 t372).bind fun t387 => (if t385 = t387 then (if t378 = true then ((impl_ZeckendorfValue.f kj22 t381).bind fun t388 => ((spec_ZeckendorfValue.f kj22 t371).bind fun t389 => ((spec_ZeckendorfValue.f kj22 t372).bind fun t390 => (laws_FnZeckendorf.j2 kj22 l0 t371 t372 t378 t385 (t388 != (wrap64 (t389 + t390))))))) else (laws_FnZeckendorf.j2 kj22 l0 t371 t372 t378 t385 false)) else (laws_FnZeckendorf.j2 kj22 l0 t371 t372 t378 t385 true))) = some r := by rw [if_pos rfl] at H; exact H
           clear H
           have H := H1
           clear H1
           replace H := Option.bind_eq_some_iff.mp H
           obtain ⟨t387, A480, H⟩ := H
           replace H : (if t385 = t387 then (if t378 = true then ((impl_ZeckendorfValue.f kj22 t381).bind fun t388 => ((spec_ZeckendorfValue.f kj22 t371).bind fun t389 => ((spec_ZeckendorfValue.f kj22 t372).bind fun t390 => (laws_FnZeckendorf.j2 kj22 l0 t371 t372 t378 t385 (t388 != (wrap64 (t389 + t390))))))) else (laws_FnZeckendorf.j2 kj22 l0 t371 t372 t378 t385 false)) else (laws_FnZeckendorf.j2 kj22 l0 t371 t372 t378 t385 true)) = some r := H
           have A48 := Aside0.mk A480
           clear A480
           by_cases c49 : t385 = t387
           ·rw [if_pos c49] at H
            have c49b0 : (t385 == t387) = true := beq_iff_eq.mpr c49
            have c49b1 : (t385 != t387) = false := bne_eq_false_iff_eq.mpr c49
            clear c49
            by_cases c50 : t378 = true
            ·subst c50
             have H1 : ((impl_ZeckendorfValue.f kj22 t381).bind fun t388 => ((spec_ZeckendorfValue.f kj22 t371).bind fun t389 => ((spec_ZeckendorfValue.f kj22 t372).bind fun t390 => (laws_FnZeckendorf.j2 kj22 l0 t371 t372 true t385 (t388 != (wrap64 (t389 + t390))))))) = some r := by rw [if_pos rfl] at H; exact H
             clear H
             have H := H1
             clear H1
             replace H := Option.bind_eq_some_iff.mp H
             obtain ⟨t388, A510, H⟩ := H
             replace H : ((spec_ZeckendorfValue.f kj22 t371).bind fun t389 => ((spec_ZeckendorfValue.f kj22 t372).bind fun t390 => (laws_FnZeckendorf.j2 kj22 l0 t371 t372 true t385 (t388 != (wrap64 (t389 + t390)))))) = some r := H
             have A51 := Aside0.mk A510
             clear A510
             replace H := Option.bind_eq_some_iff.mp H
             obtain ⟨t389, A520, H⟩ := H
             replace H : ((spec_ZeckendorfValue.f kj22 t372).bind fun t390 => (laws_FnZeckendorf.j2 kj22 l0 t371 t372 true t385 (t388 != (wrap64 (t389 + t390))))) = some r := H
             have A52 := Aside0.mk A520
             clear A520
             replace H := Option.bind_eq_some_iff.mp H
             obtain ⟨t390, A530, H⟩ := H
             replace H : (laws_FnZeckendorf.j2 kj22 l0 t371 t372 true t385 (t388 != (wrap64 (t389 + t390)))) = some r := H
             have A53 := Aside0.mk A530
             clear A530
             as_aux_lemma =>
              have H' := Aside0.mk H
              clear H
              obtain ⟨Ao54, co54, eo54⟩ := Kd.R_slice HO380.out
              subst eo54
              obtain ⟨Ao55, co55, eo55⟩ := Kd.R_slice HO384.out
              subst eo55
              go_wp2_with (first | (go_at_call 33; (with_reducible refine (laws_sameInts.calls kj22 _ _ t377 _ _ t381 true _ ?side1 ?side2 ?side3 ?side4 A46.out).mono ?_); (case side1 => repeat (first | exact (Kd.R_reads' HO380.out).2.2 | (with_reducible refine Kd.C_alloc ?_ _) | (with_reducible refine Kd.C_drewN ?_ _) | (with_reducible refine Kd.C_drew ?_))); (case side2 => exact (Kd.R_reads' HO380.out).2.1); (case side3 => repeat (first | exact (Kd.R_reads' HO384.out).2.2 | (with_reducible refine Kd.C_alloc ?_ _) | (with_reducible refine Kd.C_drewN ?_ _) | (with_reducible refine Kd.C_drew ?_))); (case side4 => exact (Kd.R_reads' HO384.out).2.1); rintro e w' ⟨rfl, ⟨nd, rfl⟩⟩) | (go_at_call 42; (with_reducible refine (spec_CompareZeckendorf.calls kj22 _ _ t371 _ _ t372 t387 _ ?side1 ?side2 ?side3 ?side4 A48.out).mono ?_); (case side1 => repeat (first | exact (Kd.R_reads' HO374.out).2.2 | (with_reducible refine Kd.C_alloc ?_ _) | (with_reducible refine Kd.C_drewN ?_ _) | (with_reducible refine Kd.C_drew ?_))); (case side2 => exact (Kd.R_reads' HO374.out).2.1); (case side3 => repeat (first | exact (Kd.R_reads' HO376.out).2.2 | (with_reducible refine Kd.C_alloc ?_ _) | (with_reducible refine Kd.C_drewN ?_ _) | (with_reducible refine Kd.C_drew ?_))); (case side4 => exact (Kd.R_reads' HO376.out).2.1); rintro e w' ⟨rfl, ⟨nd, rfl⟩⟩) | (go_at_call 39; (with_reducible refine (impl_ZeckendorfValue.calls kj22 _ _ t381 t388 _ ?side1 ?side2 A51.out).mono ?_); (case side1 => repeat (first | exact (Kd.R_reads' HO384.out).2.2 | (with_reducible refine Kd.C_alloc ?_ _) | (with_reducible refine Kd.C_drewN ?_ _) | (with_reducible refine Kd.C_drew ?_))); (case side2 => exact (Kd.R_reads' HO384.out).2.1); rintro e w56 ⟨rfl, hb⟩; have n0_ := Aside0.mk (Kd.R_below (by (with_reducible repeat (first | apply Kd.R_alloc | apply Kd.R_drewN | apply Kd.R_drew)); exact HO374.out) hb); have n1_ := Aside0.mk (Kd.R_below (by (with_reducible repeat (first | apply Kd.R_alloc | apply Kd.R_drewN | apply Kd.R_drew)); exact HO376.out) hb); have n2_ := Aside0.mk (Kd.R_below (by (with_reducible repeat (first | apply Kd.R_alloc | apply Kd.R_drewN | apply Kd.R_drew)); exact HO380.out) hb); have n3_ := Aside0.mk (Kd.R_below (by (with_reducible repeat (first | apply Kd.R_alloc | apply Kd.R_drewN | apply Kd.R_drew)); exact HO384.out) hb); have n4_ := Aside0.mk (below_step (by repeat (first | (with_reducible first | exact HB.out | apply below_alloc | apply pw_below_drewN | apply below_drew1) | exact HB.out)) hb); clear HO374; clear HO376; clear HO380; clear HO384; clear HB; have HO374 := n0_; have HO376 := n1_; have HO380 := n2_; have HO384 := n3_; have HB := n4_; clear n0_ n1_ n2_ n3_ n4_; (try clear hb); (try clear hb2); (try clear hk); (try clear hi)) | (go_at_call 43; (with_reducible refine (spec_ZeckendorfValue.calls kj22 _ _ t371 t389 _ ?side1 ?side2 A52.out).mono ?_); (case side1 => repeat (first | exact (Kd.R_reads' HO374.out).2.2 | (with_reducible refine Kd.C_alloc ?_ _) | (with_reducible refine Kd.C_drewN ?_ _) | (with_reducible refine Kd.C_drew ?_))); (case side2 => exact (Kd.R_reads' HO374.out).2.1); rintro e w' ⟨rfl, ⟨nd, rfl⟩⟩) | (go_at_call 43; (with_reducible refine (spec_ZeckendorfValue.calls kj22 _ _ t372 t390 _ ?side1 ?side2 A53.out).mono ?_); (case side1 => repeat (first | exact (Kd.R_reads' HO376.out).2.2 | (with_reducible refine Kd.C_alloc ?_ _) | (with_reducible refine Kd.C_drewN ?_ _) | (with_reducible refine Kd.C_drew ?_))); (case side2 => exact (Kd.R_reads' HO376.out).2.1); rintro e w' ⟨rfl, ⟨nd, rfl⟩⟩))
              go_meet
              case rel => exact ⟨_, ((t388 != (wrap64 (t389 + t390)))), (by first | rfl | (simp; done) | (simp [*]; done)), H', ⟨by have := HJ5.out; have := HJ22.out; first | omega | exact Nat.le_refl _⟩, ⟨by (with_reducible repeat (first | apply Kd.R_alloc | apply Kd.R_drewN | apply Kd.R_drew)); exact Kd.R_mono HO374.out (fun _ hk => hk.1.1)⟩, ⟨by (with_reducible repeat (first | apply Kd.R_alloc | apply Kd.R_drewN | apply Kd.R_drew)); exact Kd.R_mono HO376.out (fun _ hk => hk.1.1)⟩, ⟨by repeat (first | (with_reducible first | exact HB.out | apply below_alloc | apply pw_below_drewN | apply below_drew1) | exact HB.out)⟩⟩
            ·replace c50 := Bool.eq_false_iff.mpr c50
             subst c50
             have H1 : (laws_FnZeckendorf.j2 kj22 l0 t371 t372 false t385 false) = some r := by rw [if_neg (show ¬ (false = true) by decide)] at H; exact H
             clear H
             have H := H1
             clear H1
             as_aux_lemma =>
              have H' := Aside0.mk H
              clear H
              obtain ⟨Ao57, co57, eo57⟩ := Kd.R_slice HO380.out
              subst eo57
              obtain ⟨Ao58, co58, eo58⟩ := Kd.R_slice HO384.out
              subst eo58
              go_wp2_with (first | (go_at_call 33; (with_reducible refine (laws_sameInts.calls kj22 _ _ t377 _ _ t381 true _ ?side1 ?side2 ?side3 ?side4 A46.out).mono ?_); (case side1 => repeat (first | exact (Kd.R_reads' HO380.out).2.2 | (with_reducible refine Kd.C_alloc ?_ _) | (with_reducible refine Kd.C_drewN ?_ _) | (with_reducible refine Kd.C_drew ?_))); (case side2 => exact (Kd.R_reads' HO380.out).2.1); (case side3 => repeat (first | exact (Kd.R_reads' HO384.out).2.2 | (with_reducible refine Kd.C_alloc ?_ _) | (with_reducible refine Kd.C_drewN ?_ _) | (with_reducible refine Kd.C_drew ?_))); (case side4 => exact (Kd.R_reads' HO384.out).2.1); rintro e w' ⟨rfl, ⟨nd, rfl⟩⟩) | (go_at_call 42; (with_reducible refine (spec_CompareZeckendorf.calls kj22 _ _ t371 _ _ t372 t387 _ ?side1 ?side2 ?side3 ?side4 A48.out).mono ?_); (case side1 => repeat (first | exact (Kd.R_reads' HO374.out).2.2 | (with_reducible refine Kd.C_alloc ?_ _) | (with_reducible refine Kd.C_drewN ?_ _) | (with_reducible refine Kd.C_drew ?_))); (case side2 => exact (Kd.R_reads' HO374.out).2.1); (case side3 => repeat (first | exact (Kd.R_reads' HO376.out).2.2 | (with_reducible refine Kd.C_alloc ?_ _) | (with_reducible refine Kd.C_drewN ?_ _) | (with_reducible refine Kd.C_drew ?_))); (case side4 => exact (Kd.R_reads' HO376.out).2.1); rintro e w' ⟨rfl, ⟨nd, rfl⟩⟩))
              go_meet
              case rel => exact ⟨_, (false), (by first | rfl | (simp; done) | (simp [*]; done)), H', ⟨by have := HJ5.out; have := HJ22.out; first | omega | exact Nat.le_refl _⟩, ⟨by (with_reducible repeat (first | apply Kd.R_alloc | apply Kd.R_drewN | apply Kd.R_drew)); exact Kd.R_mono HO374.out (fun _ hk => hk.1.1)⟩, ⟨by (with_reducible repeat (first | apply Kd.R_alloc | apply Kd.R_drewN | apply Kd.R_drew)); exact Kd.R_mono HO376.out (fun _ hk => hk.1.1)⟩, ⟨by repeat (first | (with_reducible first | exact HB.out | apply below_alloc | apply pw_below_drewN | apply below_drew1) | exact HB.out)⟩⟩
           ·rw [if_neg c49] at H
            have c49b0 : (t385 == t387) = false := beq_eq_false_iff_ne.mpr c49
            have c49b1 : (t385 != t387) = true := bne_iff_ne.mpr c49
            as_aux_lemma =>
             have H' := Aside0.mk H
             clear H
             obtain ⟨Ao59, co59, eo59⟩ := Kd.R_slice HO380.out
             subst eo59
             obtain ⟨Ao60, co60, eo60⟩ := Kd.R_slice HO384.out
             subst eo60
             go_wp2_with (first | (go_at_call 33; (with_reducible refine (laws_sameInts.calls kj22 _ _ t377 _ _ t381 true _ ?side1 ?side2 ?side3 ?side4 A46.out).mono ?_); (case side1 => repeat (first | exact (Kd.R_reads' HO380.out).2.2 | (with_reducible refine Kd.C_alloc ?_ _) | (with_reducible refine Kd.C_drewN ?_ _) | (with_reducible refine Kd.C_drew ?_))); (case side2 => exact (Kd.R_reads' HO380.out).2.1); (case side3 => repeat (first | exact (Kd.R_reads' HO384.out).2.2 | (with_reducible refine Kd.C_alloc ?_ _) | (with_reducible refine Kd.C_drewN ?_ _) | (with_reducible refine Kd.C_drew ?_))); (case side4 => exact (Kd.R_reads' HO384.out).2.1); rintro e w' ⟨rfl, ⟨nd, rfl⟩⟩) | (go_at_call 42; (with_reducible refine (spec_CompareZeckendorf.calls kj22 _ _ t371 _ _ t372 t387 _ ?side1 ?side2 ?side3 ?side4 A48.out).mono ?_); (case side1 => repeat (first | exact (Kd.R_reads' HO374.out).2.2 | (with_reducible refine Kd.C_alloc ?_ _) | (with_reducible refine Kd.C_drewN ?_ _) | (with_reducible refine Kd.C_drew ?_))); (case side2 => exact (Kd.R_reads' HO374.out).2.1); (case side3 => repeat (first | exact (Kd.R_reads' HO376.out).2.2 | (with_reducible refine Kd.C_alloc ?_ _) | (with_reducible refine Kd.C_drewN ?_ _) | (with_reducible refine Kd.C_drew ?_))); (case side4 => exact (Kd.R_reads' HO376.out).2.1); rintro e w' ⟨rfl, ⟨nd, rfl⟩⟩))
             go_meet
             case rel => exact ⟨_, (true), (by first | rfl | (simp; done) | (simp [*]; done)), H', ⟨by have := HJ5.out; have := HJ22.out; first | omega | exact Nat.le_refl _⟩, ⟨by (with_reducible repeat (first | apply Kd.R_alloc | apply Kd.R_drewN | apply Kd.R_drew)); exact Kd.R_mono HO374.out (fun _ hk => hk.1.1)⟩, ⟨by (with_reducible repeat (first | apply Kd.R_alloc | apply Kd.R_drewN | apply Kd.R_drew)); exact Kd.R_mono HO376.out (fun _ hk => hk.1.1)⟩, ⟨by repeat (first | (with_reducible first | exact HB.out | apply below_alloc | apply pw_below_drewN | apply below_drew1) | exact HB.out)⟩⟩
          ·replace c47 := Bool.eq_false_iff.mpr c47
           subst c47
           have H1 : (laws_FnZeckendorf.j2 kj22 l0 t371 t372 t378 t385 true) = some r := by rw [if_neg (show ¬ (false = true) by decide)] at H; exact H
           clear H
           have H := H1
           clear H1
           as_aux_lemma =>
            have H' := Aside0.mk H
            clear H
            obtain ⟨Ao61, co61, eo61⟩ := Kd.R_slice HO380.out
            subst eo61
            obtain ⟨Ao62, co62, eo62⟩ := Kd.R_slice HO384.out
            subst eo62
            go_wp2_with (first | (go_at_call 33; (with_reducible refine (laws_sameInts.calls kj22 _ _ t377 _ _ t381 false _ ?side1 ?side2 ?side3 ?side4 A46.out).mono ?_); (case side1 => repeat (first | exact (Kd.R_reads' HO380.out).2.2 | (with_reducible refine Kd.C_alloc ?_ _) | (with_reducible refine Kd.C_drewN ?_ _) | (with_reducible refine Kd.C_drew ?_))); (case side2 => exact (Kd.R_reads' HO380.out).2.1); (case side3 => repeat (first | exact (Kd.R_reads' HO384.out).2.2 | (with_reducible refine Kd.C_alloc ?_ _) | (with_reducible refine Kd.C_drewN ?_ _) | (with_reducible refine Kd.C_drew ?_))); (case side4 => exact (Kd.R_reads' HO384.out).2.1); rintro e w' ⟨rfl, ⟨nd, rfl⟩⟩))
            go_meet
            case rel => exact ⟨_, (true), (by first | rfl | (simp; done) | (simp [*]; done)), H', ⟨by have := HJ5.out; have := HJ22.out; first | omega | exact Nat.le_refl _⟩, ⟨by (with_reducible repeat (first | apply Kd.R_alloc | apply Kd.R_drewN | apply Kd.R_drew)); exact Kd.R_mono HO374.out (fun _ hk => hk.1.1)⟩, ⟨by (with_reducible repeat (first | apply Kd.R_alloc | apply Kd.R_drewN | apply Kd.R_drew)); exact Kd.R_mono HO376.out (fun _ hk => hk.1.1)⟩, ⟨by repeat (first | (with_reducible first | exact HB.out | apply below_alloc | apply pw_below_drewN | apply below_drew1) | exact HB.out)⟩⟩
        case rest => as_aux_lemma =>
         clear HC38
         try clear c1
         try clear c2
         try clear p2
         try clear c3
         try clear c4
         try clear c5
         try clear p6
         try clear c10
         try clear c11
         try clear c22
         try clear c24
         try clear c24b0
         try clear c26
         try clear c26b0
         try clear c28
         try clear c29
         try clear c30
         try clear c31
         try clear c32
         try clear c33
         try clear c34
         try clear c40
         try clear c41
         try clear c45
         try clear c45b0
         try clear c45b1
         try clear c45b2
         try clear c47
         try clear c49
         try clear c49b0
         try clear c49b1
         try clear c50
         try clear p2
         obtain ⟨kq, x105_37, rfl, HA, HJ37, HO_5, HO_6, HB⟩ := hcut
         cases kq with
         | zero => exact absurd HA.out (by simp [laws_FnZeckendorf.j2])
         | succ kj37 =>
          have H := HA.out
          clear HA
          simp only [laws_FnZeckendorf.j2] at H
          by_cases c63 : x105_37 = true
          ·subst c63
           have H1 : (some false) = some r := by rw [if_pos rfl] at H; exact H
           clear H
           have H := H1
           clear H1
           as_aux_lemma =>
            obtain rfl := Option.some.inj H
            go_wp2
            go_ret
            exact ⟨by first | rfl | (simp [errW_none, errW_some] <;> rfl) | (simp [*, errW_none, errW_some] <;> rfl), by repeat (first | (with_reducible first | exact HB.out | apply below_alloc | apply pw_below_drewN | apply below_drew1) | exact HB.out)⟩
          ·replace c63 := Bool.eq_false_iff.mpr c63
           subst c63
           have H1 : (if t378 = true then ((spec_ZeckendorfValue.f kj37 t371).bind fun t391 => ((spec_ZeckendorfValue.f kj37 t372).bind fun t392 => (if ((decide (t385 < 0)) != (decide (t391 < t392))) = true then (some false) else (if ((t385 == 0) != (t391 == t392)) = true then (some false) else (laws_FnZeckendorf.j3 kj37 l0))))) else (laws_FnZeckendorf.j3 kj37 l0)) = some r := by rw [if_neg (show ¬ (false = true) by decide)] at H; exact H
           clear H
           have H := H1
           clear H1
           have HC64 := Aside0.mk H
           clear H
           go_upto_if 106 with (fail)
           go_cut [] (fun wc => ∃ (kq : Nat), Aside0 (laws_FnZeckendorf.j3 kq l0 = some r) ∧ Aside0 (kq ≤ kj37) ∧ Aside0 (Below w.heap.size w wc))
           case first => as_aux_lemma =>
            have H := HC64.out
            clear HC64
            by_cases c65 : t378 = true
            ·subst c65
             have H1 : ((spec_ZeckendorfValue.f kj37 t371).bind fun t391 => ((spec_ZeckendorfValue.f kj37 t372).bind fun t392 => (if ((decide (t385 < 0)) != (decide (t391 < t392))) = true then (some false) else (if ((t385 == 0) != (t391 == t392)) = true then (some false) else (laws_FnZeckendorf.j3 kj37 l0))))) = some r := by rw [if_pos rfl] at H; exact H
             clear H
             have H := H1
             clear H1
             replace H := Option.bind_eq_some_iff.mp H
             obtain ⟨t391, A660, H⟩ := H
             replace H : ((spec_ZeckendorfValue.f kj37 t372).bind fun t392 => (if ((decide (t385 < 0)) != (decide (t391 < t392))) = true then (some false) else (if ((t385 == 0) != (t391 == t392)) = true then (some false) else (laws_FnZeckendorf.j3 kj37 l0)))) = some r := H
             have A66 := Aside0.mk A660
             clear A660
             replace H := Option.bind_eq_some_iff.mp H
             obtain ⟨t392, A670, H⟩ := H
             replace H : (if ((decide (t385 < 0)) != (decide (t391 < t392))) = true then (some false) else (if ((t385 == 0) != (t391 == t392)) = true then (some false) else (laws_FnZeckendorf.j3 kj37 l0))) = some r := H
             have A67 := Aside0.mk A670
             clear A670
             by_cases c68 : ((decide (t385 < 0)) != (decide (t391 < t392))) = true
             ·rw [if_pos c68] at H
              have c68b0 : ((decide (t385 < 0)) != (decide (t391 < t392))) = true := c68
              (try (have c68b1 : decide ((decide (t385 < 0)) = (decide (t391 < t392))) = false := by simpa using c68))
              (try (have c68b2 : ((decide (t385 < 0)) == (decide (t391 < t392))) = false := by simpa using c68))
              (try (have c68b3 : ¬ ((decide (t385 < 0)) = (decide (t391 < t392))) := by simpa using c68))
              clear c68
              (first | rw [c68b0] | (simp only [i64_w, i32_w]; rw [c68b0]) | skip)
              as_aux_lemma =>
               obtain rfl := Option.some.inj H
               go_wp2_with (first | ((with_reducible refine gate_callee (f := 43) rfl ?_); refine goesL_ (some 108) rfl rfl Try.func43 (by kernel_rfl) rfl #[.slice Ao40 t371.length co40] rfl (by (try simp only [List.map_toArray, List.map_cons, List.map_nil]); first | done | rfl | (simp only [List.length_drop, List.length_take]; rfl)) ?_; (with_reducible refine (spec_ZeckendorfValue.calls kj37 _ _ t371 t391 _ ?side1 ?side2 A66.out).mono ?_); (case side1 => repeat (first | exact (Kd.R_reads' HO_5.out).2.2 | (with_reducible refine Kd.C_alloc ?_ _) | (with_reducible refine Kd.C_drewN ?_ _) | (with_reducible refine Kd.C_drew ?_))); (case side2 => exact (Kd.R_reads' HO_5.out).2.1); rintro e w' ⟨rfl, ⟨nd, rfl⟩⟩; refine ⟨_, rfl, ?_⟩) | ((with_reducible refine gate_callee (f := 43) rfl ?_); refine goesL_ (some 110) rfl rfl Try.func43 (by kernel_rfl) rfl #[.slice Ao41 t372.length co41] rfl (by (try simp only [List.map_toArray, List.map_cons, List.map_nil]); first | done | rfl | (simp only [List.length_drop, List.length_take]; rfl)) ?_; (with_reducible refine (spec_ZeckendorfValue.calls kj37 _ _ t372 t392 _ ?side1 ?side2 A67.out).mono ?_); (case side1 => repeat (first | exact (Kd.R_reads' HO_6.out).2.2 | (with_reducible refine Kd.C_alloc ?_ _) | (with_reducible refine Kd.C_drewN ?_ _) | (with_reducible refine Kd.C_drew ?_))); (case side2 => exact (Kd.R_reads' HO_6.out).2.1); rintro e w' ⟨rfl, ⟨nd, rfl⟩⟩; refine ⟨_, rfl, ?_⟩))
               go_ret
               exact ⟨by first | rfl | (simp [errW_none, errW_some] <;> rfl) | (simp [*, errW_none, errW_some] <;> rfl), by repeat (first | (with_reducible first | exact HB.out | apply below_alloc | apply pw_below_drewN | apply below_drew1) | exact HB.out)⟩
             ·rw [if_neg c68] at H
              have c68b0 : ((decide (t385 < 0)) != (decide (t391 < t392))) = false := by simpa using c68
              (try (have c68b1 : decide ((decide (t385 < 0)) = (decide (t391 < t392))) = true := by simpa using c68))
              (try (have c68b2 : ((decide (t385 < 0)) == (decide (t391 < t392))) = true := by simpa using c68))
              clear c68
              (first | rw [c68b0] | (simp only [i64_w, i32_w]; rw [c68b0]) | skip)
              by_cases c69 : ((t385 == 0) != (t391 == t392)) = true
              ·rw [if_pos c69] at H
               have c69b0 : ((t385 == 0) != (t391 == t392)) = true := c69
               (try (have c69b1 : decide ((t385 == 0) = (t391 == t392)) = false := by simpa using c69))
               (try (have c69b2 : ((t385 == 0) == (t391 == t392)) = false := by simpa using c69))
               (try (have c69b3 : ¬ ((t385 == 0) = (t391 == t392)) := by simpa using c69))
               clear c69
               as_aux_lemma =>
                obtain rfl := Option.some.inj H
                go_wp2_with (first | ((with_reducible refine gate_callee (f := 43) rfl ?_); refine goesL_ (some 108) rfl rfl Try.func43 (by kernel_rfl) rfl #[.slice Ao40 t371.length co40] rfl (by (try simp only [List.map_toArray, List.map_cons, List.map_nil]); first | done | rfl | (simp only [List.length_drop, List.length_take]; rfl)) ?_; (with_reducible refine (spec_ZeckendorfValue.calls kj37 _ _ t371 t391 _ ?side1 ?side2 A66.out).mono ?_); (case side1 => repeat (first | exact (Kd.R_reads' HO_5.out).2.2 | (with_reducible refine Kd.C_alloc ?_ _) | (with_reducible refine Kd.C_drewN ?_ _) | (with_reducible refine Kd.C_drew ?_))); (case side2 => exact (Kd.R_reads' HO_5.out).2.1); rintro e w' ⟨rfl, ⟨nd, rfl⟩⟩; refine ⟨_, rfl, ?_⟩) | ((with_reducible refine gate_callee (f := 43) rfl ?_); refine goesL_ (some 110) rfl rfl Try.func43 (by kernel_rfl) rfl #[.slice Ao41 t372.length co41] rfl (by (try simp only [List.map_toArray, List.map_cons, List.map_nil]); first | done | rfl | (simp only [List.length_drop, List.length_take]; rfl)) ?_; (with_reducible refine (spec_ZeckendorfValue.calls kj37 _ _ t372 t392 _ ?side1 ?side2 A67.out).mono ?_); (case side1 => repeat (first | exact (Kd.R_reads' HO_6.out).2.2 | (with_reducible refine Kd.C_alloc ?_ _) | (with_reducible refine Kd.C_drewN ?_ _) | (with_reducible refine Kd.C_drew ?_))); (case side2 => exact (Kd.R_reads' HO_6.out).2.1); rintro e w' ⟨rfl, ⟨nd, rfl⟩⟩; refine ⟨_, rfl, ?_⟩))
                go_ret
                exact ⟨by first | rfl | (simp [errW_none, errW_some] <;> rfl) | (simp [*, errW_none, errW_some] <;> rfl), by repeat (first | (with_reducible first | exact HB.out | apply below_alloc | apply pw_below_drewN | apply below_drew1) | exact HB.out)⟩
              ·rw [if_neg c69] at H
               have c69b0 : ((t385 == 0) != (t391 == t392)) = false := by simpa using c69
               (try (have c69b1 : decide ((t385 == 0) = (t391 == t392)) = true := by simpa using c69))
               (try (have c69b2 : ((t385 == 0) == (t391 == t392)) = true := by simpa using c69))
               clear c69
               as_aux_lemma =>
                have H' := Aside0.mk H
                clear H
                go_wp2_with (first | ((with_reducible refine gate_callee (f := 43) rfl ?_); refine goesL_ (some 108) rfl rfl Try.func43 (by kernel_rfl) rfl #[.slice Ao40 t371.length co40] rfl (by (try simp only [List.map_toArray, List.map_cons, List.map_nil]); first | done | rfl | (simp only [List.length_drop, List.length_take]; rfl)) ?_; (with_reducible refine (spec_ZeckendorfValue.calls kj37 _ _ t371 t391 _ ?side1 ?side2 A66.out).mono ?_); (case side1 => repeat (first | exact (Kd.R_reads' HO_5.out).2.2 | (with_reducible refine Kd.C_alloc ?_ _) | (with_reducible refine Kd.C_drewN ?_ _) | (with_reducible refine Kd.C_drew ?_))); (case side2 => exact (Kd.R_reads' HO_5.out).2.1); rintro e w' ⟨rfl, ⟨nd, rfl⟩⟩; refine ⟨_, rfl, ?_⟩) | ((with_reducible refine gate_callee (f := 43) rfl ?_); refine goesL_ (some 110) rfl rfl Try.func43 (by kernel_rfl) rfl #[.slice Ao41 t372.length co41] rfl (by (try simp only [List.map_toArray, List.map_cons, List.map_nil]); first | done | rfl | (simp only [List.length_drop, List.length_take]; rfl)) ?_; (with_reducible refine (spec_ZeckendorfValue.calls kj37 _ _ t372 t392 _ ?side1 ?side2 A67.out).mono ?_); (case side1 => repeat (first | exact (Kd.R_reads' HO_6.out).2.2 | (with_reducible refine Kd.C_alloc ?_ _) | (with_reducible refine Kd.C_drewN ?_ _) | (with_reducible refine Kd.C_drew ?_))); (case side2 => exact (Kd.R_reads' HO_6.out).2.1); rintro e w' ⟨rfl, ⟨nd, rfl⟩⟩; refine ⟨_, rfl, ?_⟩))
                go_meet
                case rel => exact ⟨_, H', ⟨by have := HJ5.out; have := HJ22.out; have := HJ37.out; first | omega | exact Nat.le_refl _⟩, ⟨by repeat (first | (with_reducible first | exact HB.out | apply below_alloc | apply pw_below_drewN | apply below_drew1) | exact HB.out)⟩⟩
            ·replace c65 := Bool.eq_false_iff.mpr c65
             subst c65
             have H1 : (laws_FnZeckendorf.j3 kj37 l0) = some r := by rw [if_neg (show ¬ (false = true) by decide)] at H; exact H
             clear H
             have H := H1
             clear H1
             as_aux_lemma =>
              have H' := Aside0.mk H
              clear H
              go_wp2
              go_meet
              case rel => exact ⟨_, H', ⟨by have := HJ5.out; have := HJ22.out; have := HJ37.out; first | omega | exact Nat.le_refl _⟩, ⟨by repeat (first | (with_reducible first | exact HB.out | apply below_alloc | apply pw_below_drewN | apply below_drew1) | exact HB.out)⟩⟩
           case rest => as_aux_lemma =>
            clear HC64
            try clear c1
            try clear c2
            try clear p2
            try clear c3
            try clear c4
            try clear c5
            try clear c6
            try clear p6
            try clear c10
            try clear c11
            try clear c22
            try clear c24
            try clear c24b0
            try clear c26
            try clear c26b0
            try clear c28
            try clear c29
            try clear c30
            try clear c31
            try clear c32
            try clear c33
            try clear c34
            try clear c40
            try clear c41
            try clear c43
            try clear c45
            try clear c45b0
            try clear c45b1
            try clear c45b2
            try clear c47
            try clear c49
            try clear c49b0
            try clear c49b1
            try clear c50
            try clear c63
            try clear p64
            try clear c65
            try clear c68
            try clear c68b0
            try clear c68b1
            try clear c68b2
            try clear c69
            try clear c69b0
            try clear c69b1
            try clear c69b2
            try clear p2
            try clear p6
            obtain ⟨kq, HA, HJ63, HB⟩ := hcut
            cases kq with
            | zero => exact absurd HA.out (by simp [laws_FnZeckendorf.j3])
            | succ kj63 =>
             have H := HA.out
             clear HA
             simp only [laws_FnZeckendorf.j3] at H
             replace H := Option.bind_eq_some_iff.mp H
             obtain ⟨t393, A700, H⟩ := H
             replace H : ((impl_NextZeckendorf.f kj63 t393).bind fun bt396 => ((spec_NextZeckendorf.f kj63 t393).bind fun bt400 => ((spec_DrawIsZeckendorf.f kj63 l0).bind fun t404 => ((spec_DrawFibonacciNumber.f kj63 l0).bind fun t407 => (if (bt396.2 == bt400.2) = true then ((laws_sameInts.f kj63 bt396.1 bt400.1).bind fun t408 => (if t408 = true then ((impl_IsZeckendorf.f kj63 t404).bind fun t409 => ((spec_IsZeckendorf.f kj63 t404).bind fun t410 => (if (t409 == t410) = true then ((impl_ZeckendorfValue.f kj63 t404).bind fun t411 => ((spec_ZeckendorfValue.f kj63 t404).bind fun t412 => (if t411 = t412 then ((impl_FibonacciNumber.f t407).bind fun t413 => ((spec_FibonacciNumber.f kj63 t407).bind fun t414 => (if t413 = t414 then ((impl_IsZeckendorf.f kj63 t404).bind fun t415 => (if t415 = true then ((impl_ZeckendorfValue.f kj63 t404).bind fun t416 => ((impl_ZeckendorfOf.f kj63 t416).bind fun t417 => ((laws_sameInts.f kj63 t417 t404).bind fun t420 => (some t420)))) else (some true))) else (some false)))) else (some false)))) else (some false)))) else (some false))) else (some false)))))) = some r := H
             have A70 := Aside0.mk A700
             clear A700
             replace H := Option.bind_eq_some_iff.mp H
             obtain ⟨⟨t396, t397⟩, A710, H⟩ := H
             replace H : ((spec_NextZeckendorf.f kj63 t393).bind fun bt400 => ((spec_DrawIsZeckendorf.f kj63 l0).bind fun t404 => ((spec_DrawFibonacciNumber.f kj63 l0).bind fun t407 => (if (t397 == bt400.2) = true then ((laws_sameInts.f kj63 t396 bt400.1).bind fun t408 => (if t408 = true then ((impl_IsZeckendorf.f kj63 t404).bind fun t409 => ((spec_IsZeckendorf.f kj63 t404).bind fun t410 => (if (t409 == t410) = true then ((impl_ZeckendorfValue.f kj63 t404).bind fun t411 => ((spec_ZeckendorfValue.f kj63 t404).bind fun t412 => (if t411 = t412 then ((impl_FibonacciNumber.f t407).bind fun t413 => ((spec_FibonacciNumber.f kj63 t407).bind fun t414 => (if t413 = t414 then ((impl_IsZeckendorf.f kj63 t404).bind fun t415 => (if t415 = true then ((impl_ZeckendorfValue.f kj63 t404).bind fun t416 => ((impl_ZeckendorfOf.f kj63 t416).bind fun t417 => ((laws_sameInts.f kj63 t417 t404).bind fun t420 => (some t420)))) else (some true))) else (some false)))) else (some false)))) else (some false)))) else (some false))) else (some false))))) = some r := H
             have A71 := Aside0.mk A710
             clear A710
             replace H := Option.bind_eq_some_iff.mp H
             obtain ⟨⟨t400, t401⟩, A720, H⟩ := H
             replace H : ((spec_DrawIsZeckendorf.f kj63 l0).bind fun t404 => ((spec_DrawFibonacciNumber.f kj63 l0).bind fun t407 => (if (t397 == t401) = true then ((laws_sameInts.f kj63 t396 t400).bind fun t408 => (if t408 = true then ((impl_IsZeckendorf.f kj63 t404).bind fun t409 => ((spec_IsZeckendorf.f kj63 t404).bind fun t410 => (if (t409 == t410) = true then ((impl_ZeckendorfValue.f kj63 t404).bind fun t411 => ((spec_ZeckendorfValue.f kj63 t404).bind fun t412 => (if t411 = t412 then ((impl_FibonacciNumber.f t407).bind fun t413 => ((spec_FibonacciNumber.f kj63 t407).bind fun t414 => (if t413 = t414 then ((impl_IsZeckendorf.f kj63 t404).bind fun t415 => (if t415 = true then ((impl_ZeckendorfValue.f kj63 t404).bind fun t416 => ((impl_ZeckendorfOf.f kj63 t416).bind fun t417 => ((laws_sameInts.f kj63 t417 t404).bind fun t420 => (some t420)))) else (some true))) else (some false)))) else (some false)))) else (some false)))) else (some false))) else (some false)))) = some r := H
             have A72 := Aside0.mk A720
             clear A720
             replace H := Option.bind_eq_some_iff.mp H
             obtain ⟨t404, A730, H⟩ := H
             replace H : ((spec_DrawFibonacciNumber.f kj63 l0).bind fun t407 => (if (t397 == t401) = true then ((laws_sameInts.f kj63 t396 t400).bind fun t408 => (if t408 = true then ((impl_IsZeckendorf.f kj63 t404).bind fun t409 => ((spec_IsZeckendorf.f kj63 t404).bind fun t410 => (if (t409 == t410) = true then ((impl_ZeckendorfValue.f kj63 t404).bind fun t411 => ((spec_ZeckendorfValue.f kj63 t404).bind fun t412 => (if t411 = t412 then ((impl_FibonacciNumber.f t407).bind fun t413 => ((spec_FibonacciNumber.f kj63 t407).bind fun t414 => (if t413 = t414 then ((impl_IsZeckendorf.f kj63 t404).bind fun t415 => (if t415 = true then ((impl_ZeckendorfValue.f kj63 t404).bind fun t416 => ((impl_ZeckendorfOf.f kj63 t416).bind fun t417 => ((laws_sameInts.f kj63 t417 t404).bind fun t420 => (some t420)))) else (some true))) else (some false)))) else (some false)))) else (some false)))) else (some false))) else (some false))) = some r := H
             have A73 := Aside0.mk A730
             clear A730
             replace H := Option.bind_eq_some_iff.mp H
             obtain ⟨t407, A740, H⟩ := H
             replace H : (if (t397 == t401) = true then ((laws_sameInts.f kj63 t396 t400).bind fun t408 => (if t408 = true then ((impl_IsZeckendorf.f kj63 t404).bind fun t409 => ((spec_IsZeckendorf.f kj63 t404).bind fun t410 => (if (t409 == t410) = true then ((impl_ZeckendorfValue.f kj63 t404).bind fun t411 => ((spec_ZeckendorfValue.f kj63 t404).bind fun t412 => (if t411 = t412 then ((impl_FibonacciNumber.f t407).bind fun t413 => ((spec_FibonacciNumber.f kj63 t407).bind fun t414 => (if t413 = t414 then ((impl_IsZeckendorf.f kj63 t404).bind fun t415 => (if t415 = true then ((impl_ZeckendorfValue.f kj63 t404).bind fun t416 => ((impl_ZeckendorfOf.f kj63 t416).bind fun t417 => ((laws_sameInts.f kj63 t417 t404).bind fun t420 => (some t420)))) else (some true))) else (some false)))) else (some false)))) else (some false)))) else (some false))) else (some false)) = some r := H
             have A74 := Aside0.mk A740
             clear A740
             by_cases c75 : (t397 == t401) = true
             ·rw [if_pos c75] at H
              have c75b0 : (t397 == t401) = true := c75
              (try (have c75b1 : decide (t397 = t401) = true := by simpa using c75))
              (try (have c75b2 : (t397 == t401) = true := by simpa using c75))
              clear c75
              replace H := Option.bind_eq_some_iff.mp H
              obtain ⟨t408, A760, H⟩ := H
              replace H : (if t408 = true then ((impl_IsZeckendorf.f kj63 t404).bind fun t409 => ((spec_IsZeckendorf.f kj63 t404).bind fun t410 => (if (t409 == t410) = true then ((impl_ZeckendorfValue.f kj63 t404).bind fun t411 => ((spec_ZeckendorfValue.f kj63 t404).bind fun t412 => (if t411 = t412 then ((impl_FibonacciNumber.f t407).bind fun t413 => ((spec_FibonacciNumber.f kj63 t407).bind fun t414 => (if t413 = t414 then ((impl_IsZeckendorf.f kj63 t404).bind fun t415 => (if t415 = true then ((impl_ZeckendorfValue.f kj63 t404).bind fun t416 => ((impl_ZeckendorfOf.f kj63 t416).bind fun t417 => ((laws_sameInts.f kj63 t417 t404).bind fun t420 => (some t420)))) else (some true))) else (some false)))) else (some false)))) else (some false)))) else (some false)) = some r := H
              have A76 := Aside0.mk A760
              clear A760
              by_cases c77 : t408 = true
              ·subst c77
               have H1 : ((impl_IsZeckendorf.f kj63 t404).bind fun t409 => ((spec_IsZeckendorf.f kj63 t404).bind fun t410 => (if (t409 == t410) = true then ((impl_ZeckendorfValue.f kj63 t404).bind fun t411 => ((spec_ZeckendorfValue.f kj63 t404).bind fun t412 => (if t411 = t412 then ((impl_FibonacciNumber.f t407).bind fun t413 => ((spec_FibonacciNumber.f kj63 t407).bind fun t414 => (if t413 = t414 then ((impl_IsZeckendorf.f kj63 t404).bind fun t415 => (if t415 = true then ((impl_ZeckendorfValue.f kj63 t404).bind fun t416 => ((impl_ZeckendorfOf.f kj63 t416).bind fun t417 => ((laws_sameInts.f kj63 t417 t404).bind fun t420 => (some t420)))) else (some true))) else (some false)))) else (some false)))) else (some false)))) = some r := by rw [if_pos rfl] at H; exact H
               clear H
               have H := H1
               clear H1
               replace H := Option.bind_eq_some_iff.mp H
               obtain ⟨t409, A780, H⟩ := H
               replace H : ((spec_IsZeckendorf.f kj63 t404).bind fun t410 => (if (t409 == t410) = true then ((impl_ZeckendorfValue.f kj63 t404).bind fun t411 => ((spec_ZeckendorfValue.f kj63 t404).bind fun t412 => (if t411 = t412 then ((impl_FibonacciNumber.f t407).bind fun t413 => ((spec_FibonacciNumber.f kj63 t407).bind fun t414 => (if t413 = t414 then ((impl_IsZeckendorf.f kj63 t404).bind fun t415 => (if t415 = true then ((impl_ZeckendorfValue.f kj63 t404).bind fun t416 => ((impl_ZeckendorfOf.f kj63 t416).bind fun t417 => ((laws_sameInts.f kj63 t417 t404).bind fun t420 => (some t420)))) else (some true))) else (some false)))) else (some false)))) else (some false))) = some r := H
               have A78 := Aside0.mk A780
               clear A780
               replace H := Option.bind_eq_some_iff.mp H
               obtain ⟨t410, A790, H⟩ := H
               replace H : (if (t409 == t410) = true then ((impl_ZeckendorfValue.f kj63 t404).bind fun t411 => ((spec_ZeckendorfValue.f kj63 t404).bind fun t412 => (if t411 = t412 then ((impl_FibonacciNumber.f t407).bind fun t413 => ((spec_FibonacciNumber.f kj63 t407).bind fun t414 => (if t413 = t414 then ((impl_IsZeckendorf.f kj63 t404).bind fun t415 => (if t415 = true then ((impl_ZeckendorfValue.f kj63 t404).bind fun t416 => ((impl_ZeckendorfOf.f kj63 t416).bind fun t417 => ((laws_sameInts.f kj63 t417 t404).bind fun t420 => (some t420)))) else (some true))) else (some false)))) else (some false)))) else (some false)) = some r := H
               have A79 := Aside0.mk A790
               clear A790
               by_cases c80 : (t409 == t410) = true
               ·rw [if_pos c80] at H
                have c80b0 : (t409 == t410) = true := c80
                (try (have c80b1 : decide (t409 = t410) = true := by simpa using c80))
                (try (have c80b2 : (t409 == t410) = true := by simpa using c80))
                clear c80
                replace H := Option.bind_eq_some_iff.mp H
                obtain ⟨t411, A810, H⟩ := H
                replace H : ((spec_ZeckendorfValue.f kj63 t404).bind fun t412 => (if t411 = t412 then ((impl_FibonacciNumber.f t407).bind fun t413 => ((spec_FibonacciNumber.f kj63 t407).bind fun t414 => (if t413 = t414 then ((impl_IsZeckendorf.f kj63 t404).bind fun t415 => (if t415 = true then ((impl_ZeckendorfValue.f kj63 t404).bind fun t416 => ((impl_ZeckendorfOf.f kj63 t416).bind fun t417 => ((laws_sameInts.f kj63 t417 t404).bind fun t420 => (some t420)))) else (some true))) else (some false)))) else (some false))) = some r := H
                have A81 := Aside0.mk A810
                clear A810
                replace H := Option.bind_eq_some_iff.mp H
                obtain ⟨t412, A820, H⟩ := H
                replace H : (if t411 = t412 then ((impl_FibonacciNumber.f t407).bind fun t413 => ((spec_FibonacciNumber.f kj63 t407).bind fun t414 => (if t413 = t414 then ((impl_IsZeckendorf.f kj63 t404).bind fun t415 => (if t415 = true then ((impl_ZeckendorfValue.f kj63 t404).bind fun t416 => ((impl_ZeckendorfOf.f kj63 t416).bind fun t417 => ((laws_sameInts.f kj63 t417 t404).bind fun t420 => (some t420)))) else (some true))) else (some false)))) else (some false)) = some r := H
                have A82 := Aside0.mk A820
                clear A820
                by_cases c83 : t411 = t412
                ·rw [if_pos c83] at H
                 have c83b0 : (t411 == t412) = true := beq_iff_eq.mpr c83
                 have c83b1 : (t411 != t412) = false := bne_eq_false_iff_eq.mpr c83
                 clear c83
                 replace H := Option.bind_eq_some_iff.mp H
                 obtain ⟨t413, A840, H⟩ := H
                 replace H : ((spec_FibonacciNumber.f kj63 t407).bind fun t414 => (if t413 = t414 then ((impl_IsZeckendorf.f kj63 t404).bind fun t415 => (if t415 = true then ((impl_ZeckendorfValue.f kj63 t404).bind fun t416 => ((impl_ZeckendorfOf.f kj63 t416).bind fun t417 => ((laws_sameInts.f kj63 t417 t404).bind fun t420 => (some t420)))) else (some true))) else (some false))) = some r := H
                 have A84 := Aside0.mk A840
                 clear A840
                 replace H := Option.bind_eq_some_iff.mp H
                 obtain ⟨t414, A850, H⟩ := H
                 replace H : (if t413 = t414 then ((impl_IsZeckendorf.f kj63 t404).bind fun t415 => (if t415 = true then ((impl_ZeckendorfValue.f kj63 t404).bind fun t416 => ((impl_ZeckendorfOf.f kj63 t416).bind fun t417 => ((laws_sameInts.f kj63 t417 t404).bind fun t420 => (some t420)))) else (some true))) else (some false)) = some r := H
                 have A85 := Aside0.mk A850
                 clear A850
                 by_cases c86 : t413 = t414
                 ·rw [if_pos c86] at H
                  have c86b0 : (t413 == t414) = true := beq_iff_eq.mpr c86
                  have c86b1 : (t413 != t414) = false := bne_eq_false_iff_eq.mpr c86
                  clear c86
                  replace H := Option.bind_eq_some_iff.mp H
                  obtain ⟨t415, A870, H⟩ := H
                  replace H : (if t415 = true then ((impl_ZeckendorfValue.f kj63 t404).bind fun t416 => ((impl_ZeckendorfOf.f kj63 t416).bind fun t417 => ((laws_sameInts.f kj63 t417 t404).bind fun t420 => (some t420)))) else (some true)) = some r := H
                  have A87 := Aside0.mk A870
                  clear A870
                  by_cases c88 : t415 = true
                  ·subst c88
                   have H1 : ((impl_ZeckendorfValue.f kj63 t404).bind fun t416 => ((impl_ZeckendorfOf.f kj63 t416).bind fun t417 => ((laws_sameInts.f kj63 t417 t404).bind fun t420 => (some t420)))) = some r := by rw [if_pos rfl] at H; exact H
                   clear H
                   have H := H1
                   clear H1
                   replace H := Option.bind_eq_some_iff.mp H
                   obtain ⟨t416, A890, H⟩ := H
                   replace H : ((impl_ZeckendorfOf.f kj63 t416).bind fun t417 => ((laws_sameInts.f kj63 t417 t404).bind fun t420 => (some t420))) = some r := H
                   have A89 := Aside0.mk A890
                   clear A890
                   replace H := Option.bind_eq_some_iff.mp H
                   obtain ⟨t417, A900, H⟩ := H
                   replace H : ((laws_sameInts.f kj63 t417 t404).bind fun t420 => (some t420)) = some r := H
                   have A90 := Aside0.mk A900
                   clear A900
                   replace H := Option.bind_eq_some_iff.mp H
                   obtain ⟨t420, A910, H⟩ := H
                   replace H : (some t420) = some r := H
                   have A91 := Aside0.mk A910
                   clear A910
                   as_aux_lemma =>
                    obtain rfl := Option.some.inj H
                    obtain rfl : t409 = true := Option.some.inj (A78.out.symm.trans A87.out)
                    obtain rfl : t411 = t416 := Option.some.inj (A81.out.symm.trans A89.out)
                    go_wp2_with (first | ((with_reducible refine gate_callee (f := 44) rfl ?_); refine goesL_ (some 126) rfl rfl Try.func44 (by kernel_rfl) rfl #[.slice A0 l0.length c0] rfl (by (try simp only [List.map_toArray, List.map_cons, List.map_nil]); first | done | rfl | (simp only [List.length_drop, List.length_take]; rfl)) ?_; (with_reducible refine (spec_DrawNextZeckendorf.calls kj63 _ _ l0 t393 _ ?side1 ?side2 A70.out).mono ?_); (case side1 => repeat (first | exact (Kd.C_below HR0.out HB.out) | (with_reducible refine Kd.C_alloc ?_ _) | (with_reducible refine Kd.C_drewN ?_ _) | (with_reducible refine Kd.C_drew ?_))); (case side2 => exact HC0.out); rintro e w92 ⟨v394, rfl, ho0, hb⟩; refine ⟨_, rfl, ?_⟩; have n0_ := Aside0.mk (Kd.R_lower ho0 (below_size (by repeat (first | (with_reducible first | exact HB.out | apply below_alloc | apply pw_below_drewN | apply below_drew1) | exact HB.out)))); have n1_ := Aside0.mk (below_step (by repeat (first | (with_reducible first | exact HB.out | apply below_alloc | apply pw_below_drewN | apply below_drew1) | exact HB.out)) hb); clear HB; have HO395 := n0_; have HB := n1_; clear n0_ n1_; (try clear hb); (try clear hb2); (try clear hk); (try clear hi); (try clear ho0); obtain ⟨Ao93, co93, eo93⟩ := Kd.R_slice HO395.out; subst eo93) | ((with_reducible refine gate_callee (f := 27) rfl ?_); refine goesL_ (some 129) rfl rfl Try.func27 (by kernel_rfl) rfl #[.slice Ao93 t393.length co93] rfl (by (try simp only [List.map_toArray, List.map_cons, List.map_nil]); first | done | rfl | (simp only [List.length_drop, List.length_take]; rfl)) ?_; (with_reducible refine (impl_NextZeckendorf.calls kj63 _ _ t393 t396 t397 _ ?side1 ?side2 A71.out).mono ?_); (case side1 => repeat (first | exact (Kd.R_reads' HO395.out).2.2 | (with_reducible refine Kd.C_alloc ?_ _) | (with_reducible refine Kd.C_drewN ?_ _) | (with_reducible refine Kd.C_drew ?_))); (case side2 => exact (Kd.R_reads' HO395.out).2.1); rintro e w94 ⟨v398, rfl, ho0, hb⟩; refine ⟨_, rfl, ?_⟩; have n0_ := Aside0.mk (Kd.R_elder' (by (with_reducible repeat (first | apply Kd.R_alloc | apply Kd.R_drewN | apply Kd.R_drew)); exact HO395.out) (Kd.R_base ho0) hb); have n1_ := Aside0.mk (Kd.R_lower (Kd.R_new' ho0 (Kd.R_lt (by (with_reducible repeat (first | apply Kd.R_alloc | apply Kd.R_drewN | apply Kd.R_drew)); exact HO395.out))) (below_size (by repeat (first | (with_reducible first | exact HB.out | apply below_alloc | apply pw_below_drewN | apply below_drew1) | exact HB.out)))); have n2_ := Aside0.mk (below_step (by repeat (first | (with_reducible first | exact HB.out | apply below_alloc | apply pw_below_drewN | apply below_drew1) | exact HB.out)) hb); clear HO395; clear HB; have HO395 := n0_; have HO399 := n1_; have HB := n2_; clear n0_ n1_ n2_; (try clear hb); (try clear hb2); (try clear hk); (try clear hi); (try clear ho0)) | ((with_reducible refine gate_callee (f := 25) rfl ?_); refine goesL_ (some 134) rfl rfl Try.func25 (by kernel_rfl) rfl #[.slice Ao93 t393.length co93] rfl (by (try simp only [List.map_toArray, List.map_cons, List.map_nil]); first | done | rfl | (simp only [List.length_drop, List.length_take]; rfl)) ?_; (with_reducible refine (spec_NextZeckendorf.calls kj63 _ _ t393 t400 t401 _ ?side1 ?side2 A72.out).mono ?_); (case side1 => repeat (first | exact (Kd.R_reads' HO395.out).2.2 | (with_reducible refine Kd.C_alloc ?_ _) | (with_reducible refine Kd.C_drewN ?_ _) | (with_reducible refine Kd.C_drew ?_))); (case side2 => exact (Kd.R_reads' HO395.out).2.1); rintro e w95 ⟨v402, rfl, ho0, hb⟩; refine ⟨_, rfl, ?_⟩; have n0_ := Aside0.mk (Kd.R_elder' (by (with_reducible repeat (first | apply Kd.R_alloc | apply Kd.R_drewN | apply Kd.R_drew)); exact HO395.out) (Kd.R_base ho0) hb); have n1_ := Aside0.mk (Kd.R_elder' (by (with_reducible repeat (first | apply Kd.R_alloc | apply Kd.R_drewN | apply Kd.R_drew)); exact HO399.out) (Kd.R_base ho0) hb); have n2_ := Aside0.mk (Kd.R_lower (Kd.R_new' (Kd.R_new' ho0 (Kd.R_lt (by (with_reducible repeat (first | apply Kd.R_alloc | apply Kd.R_drewN | apply Kd.R_drew)); exact HO395.out))) (Kd.R_lt (by (with_reducible repeat (first | apply Kd.R_alloc | apply Kd.R_drewN | apply Kd.R_drew)); exact HO399.out))) (below_size (by repeat (first | (with_reducible first | exact HB.out | apply below_alloc | apply pw_below_drewN | apply below_drew1) | exact HB.out)))); have n3_ := Aside0.mk (below_step (by repeat (first | (with_reducible first | exact HB.out | apply below_alloc | apply pw_below_drewN | apply below_drew1) | exact HB.out)) hb); clear HO395; clear HO399; clear HB; have HO395 := n0_; have HO399 := n1_; have HO403 := n2_; have HB := n3_; clear n0_ n1_ n2_ n3_; (try clear hb); (try clear hb2); (try clear hk); (try clear hi); (try clear ho0)) | ((with_reducible refine gate_callee (f := 45) rfl ?_); refine goesL_ (some 138) rfl rfl Try.func45 (by kernel_rfl) rfl #[.slice A0 l0.length c0] rfl (by (try simp only [List.map_toArray, List.map_cons, List.map_nil]); first | done | rfl | (simp only [List.length_drop, List.length_take]; rfl)) ?_; (with_reducible refine (spec_DrawIsZeckendorf.calls kj63 _ _ l0 t404 _ ?side1 ?side2 A73.out).mono ?_); (case side1 => repeat (first | exact (Kd.C_below HR0.out HB.out) | (with_reducible refine Kd.C_alloc ?_ _) | (with_reducible refine Kd.C_drewN ?_ _) | (with_reducible refine Kd.C_drew ?_))); (case side2 => exact HC0.out); rintro e w96 ⟨v405, rfl, ho0, hb⟩; refine ⟨_, rfl, ?_⟩; have n0_ := Aside0.mk (Kd.R_elder' (by (with_reducible repeat (first | apply Kd.R_alloc | apply Kd.R_drewN | apply Kd.R_drew)); exact HO395.out) (Kd.R_base ho0) hb); have n1_ := Aside0.mk (Kd.R_elder' (by (with_reducible repeat (first | apply Kd.R_alloc | apply Kd.R_drewN | apply Kd.R_drew)); exact HO399.out) (Kd.R_base ho0) hb); have n2_ := Aside0.mk (Kd.R_elder' (by (with_reducible repeat (first | apply Kd.R_alloc | apply Kd.R_drewN | apply Kd.R_drew)); exact HO403.out) (Kd.R_base ho0) hb); have n3_ := Aside0.mk (Kd.R_lower (Kd.R_new' (Kd.R_new' (Kd.R_new' ho0 (Kd.R_lt (by (with_reducible repeat (first | apply Kd.R_alloc | apply Kd.R_drewN | apply Kd.R_drew)); exact HO395.out))) (Kd.R_lt (by (with_reducible repeat (first | apply Kd.R_alloc | apply Kd.R_drewN | apply Kd.R_drew)); exact HO399.out))) (Kd.R_lt (by (with_reducible repeat (first | apply Kd.R_alloc | apply Kd.R_drewN | apply Kd.R_drew)); exact HO403.out))) (below_size (by repeat (first | (with_reducible first | exact HB.out | apply below_alloc | apply pw_below_drewN | apply below_drew1) | exact HB.out)))); have n4_ := Aside0.mk (below_step (by repeat (first | (with_reducible first | exact HB.out | apply below_alloc | apply pw_below_drewN | apply below_drew1) | exact HB.out)) hb); clear HO395; clear HO399; clear HO403; clear HB; have HO395 := n0_; have HO399 := n1_; have HO403 := n2_; have HO406 := n3_; have HB := n4_; clear n0_ n1_ n2_ n3_ n4_; (try clear hb); (try clear hb2); (try clear hk); (try clear hi); (try clear ho0)) | ((with_reducible refine gate_callee (f := 46) rfl ?_); refine goesL_ (some 140) rfl rfl Try.func46 (by kernel_rfl) rfl #[.slice A0 l0.length c0] rfl (by (try simp only [List.map_toArray, List.map_cons, List.map_nil]); first | done | rfl | (simp only [List.length_drop, List.length_take]; rfl)) ?_; (with_reducible refine (spec_DrawFibonacciNumber.calls kj63 _ _ l0 t407 _ ?side1 ?side2 A74.out).mono ?_); (case side1 => repeat (first | exact (Kd.C_below HR0.out HB.out) | (with_reducible refine Kd.C_alloc ?_ _) | (with_reducible refine Kd.C_drewN ?_ _) | (with_reducible refine Kd.C_drew ?_))); (case side2 => exact HC0.out); rintro e w97 ⟨rfl, hb⟩; refine ⟨_, rfl, ?_⟩; have n0_ := Aside0.mk (Kd.R_below (by (with_reducible repeat (first | apply Kd.R_alloc | apply Kd.R_drewN | apply Kd.R_drew)); exact HO395.out) hb); have n1_ := Aside0.mk (Kd.R_below (by (with_reducible repeat (first | apply Kd.R_alloc | apply Kd.R_drewN | apply Kd.R_drew)); exact HO399.out) hb); have n2_ := Aside0.mk (Kd.R_below (by (with_reducible repeat (first | apply Kd.R_alloc | apply Kd.R_drewN | apply Kd.R_drew)); exact HO403.out) hb); have n3_ := Aside0.mk (Kd.R_below (by (with_reducible repeat (first | apply Kd.R_alloc | apply Kd.R_drewN | apply Kd.R_drew)); exact HO406.out) hb); have n4_ := Aside0.mk (below_step (by repeat (first | (with_reducible first | exact HB.out | apply below_alloc | apply pw_below_drewN | apply below_drew1) | exact HB.out)) hb); clear HO395; clear HO399; clear HO403; clear HO406; clear HB; have HO395 := n0_; have HO399 := n1_; have HO403 := n2_; have HO406 := n3_; have HB := n4_; clear n0_ n1_ n2_ n3_ n4_; (try clear hb); (try clear hb2); (try clear hk); (try clear hi); obtain ⟨Ao98, co98, eo98⟩ := Kd.R_slice HO399.out; subst eo98; obtain ⟨Ao99, co99, eo99⟩ := Kd.R_slice HO403.out; subst eo99) | (go_at_call 33; (with_reducible refine (laws_sameInts.calls kj63 _ _ t396 _ _ t400 true _ ?side1 ?side2 ?side3 ?side4 A76.out).mono ?_); (case side1 => repeat (first | exact (Kd.R_reads' HO399.out).2.2 | (with_reducible refine Kd.C_alloc ?_ _) | (with_reducible refine Kd.C_drewN ?_ _) | (with_reducible refine Kd.C_drew ?_))); (case side2 => exact (Kd.R_reads' HO399.out).2.1); (case side3 => repeat (first | exact (Kd.R_reads' HO403.out).2.2 | (with_reducible refine Kd.C_alloc ?_ _) | (with_reducible refine Kd.C_drewN ?_ _) | (with_reducible refine Kd.C_drew ?_))); (case side4 => exact (Kd.R_reads' HO403.out).2.1); rintro e w' ⟨rfl, ⟨nd, rfl⟩⟩; obtain ⟨Ao100, co100, eo100⟩ := Kd.R_slice HO406.out; subst eo100) | (go_at_call 38; (with_reducible refine (impl_IsZeckendorf.calls kj63 _ _ t404 true _ ?side1 ?side2 A78.out).mono ?_); (case side1 => repeat (first | exact (Kd.R_reads' HO406.out).2.2 | (with_reducible refine Kd.C_alloc ?_ _) | (with_reducible refine Kd.C_drewN ?_ _) | (with_reducible refine Kd.C_drew ?_))); (case side2 => exact (Kd.R_reads' HO406.out).2.1); rintro e w' ⟨rfl, ⟨nd, rfl⟩⟩) | (go_at_call 47; (with_reducible refine (spec_IsZeckendorf.calls kj63 _ _ t404 t410 _ ?side1 ?side2 A79.out).mono ?_); (case side1 => repeat (first | exact (Kd.R_reads' HO406.out).2.2 | (with_reducible refine Kd.C_alloc ?_ _) | (with_reducible refine Kd.C_drewN ?_ _) | (with_reducible refine Kd.C_drew ?_))); (case side2 => exact (Kd.R_reads' HO406.out).2.1); rintro e w' ⟨rfl, ⟨nd, rfl⟩⟩) | (go_at_call 39; (with_reducible refine (impl_ZeckendorfValue.calls kj63 _ _ t404 t411 _ ?side1 ?side2 A81.out).mono ?_); (case side1 => repeat (first | exact (Kd.R_reads' HO406.out).2.2 | (with_reducible refine Kd.C_alloc ?_ _) | (with_reducible refine Kd.C_drewN ?_ _) | (with_reducible refine Kd.C_drew ?_))); (case side2 => exact (Kd.R_reads' HO406.out).2.1); rintro e w101 ⟨rfl, hb⟩; have n0_ := Aside0.mk (Kd.R_below (by (with_reducible repeat (first | apply Kd.R_alloc | apply Kd.R_drewN | apply Kd.R_drew)); exact HO395.out) hb); have n1_ := Aside0.mk (Kd.R_below (by (with_reducible repeat (first | apply Kd.R_alloc | apply Kd.R_drewN | apply Kd.R_drew)); exact HO399.out) hb); have n2_ := Aside0.mk (Kd.R_below (by (with_reducible repeat (first | apply Kd.R_alloc | apply Kd.R_drewN | apply Kd.R_drew)); exact HO403.out) hb); have n3_ := Aside0.mk (Kd.R_below (by (with_reducible repeat (first | apply Kd.R_alloc | apply Kd.R_drewN | apply Kd.R_drew)); exact HO406.out) hb); have n4_ := Aside0.mk (below_step (by repeat (first | (with_reducible first | exact HB.out | apply below_alloc | apply pw_below_drewN | apply below_drew1) | exact HB.out)) hb); clear HO395; clear HO399; clear HO403; clear HO406; clear HB; have HO395 := n0_; have HO399 := n1_; have HO403 := n2_; have HO406 := n3_; have HB := n4_; clear n0_ n1_ n2_ n3_ n4_; (try clear hb); (try clear hb2); (try clear hk); (try clear hi)) | (go_at_call 43; (with_reducible refine (spec_ZeckendorfValue.calls kj63 _ _ t404 t412 _ ?side1 ?side2 A82.out).mono ?_); (case side1 => repeat (first | exact (Kd.R_reads' HO406.out).2.2 | (with_reducible refine Kd.C_alloc ?_ _) | (with_reducible refine Kd.C_drewN ?_ _) | (with_reducible refine Kd.C_drew ?_))); (case side2 => exact (Kd.R_reads' HO406.out).2.1); rintro e w' ⟨rfl, ⟨nd, rfl⟩⟩) | (go_at_call 48; (with_reducible refine (impl_FibonacciNumber.calls t407 t413 _ A84.out).mono ?_); rintro e w102 ⟨rfl, hb⟩; have n0_ := Aside0.mk (Kd.R_below (by (with_reducible repeat (first | apply Kd.R_alloc | apply Kd.R_drewN | apply Kd.R_drew)); exact HO395.out) hb); have n1_ := Aside0.mk (Kd.R_below (by (with_reducible repeat (first | apply Kd.R_alloc | apply Kd.R_drewN | apply Kd.R_drew)); exact HO399.out) hb); have n2_ := Aside0.mk (Kd.R_below (by (with_reducible repeat (first | apply Kd.R_alloc | apply Kd.R_drewN | apply Kd.R_drew)); exact HO403.out) hb); have n3_ := Aside0.mk (Kd.R_below (by (with_reducible repeat (first | apply Kd.R_alloc | apply Kd.R_drewN | apply Kd.R_drew)); exact HO406.out) hb); have n4_ := Aside0.mk (below_step (by repeat (first | (with_reducible first | exact HB.out | apply below_alloc | apply pw_below_drewN | apply below_drew1) | exact HB.out)) hb); clear HO395; clear HO399; clear HO403; clear HO406; clear HB; have HO395 := n0_; have HO399 := n1_; have HO403 := n2_; have HO406 := n3_; have HB := n4_; clear n0_ n1_ n2_ n3_ n4_; (try clear hb); (try clear hb2); (try clear hk); (try clear hi)) | (go_at_call 37; (with_reducible refine (spec_FibonacciNumber.calls kj63 t407 t414 _ A85.out).mono ?_); rintro e w' ⟨rfl, ⟨nd, rfl⟩⟩) | (go_at_call 38; (with_reducible refine (impl_IsZeckendorf.calls kj63 _ _ t404 true _ ?side1 ?side2 A87.out).mono ?_); (case side1 => repeat (first | exact (Kd.R_reads' HO406.out).2.2 | (with_reducible refine Kd.C_alloc ?_ _) | (with_reducible refine Kd.C_drewN ?_ _) | (with_reducible refine Kd.C_drew ?_))); (case side2 => exact (Kd.R_reads' HO406.out).2.1); rintro e w' ⟨rfl, ⟨nd, rfl⟩⟩) | (go_at_call 39; (with_reducible refine (impl_ZeckendorfValue.calls kj63 _ _ t404 t411 _ ?side1 ?side2 A89.out).mono ?_); (case side1 => repeat (first | exact (Kd.R_reads' HO406.out).2.2 | (with_reducible refine Kd.C_alloc ?_ _) | (with_reducible refine Kd.C_drewN ?_ _) | (with_reducible refine Kd.C_drew ?_))); (case side2 => exact (Kd.R_reads' HO406.out).2.1); rintro e w103 ⟨rfl, hb⟩; have n0_ := Aside0.mk (Kd.R_below (by (with_reducible repeat (first | apply Kd.R_alloc | apply Kd.R_drewN | apply Kd.R_drew)); exact HO395.out) hb); have n1_ := Aside0.mk (Kd.R_below (by (with_reducible repeat (first | apply Kd.R_alloc | apply Kd.R_drewN | apply Kd.R_drew)); exact HO399.out) hb); have n2_ := Aside0.mk (Kd.R_below (by (with_reducible repeat (first | apply Kd.R_alloc | apply Kd.R_drewN | apply Kd.R_drew)); exact HO403.out) hb); have n3_ := Aside0.mk (Kd.R_below (by (with_reducible repeat (first | apply Kd.R_alloc | apply Kd.R_drewN | apply Kd.R_drew)); exact HO406.out) hb); have n4_ := Aside0.mk (below_step (by repeat (first | (with_reducible first | exact HB.out | apply below_alloc | apply pw_below_drewN | apply below_drew1) | exact HB.out)) hb); clear HO395; clear HO399; clear HO403; clear HO406; clear HB; have HO395 := n0_; have HO399 := n1_; have HO403 := n2_; have HO406 := n3_; have HB := n4_; clear n0_ n1_ n2_ n3_ n4_; (try clear hb); (try clear hb2); (try clear hk); (try clear hi)) | (go_at_call 32; (with_reducible refine (impl_ZeckendorfOf.calls kj63 t411 t417 _ A90.out).mono ?_); rintro e w104 ⟨v418, rfl, ho0, hb⟩; have n0_ := Aside0.mk (Kd.R_elder' (by (with_reducible repeat (first | apply Kd.R_alloc | apply Kd.R_drewN | apply Kd.R_drew)); exact HO395.out) (Kd.R_base ho0) hb); have n1_ := Aside0.mk (Kd.R_elder' (by (with_reducible repeat (first | apply Kd.R_alloc | apply Kd.R_drewN | apply Kd.R_drew)); exact HO399.out) (Kd.R_base ho0) hb); have n2_ := Aside0.mk (Kd.R_elder' (by (with_reducible repeat (first | apply Kd.R_alloc | apply Kd.R_drewN | apply Kd.R_drew)); exact HO403.out) (Kd.R_base ho0) hb); have n3_ := Aside0.mk (Kd.R_elder' (by (with_reducible repeat (first | apply Kd.R_alloc | apply Kd.R_drewN | apply Kd.R_drew)); exact HO406.out) (Kd.R_base ho0) hb); have n4_ := Aside0.mk (Kd.R_lower (Kd.R_new' (Kd.R_new' (Kd.R_new' (Kd.R_new' ho0 (Kd.R_lt (by (with_reducible repeat (first | apply Kd.R_alloc | apply Kd.R_drewN | apply Kd.R_drew)); exact HO395.out))) (Kd.R_lt (by (with_reducible repeat (first | apply Kd.R_alloc | apply Kd.R_drewN | apply Kd.R_drew)); exact HO399.out))) (Kd.R_lt (by (with_reducible repeat (first | apply Kd.R_alloc | apply Kd.R_drewN | apply Kd.R_drew)); exact HO403.out))) (Kd.R_lt (by (with_reducible repeat (first | apply Kd.R_alloc | apply Kd.R_drewN | apply Kd.R_drew)); exact HO406.out))) (below_size (by repeat (first | (with_reducible first | exact HB.out | apply below_alloc | apply pw_below_drewN | apply below_drew1) | exact HB.out)))); have n5_ := Aside0.mk (below_step (by repeat (first | (with_reducible first | exact HB.out | apply below_alloc | apply pw_below_drewN | apply below_drew1) | exact HB.out)) hb); clear HO395; clear HO399; clear HO403; clear HO406; clear HB; have HO395 := n0_; have HO399 := n1_; have HO403 := n2_; have HO406 := n3_; have HO419 := n4_; have HB := n5_; clear n0_ n1_ n2_ n3_ n4_ n5_; (try clear hb); (try clear hb2); (try clear hk); (try clear hi); (try clear ho0); obtain ⟨Ao105, co105, eo105⟩ := Kd.R_slice HO419.out; subst eo105) | (go_at_call 33; (with_reducible refine (laws_sameInts.calls kj63 _ _ t417 _ _ t404 t420 _ ?side1 ?side2 ?side3 ?side4 A91.out).mono ?_); (case side1 => repeat (first | exact (Kd.R_reads' HO419.out).2.2 | (with_reducible refine Kd.C_alloc ?_ _) | (with_reducible refine Kd.C_drewN ?_ _) | (with_reducible refine Kd.C_drew ?_))); (case side2 => exact (Kd.R_reads' HO419.out).2.1); (case side3 => repeat (first | exact (Kd.R_reads' HO406.out).2.2 | (with_reducible refine Kd.C_alloc ?_ _) | (with_reducible refine Kd.C_drewN ?_ _) | (with_reducible refine Kd.C_drew ?_))); (case side4 => exact (Kd.R_reads' HO406.out).2.1); rintro e w' ⟨rfl, ⟨nd, rfl⟩⟩))
                    go_ret
                    exact ⟨by first | rfl | (simp [errW_none, errW_some] <;> rfl) | (simp [*, errW_none, errW_some] <;> rfl), by repeat (first | (with_reducible first | exact HB.out | apply below_alloc | apply pw_below_drewN | apply below_drew1) | exact HB.out)⟩
                  ·replace c88 := Bool.eq_false_iff.mpr c88
                   subst c88
                   have H1 : (some true) = some r := by rw [if_neg (show ¬ (false = true) by decide)] at H; exact H
                   clear H
                   have H := H1
                   clear H1
                   as_aux_lemma =>
                    obtain rfl := Option.some.inj H
                    obtain rfl : t409 = false := Option.some.inj (A78.out.symm.trans A87.out)
                    go_wp2_with (first | ((with_reducible refine gate_callee (f := 44) rfl ?_); refine goesL_ (some 126) rfl rfl Try.func44 (by kernel_rfl) rfl #[.slice A0 l0.length c0] rfl (by (try simp only [List.map_toArray, List.map_cons, List.map_nil]); first | done | rfl | (simp only [List.length_drop, List.length_take]; rfl)) ?_; (with_reducible refine (spec_DrawNextZeckendorf.calls kj63 _ _ l0 t393 _ ?side1 ?side2 A70.out).mono ?_); (case side1 => repeat (first | exact (Kd.C_below HR0.out HB.out) | (with_reducible refine Kd.C_alloc ?_ _) | (with_reducible refine Kd.C_drewN ?_ _) | (with_reducible refine Kd.C_drew ?_))); (case side2 => exact HC0.out); rintro e w106 ⟨v394, rfl, ho0, hb⟩; refine ⟨_, rfl, ?_⟩; have n0_ := Aside0.mk (Kd.R_lower ho0 (below_size (by repeat (first | (with_reducible first | exact HB.out | apply below_alloc | apply pw_below_drewN | apply below_drew1) | exact HB.out)))); have n1_ := Aside0.mk (below_step (by repeat (first | (with_reducible first | exact HB.out | apply below_alloc | apply pw_below_drewN | apply below_drew1) | exact HB.out)) hb); clear HB; have HO395 := n0_; have HB := n1_; clear n0_ n1_; (try clear hb); (try clear hb2); (try clear hk); (try clear hi); (try clear ho0); obtain ⟨Ao107, co107, eo107⟩ := Kd.R_slice HO395.out; subst eo107) | ((with_reducible refine gate_callee (f := 27) rfl ?_); refine goesL_ (some 129) rfl rfl Try.func27 (by kernel_rfl) rfl #[.slice Ao107 t393.length co107] rfl (by (try simp only [List.map_toArray, List.map_cons, List.map_nil]); first | done | rfl | (simp only [List.length_drop, List.length_take]; rfl)) ?_; (with_reducible refine (impl_NextZeckendorf.calls kj63 _ _ t393 t396 t397 _ ?side1 ?side2 A71.out).mono ?_); (case side1 => repeat (first | exact (Kd.R_reads' HO395.out).2.2 | (with_reducible refine Kd.C_alloc ?_ _) | (with_reducible refine Kd.C_drewN ?_ _) | (with_reducible refine Kd.C_drew ?_))); (case side2 => exact (Kd.R_reads' HO395.out).2.1); rintro e w108 ⟨v398, rfl, ho0, hb⟩; refine ⟨_, rfl, ?_⟩; have n0_ := Aside0.mk (Kd.R_elder' (by (with_reducible repeat (first | apply Kd.R_alloc | apply Kd.R_drewN | apply Kd.R_drew)); exact HO395.out) (Kd.R_base ho0) hb); have n1_ := Aside0.mk (Kd.R_lower (Kd.R_new' ho0 (Kd.R_lt (by (with_reducible repeat (first | apply Kd.R_alloc | apply Kd.R_drewN | apply Kd.R_drew)); exact HO395.out))) (below_size (by repeat (first | (with_reducible first | exact HB.out | apply below_alloc | apply pw_below_drewN | apply below_drew1) | exact HB.out)))); have n2_ := Aside0.mk (below_step (by repeat (first | (with_reducible first | exact HB.out | apply below_alloc | apply pw_below_drewN | apply below_drew1) | exact HB.out)) hb); clear HO395; clear HB; have HO395 := n0_; have HO399 := n1_; have HB := n2_; clear n0_ n1_ n2_; (try clear hb); (try clear hb2); (try clear hk); (try clear hi); (try clear ho0)) | ((with_reducible refine gate_callee (f := 25) rfl ?_); refine goesL_ (some 134) rfl rfl Try.func25 (by kernel_rfl) rfl #[.slice Ao107 t393.length co107] rfl (by (try simp only [List.map_toArray, List.map_cons, List.map_nil]); first | done | rfl | (simp only [List.length_drop, List.length_take]; rfl)) ?_; (with_reducible refine (spec_NextZeckendorf.calls kj63 _ _ t393 t400 t401 _ ?side1 ?side2 A72.out).mono ?_); (case side1 => repeat (first | exact (Kd.R_reads' HO395.out).2.2 | (with_reducible refine Kd.C_alloc ?_ _) | (with_reducible refine Kd.C_drewN ?_ _) | (with_reducible refine Kd.C_drew ?_))); (case side2 => exact (Kd.R_reads' HO395.out).2.1); rintro e w109 ⟨v402, rfl, ho0, hb⟩; refine ⟨_, rfl, ?_⟩; have n0_ := Aside0.mk (Kd.R_elder' (by (with_reducible repeat (first | apply Kd.R_alloc | apply Kd.R_drewN | apply Kd.R_drew)); exact HO395.out) (Kd.R_base ho0) hb); have n1_ := Aside0.mk (Kd.R_elder' (by (with_reducible repeat (first | apply Kd.R_alloc | apply Kd.R_drewN | apply Kd.R_drew)); exact HO399.out) (Kd.R_base ho0) hb); have n2_ := Aside0.mk (Kd.R_lower (Kd.R_new' (Kd.R_new' ho0 (Kd.R_lt (by (with_reducible repeat (first | apply Kd.R_alloc | apply Kd.R_drewN | apply Kd.R_drew)); exact HO395.out))) (Kd.R_lt (by (with_reducible repeat (first | apply Kd.R_alloc | apply Kd.R_drewN | apply Kd.R_drew)); exact HO399.out))) (below_size (by repeat (first | (with_reducible first | exact HB.out | apply below_alloc | apply pw_below_drewN | apply below_drew1) | exact HB.out)))); have n3_ := Aside0.mk (below_step (by repeat (first | (with_reducible first | exact HB.out | apply below_alloc | apply pw_below_drewN | apply below_drew1) | exact HB.out)) hb); clear HO395; clear HO399; clear HB; have HO395 := n0_; have HO399 := n1_; have HO403 := n2_; have HB := n3_; clear n0_ n1_ n2_ n3_; (try clear hb); (try clear hb2); (try clear hk); (try clear hi); (try clear ho0)) | ((with_reducible refine gate_callee (f := 45) rfl ?_); refine goesL_ (some 138) rfl rfl Try.func45 (by kernel_rfl) rfl #[.slice A0 l0.length c0] rfl (by (try simp only [List.map_toArray, List.map_cons, List.map_nil]); first | done | rfl | (simp only [List.length_drop, List.length_take]; rfl)) ?_; (with_reducible refine (spec_DrawIsZeckendorf.calls kj63 _ _ l0 t404 _ ?side1 ?side2 A73.out).mono ?_); (case side1 => repeat (first | exact (Kd.C_below HR0.out HB.out) | (with_reducible refine Kd.C_alloc ?_ _) | (with_reducible refine Kd.C_drewN ?_ _) | (with_reducible refine Kd.C_drew ?_))); (case side2 => exact HC0.out); rintro e w110 ⟨v405, rfl, ho0, hb⟩; refine ⟨_, rfl, ?_⟩; have n0_ := Aside0.mk (Kd.R_elder' (by (with_reducible repeat (first | apply Kd.R_alloc | apply Kd.R_drewN | apply Kd.R_drew)); exact HO395.out) (Kd.R_base ho0) hb); have n1_ := Aside0.mk (Kd.R_elder' (by (with_reducible repeat (first | apply Kd.R_alloc | apply Kd.R_drewN | apply Kd.R_drew)); exact HO399.out) (Kd.R_base ho0) hb); have n2_ := Aside0.mk (Kd.R_elder' (by (with_reducible repeat (first | apply Kd.R_alloc | apply Kd.R_drewN | apply Kd.R_drew)); exact HO403.out) (Kd.R_base ho0) hb); have n3_ := Aside0.mk (Kd.R_lower (Kd.R_new' (Kd.R_new' (Kd.R_new' ho0 (Kd.R_lt (by (with_reducible repeat (first | apply Kd.R_alloc | apply Kd.R_drewN | apply Kd.R_drew)); exact HO395.out))) (Kd.R_lt (by (with_reducible repeat (first | apply Kd.R_alloc | apply Kd.R_drewN | apply Kd.R_drew)); exact HO399.out))) (Kd.R_lt (by (with_reducible repeat (first | apply Kd.R_alloc | apply Kd.R_drewN | apply Kd.R_drew)); exact HO403.out))) (below_size (by repeat (first | (with_reducible first | exact HB.out | apply below_alloc | apply pw_below_drewN | apply below_drew1) | exact HB.out)))); have n4_ := Aside0.mk (below_step (by repeat (first | (with_reducible first | exact HB.out | apply below_alloc | apply pw_below_drewN | apply below_drew1) | exact HB.out)) hb); clear HO395; clear HO399; clear HO403; clear HB; have HO395 := n0_; have HO399 := n1_; have HO403 := n2_; have HO406 := n3_; have HB := n4_; clear n0_ n1_ n2_ n3_ n4_; (try clear hb); (try clear hb2); (try clear hk); (try clear hi); (try clear ho0)) | ((with_reducible refine gate_callee (f := 46) rfl ?_); refine goesL_ (some 140) rfl rfl Try.func46 (by kernel_rfl) rfl #[.slice A0 l0.length c0] rfl (by (try simp only [List.map_toArray, List.map_cons, List.map_nil]); first | done | rfl | (simp only [List.length_drop, List.length_take]; rfl)) ?_; (with_reducible refine (spec_DrawFibonacciNumber.calls kj63 _ _ l0 t407 _ ?side1 ?side2 A74.out).mono ?_); (case side1 => repeat (first | exact (Kd.C_below HR0.out HB.out) | (with_reducible refine Kd.C_alloc ?_ _) | (with_reducible refine Kd.C_drewN ?_ _) | (with_reducible refine Kd.C_drew ?_))); (case side2 => exact HC0.out); rintro e w111 ⟨rfl, hb⟩; refine ⟨_, rfl, ?_⟩; have n0_ := Aside0.mk (Kd.R_below (by (with_reducible repeat (first | apply Kd.R_alloc | apply Kd.R_drewN | apply Kd.R_drew)); exact HO395.out) hb); have n1_ := Aside0.mk (Kd.R_below (by (with_reducible repeat (first | apply Kd.R_alloc | apply Kd.R_drewN | apply Kd.R_drew)); exact HO399.out) hb); have n2_ := Aside0.mk (Kd.R_below (by (with_reducible repeat (first | apply Kd.R_alloc | apply Kd.R_drewN | apply Kd.R_drew)); exact HO403.out) hb); have n3_ := Aside0.mk (Kd.R_below (by (with_reducible repeat (first | apply Kd.R_alloc | apply Kd.R_drewN | apply Kd.R_drew)); exact HO406.out) hb); have n4_ := Aside0.mk (below_step (by repeat (first | (with_reducible first | exact HB.out | apply below_alloc | apply pw_below_drewN | apply below_drew1) | exact HB.out)) hb); clear HO395; clear HO399; clear HO403; clear HO406; clear HB; have HO395 := n0_; have HO399 := n1_; have HO403 := n2_; have HO406 := n3_; have HB := n4_; clear n0_ n1_ n2_ n3_ n4_; (try clear hb); (try clear hb2); (try clear hk); (try clear hi); obtain ⟨Ao112, co112, eo112⟩ := Kd.R_slice HO399.out; subst eo112; obtain ⟨Ao113, co113, eo113⟩ := Kd.R_slice HO403.out; subst eo113) | (go_at_call 33; (with_reducible refine (laws_sameInts.calls kj63 _ _ t396 _ _ t400 true _ ?side1 ?side2 ?side3 ?side4 A76.out).mono ?_); (case side1 => repeat (first | exact (Kd.R_reads' HO399.out).2.2 | (with_reducible refine Kd.C_alloc ?_ _) | (with_reducible refine Kd.C_drewN ?_ _) | (with_reducible refine Kd.C_drew ?_))); (case side2 => exact (Kd.R_reads' HO399.out).2.1); (case side3 => repeat (first | exact (Kd.R_reads' HO403.out).2.2 | (with_reducible refine Kd.C_alloc ?_ _) | (with_reducible refine Kd.C_drewN ?_ _) | (with_reducible refine Kd.C_drew ?_))); (case side4 => exact (Kd.R_reads' HO403.out).2.1); rintro e w' ⟨rfl, ⟨nd, rfl⟩⟩; obtain ⟨Ao114, co114, eo114⟩ := Kd.R_slice HO406.out; subst eo114) | (go_at_call 38; (with_reducible refine (impl_IsZeckendorf.calls kj63 _ _ t404 false _ ?side1 ?side2 A78.out).mono ?_); (case side1 => repeat (first | exact (Kd.R_reads' HO406.out).2.2 | (with_reducible refine Kd.C_alloc ?_ _) | (with_reducible refine Kd.C_drewN ?_ _) | (with_reducible refine Kd.C_drew ?_))); (case side2 => exact (Kd.R_reads' HO406.out).2.1); rintro e w' ⟨rfl, ⟨nd, rfl⟩⟩) | (go_at_call 47; (with_reducible refine (spec_IsZeckendorf.calls kj63 _ _ t404 t410 _ ?side1 ?side2 A79.out).mono ?_); (case side1 => repeat (first | exact (Kd.R_reads' HO406.out).2.2 | (with_reducible refine Kd.C_alloc ?_ _) | (with_reducible refine Kd.C_drewN ?_ _) | (with_reducible refine Kd.C_drew ?_))); (case side2 => exact (Kd.R_reads' HO406.out).2.1); rintro e w' ⟨rfl, ⟨nd, rfl⟩⟩) | (go_at_call 39; (with_reducible refine (impl_ZeckendorfValue.calls kj63 _ _ t404 t411 _ ?side1 ?side2 A81.out).mono ?_); (case side1 => repeat (first | exact (Kd.R_reads' HO406.out).2.2 | (with_reducible refine Kd.C_alloc ?_ _) | (with_reducible refine Kd.C_drewN ?_ _) | (with_reducible refine Kd.C_drew ?_))); (case side2 => exact (Kd.R_reads' HO406.out).2.1); rintro e w115 ⟨rfl, hb⟩; have n0_ := Aside0.mk (Kd.R_below (by (with_reducible repeat (first | apply Kd.R_alloc | apply Kd.R_drewN | apply Kd.R_drew)); exact HO395.out) hb); have n1_ := Aside0.mk (Kd.R_below (by (with_reducible repeat (first | apply Kd.R_alloc | apply Kd.R_drewN | apply Kd.R_drew)); exact HO399.out) hb); have n2_ := Aside0.mk (Kd.R_below (by (with_reducible repeat (first | apply Kd.R_alloc | apply Kd.R_drewN | apply Kd.R_drew)); exact HO403.out) hb); have n3_ := Aside0.mk (Kd.R_below (by (with_reducible repeat (first | apply Kd.R_alloc | apply Kd.R_drewN | apply Kd.R_drew)); exact HO406.out) hb); have n4_ := Aside0.mk (below_step (by repeat (first | (with_reducible first | exact HB.out | apply below_alloc | apply pw_below_drewN | apply below_drew1) | exact HB.out)) hb); clear HO395; clear HO399; clear HO403; clear HO406; clear HB; have HO395 := n0_; have HO399 := n1_; have HO403 := n2_; have HO406 := n3_; have HB := n4_; clear n0_ n1_ n2_ n3_ n4_; (try clear hb); (try clear hb2); (try clear hk); (try clear hi)) | (go_at_call 43; (with_reducible refine (spec_ZeckendorfValue.calls kj63 _ _ t404 t412 _ ?side1 ?side2 A82.out).mono ?_); (case side1 => repeat (first | exact (Kd.R_reads' HO406.out).2.2 | (with_reducible refine Kd.C_alloc ?_ _) | (with_reducible refine Kd.C_drewN ?_ _) | (with_reducible refine Kd.C_drew ?_))); (case side2 => exact (Kd.R_reads' HO406.out).2.1); rintro e w' ⟨rfl, ⟨nd, rfl⟩⟩) | (go_at_call 48; (with_reducible refine (impl_FibonacciNumber.calls t407 t413 _ A84.out).mono ?_); rintro e w116 ⟨rfl, hb⟩; have n0_ := Aside0.mk (Kd.R_below (by (with_reducible repeat (first | apply Kd.R_alloc | apply Kd.R_drewN | apply Kd.R_drew)); exact HO395.out) hb); have n1_ := Aside0.mk (Kd.R_below (by (with_reducible repeat (first | apply Kd.R_alloc | apply Kd.R_drewN | apply Kd.R_drew)); exact HO399.out) hb); have n2_ := Aside0.mk (Kd.R_below (by (with_reducible repeat (first | apply Kd.R_alloc | apply Kd.R_drewN | apply Kd.R_drew)); exact HO403.out) hb); have n3_ := Aside0.mk (Kd.R_below (by (with_reducible repeat (first | apply Kd.R_alloc | apply Kd.R_drewN | apply Kd.R_drew)); exact HO406.out) hb); have n4_ := Aside0.mk (below_step (by repeat (first | (with_reducible first | exact HB.out | apply below_alloc | apply pw_below_drewN | apply below_drew1) | exact HB.out)) hb); clear HO395; clear HO399; clear HO403; clear HO406; clear HB; have HO395 := n0_; have HO399 := n1_; have HO403 := n2_; have HO406 := n3_; have HB := n4_; clear n0_ n1_ n2_ n3_ n4_; (try clear hb); (try clear hb2); (try clear hk); (try clear hi)) | (go_at_call 37; (with_reducible refine (spec_FibonacciNumber.calls kj63 t407 t414 _ A85.out).mono ?_); rintro e w' ⟨rfl, ⟨nd, rfl⟩⟩) | (go_at_call 38; (with_reducible refine (impl_IsZeckendorf.calls kj63 _ _ t404 false _ ?side1 ?side2 A87.out).mono ?_); (case side1 => repeat (first | exact (Kd.R_reads' HO406.out).2.2 | (with_reducible refine Kd.C_alloc ?_ _) | (with_reducible refine Kd.C_drewN ?_ _) | (with_reducible refine Kd.C_drew ?_))); (case side2 => exact (Kd.R_reads' HO406.out).2.1); rintro e w' ⟨rfl, ⟨nd, rfl⟩⟩))
                    go_ret
                    exact ⟨by first | rfl | (simp [errW_none, errW_some] <;> rfl) | (simp [*, errW_none, errW_some] <;> rfl), by repeat (first | (with_reducible first | exact HB.out | apply below_alloc | apply pw_below_drewN | apply below_drew1) | exact HB.out)⟩
                 ·rw [if_neg c86] at H
                  have c86b0 : (t413 == t414) = false := beq_eq_false_iff_ne.mpr c86
                  have c86b1 : (t413 != t414) = true := bne_iff_ne.mpr c86
                  as_aux_lemma =>
                   obtain rfl := Option.some.inj H
                   go_wp2_with (first | ((with_reducible refine gate_callee (f := 44) rfl ?_); refine goesL_ (some 126) rfl rfl Try.func44 (by kernel_rfl) rfl #[.slice A0 l0.length c0] rfl (by (try simp only [List.map_toArray, List.map_cons, List.map_nil]); first | done | rfl | (simp only [List.length_drop, List.length_take]; rfl)) ?_; (with_reducible refine (spec_DrawNextZeckendorf.calls kj63 _ _ l0 t393 _ ?side1 ?side2 A70.out).mono ?_); (case side1 => repeat (first | exact (Kd.C_below HR0.out HB.out) | (with_reducible refine Kd.C_alloc ?_ _) | (with_reducible refine Kd.C_drewN ?_ _) | (with_reducible refine Kd.C_drew ?_))); (case side2 => exact HC0.out); rintro e w117 ⟨v394, rfl, ho0, hb⟩; refine ⟨_, rfl, ?_⟩; have n0_ := Aside0.mk (Kd.R_lower ho0 (below_size (by repeat (first | (with_reducible first | exact HB.out | apply below_alloc | apply pw_below_drewN | apply below_drew1) | exact HB.out)))); have n1_ := Aside0.mk (below_step (by repeat (first | (with_reducible first | exact HB.out | apply below_alloc | apply pw_below_drewN | apply below_drew1) | exact HB.out)) hb); clear HB; have HO395 := n0_; have HB := n1_; clear n0_ n1_; (try clear hb); (try clear hb2); (try clear hk); (try clear hi); (try clear ho0); obtain ⟨Ao118, co118, eo118⟩ := Kd.R_slice HO395.out; subst eo118) | ((with_reducible refine gate_callee (f := 27) rfl ?_); refine goesL_ (some 129) rfl rfl Try.func27 (by kernel_rfl) rfl #[.slice Ao118 t393.length co118] rfl (by (try simp only [List.map_toArray, List.map_cons, List.map_nil]); first | done | rfl | (simp only [List.length_drop, List.length_take]; rfl)) ?_; (with_reducible refine (impl_NextZeckendorf.calls kj63 _ _ t393 t396 t397 _ ?side1 ?side2 A71.out).mono ?_); (case side1 => repeat (first | exact (Kd.R_reads' HO395.out).2.2 | (with_reducible refine Kd.C_alloc ?_ _) | (with_reducible refine Kd.C_drewN ?_ _) | (with_reducible refine Kd.C_drew ?_))); (case side2 => exact (Kd.R_reads' HO395.out).2.1); rintro e w119 ⟨v398, rfl, ho0, hb⟩; refine ⟨_, rfl, ?_⟩; have n0_ := Aside0.mk (Kd.R_elder' (by (with_reducible repeat (first | apply Kd.R_alloc | apply Kd.R_drewN | apply Kd.R_drew)); exact HO395.out) (Kd.R_base ho0) hb); have n1_ := Aside0.mk (Kd.R_lower (Kd.R_new' ho0 (Kd.R_lt (by (with_reducible repeat (first | apply Kd.R_alloc | apply Kd.R_drewN | apply Kd.R_drew)); exact HO395.out))) (below_size (by repeat (first | (with_reducible first | exact HB.out | apply below_alloc | apply pw_below_drewN | apply below_drew1) | exact HB.out)))); have n2_ := Aside0.mk (below_step (by repeat (first | (with_reducible first | exact HB.out | apply below_alloc | apply pw_below_drewN | apply below_drew1) | exact HB.out)) hb); clear HO395; clear HB; have HO395 := n0_; have HO399 := n1_; have HB := n2_; clear n0_ n1_ n2_; (try clear hb); (try clear hb2); (try clear hk); (try clear hi); (try clear ho0)) | ((with_reducible refine gate_callee (f := 25) rfl ?_); refine goesL_ (some 134) rfl rfl Try.func25 (by kernel_rfl) rfl #[.slice Ao118 t393.length co118] rfl (by (try simp only [List.map_toArray, List.map_cons, List.map_nil]); first | done | rfl | (simp only [List.length_drop, List.length_take]; rfl)) ?_; (with_reducible refine (spec_NextZeckendorf.calls kj63 _ _ t393 t400 t401 _ ?side1 ?side2 A72.out).mono ?_); (case side1 => repeat (first | exact (Kd.R_reads' HO395.out).2.2 | (with_reducible refine Kd.C_alloc ?_ _) | (with_reducible refine Kd.C_drewN ?_ _) | (with_reducible refine Kd.C_drew ?_))); (case side2 => exact (Kd.R_reads' HO395.out).2.1); rintro e w120 ⟨v402, rfl, ho0, hb⟩; refine ⟨_, rfl, ?_⟩; have n0_ := Aside0.mk (Kd.R_elder' (by (with_reducible repeat (first | apply Kd.R_alloc | apply Kd.R_drewN | apply Kd.R_drew)); exact HO395.out) (Kd.R_base ho0) hb); have n1_ := Aside0.mk (Kd.R_elder' (by (with_reducible repeat (first | apply Kd.R_alloc | apply Kd.R_drewN | apply Kd.R_drew)); exact HO399.out) (Kd.R_base ho0) hb); have n2_ := Aside0.mk (Kd.R_lower (Kd.R_new' (Kd.R_new' ho0 (Kd.R_lt (by (with_reducible repeat (first | apply Kd.R_alloc | apply Kd.R_drewN | apply Kd.R_drew)); exact HO395.out))) (Kd.R_lt (by (with_reducible repeat (first | apply Kd.R_alloc | apply Kd.R_drewN | apply Kd.R_drew)); exact HO399.out))) (below_size (by repeat (first | (with_reducible first | exact HB.out | apply below_alloc | apply pw_below_drewN | apply below_drew1) | exact HB.out)))); have n3_ := Aside0.mk (below_step (by repeat (first | (with_reducible first | exact HB.out | apply below_alloc | apply pw_below_drewN | apply below_drew1) | exact HB.out)) hb); clear HO395; clear HO399; clear HB; have HO395 := n0_; have HO399 := n1_; have HO403 := n2_; have HB := n3_; clear n0_ n1_ n2_ n3_; (try clear hb); (try clear hb2); (try clear hk); (try clear hi); (try clear ho0)) | ((with_reducible refine gate_callee (f := 45) rfl ?_); refine goesL_ (some 138) rfl rfl Try.func45 (by kernel_rfl) rfl #[.slice A0 l0.length c0] rfl (by (try simp only [List.map_toArray, List.map_cons, List.map_nil]); first | done | rfl | (simp only [List.length_drop, List.length_take]; rfl)) ?_; (with_reducible refine (spec_DrawIsZeckendorf.calls kj63 _ _ l0 t404 _ ?side1 ?side2 A73.out).mono ?_); (case side1 => repeat (first | exact (Kd.C_below HR0.out HB.out) | (with_reducible refine Kd.C_alloc ?_ _) | (with_reducible refine Kd.C_drewN ?_ _) | (with_reducible refine Kd.C_drew ?_))); (case side2 => exact HC0.out); rintro e w121 ⟨v405, rfl, ho0, hb⟩; refine ⟨_, rfl, ?_⟩; have n0_ := Aside0.mk (Kd.R_elder' (by (with_reducible repeat (first | apply Kd.R_alloc | apply Kd.R_drewN | apply Kd.R_drew)); exact HO395.out) (Kd.R_base ho0) hb); have n1_ := Aside0.mk (Kd.R_elder' (by (with_reducible repeat (first | apply Kd.R_alloc | apply Kd.R_drewN | apply Kd.R_drew)); exact HO399.out) (Kd.R_base ho0) hb); have n2_ := Aside0.mk (Kd.R_elder' (by (with_reducible repeat (first | apply Kd.R_alloc | apply Kd.R_drewN | apply Kd.R_drew)); exact HO403.out) (Kd.R_base ho0) hb); have n3_ := Aside0.mk (Kd.R_lower (Kd.R_new' (Kd.R_new' (Kd.R_new' ho0 (Kd.R_lt (by (with_reducible repeat (first | apply Kd.R_alloc | apply Kd.R_drewN | apply Kd.R_drew)); exact HO395.out))) (Kd.R_lt (by (with_reducible repeat (first | apply Kd.R_alloc | apply Kd.R_drewN | apply Kd.R_drew)); exact HO399.out))) (Kd.R_lt (by (with_reducible repeat (first | apply Kd.R_alloc | apply Kd.R_drewN | apply Kd.R_drew)); exact HO403.out))) (below_size (by repeat (first | (with_reducible first | exact HB.out | apply below_alloc | apply pw_below_drewN | apply below_drew1) | exact HB.out)))); have n4_ := Aside0.mk (below_step (by repeat (first | (with_reducible first | exact HB.out | apply below_alloc | apply pw_below_drewN | apply below_drew1) | exact HB.out)) hb); clear HO395; clear HO399; clear HO403; clear HB; have HO395 := n0_; have HO399 := n1_; have HO403 := n2_; have HO406 := n3_; have HB := n4_; clear n0_ n1_ n2_ n3_ n4_; (try clear hb); (try clear hb2); (try clear hk); (try clear hi); (try clear ho0)) | ((with_reducible refine gate_callee (f := 46) rfl ?_); refine goesL_ (some 140) rfl rfl Try.func46 (by kernel_rfl) rfl #[.slice A0 l0.length c0] rfl (by (try simp only [List.map_toArray, List.map_cons, List.map_nil]); first | done | rfl | (simp only [List.length_drop, List.length_take]; rfl)) ?_; (with_reducible refine (spec_DrawFibonacciNumber.calls kj63 _ _ l0 t407 _ ?side1 ?side2 A74.out).mono ?_); (case side1 => repeat (first | exact (Kd.C_below HR0.out HB.out) | (with_reducible refine Kd.C_alloc ?_ _) | (with_reducible refine Kd.C_drewN ?_ _) | (with_reducible refine Kd.C_drew ?_))); (case side2 => exact HC0.out); rintro e w122 ⟨rfl, hb⟩; refine ⟨_, rfl, ?_⟩; have n0_ := Aside0.mk (Kd.R_below (by (with_reducible repeat (first | apply Kd.R_alloc | apply Kd.R_drewN | apply Kd.R_drew)); exact HO395.out) hb); have n1_ := Aside0.mk (Kd.R_below (by (with_reducible repeat (first | apply Kd.R_alloc | apply Kd.R_drewN | apply Kd.R_drew)); exact HO399.out) hb); have n2_ := Aside0.mk (Kd.R_below (by (with_reducible repeat (first | apply Kd.R_alloc | apply Kd.R_drewN | apply Kd.R_drew)); exact HO403.out) hb); have n3_ := Aside0.mk (Kd.R_below (by (with_reducible repeat (first | apply Kd.R_alloc | apply Kd.R_drewN | apply Kd.R_drew)); exact HO406.out) hb); have n4_ := Aside0.mk (below_step (by repeat (first | (with_reducible first | exact HB.out | apply below_alloc | apply pw_below_drewN | apply below_drew1) | exact HB.out)) hb); clear HO395; clear HO399; clear HO403; clear HO406; clear HB; have HO395 := n0_; have HO399 := n1_; have HO403 := n2_; have HO406 := n3_; have HB := n4_; clear n0_ n1_ n2_ n3_ n4_; (try clear hb); (try clear hb2); (try clear hk); (try clear hi); obtain ⟨Ao123, co123, eo123⟩ := Kd.R_slice HO399.out; subst eo123; obtain ⟨Ao124, co124, eo124⟩ := Kd.R_slice HO403.out; subst eo124) | (go_at_call 33; (with_reducible refine (laws_sameInts.calls kj63 _ _ t396 _ _ t400 true _ ?side1 ?side2 ?side3 ?side4 A76.out).mono ?_); (case side1 => repeat (first | exact (Kd.R_reads' HO399.out).2.2 | (with_reducible refine Kd.C_alloc ?_ _) | (with_reducible refine Kd.C_drewN ?_ _) | (with_reducible refine Kd.C_drew ?_))); (case side2 => exact (Kd.R_reads' HO399.out).2.1); (case side3 => repeat (first | exact (Kd.R_reads' HO403.out).2.2 | (with_reducible refine Kd.C_alloc ?_ _) | (with_reducible refine Kd.C_drewN ?_ _) | (with_reducible refine Kd.C_drew ?_))); (case side4 => exact (Kd.R_reads' HO403.out).2.1); rintro e w' ⟨rfl, ⟨nd, rfl⟩⟩; obtain ⟨Ao125, co125, eo125⟩ := Kd.R_slice HO406.out; subst eo125) | (go_at_call 38; (with_reducible refine (impl_IsZeckendorf.calls kj63 _ _ t404 t409 _ ?side1 ?side2 A78.out).mono ?_); (case side1 => repeat (first | exact (Kd.R_reads' HO406.out).2.2 | (with_reducible refine Kd.C_alloc ?_ _) | (with_reducible refine Kd.C_drewN ?_ _) | (with_reducible refine Kd.C_drew ?_))); (case side2 => exact (Kd.R_reads' HO406.out).2.1); rintro e w' ⟨rfl, ⟨nd, rfl⟩⟩) | (go_at_call 47; (with_reducible refine (spec_IsZeckendorf.calls kj63 _ _ t404 t410 _ ?side1 ?side2 A79.out).mono ?_); (case side1 => repeat (first | exact (Kd.R_reads' HO406.out).2.2 | (with_reducible refine Kd.C_alloc ?_ _) | (with_reducible refine Kd.C_drewN ?_ _) | (with_reducible refine Kd.C_drew ?_))); (case side2 => exact (Kd.R_reads' HO406.out).2.1); rintro e w' ⟨rfl, ⟨nd, rfl⟩⟩) | (go_at_call 39; (with_reducible refine (impl_ZeckendorfValue.calls kj63 _ _ t404 t411 _ ?side1 ?side2 A81.out).mono ?_); (case side1 => repeat (first | exact (Kd.R_reads' HO406.out).2.2 | (with_reducible refine Kd.C_alloc ?_ _) | (with_reducible refine Kd.C_drewN ?_ _) | (with_reducible refine Kd.C_drew ?_))); (case side2 => exact (Kd.R_reads' HO406.out).2.1); rintro e w126 ⟨rfl, hb⟩; have n0_ := Aside0.mk (Kd.R_below (by (with_reducible repeat (first | apply Kd.R_alloc | apply Kd.R_drewN | apply Kd.R_drew)); exact HO395.out) hb); have n1_ := Aside0.mk (Kd.R_below (by (with_reducible repeat (first | apply Kd.R_alloc | apply Kd.R_drewN | apply Kd.R_drew)); exact HO399.out) hb); have n2_ := Aside0.mk (Kd.R_below (by (with_reducible repeat (first | apply Kd.R_alloc | apply Kd.R_drewN | apply Kd.R_drew)); exact HO403.out) hb); have n3_ := Aside0.mk (Kd.R_below (by (with_reducible repeat (first | apply Kd.R_alloc | apply Kd.R_drewN | apply Kd.R_drew)); exact HO406.out) hb); have n4_ := Aside0.mk (below_step (by repeat (first | (with_reducible first | exact HB.out | apply below_alloc | apply pw_below_drewN | apply below_drew1) | exact HB.out)) hb); clear HO395; clear HO399; clear HO403; clear HO406; clear HB; have HO395 := n0_; have HO399 := n1_; have HO403 := n2_; have HO406 := n3_; have HB := n4_; clear n0_ n1_ n2_ n3_ n4_; (try clear hb); (try clear hb2); (try clear hk); (try clear hi)) | (go_at_call 43; (with_reducible refine (spec_ZeckendorfValue.calls kj63 _ _ t404 t412 _ ?side1 ?side2 A82.out).mono ?_); (case side1 => repeat (first | exact (Kd.R_reads' HO406.out).2.2 | (with_reducible refine Kd.C_alloc ?_ _) | (with_reducible refine Kd.C_drewN ?_ _) | (with_reducible refine Kd.C_drew ?_))); (case side2 => exact (Kd.R_reads' HO406.out).2.1); rintro e w' ⟨rfl, ⟨nd, rfl⟩⟩) | (go_at_call 48; (with_reducible refine (impl_FibonacciNumber.calls t407 t413 _ A84.out).mono ?_); rintro e w127 ⟨rfl, hb⟩; have n0_ := Aside0.mk (Kd.R_below (by (with_reducible repeat (first | apply Kd.R_alloc | apply Kd.R_drewN | apply Kd.R_drew)); exact HO395.out) hb); have n1_ := Aside0.mk (Kd.R_below (by (with_reducible repeat (first | apply Kd.R_alloc | apply Kd.R_drewN | apply Kd.R_drew)); exact HO399.out) hb); have n2_ := Aside0.mk (Kd.R_below (by (with_reducible repeat (first | apply Kd.R_alloc | apply Kd.R_drewN | apply Kd.R_drew)); exact HO403.out) hb); have n3_ := Aside0.mk (Kd.R_below (by (with_reducible repeat (first | apply Kd.R_alloc | apply Kd.R_drewN | apply Kd.R_drew)); exact HO406.out) hb); have n4_ := Aside0.mk (below_step (by repeat (first | (with_reducible first | exact HB.out | apply below_alloc | apply pw_below_drewN | apply below_drew1) | exact HB.out)) hb); clear HO395; clear HO399; clear HO403; clear HO406; clear HB; have HO395 := n0_; have HO399 := n1_; have HO403 := n2_; have HO406 := n3_; have HB := n4_; clear n0_ n1_ n2_ n3_ n4_; (try clear hb); (try clear hb2); (try clear hk); (try clear hi)) | (go_at_call 37; (with_reducible refine (spec_FibonacciNumber.calls kj63 t407 t414 _ A85.out).mono ?_); rintro e w' ⟨rfl, ⟨nd, rfl⟩⟩))
                   go_ret
                   exact ⟨by first | rfl | (simp [errW_none, errW_some] <;> rfl) | (simp [*, errW_none, errW_some] <;> rfl), by repeat (first | (with_reducible first | exact HB.out | apply below_alloc | apply pw_below_drewN | apply below_drew1) | exact HB.out)⟩
                ·rw [if_neg c83] at H
                 have c83b0 : (t411 == t412) = false := beq_eq_false_iff_ne.mpr c83
                 have c83b1 : (t411 != t412) = true := bne_iff_ne.mpr c83
                 as_aux_lemma =>
                  obtain rfl := Option.some.inj H
                  go_wp2_with (first | ((with_reducible refine gate_callee (f := 44) rfl ?_); refine goesL_ (some 126) rfl rfl Try.func44 (by kernel_rfl) rfl #[.slice A0 l0.length c0] rfl (by (try simp only [List.map_toArray, List.map_cons, List.map_nil]); first | done | rfl | (simp only [List.length_drop, List.length_take]; rfl)) ?_; (with_reducible refine (spec_DrawNextZeckendorf.calls kj63 _ _ l0 t393 _ ?side1 ?side2 A70.out).mono ?_); (case side1 => repeat (first | exact (Kd.C_below HR0.out HB.out) | (with_reducible refine Kd.C_alloc ?_ _) | (with_reducible refine Kd.C_drewN ?_ _) | (with_reducible refine Kd.C_drew ?_))); (case side2 => exact HC0.out); rintro e w128 ⟨v394, rfl, ho0, hb⟩; refine ⟨_, rfl, ?_⟩; have n0_ := Aside0.mk (Kd.R_lower ho0 (below_size (by repeat (first | (with_reducible first | exact HB.out | apply below_alloc | apply pw_below_drewN | apply below_drew1) | exact HB.out)))); have n1_ := Aside0.mk (below_step (by repeat (first | (with_reducible first | exact HB.out | apply below_alloc | apply pw_below_drewN | apply below_drew1) | exact HB.out)) hb); clear HB; have HO395 := n0_; have HB := n1_; clear n0_ n1_; (try clear hb); (try clear hb2); (try clear hk); (try clear hi); (try clear ho0); obtain ⟨Ao129, co129, eo129⟩ := Kd.R_slice HO395.out; subst eo129) | ((with_reducible refine gate_callee (f := 27) rfl ?_); refine goesL_ (some 129) rfl rfl Try.func27 (by kernel_rfl) rfl #[.slice Ao129 t393.length co129] rfl (by (try simp only [List.map_toArray, List.map_cons, List.map_nil]); first | done | rfl | (simp only [List.length_drop, List.length_take]; rfl)) ?_; (with_reducible refine (impl_NextZeckendorf.calls kj63 _ _ t393 t396 t397 _ ?side1 ?side2 A71.out).mono ?_); (case side1 => repeat (first | exact (Kd.R_reads' HO395.out).2.2 | (with_reducible refine Kd.C_alloc ?_ _) | (with_reducible refine Kd.C_drewN ?_ _) | (with_reducible refine Kd.C_drew ?_))); (case side2 => exact (Kd.R_reads' HO395.out).2.1); rintro e w130 ⟨v398, rfl, ho0, hb⟩; refine ⟨_, rfl, ?_⟩; have n0_ := Aside0.mk (Kd.R_elder' (by (with_reducible repeat (first | apply Kd.R_alloc | apply Kd.R_drewN | apply Kd.R_drew)); exact HO395.out) (Kd.R_base ho0) hb); have n1_ := Aside0.mk (Kd.R_lower (Kd.R_new' ho0 (Kd.R_lt (by (with_reducible repeat (first | apply Kd.R_alloc | apply Kd.R_drewN | apply Kd.R_drew)); exact HO395.out))) (below_size (by repeat (first | (with_reducible first | exact HB.out | apply below_alloc | apply pw_below_drewN | apply below_drew1) | exact HB.out)))); have n2_ := Aside0.mk (below_step (by repeat (first | (with_reducible first | exact HB.out | apply below_alloc | apply pw_below_drewN | apply below_drew1) | exact HB.out)) hb); clear HO395; clear HB; have HO395 := n0_; have HO399 := n1_; have HB := n2_; clear n0_ n1_ n2_; (try clear hb); (try clear hb2); (try clear hk); (try clear hi); (try clear ho0)) | ((with_reducible refine gate_callee (f := 25) rfl ?_); refine goesL_ (some 134) rfl rfl Try.func25 (by kernel_rfl) rfl #[.slice Ao129 t393.length co129] rfl (by (try simp only [List.map_toArray, List.map_cons, List.map_nil]); first | done | rfl | (simp only [List.length_drop, List.length_take]; rfl)) ?_; (with_reducible refine (spec_NextZeckendorf.calls kj63 _ _ t393 t400 t401 _ ?side1 ?side2 A72.out).mono ?_); (case side1 => repeat (first | exact (Kd.R_reads' HO395.out).2.2 | (with_reducible refine Kd.C_alloc ?_ _) | (with_reducible refine Kd.C_drewN ?_ _) | (with_reducible refine Kd.C_drew ?_))); (case side2 => exact (Kd.R_reads' HO395.out).2.1); rintro e w131 ⟨v402, rfl, ho0, hb⟩; refine ⟨_, rfl, ?_⟩; have n0_ := Aside0.mk (Kd.R_elder' (by (with_reducible repeat (first | apply Kd.R_alloc | apply Kd.R_drewN | apply Kd.R_drew)); exact HO395.out) (Kd.R_base ho0) hb); have n1_ := Aside0.mk (Kd.R_elder' (by (with_reducible repeat (first | apply Kd.R_alloc | apply Kd.R_drewN | apply Kd.R_drew)); exact HO399.out) (Kd.R_base ho0) hb); have n2_ := Aside0.mk (Kd.R_lower (Kd.R_new' (Kd.R_new' ho0 (Kd.R_lt (by (with_reducible repeat (first | apply Kd.R_alloc | apply Kd.R_drewN | apply Kd.R_drew)); exact HO395.out))) (Kd.R_lt (by (with_reducible repeat (first | apply Kd.R_alloc | apply Kd.R_drewN | apply Kd.R_drew)); exact HO399.out))) (below_size (by repeat (first | (with_reducible first | exact HB.out | apply below_alloc | apply pw_below_drewN | apply below_drew1) | exact HB.out)))); have n3_ := Aside0.mk (below_step (by repeat (first | (with_reducible first | exact HB.out | apply below_alloc | apply pw_below_drewN | apply below_drew1) | exact HB.out)) hb); clear HO395; clear HO399; clear HB; have HO395 := n0_; have HO399 := n1_; have HO403 := n2_; have HB := n3_; clear n0_ n1_ n2_ n3_; (try clear hb); (try clear hb2); (try clear hk); (try clear hi); (try clear ho0)) | ((with_reducible refine gate_callee (f := 45) rfl ?_); refine goesL_ (some 138) rfl rfl Try.func45 (by kernel_rfl) rfl #[.slice A0 l0.length c0] rfl (by (try simp only [List.map_toArray, List.map_cons, List.map_nil]); first | done | rfl | (simp only [List.length_drop, List.length_take]; rfl)) ?_; (with_reducible refine (spec_DrawIsZeckendorf.calls kj63 _ _ l0 t404 _ ?side1 ?side2 A73.out).mono ?_); (case side1 => repeat (first | exact (Kd.C_below HR0.out HB.out) | (with_reducible refine Kd.C_alloc ?_ _) | (with_reducible refine Kd.C_drewN ?_ _) | (with_reducible refine Kd.C_drew ?_))); (case side2 => exact HC0.out); rintro e w132 ⟨v405, rfl, ho0, hb⟩; refine ⟨_, rfl, ?_⟩; have n0_ := Aside0.mk (Kd.R_elder' (by (with_reducible repeat (first | apply Kd.R_alloc | apply Kd.R_drewN | apply Kd.R_drew)); exact HO395.out) (Kd.R_base ho0) hb); have n1_ := Aside0.mk (Kd.R_elder' (by (with_reducible repeat (first | apply Kd.R_alloc | apply Kd.R_drewN | apply Kd.R_drew)); exact HO399.out) (Kd.R_base ho0) hb); have n2_ := Aside0.mk (Kd.R_elder' (by (with_reducible repeat (first | apply Kd.R_alloc | apply Kd.R_drewN | apply Kd.R_drew)); exact HO403.out) (Kd.R_base ho0) hb); have n3_ := Aside0.mk (Kd.R_lower (Kd.R_new' (Kd.R_new' (Kd.R_new' ho0 (Kd.R_lt (by (with_reducible repeat (first | apply Kd.R_alloc | apply Kd.R_drewN | apply Kd.R_drew)); exact HO395.out))) (Kd.R_lt (by (with_reducible repeat (first | apply Kd.R_alloc | apply Kd.R_drewN | apply Kd.R_drew)); exact HO399.out))) (Kd.R_lt (by (with_reducible repeat (first | apply Kd.R_alloc | apply Kd.R_drewN | apply Kd.R_drew)); exact HO403.out))) (below_size (by repeat (first | (with_reducible first | exact HB.out | apply below_alloc | apply pw_below_drewN | apply below_drew1) | exact HB.out)))); have n4_ := Aside0.mk (below_step (by repeat (first | (with_reducible first | exact HB.out | apply below_alloc | apply pw_below_drewN | apply below_drew1) | exact HB.out)) hb); clear HO395; clear HO399; clear HO403; clear HB; have HO395 := n0_; have HO399 := n1_; have HO403 := n2_; have HO406 := n3_; have HB := n4_; clear n0_ n1_ n2_ n3_ n4_; (try clear hb); (try clear hb2); (try clear hk); (try clear hi); (try clear ho0)) | ((with_reducible refine gate_callee (f := 46) rfl ?_); refine goesL_ (some 140) rfl rfl Try.func46 (by kernel_rfl) rfl #[.slice A0 l0.length c0] rfl (by (try simp only [List.map_toArray, List.map_cons, List.map_nil]); first | done | rfl | (simp only [List.length_drop, List.length_take]; rfl)) ?_; (with_reducible refine (spec_DrawFibonacciNumber.calls kj63 _ _ l0 t407 _ ?side1 ?side2 A74.out).mono ?_); (case side1 => repeat (first | exact (Kd.C_below HR0.out HB.out) | (with_reducible refine Kd.C_alloc ?_ _) | (with_reducible refine Kd.C_drewN ?_ _) | (with_reducible refine Kd.C_drew ?_))); (case side2 => exact HC0.out); rintro e w133 ⟨rfl, hb⟩; refine ⟨_, rfl, ?_⟩; have n0_ := Aside0.mk (Kd.R_below (by (with_reducible repeat (first | apply Kd.R_alloc | apply Kd.R_drewN | apply Kd.R_drew)); exact HO395.out) hb); have n1_ := Aside0.mk (Kd.R_below (by (with_reducible repeat (first | apply Kd.R_alloc | apply Kd.R_drewN | apply Kd.R_drew)); exact HO399.out) hb); have n2_ := Aside0.mk (Kd.R_below (by (with_reducible repeat (first | apply Kd.R_alloc | apply Kd.R_drewN | apply Kd.R_drew)); exact HO403.out) hb); have n3_ := Aside0.mk (Kd.R_below (by (with_reducible repeat (first | apply Kd.R_alloc | apply Kd.R_drewN | apply Kd.R_drew)); exact HO406.out) hb); have n4_ := Aside0.mk (below_step (by repeat (first | (with_reducible first | exact HB.out | apply below_alloc | apply pw_below_drewN | apply below_drew1) | exact HB.out)) hb); clear HO395; clear HO399; clear HO403; clear HO406; clear HB; have HO395 := n0_; have HO399 := n1_; have HO403 := n2_; have HO406 := n3_; have HB := n4_; clear n0_ n1_ n2_ n3_ n4_; (try clear hb); (try clear hb2); (try clear hk); (try clear hi); obtain ⟨Ao134, co134, eo134⟩ := Kd.R_slice HO399.out; subst eo134; obtain ⟨Ao135, co135, eo135⟩ := Kd.R_slice HO403.out; subst eo135) | (go_at_call 33; (with_reducible refine (laws_sameInts.calls kj63 _ _ t396 _ _ t400 true _ ?side1 ?side2 ?side3 ?side4 A76.out).mono ?_); (case side1 => repeat (first | exact (Kd.R_reads' HO399.out).2.2 | (with_reducible refine Kd.C_alloc ?_ _) | (with_reducible refine Kd.C_drewN ?_ _) | (with_reducible refine Kd.C_drew ?_))); (case side2 => exact (Kd.R_reads' HO399.out).2.1); (case side3 => repeat (first | exact (Kd.R_reads' HO403.out).2.2 | (with_reducible refine Kd.C_alloc ?_ _) | (with_reducible refine Kd.C_drewN ?_ _) | (with_reducible refine Kd.C_drew ?_))); (case side4 => exact (Kd.R_reads' HO403.out).2.1); rintro e w' ⟨rfl, ⟨nd, rfl⟩⟩; obtain ⟨Ao136, co136, eo136⟩ := Kd.R_slice HO406.out; subst eo136) | (go_at_call 38; (with_reducible refine (impl_IsZeckendorf.calls kj63 _ _ t404 t409 _ ?side1 ?side2 A78.out).mono ?_); (case side1 => repeat (first | exact (Kd.R_reads' HO406.out).2.2 | (with_reducible refine Kd.C_alloc ?_ _) | (with_reducible refine Kd.C_drewN ?_ _) | (with_reducible refine Kd.C_drew ?_))); (case side2 => exact (Kd.R_reads' HO406.out).2.1); rintro e w' ⟨rfl, ⟨nd, rfl⟩⟩) | (go_at_call 47; (with_reducible refine (spec_IsZeckendorf.calls kj63 _ _ t404 t410 _ ?side1 ?side2 A79.out).mono ?_); (case side1 => repeat (first | exact (Kd.R_reads' HO406.out).2.2 | (with_reducible refine Kd.C_alloc ?_ _) | (with_reducible refine Kd.C_drewN ?_ _) | (with_reducible refine Kd.C_drew ?_))); (case side2 => exact (Kd.R_reads' HO406.out).2.1); rintro e w' ⟨rfl, ⟨nd, rfl⟩⟩) | (go_at_call 39; (with_reducible refine (impl_ZeckendorfValue.calls kj63 _ _ t404 t411 _ ?side1 ?side2 A81.out).mono ?_); (case side1 => repeat (first | exact (Kd.R_reads' HO406.out).2.2 | (with_reducible refine Kd.C_alloc ?_ _) | (with_reducible refine Kd.C_drewN ?_ _) | (with_reducible refine Kd.C_drew ?_))); (case side2 => exact (Kd.R_reads' HO406.out).2.1); rintro e w137 ⟨rfl, hb⟩; have n0_ := Aside0.mk (Kd.R_below (by (with_reducible repeat (first | apply Kd.R_alloc | apply Kd.R_drewN | apply Kd.R_drew)); exact HO395.out) hb); have n1_ := Aside0.mk (Kd.R_below (by (with_reducible repeat (first | apply Kd.R_alloc | apply Kd.R_drewN | apply Kd.R_drew)); exact HO399.out) hb); have n2_ := Aside0.mk (Kd.R_below (by (with_reducible repeat (first | apply Kd.R_alloc | apply Kd.R_drewN | apply Kd.R_drew)); exact HO403.out) hb); have n3_ := Aside0.mk (Kd.R_below (by (with_reducible repeat (first | apply Kd.R_alloc | apply Kd.R_drewN | apply Kd.R_drew)); exact HO406.out) hb); have n4_ := Aside0.mk (below_step (by repeat (first | (with_reducible first | exact HB.out | apply below_alloc | apply pw_below_drewN | apply below_drew1) | exact HB.out)) hb); clear HO395; clear HO399; clear HO403; clear HO406; clear HB; have HO395 := n0_; have HO399 := n1_; have HO403 := n2_; have HO406 := n3_; have HB := n4_; clear n0_ n1_ n2_ n3_ n4_; (try clear hb); (try clear hb2); (try clear hk); (try clear hi)) | (go_at_call 43; (with_reducible refine (spec_ZeckendorfValue.calls kj63 _ _ t404 t412 _ ?side1 ?side2 A82.out).mono ?_); (case side1 => repeat (first | exact (Kd.R_reads' HO406.out).2.2 | (with_reducible refine Kd.C_alloc ?_ _) | (with_reducible refine Kd.C_drewN ?_ _) | (with_reducible refine Kd.C_drew ?_))); (case side2 => exact (Kd.R_reads' HO406.out).2.1); rintro e w' ⟨rfl, ⟨nd, rfl⟩⟩))
                  go_ret
                  exact ⟨by first | rfl | (simp [errW_none, errW_some] <;> rfl) | (simp [*, errW_none, errW_some] <;> rfl), by repeat (first | (with_reducible first | exact HB.out | apply below_alloc | apply pw_below_drewN | apply below_drew1) | exact HB.out)⟩
               ·rw [if_neg c80] at H
                have c80b0 : (t409 == t410) = false := by simpa using c80
                (try (have c80b1 : decide (t409 = t410) = false := by simpa using c80))
                (try (have c80b2 : (t409 == t410) = false := by simpa using c80))
                (try (have c80b3 : ¬ (t409 = t410) := by simpa using c80))
                clear c80
                as_aux_lemma =>
                 obtain rfl := Option.some.inj H
                 go_wp2_with (first | ((with_reducible refine gate_callee (f := 44) rfl ?_); refine goesL_ (some 126) rfl rfl Try.func44 (by kernel_rfl) rfl #[.slice A0 l0.length c0] rfl (by (try simp only [List.map_toArray, List.map_cons, List.map_nil]); first | done | rfl | (simp only [List.length_drop, List.length_take]; rfl)) ?_; (with_reducible refine (spec_DrawNextZeckendorf.calls kj63 _ _ l0 t393 _ ?side1 ?side2 A70.out).mono ?_); (case side1 => repeat (first | exact (Kd.C_below HR0.out HB.out) | (with_reducible refine Kd.C_alloc ?_ _) | (with_reducible refine Kd.C_drewN ?_ _) | (with_reducible refine Kd.C_drew ?_))); (case side2 => exact HC0.out); rintro e w138 ⟨v394, rfl, ho0, hb⟩; refine ⟨_, rfl, ?_⟩; have n0_ := Aside0.mk (Kd.R_lower ho0 (below_size (by repeat (first | (with_reducible first | exact HB.out | apply below_alloc | apply pw_below_drewN | apply below_drew1) | exact HB.out)))); have n1_ := Aside0.mk (below_step (by repeat (first | (with_reducible first | exact HB.out | apply below_alloc | apply pw_below_drewN | apply below_drew1) | exact HB.out)) hb); clear HB; have HO395 := n0_; have HB := n1_; clear n0_ n1_; (try clear hb); (try clear hb2); (try clear hk); (try clear hi); (try clear ho0); obtain ⟨Ao139, co139, eo139⟩ := Kd.R_slice HO395.out; subst eo139) | ((with_reducible refine gate_callee (f := 27) rfl ?_); refine goesL_ (some 129) rfl rfl Try.func27 (by kernel_rfl) rfl #[.slice Ao139 t393.length co139] rfl (by (try simp only [List.map_toArray, List.map_cons, List.map_nil]); first | done | rfl | (simp only [List.length_drop, List.length_take]; rfl)) ?_; (with_reducible refine (impl_NextZeckendorf.calls kj63 _ _ t393 t396 t397 _ ?side1 ?side2 A71.out).mono ?_); (case side1 => repeat (first | exact (Kd.R_reads' HO395.out).2.2 | (with_reducible refine Kd.C_alloc ?_ _) | (with_reducible refine Kd.C_drewN ?_ _) | (with_reducible refine Kd.C_drew ?_))); (case side2 => exact (Kd.R_reads' HO395.out).2.1); rintro e w140 ⟨v398, rfl, ho0, hb⟩; refine ⟨_, rfl, ?_⟩; have n0_ := Aside0.mk (Kd.R_elder' (by (with_reducible repeat (first | apply Kd.R_alloc | apply Kd.R_drewN | apply Kd.R_drew)); exact HO395.out) (Kd.R_base ho0) hb); have n1_ := Aside0.mk (Kd.R_lower (Kd.R_new' ho0 (Kd.R_lt (by (with_reducible repeat (first | apply Kd.R_alloc | apply Kd.R_drewN | apply Kd.R_drew)); exact HO395.out))) (below_size (by repeat (first | (with_reducible first | exact HB.out | apply below_alloc | apply pw_below_drewN | apply below_drew1) | exact HB.out)))); have n2_ := Aside0.mk (below_step (by repeat (first | (with_reducible first | exact HB.out | apply below_alloc | apply pw_below_drewN | apply below_drew1) | exact HB.out)) hb); clear HO395; clear HB; have HO395 := n0_; have HO399 := n1_; have HB := n2_; clear n0_ n1_ n2_; (try clear hb); (try clear hb2); (try clear hk); (try clear hi); (try clear ho0)) | ((with_reducible refine gate_callee (f := 25) rfl ?_); refine goesL_ (some 134) rfl rfl Try.func25 (by kernel_rfl) rfl #[.slice Ao139 t393.length co139] rfl (by (try simp only [List.map_toArray, List.map_cons, List.map_nil]); first | done | rfl | (simp only [List.length_drop, List.length_take]; rfl)) ?_; (with_reducible refine (spec_NextZeckendorf.calls kj63 _ _ t393 t400 t401 _ ?side1 ?side2 A72.out).mono ?_); (case side1 => repeat (first | exact (Kd.R_reads' HO395.out).2.2 | (with_reducible refine Kd.C_alloc ?_ _) | (with_reducible refine Kd.C_drewN ?_ _) | (with_reducible refine Kd.C_drew ?_))); (case side2 => exact (Kd.R_reads' HO395.out).2.1); rintro e w141 ⟨v402, rfl, ho0, hb⟩; refine ⟨_, rfl, ?_⟩; have n0_ := Aside0.mk (Kd.R_elder' (by (with_reducible repeat (first | apply Kd.R_alloc | apply Kd.R_drewN | apply Kd.R_drew)); exact HO395.out) (Kd.R_base ho0) hb); have n1_ := Aside0.mk (Kd.R_elder' (by (with_reducible repeat (first | apply Kd.R_alloc | apply Kd.R_drewN | apply Kd.R_drew)); exact HO399.out) (Kd.R_base ho0) hb); have n2_ := Aside0.mk (Kd.R_lower (Kd.R_new' (Kd.R_new' ho0 (Kd.R_lt (by (with_reducible repeat (first | apply Kd.R_alloc | apply Kd.R_drewN | apply Kd.R_drew)); exact HO395.out))) (Kd.R_lt (by (with_reducible repeat (first | apply Kd.R_alloc | apply Kd.R_drewN | apply Kd.R_drew)); exact HO399.out))) (below_size (by repeat (first | (with_reducible first | exact HB.out | apply below_alloc | apply pw_below_drewN | apply below_drew1) | exact HB.out)))); have n3_ := Aside0.mk (below_step (by repeat (first | (with_reducible first | exact HB.out | apply below_alloc | apply pw_below_drewN | apply below_drew1) | exact HB.out)) hb); clear HO395; clear HO399; clear HB; have HO395 := n0_; have HO399 := n1_; have HO403 := n2_; have HB := n3_; clear n0_ n1_ n2_ n3_; (try clear hb); (try clear hb2); (try clear hk); (try clear hi); (try clear ho0)) | ((with_reducible refine gate_callee (f := 45) rfl ?_); refine goesL_ (some 138) rfl rfl Try.func45 (by kernel_rfl) rfl #[.slice A0 l0.length c0] rfl (by (try simp only [List.map_toArray, List.map_cons, List.map_nil]); first | done | rfl | (simp only [List.length_drop, List.length_take]; rfl)) ?_; (with_reducible refine (spec_DrawIsZeckendorf.calls kj63 _ _ l0 t404 _ ?side1 ?side2 A73.out).mono ?_); (case side1 => repeat (first | exact (Kd.C_below HR0.out HB.out) | (with_reducible refine Kd.C_alloc ?_ _) | (with_reducible refine Kd.C_drewN ?_ _) | (with_reducible refine Kd.C_drew ?_))); (case side2 => exact HC0.out); rintro e w142 ⟨v405, rfl, ho0, hb⟩; refine ⟨_, rfl, ?_⟩; have n0_ := Aside0.mk (Kd.R_elder' (by (with_reducible repeat (first | apply Kd.R_alloc | apply Kd.R_drewN | apply Kd.R_drew)); exact HO395.out) (Kd.R_base ho0) hb); have n1_ := Aside0.mk (Kd.R_elder' (by (with_reducible repeat (first | apply Kd.R_alloc | apply Kd.R_drewN | apply Kd.R_drew)); exact HO399.out) (Kd.R_base ho0) hb); have n2_ := Aside0.mk (Kd.R_elder' (by (with_reducible repeat (first | apply Kd.R_alloc | apply Kd.R_drewN | apply Kd.R_drew)); exact HO403.out) (Kd.R_base ho0) hb); have n3_ := Aside0.mk (Kd.R_lower (Kd.R_new' (Kd.R_new' (Kd.R_new' ho0 (Kd.R_lt (by (with_reducible repeat (first | apply Kd.R_alloc | apply Kd.R_drewN | apply Kd.R_drew)); exact HO395.out))) (Kd.R_lt (by (with_reducible repeat (first | apply Kd.R_alloc | apply Kd.R_drewN | apply Kd.R_drew)); exact HO399.out))) (Kd.R_lt (by (with_reducible repeat (first | apply Kd.R_alloc | apply Kd.R_drewN | apply Kd.R_drew)); exact HO403.out))) (below_size (by repeat (first | (with_reducible first | exact HB.out | apply below_alloc | apply pw_below_drewN | apply below_drew1) | exact HB.out)))); have n4_ := Aside0.mk (below_step (by repeat (first | (with_reducible first | exact HB.out | apply below_alloc | apply pw_below_drewN | apply below_drew1) | exact HB.out)) hb); clear HO395; clear HO399; clear HO403; clear HB; have HO395 := n0_; have HO399 := n1_; have HO403 := n2_; have HO406 := n3_; have HB := n4_; clear n0_ n1_ n2_ n3_ n4_; (try clear hb); (try clear hb2); (try clear hk); (try clear hi); (try clear ho0)) | ((with_reducible refine gate_callee (f := 46) rfl ?_); refine goesL_ (some 140) rfl rfl Try.func46 (by kernel_rfl) rfl #[.slice A0 l0.length c0] rfl (by (try simp only [List.map_toArray, List.map_cons, List.map_nil]); first | done | rfl | (simp only [List.length_drop, List.length_take]; rfl)) ?_; (with_reducible refine (spec_DrawFibonacciNumber.calls kj63 _ _ l0 t407 _ ?side1 ?side2 A74.out).mono ?_); (case side1 => repeat (first | exact (Kd.C_below HR0.out HB.out) | (with_reducible refine Kd.C_alloc ?_ _) | (with_reducible refine Kd.C_drewN ?_ _) | (with_reducible refine Kd.C_drew ?_))); (case side2 => exact HC0.out); rintro e w143 ⟨rfl, hb⟩; refine ⟨_, rfl, ?_⟩; have n0_ := Aside0.mk (Kd.R_below (by (with_reducible repeat (first | apply Kd.R_alloc | apply Kd.R_drewN | apply Kd.R_drew)); exact HO395.out) hb); have n1_ := Aside0.mk (Kd.R_below (by (with_reducible repeat (first | apply Kd.R_alloc | apply Kd.R_drewN | apply Kd.R_drew)); exact HO399.out) hb); have n2_ := Aside0.mk (Kd.R_below (by (with_reducible repeat (first | apply Kd.R_alloc | apply Kd.R_drewN | apply Kd.R_drew)); exact HO403.out) hb); have n3_ := Aside0.mk (Kd.R_below (by (with_reducible repeat (first | apply Kd.R_alloc | apply Kd.R_drewN | apply Kd.R_drew)); exact HO406.out) hb); have n4_ := Aside0.mk (below_step (by repeat (first | (with_reducible first | exact HB.out | apply below_alloc | apply pw_below_drewN | apply below_drew1) | exact HB.out)) hb); clear HO395; clear HO399; clear HO403; clear HO406; clear HB; have HO395 := n0_; have HO399 := n1_; have HO403 := n2_; have HO406 := n3_; have HB := n4_; clear n0_ n1_ n2_ n3_ n4_; (try clear hb); (try clear hb2); (try clear hk); (try clear hi); obtain ⟨Ao144, co144, eo144⟩ := Kd.R_slice HO399.out; subst eo144; obtain ⟨Ao145, co145, eo145⟩ := Kd.R_slice HO403.out; subst eo145) | (go_at_call 33; (with_reducible refine (laws_sameInts.calls kj63 _ _ t396 _ _ t400 true _ ?side1 ?side2 ?side3 ?side4 A76.out).mono ?_); (case side1 => repeat (first | exact (Kd.R_reads' HO399.out).2.2 | (with_reducible refine Kd.C_alloc ?_ _) | (with_reducible refine Kd.C_drewN ?_ _) | (with_reducible refine Kd.C_drew ?_))); (case side2 => exact (Kd.R_reads' HO399.out).2.1); (case side3 => repeat (first | exact (Kd.R_reads' HO403.out).2.2 | (with_reducible refine Kd.C_alloc ?_ _) | (with_reducible refine Kd.C_drewN ?_ _) | (with_reducible refine Kd.C_drew ?_))); (case side4 => exact (Kd.R_reads' HO403.out).2.1); rintro e w' ⟨rfl, ⟨nd, rfl⟩⟩; obtain ⟨Ao146, co146, eo146⟩ := Kd.R_slice HO406.out; subst eo146) | (go_at_call 38; (with_reducible refine (impl_IsZeckendorf.calls kj63 _ _ t404 t409 _ ?side1 ?side2 A78.out).mono ?_); (case side1 => repeat (first | exact (Kd.R_reads' HO406.out).2.2 | (with_reducible refine Kd.C_alloc ?_ _) | (with_reducible refine Kd.C_drewN ?_ _) | (with_reducible refine Kd.C_drew ?_))); (case side2 => exact (Kd.R_reads' HO406.out).2.1); rintro e w' ⟨rfl, ⟨nd, rfl⟩⟩) | (go_at_call 47; (with_reducible refine (spec_IsZeckendorf.calls kj63 _ _ t404 t410 _ ?side1 ?side2 A79.out).mono ?_); (case side1 => repeat (first | exact (Kd.R_reads' HO406.out).2.2 | (with_reducible refine Kd.C_alloc ?_ _) | (with_reducible refine Kd.C_drewN ?_ _) | (with_reducible refine Kd.C_drew ?_))); (case side2 => exact (Kd.R_reads' HO406.out).2.1); rintro e w' ⟨rfl, ⟨nd, rfl⟩⟩))
                 go_ret
                 exact ⟨by first | rfl | (simp [errW_none, errW_some] <;> rfl) | (simp [*, errW_none, errW_some] <;> rfl), by repeat (first | (with_reducible first | exact HB.out | apply below_alloc | apply pw_below_drewN | apply below_drew1) | exact HB.out)⟩
              ·replace c77 := Bool.eq_false_iff.mpr c77
               subst c77
               have H1 : (some false) = some r := by rw [if_neg (show ¬ (false = true) by decide)] at H; exact H
               clear H
               have H := H1
               clear H1
               as_aux_lemma =>
                obtain rfl := Option.some.inj H
                go_wp2_with (first | ((with_reducible refine gate_callee (f := 44) rfl ?_); refine goesL_ (some 126) rfl rfl Try.func44 (by kernel_rfl) rfl #[.slice A0 l0.length c0] rfl (by (try simp only [List.map_toArray, List.map_cons, List.map_nil]); first | done | rfl | (simp only [List.length_drop, List.length_take]; rfl)) ?_; (with_reducible refine (spec_DrawNextZeckendorf.calls kj63 _ _ l0 t393 _ ?side1 ?side2 A70.out).mono ?_); (case side1 => repeat (first | exact (Kd.C_below HR0.out HB.out) | (with_reducible refine Kd.C_alloc ?_ _) | (with_reducible refine Kd.C_drewN ?_ _) | (with_reducible refine Kd.C_drew ?_))); (case side2 => exact HC0.out); rintro e w147 ⟨v394, rfl, ho0, hb⟩; refine ⟨_, rfl, ?_⟩; have n0_ := Aside0.mk (Kd.R_lower ho0 (below_size (by repeat (first | (with_reducible first | exact HB.out | apply below_alloc | apply pw_below_drewN | apply below_drew1) | exact HB.out)))); have n1_ := Aside0.mk (below_step (by repeat (first | (with_reducible first | exact HB.out | apply below_alloc | apply pw_below_drewN | apply below_drew1) | exact HB.out)) hb); clear HB; have HO395 := n0_; have HB := n1_; clear n0_ n1_; (try clear hb); (try clear hb2); (try clear hk); (try clear hi); (try clear ho0); obtain ⟨Ao148, co148, eo148⟩ := Kd.R_slice HO395.out; subst eo148) | ((with_reducible refine gate_callee (f := 27) rfl ?_); refine goesL_ (some 129) rfl rfl Try.func27 (by kernel_rfl) rfl #[.slice Ao148 t393.length co148] rfl (by (try simp only [List.map_toArray, List.map_cons, List.map_nil]); first | done | rfl | (simp only [List.length_drop, List.length_take]; rfl)) ?_; (with_reducible refine (impl_NextZeckendorf.calls kj63 _ _ t393 t396 t397 _ ?side1 ?side2 A71.out).mono ?_); (case side1 => repeat (first | exact (Kd.R_reads' HO395.out).2.2 | (with_reducible refine Kd.C_alloc ?_ _) | (with_reducible refine Kd.C_drewN ?_ _) | (with_reducible refine Kd.C_drew ?_))); (case side2 => exact (Kd.R_reads' HO395.out).2.1); rintro e w149 ⟨v398, rfl, ho0, hb⟩; refine ⟨_, rfl, ?_⟩; have n0_ := Aside0.mk (Kd.R_elder' (by (with_reducible repeat (first | apply Kd.R_alloc | apply Kd.R_drewN | apply Kd.R_drew)); exact HO395.out) (Kd.R_base ho0) hb); have n1_ := Aside0.mk (Kd.R_lower (Kd.R_new' ho0 (Kd.R_lt (by (with_reducible repeat (first | apply Kd.R_alloc | apply Kd.R_drewN | apply Kd.R_drew)); exact HO395.out))) (below_size (by repeat (first | (with_reducible first | exact HB.out | apply below_alloc | apply pw_below_drewN | apply below_drew1) | exact HB.out)))); have n2_ := Aside0.mk (below_step (by repeat (first | (with_reducible first | exact HB.out | apply below_alloc | apply pw_below_drewN | apply below_drew1) | exact HB.out)) hb); clear HO395; clear HB; have HO395 := n0_; have HO399 := n1_; have HB := n2_; clear n0_ n1_ n2_; (try clear hb); (try clear hb2); (try clear hk); (try clear hi); (try clear ho0)) | ((with_reducible refine gate_callee (f := 25) rfl ?_); refine goesL_ (some 134) rfl rfl Try.func25 (by kernel_rfl) rfl #[.slice Ao148 t393.length co148] rfl (by (try simp only [List.map_toArray, List.map_cons, List.map_nil]); first | done | rfl | (simp only [List.length_drop, List.length_take]; rfl)) ?_; (with_reducible refine (spec_NextZeckendorf.calls kj63 _ _ t393 t400 t401 _ ?side1 ?side2 A72.out).mono ?_); (case side1 => repeat (first | exact (Kd.R_reads' HO395.out).2.2 | (with_reducible refine Kd.C_alloc ?_ _) | (with_reducible refine Kd.C_drewN ?_ _) | (with_reducible refine Kd.C_drew ?_))); (case side2 => exact (Kd.R_reads' HO395.out).2.1); rintro e w150 ⟨v402, rfl, ho0, hb⟩; refine ⟨_, rfl, ?_⟩; have n0_ := Aside0.mk (Kd.R_elder' (by (with_reducible repeat (first | apply Kd.R_alloc | apply Kd.R_drewN | apply Kd.R_drew)); exact HO395.out) (Kd.R_base ho0) hb); have n1_ := Aside0.mk (Kd.R_elder' (by (with_reducible repeat (first | apply Kd.R_alloc | apply Kd.R_drewN | apply Kd.R_drew)); exact HO399.out) (Kd.R_base ho0) hb); have n2_ := Aside0.mk (Kd.R_lower (Kd.R_new' (Kd.R_new' ho0 (Kd.R_lt (by (with_reducible repeat (first | apply Kd.R_alloc | apply Kd.R_drewN | apply Kd.R_drew)); exact HO395.out))) (Kd.R_lt (by (with_reducible repeat (first | apply Kd.R_alloc | apply Kd.R_drewN | apply Kd.R_drew)); exact HO399.out))) (below_size (by repeat (first | (with_reducible first | exact HB.out | apply below_alloc | apply pw_below_drewN | apply below_drew1) | exact HB.out)))); have n3_ := Aside0.mk (below_step (by repeat (first | (with_reducible first | exact HB.out | apply below_alloc | apply pw_below_drewN | apply below_drew1) | exact HB.out)) hb); clear HO395; clear HO399; clear HB; have HO395 := n0_; have HO399 := n1_; have HO403 := n2_; have HB := n3_; clear n0_ n1_ n2_ n3_; (try clear hb); (try clear hb2); (try clear hk); (try clear hi); (try clear ho0)) | ((with_reducible refine gate_callee (f := 45) rfl ?_); refine goesL_ (some 138) rfl rfl Try.func45 (by kernel_rfl) rfl #[.slice A0 l0.length c0] rfl (by (try simp only [List.map_toArray, List.map_cons, List.map_nil]); first | done | rfl | (simp only [List.length_drop, List.length_take]; rfl)) ?_; (with_reducible refine (spec_DrawIsZeckendorf.calls kj63 _ _ l0 t404 _ ?side1 ?side2 A73.out).mono ?_); (case side1 => repeat (first | exact (Kd.C_below HR0.out HB.out) | (with_reducible refine Kd.C_alloc ?_ _) | (with_reducible refine Kd.C_drewN ?_ _) | (with_reducible refine Kd.C_drew ?_))); (case side2 => exact HC0.out); rintro e w151 ⟨v405, rfl, ho0, hb⟩; refine ⟨_, rfl, ?_⟩; have n0_ := Aside0.mk (Kd.R_elder' (by (with_reducible repeat (first | apply Kd.R_alloc | apply Kd.R_drewN | apply Kd.R_drew)); exact HO395.out) (Kd.R_base ho0) hb); have n1_ := Aside0.mk (Kd.R_elder' (by (with_reducible repeat (first | apply Kd.R_alloc | apply Kd.R_drewN | apply Kd.R_drew)); exact HO399.out) (Kd.R_base ho0) hb); have n2_ := Aside0.mk (Kd.R_elder' (by (with_reducible repeat (first | apply Kd.R_alloc | apply Kd.R_drewN | apply Kd.R_drew)); exact HO403.out) (Kd.R_base ho0) hb); have n3_ := Aside0.mk (Kd.R_lower (Kd.R_new' (Kd.R_new' (Kd.R_new' ho0 (Kd.R_lt (by (with_reducible repeat (first | apply Kd.R_alloc | apply Kd.R_drewN | apply Kd.R_drew)); exact HO395.out))) (Kd.R_lt (by (with_reducible repeat (first | apply Kd.R_alloc | apply Kd.R_drewN | apply Kd.R_drew)); exact HO399.out))) (Kd.R_lt (by (with_reducible repeat (first | apply Kd.R_alloc | apply Kd.R_drewN | apply Kd.R_drew)); exact HO403.out))) (below_size (by repeat (first | (with_reducible first | exact HB.out | apply below_alloc | apply pw_below_drewN | apply below_drew1) | exact HB.out)))); have n4_ := Aside0.mk (below_step (by repeat (first | (with_reducible first | exact HB.out | apply below_alloc | apply pw_below_drewN | apply below_drew1) | exact HB.out)) hb); clear HO395; clear HO399; clear HO403; clear HB; have HO395 := n0_; have HO399 := n1_; have HO403 := n2_; have HO406 := n3_; have HB := n4_; clear n0_ n1_ n2_ n3_ n4_; (try clear hb); (try clear hb2); (try clear hk); (try clear hi); (try clear ho0)) | ((with_reducible refine gate_callee (f := 46) rfl ?_); refine goesL_ (some 140) rfl rfl Try.func46 (by kernel_rfl) rfl #[.slice A0 l0.length c0] rfl (by (try simp only [List.map_toArray, List.map_cons, List.map_nil]); first | done | rfl | (simp only [List.length_drop, List.length_take]; rfl)) ?_; (with_reducible refine (spec_DrawFibonacciNumber.calls kj63 _ _ l0 t407 _ ?side1 ?side2 A74.out).mono ?_); (case side1 => repeat (first | exact (Kd.C_below HR0.out HB.out) | (with_reducible refine Kd.C_alloc ?_ _) | (with_reducible refine Kd.C_drewN ?_ _) | (with_reducible refine Kd.C_drew ?_))); (case side2 => exact HC0.out); rintro e w152 ⟨rfl, hb⟩; refine ⟨_, rfl, ?_⟩; have n0_ := Aside0.mk (Kd.R_below (by (with_reducible repeat (first | apply Kd.R_alloc | apply Kd.R_drewN | apply Kd.R_drew)); exact HO395.out) hb); have n1_ := Aside0.mk (Kd.R_below (by (with_reducible repeat (first | apply Kd.R_alloc | apply Kd.R_drewN | apply Kd.R_drew)); exact HO399.out) hb); have n2_ := Aside0.mk (Kd.R_below (by (with_reducible repeat (first | apply Kd.R_alloc | apply Kd.R_drewN | apply Kd.R_drew)); exact HO403.out) hb); have n3_ := Aside0.mk (Kd.R_below (by (with_reducible repeat (first | apply Kd.R_alloc | apply Kd.R_drewN | apply Kd.R_drew)); exact HO406.out) hb); have n4_ := Aside0.mk (below_step (by repeat (first | (with_reducible first | exact HB.out | apply below_alloc | apply pw_below_drewN | apply below_drew1) | exact HB.out)) hb); clear HO395; clear HO399; clear HO403; clear HO406; clear HB; have HO395 := n0_; have HO399 := n1_; have HO403 := n2_; have HO406 := n3_; have HB := n4_; clear n0_ n1_ n2_ n3_ n4_; (try clear hb); (try clear hb2); (try clear hk); (try clear hi); obtain ⟨Ao153, co153, eo153⟩ := Kd.R_slice HO399.out; subst eo153; obtain ⟨Ao154, co154, eo154⟩ := Kd.R_slice HO403.out; subst eo154) | (go_at_call 33; (with_reducible refine (laws_sameInts.calls kj63 _ _ t396 _ _ t400 false _ ?side1 ?side2 ?side3 ?side4 A76.out).mono ?_); (case side1 => repeat (first | exact (Kd.R_reads' HO399.out).2.2 | (with_reducible refine Kd.C_alloc ?_ _) | (with_reducible refine Kd.C_drewN ?_ _) | (with_reducible refine Kd.C_drew ?_))); (case side2 => exact (Kd.R_reads' HO399.out).2.1); (case side3 => repeat (first | exact (Kd.R_reads' HO403.out).2.2 | (with_reducible refine Kd.C_alloc ?_ _) | (with_reducible refine Kd.C_drewN ?_ _) | (with_reducible refine Kd.C_drew ?_))); (case side4 => exact (Kd.R_reads' HO403.out).2.1); rintro e w' ⟨rfl, ⟨nd, rfl⟩⟩))
                go_ret
                exact ⟨by first | rfl | (simp [errW_none, errW_some] <;> rfl) | (simp [*, errW_none, errW_some] <;> rfl), by repeat (first | (with_reducible first | exact HB.out | apply below_alloc | apply pw_below_drewN | apply below_drew1) | exact HB.out)⟩
             ·rw [if_neg c75] at H
              have c75b0 : (t397 == t401) = false := by simpa using c75
              (try (have c75b1 : decide (t397 = t401) = false := by simpa using c75))
              (try (have c75b2 : (t397 == t401) = false := by simpa using c75))
              (try (have c75b3 : ¬ (t397 = t401) := by simpa using c75))
              clear c75
              as_aux_lemma =>
               obtain rfl := Option.some.inj H
               go_wp2_with (first | ((with_reducible refine gate_callee (f := 44) rfl ?_); refine goesL_ (some 126) rfl rfl Try.func44 (by kernel_rfl) rfl #[.slice A0 l0.length c0] rfl (by (try simp only [List.map_toArray, List.map_cons, List.map_nil]); first | done | rfl | (simp only [List.length_drop, List.length_take]; rfl)) ?_; (with_reducible refine (spec_DrawNextZeckendorf.calls kj63 _ _ l0 t393 _ ?side1 ?side2 A70.out).mono ?_); (case side1 => repeat (first | exact (Kd.C_below HR0.out HB.out) | (with_reducible refine Kd.C_alloc ?_ _) | (with_reducible refine Kd.C_drewN ?_ _) | (with_reducible refine Kd.C_drew ?_))); (case side2 => exact HC0.out); rintro e w155 ⟨v394, rfl, ho0, hb⟩; refine ⟨_, rfl, ?_⟩; have n0_ := Aside0.mk (Kd.R_lower ho0 (below_size (by repeat (first | (with_reducible first | exact HB.out | apply below_alloc | apply pw_below_drewN | apply below_drew1) | exact HB.out)))); have n1_ := Aside0.mk (below_step (by repeat (first | (with_reducible first | exact HB.out | apply below_alloc | apply pw_below_drewN | apply below_drew1) | exact HB.out)) hb); clear HB; have HO395 := n0_; have HB := n1_; clear n0_ n1_; (try clear hb); (try clear hb2); (try clear hk); (try clear hi); (try clear ho0); obtain ⟨Ao156, co156, eo156⟩ := Kd.R_slice HO395.out; subst eo156) | ((with_reducible refine gate_callee (f := 27) rfl ?_); refine goesL_ (some 129) rfl rfl Try.func27 (by kernel_rfl) rfl #[.slice Ao156 t393.length co156] rfl (by (try simp only [List.map_toArray, List.map_cons, List.map_nil]); first | done | rfl | (simp only [List.length_drop, List.length_take]; rfl)) ?_; (with_reducible refine (impl_NextZeckendorf.calls kj63 _ _ t393 t396 t397 _ ?side1 ?side2 A71.out).mono ?_); (case side1 => repeat (first | exact (Kd.R_reads' HO395.out).2.2 | (with_reducible refine Kd.C_alloc ?_ _) | (with_reducible refine Kd.C_drewN ?_ _) | (with_reducible refine Kd.C_drew ?_))); (case side2 => exact (Kd.R_reads' HO395.out).2.1); rintro e w157 ⟨v398, rfl, ho0, hb⟩; refine ⟨_, rfl, ?_⟩; have n0_ := Aside0.mk (Kd.R_elder' (by (with_reducible repeat (first | apply Kd.R_alloc | apply Kd.R_drewN | apply Kd.R_drew)); exact HO395.out) (Kd.R_base ho0) hb); have n1_ := Aside0.mk (Kd.R_lower (Kd.R_new' ho0 (Kd.R_lt (by (with_reducible repeat (first | apply Kd.R_alloc | apply Kd.R_drewN | apply Kd.R_drew)); exact HO395.out))) (below_size (by repeat (first | (with_reducible first | exact HB.out | apply below_alloc | apply pw_below_drewN | apply below_drew1) | exact HB.out)))); have n2_ := Aside0.mk (below_step (by repeat (first | (with_reducible first | exact HB.out | apply below_alloc | apply pw_below_drewN | apply below_drew1) | exact HB.out)) hb); clear HO395; clear HB; have HO395 := n0_; have HO399 := n1_; have HB := n2_; clear n0_ n1_ n2_; (try clear hb); (try clear hb2); (try clear hk); (try clear hi); (try clear ho0)) | ((with_reducible refine gate_callee (f := 25) rfl ?_); refine goesL_ (some 134) rfl rfl Try.func25 (by kernel_rfl) rfl #[.slice Ao156 t393.length co156] rfl (by (try simp only [List.map_toArray, List.map_cons, List.map_nil]); first | done | rfl | (simp only [List.length_drop, List.length_take]; rfl)) ?_; (with_reducible refine (spec_NextZeckendorf.calls kj63 _ _ t393 t400 t401 _ ?side1 ?side2 A72.out).mono ?_); (case side1 => repeat (first | exact (Kd.R_reads' HO395.out).2.2 | (with_reducible refine Kd.C_alloc ?_ _) | (with_reducible refine Kd.C_drewN ?_ _) | (with_reducible refine Kd.C_drew ?_))); (case side2 => exact (Kd.R_reads' HO395.out).2.1); rintro e w158 ⟨v402, rfl, ho0, hb⟩; refine ⟨_, rfl, ?_⟩; have n0_ := Aside0.mk (Kd.R_elder' (by (with_reducible repeat (first | apply Kd.R_alloc | apply Kd.R_drewN | apply Kd.R_drew)); exact HO395.out) (Kd.R_base ho0) hb); have n1_ := Aside0.mk (Kd.R_elder' (by (with_reducible repeat (first | apply Kd.R_alloc | apply Kd.R_drewN | apply Kd.R_drew)); exact HO399.out) (Kd.R_base ho0) hb); have n2_ := Aside0.mk (Kd.R_lower (Kd.R_new' (Kd.R_new' ho0 (Kd.R_lt (by (with_reducible repeat (first | apply Kd.R_alloc | apply Kd.R_drewN | apply Kd.R_drew)); exact HO395.out))) (Kd.R_lt (by (with_reducible repeat (first | apply Kd.R_alloc | apply Kd.R_drewN | apply Kd.R_drew)); exact HO399.out))) (below_size (by repeat (first | (with_reducible first | exact HB.out | apply below_alloc | apply pw_below_drewN | apply below_drew1) | exact HB.out)))); have n3_ := Aside0.mk (below_step (by repeat (first | (with_reducible first | exact HB.out | apply below_alloc | apply pw_below_drewN | apply below_drew1) | exact HB.out)) hb); clear HO395; clear HO399; clear HB; have HO395 := n0_; have HO399 := n1_; have HO403 := n2_; have HB := n3_; clear n0_ n1_ n2_ n3_; (try clear hb); (try clear hb2); (try clear hk); (try clear hi); (try clear ho0)) | ((with_reducible refine gate_callee (f := 45) rfl ?_); refine goesL_ (some 138) rfl rfl Try.func45 (by kernel_rfl) rfl #[.slice A0 l0.length c0] rfl (by (try simp only [List.map_toArray, List.map_cons, List.map_nil]); first | done | rfl | (simp only [List.length_drop, List.length_take]; rfl)) ?_; (with_reducible refine (spec_DrawIsZeckendorf.calls kj63 _ _ l0 t404 _ ?side1 ?side2 A73.out).mono ?_); (case side1 => repeat (first | exact (Kd.C_below HR0.out HB.out) | (with_reducible refine Kd.C_alloc ?_ _) | (with_reducible refine Kd.C_drewN ?_ _) | (with_reducible refine Kd.C_drew ?_))); (case side2 => exact HC0.out); rintro e w159 ⟨v405, rfl, ho0, hb⟩; refine ⟨_, rfl, ?_⟩; have n0_ := Aside0.mk (Kd.R_elder' (by (with_reducible repeat (first | apply Kd.R_alloc | apply Kd.R_drewN | apply Kd.R_drew)); exact HO395.out) (Kd.R_base ho0) hb); have n1_ := Aside0.mk (Kd.R_elder' (by (with_reducible repeat (first | apply Kd.R_alloc | apply Kd.R_drewN | apply Kd.R_drew)); exact HO399.out) (Kd.R_base ho0) hb); have n2_ := Aside0.mk (Kd.R_elder' (by (with_reducible repeat (first | apply Kd.R_alloc | apply Kd.R_drewN | apply Kd.R_drew)); exact HO403.out) (Kd.R_base ho0) hb); have n3_ := Aside0.mk (Kd.R_lower (Kd.R_new' (Kd.R_new' (Kd.R_new' ho0 (Kd.R_lt (by (with_reducible repeat (first | apply Kd.R_alloc | apply Kd.R_drewN | apply Kd.R_drew)); exact HO395.out))) (Kd.R_lt (by (with_reducible repeat (first | apply Kd.R_alloc | apply Kd.R_drewN | apply Kd.R_drew)); exact HO399.out))) (Kd.R_lt (by (with_reducible repeat (first | apply Kd.R_alloc | apply Kd.R_drewN | apply Kd.R_drew)); exact HO403.out))) (below_size (by repeat (first | (with_reducible first | exact HB.out | apply below_alloc | apply pw_below_drewN | apply below_drew1) | exact HB.out)))); have n4_ := Aside0.mk (below_step (by repeat (first | (with_reducible first | exact HB.out | apply below_alloc | apply pw_below_drewN | apply below_drew1) | exact HB.out)) hb); clear HO395; clear HO399; clear HO403; clear HB; have HO395 := n0_; have HO399 := n1_; have HO403 := n2_; have HO406 := n3_; have HB := n4_; clear n0_ n1_ n2_ n3_ n4_; (try clear hb); (try clear hb2); (try clear hk); (try clear hi); (try clear ho0)) | ((with_reducible refine gate_callee (f := 46) rfl ?_); refine goesL_ (some 140) rfl rfl Try.func46 (by kernel_rfl) rfl #[.slice A0 l0.length c0] rfl (by (try simp only [List.map_toArray, List.map_cons, List.map_nil]); first | done | rfl | (simp only [List.length_drop, List.length_take]; rfl)) ?_; (with_reducible refine (spec_DrawFibonacciNumber.calls kj63 _ _ l0 t407 _ ?side1 ?side2 A74.out).mono ?_); (case side1 => repeat (first | exact (Kd.C_below HR0.out HB.out) | (with_reducible refine Kd.C_alloc ?_ _) | (with_reducible refine Kd.C_drewN ?_ _) | (with_reducible refine Kd.C_drew ?_))); (case side2 => exact HC0.out); rintro e w160 ⟨rfl, hb⟩; refine ⟨_, rfl, ?_⟩; have n0_ := Aside0.mk (Kd.R_below (by (with_reducible repeat (first | apply Kd.R_alloc | apply Kd.R_drewN | apply Kd.R_drew)); exact HO395.out) hb); have n1_ := Aside0.mk (Kd.R_below (by (with_reducible repeat (first | apply Kd.R_alloc | apply Kd.R_drewN | apply Kd.R_drew)); exact HO399.out) hb); have n2_ := Aside0.mk (Kd.R_below (by (with_reducible repeat (first | apply Kd.R_alloc | apply Kd.R_drewN | apply Kd.R_drew)); exact HO403.out) hb); have n3_ := Aside0.mk (Kd.R_below (by (with_reducible repeat (first | apply Kd.R_alloc | apply Kd.R_drewN | apply Kd.R_drew)); exact HO406.out) hb); have n4_ := Aside0.mk (below_step (by repeat (first | (with_reducible first | exact HB.out | apply below_alloc | apply pw_below_drewN | apply below_drew1) | exact HB.out)) hb); clear HO395; clear HO399; clear HO403; clear HO406; clear HB; have HO395 := n0_; have HO399 := n1_; have HO403 := n2_; have HO406 := n3_; have HB := n4_; clear n0_ n1_ n2_ n3_ n4_; (try clear hb); (try clear hb2); (try clear hk); (try clear hi)))
               go_ret
               exact ⟨by first | rfl | (simp [errW_none, errW_some] <;> rfl) | (simp [*, errW_none, errW_some] <;> rfl), by repeat (first | (with_reducible first | exact HB.out | apply below_alloc | apply pw_below_drewN | apply below_drew1) | exact HB.out)⟩

/-- THE ONE PURE STATEMENT of laws_FnZeckendorf: yours. -/
def laws_FnZeckendorf.Pure : Prop := ∀ (l0 : List Int), l0.length ≤ maxLen → l0.length * 1 ≤ 140737488351232 → (∀ x ∈ l0, (Lit.int .u8 x).wf = true) → ∃ k, laws_FnZeckendorf.f k l0 = some true
theorem laws_FnZeckendorf.walk (P : laws_FnZeckendorf.Pure) (a0 : Option Addr) (len0 cap0 : Nat) (z0 : List Int) (w : World) (w0 : (a0 = none ∧ len0 = 0 ∧ cap0 = 0 ∧ z0 = []) ∨ ∃ x, a0 = some x ∧ len0 ≤ cap0 ∧ cap0 ≤ maxLen ∧ z0.length = cap0 ∧ (∀ i, i < z0.length → w.cell? (x.add i) = some (.int .u8 (z0.getD i 0))) ∧ ∀ n ∈ z0, (Lit.int .u8 n).wf = true) (y0 : len0 * 1 ≤ 140737488351232) :
  Calls Try.prog 10 #[.slice a0 len0 cap0] w fun e w' => e = .returned (.bool true) ∧ Below w.heap.size w w' := by
 obtain ⟨l0, rfl, hr0, hm0, hw0, hc0⟩ := ReadsInt.ofRowC w0
 obtain ⟨k, h⟩ := P l0 hm0 y0 hw0
 refine (laws_FnZeckendorf.calls k _ _ l0 true w (Kd.C_of_reads (d := (0 : Int)) (h1 := fun _ => rfl) hr0) hc0 h).mono ?_
 rintro e w' ⟨rfl, hd⟩
 exact ⟨rfl, hd⟩

end Go.Proofs.Ytdcakddfibnllaa.PFnZeckendorf
