/- Written by this session's own program (wip/myprint.py): the machine side of one law, some contracts of it typed by hand. -/
import Derived.Test.YtihbelkchcedpaaPFnSturmianx0
import Derived.Test.YtihbelkchcedpaaPFnSturmianx1
import Derived.Test.YtihbelkchcedpaaPFnSturmianx2
import Derived.Test.YtihbelkchcedpaaPFnSturmianx3
import Derived.Test.YtihbelkchcedpaaPFnSturmianx4
import Derived.Test.YtihbelkchcedpaaPFnSturmianx5
import Derived.Test.YtihbelkchcedpaaPFnSturmianx7
import Derived.Test.YtihbelkchcedpaaPFnSturmianx8
import Derived.Test.YtihbelkchcedpaaPFnSturmianx9
namespace Go.Proofs.Ytihbelkchcedpaa.PFnSturmian
open Go.RowKit Go.Proofs.YtihbelkchcedpaaW.PrintWords Go.Proofs.YtihbelkchcedpaaW.PrintLast Go.Proofs.YtihbelkchcedpaaW.PrintMore
attribute [local go_sem] max2_int min2_int max_two min_two max_three min_three max_four min_four   -- for this text's walks alone
set_option linter.unusedVariables false
set_option linter.unusedSimpArgs false

/-! ### laws_FnSturmian: function 13 -/
mutual
def laws_FnSturmian.j0 : Nat → List Int → Bool → List Int → Int → Int → Bool → Bool → List Int → Bool → Option (Bool)
 | 0, _, _, _, _, _, _, _, _, _ => none
 | k + 1, x0, x5, x6, x8, x9, x10, x15, x16, x118 => if x118 = true then (some false) else (if x5 = true then (if (x6.length : Int) = x9 then ((spec_CountLetters.f k x6 1).bind fun t473 => (if t473 = x8 then (if x15 = true then ((impl_IsPalindrome.f k x16).bind fun t474 => (if t474 = true then (if (x6.length : Int) ≤ 64 then ((impl_IsBalanced.f k x6).bind fun t475 => (laws_FnSturmian.j1 k x0 x8 x9 x10 (!t475))) else (laws_FnSturmian.j1 k x0 x8 x9 x10 false)) else (laws_FnSturmian.j1 k x0 x8 x9 x10 true))) else (if (x6.length : Int) ≤ 64 then ((impl_IsBalanced.f k x6).bind fun t476 => (laws_FnSturmian.j1 k x0 x8 x9 x10 (!t476))) else (laws_FnSturmian.j1 k x0 x8 x9 x10 false))) else (laws_FnSturmian.j1 k x0 x8 x9 x10 true))) else (laws_FnSturmian.j1 k x0 x8 x9 x10 true)) else (laws_FnSturmian.j1 k x0 x8 x9 x10 false))
def laws_FnSturmian.j1 : Nat → List Int → Int → Int → Bool → Bool → Option (Bool)
 | 0, _, _, _, _, _ => none
 | k + 1, x0, x8, x9, x10, x149 => if x149 = true then (some false) else (if x10 = true then ((laws_gcd.f k x9 x8).bind fun t477 => (laws_FnSturmian.j2 k x0 (t477 != 1))) else (laws_FnSturmian.j2 k x0 false))
def laws_FnSturmian.j2 : Nat → List Int → Bool → Option (Bool)
 | 0, _, _ => none
 | k + 1, x0, x156 => if x156 = true then (some false) else ((spec_DrawQuotientsOf.f k x0).bind fun bt478 => ((impl_QuotientsOf.f k bt478.1 bt478.2).bind fun bt480 => ((spec_QuotientsOf.f k bt478.1 bt478.2).bind fun bt484 => (if (bt480.2 != bt484.2) = true then (laws_FnSturmian.j3 k x0 bt478.1 bt478.2 bt480.2 bt484.1 true) else ((laws_sameInts.f k bt480.1 bt484.1).bind fun t488 => (laws_FnSturmian.j3 k x0 bt478.1 bt478.2 bt480.2 bt484.1 (!t488)))))))
def laws_FnSturmian.j3 : Nat → List Int → Int → Int → Bool → List Int → Bool → Option (Bool)
 | 0, _, _, _, _, _, _ => none
 | k + 1, x0, x18, x19, x21, x22, x182 => if x182 = true then (some false) else (if x21 = true then ((impl_ConvergentOf.f k x22).bind fun bt489 => (if bt489.2.2 = true then (if bt489.1 = x18 then (if bt489.2.1 = x19 then (laws_FnSturmian.j4 k x0) else (some false)) else (some false)) else (some false))) else (laws_FnSturmian.j4 k x0))
def laws_FnSturmian.j4 : Nat → List Int → Option (Bool)
 | 0, _ => none
 | k + 1, x0 => (spec_DrawCharacteristicPrefix.f k x0).bind fun bt492 => ((impl_CharacteristicPrefix.f k bt492.1 bt492.2).bind fun bt496 => ((spec_CharacteristicPrefix.f k bt492.1 bt492.2).bind fun bt500 => ((spec_DrawMechanicalWord.f k x0).bind fun bt504 => ((impl_MechanicalWord.f k bt504.1 bt504.2.1 bt504.2.2.1 bt504.2.2.2).bind fun bt508 => ((spec_MechanicalWord.f k bt504.1 bt504.2.1 bt504.2.2.1 bt504.2.2.2).bind fun bt512 => (if (bt496.2 == bt500.2) = true then ((laws_sameInts.f k bt496.1 bt500.1).bind fun t516 => (if t516 = true then (if (bt508.2 == bt512.2) = true then ((laws_sameInts.f k bt508.1 bt512.1).bind fun t517 => (if t517 = true then (if bt508.2 = true then (if (bt512.1.length : Int) > 64 then (some true) else ((impl_IsBalanced.f k bt512.1).bind fun t518 => (some t518))) else (some true)) else (some false))) else (some false)) else (some false))) else (some false)))))))
end
def laws_FnSturmian.f (k : Nat) (l0 : List Int) : Option (Bool) := (laws_big.f l0).bind fun t443 => (if t443 = true then (some true) else ((spec_DrawStandardWord.f k l0).bind fun t444 => ((impl_StandardWord.f k t444).bind fun bt447 => ((spec_StandardWord.f k t444).bind fun bt451 => ((impl_ConvergentOf.f k t444).bind fun bt455 => ((spec_ConvergentOf.f k t444).bind fun bt458 => ((impl_CentralWord.f k t444).bind fun bt461 => ((spec_CentralWord.f k t444).bind fun bt465 => (if (bt447.2 != bt451.2) = true then (laws_FnSturmian.j0 k l0 bt447.2 bt451.1 bt455.1 bt455.2.1 bt455.2.2 bt461.2 bt465.1 true) else ((laws_sameInts.f k bt447.1 bt451.1).bind fun t469 => (if t469 = true then (if (bt455.2.2 != bt458.2.2) = true then (laws_FnSturmian.j0 k l0 bt447.2 bt451.1 bt455.1 bt455.2.1 bt455.2.2 bt461.2 bt465.1 true) else (if bt455.1 = bt458.1 then (if bt455.2.1 = bt458.2.1 then (if (bt461.2 != bt465.2) = true then (laws_FnSturmian.j0 k l0 bt447.2 bt451.1 bt455.1 bt455.2.1 bt455.2.2 bt461.2 bt465.1 true) else ((laws_sameInts.f k bt461.1 bt465.1).bind fun t470 => (if t470 = true then ((impl_AreQuotients.f k t444).bind fun t471 => ((spec_AreQuotients.f k t444).bind fun t472 => (laws_FnSturmian.j0 k l0 bt447.2 bt451.1 bt455.1 bt455.2.1 bt455.2.2 bt461.2 bt465.1 (t471 != t472)))) else (laws_FnSturmian.j0 k l0 bt447.2 bt451.1 bt455.1 bt455.2.1 bt455.2.2 bt461.2 bt465.1 true)))) else (laws_FnSturmian.j0 k l0 bt447.2 bt451.1 bt455.1 bt455.2.1 bt455.2.2 bt461.2 bt465.1 true)) else (laws_FnSturmian.j0 k l0 bt447.2 bt451.1 bt455.1 bt455.2.1 bt455.2.2 bt461.2 bt465.1 true))) else (laws_FnSturmian.j0 k l0 bt447.2 bt451.1 bt455.1 bt455.2.1 bt455.2.2 bt461.2 bt465.1 true))))))))))))
theorem laws_FnSturmian.mono_l : ∀ k, (∀ y0 y1 y2 y3 y4 y5 y6 y7 y8, LeO (laws_FnSturmian.j0 k y0 y1 y2 y3 y4 y5 y6 y7 y8) (laws_FnSturmian.j0 (k + 1) y0 y1 y2 y3 y4 y5 y6 y7 y8)) ∧ (∀ y0 y1 y2 y3 y4, LeO (laws_FnSturmian.j1 k y0 y1 y2 y3 y4) (laws_FnSturmian.j1 (k + 1) y0 y1 y2 y3 y4)) ∧ (∀ y0 y1, LeO (laws_FnSturmian.j2 k y0 y1) (laws_FnSturmian.j2 (k + 1) y0 y1)) ∧ (∀ y0 y1 y2 y3 y4 y5, LeO (laws_FnSturmian.j3 k y0 y1 y2 y3 y4 y5) (laws_FnSturmian.j3 (k + 1) y0 y1 y2 y3 y4 y5)) ∧ (∀ y0, LeO (laws_FnSturmian.j4 k y0) (laws_FnSturmian.j4 (k + 1) y0))
 | 0 => ⟨fun _ _ _ _ _ _ _ _ _ r h => by simp [laws_FnSturmian.j0] at h, fun _ _ _ _ _ r h => by simp [laws_FnSturmian.j1] at h, fun _ _ r h => by simp [laws_FnSturmian.j2] at h, fun _ _ _ _ _ _ r h => by simp [laws_FnSturmian.j3] at h, fun _ r h => by simp [laws_FnSturmian.j4] at h⟩
 | k + 1 => by
  obtain ⟨ih0, ih1, ih2, ih3, ih4⟩ := laws_FnSturmian.mono_l k
  refine ⟨?_, ?_, ?_, ?_, ?_⟩
  ·intro y0 y1 y2 y3 y4 y5 y6 y7 y8
   unfold laws_FnSturmian.j0
   repeat' first
   | (with_reducible exact ih0 _ _ _ _ _ _ _ _ _)
   | (with_reducible exact ih1 _ _ _ _ _)
   | (with_reducible exact ih2 _ _)
   | (with_reducible exact ih3 _ _ _ _ _ _)
   | (with_reducible exact ih4 _)
   | (with_reducible exact impl_AreQuotients.mono _ _)
   | (with_reducible exact impl_CentralWord.mono _ _)
   | (with_reducible exact impl_CharacteristicPrefix.mono _ _ _)
   | (with_reducible exact impl_ConvergentOf.mono _ _)
   | (with_reducible exact impl_IsBalanced.mono _ _)
   | (with_reducible exact impl_IsPalindrome.mono _ _)
   | (with_reducible exact impl_MechanicalWord.mono _ _ _ _ _)
   | (with_reducible exact impl_QuotientsOf.mono _ _ _)
   | (with_reducible exact impl_StandardWord.mono _ _)
   | (with_reducible exact laws_gcd.mono _ _ _)
   | (with_reducible exact laws_sameInts.mono _ _ _)
   | (with_reducible exact spec_AreQuotients.mono _ _)
   | (with_reducible exact spec_CentralWord.mono _ _)
   | (with_reducible exact spec_CharacteristicPrefix.mono _ _ _)
   | (with_reducible exact spec_ConvergentOf.mono _ _)
   | (with_reducible exact spec_CountLetters.mono _ _ _)
   | (with_reducible exact spec_DrawCharacteristicPrefix.mono _ _)
   | (with_reducible exact spec_DrawMechanicalWord.mono _ _)
   | (with_reducible exact spec_DrawQuotientsOf.mono _ _)
   | (with_reducible exact spec_DrawStandardWord.mono _ _)
   | (with_reducible exact spec_MechanicalWord.mono _ _ _ _ _)
   | (with_reducible exact spec_QuotientsOf.mono _ _ _)
   | (with_reducible exact spec_StandardWord.mono _ _)
   | (with_reducible exact LeO.refl _)
   | (with_reducible exact LeO.none _)
   | (with_reducible refine LeO.ite ?_ ?_)
   | (with_reducible refine LeO.bind ?_ (fun _ => ?_))
   | exact ih0 _ _ _ _ _ _ _ _ _
   | exact ih1 _ _ _ _ _
   | exact ih2 _ _
   | exact ih3 _ _ _ _ _ _
   | exact ih4 _
   | exact impl_AreQuotients.mono _ _
   | exact impl_CentralWord.mono _ _
   | exact impl_CharacteristicPrefix.mono _ _ _
   | exact impl_ConvergentOf.mono _ _
   | exact impl_IsBalanced.mono _ _
   | exact impl_IsPalindrome.mono _ _
   | exact impl_MechanicalWord.mono _ _ _ _ _
   | exact impl_QuotientsOf.mono _ _ _
   | exact impl_StandardWord.mono _ _
   | exact laws_gcd.mono _ _ _
   | exact laws_sameInts.mono _ _ _
   | exact spec_AreQuotients.mono _ _
   | exact spec_CentralWord.mono _ _
   | exact spec_CharacteristicPrefix.mono _ _ _
   | exact spec_ConvergentOf.mono _ _
   | exact spec_CountLetters.mono _ _ _
   | exact spec_DrawCharacteristicPrefix.mono _ _
   | exact spec_DrawMechanicalWord.mono _ _
   | exact spec_DrawQuotientsOf.mono _ _
   | exact spec_DrawStandardWord.mono _ _
   | exact spec_MechanicalWord.mono _ _ _ _ _
   | exact spec_QuotientsOf.mono _ _ _
   | exact spec_StandardWord.mono _ _
   | exact LeO.none _
   | refine LeO.ite ?_ ?_
   | refine LeO.bind ?_ (fun _ => ?_)
  ·intro y0 y1 y2 y3 y4
   unfold laws_FnSturmian.j1
   repeat' first
   | (with_reducible exact ih0 _ _ _ _ _ _ _ _ _)
   | (with_reducible exact ih1 _ _ _ _ _)
   | (with_reducible exact ih2 _ _)
   | (with_reducible exact ih3 _ _ _ _ _ _)
   | (with_reducible exact ih4 _)
   | (with_reducible exact impl_AreQuotients.mono _ _)
   | (with_reducible exact impl_CentralWord.mono _ _)
   | (with_reducible exact impl_CharacteristicPrefix.mono _ _ _)
   | (with_reducible exact impl_ConvergentOf.mono _ _)
   | (with_reducible exact impl_IsBalanced.mono _ _)
   | (with_reducible exact impl_IsPalindrome.mono _ _)
   | (with_reducible exact impl_MechanicalWord.mono _ _ _ _ _)
   | (with_reducible exact impl_QuotientsOf.mono _ _ _)
   | (with_reducible exact impl_StandardWord.mono _ _)
   | (with_reducible exact laws_gcd.mono _ _ _)
   | (with_reducible exact laws_sameInts.mono _ _ _)
   | (with_reducible exact spec_AreQuotients.mono _ _)
   | (with_reducible exact spec_CentralWord.mono _ _)
   | (with_reducible exact spec_CharacteristicPrefix.mono _ _ _)
   | (with_reducible exact spec_ConvergentOf.mono _ _)
   | (with_reducible exact spec_CountLetters.mono _ _ _)
   | (with_reducible exact spec_DrawCharacteristicPrefix.mono _ _)
   | (with_reducible exact spec_DrawMechanicalWord.mono _ _)
   | (with_reducible exact spec_DrawQuotientsOf.mono _ _)
   | (with_reducible exact spec_DrawStandardWord.mono _ _)
   | (with_reducible exact spec_MechanicalWord.mono _ _ _ _ _)
   | (with_reducible exact spec_QuotientsOf.mono _ _ _)
   | (with_reducible exact spec_StandardWord.mono _ _)
   | (with_reducible exact LeO.refl _)
   | (with_reducible exact LeO.none _)
   | (with_reducible refine LeO.ite ?_ ?_)
   | (with_reducible refine LeO.bind ?_ (fun _ => ?_))
   | exact ih0 _ _ _ _ _ _ _ _ _
   | exact ih1 _ _ _ _ _
   | exact ih2 _ _
   | exact ih3 _ _ _ _ _ _
   | exact ih4 _
   | exact impl_AreQuotients.mono _ _
   | exact impl_CentralWord.mono _ _
   | exact impl_CharacteristicPrefix.mono _ _ _
   | exact impl_ConvergentOf.mono _ _
   | exact impl_IsBalanced.mono _ _
   | exact impl_IsPalindrome.mono _ _
   | exact impl_MechanicalWord.mono _ _ _ _ _
   | exact impl_QuotientsOf.mono _ _ _
   | exact impl_StandardWord.mono _ _
   | exact laws_gcd.mono _ _ _
   | exact laws_sameInts.mono _ _ _
   | exact spec_AreQuotients.mono _ _
   | exact spec_CentralWord.mono _ _
   | exact spec_CharacteristicPrefix.mono _ _ _
   | exact spec_ConvergentOf.mono _ _
   | exact spec_CountLetters.mono _ _ _
   | exact spec_DrawCharacteristicPrefix.mono _ _
   | exact spec_DrawMechanicalWord.mono _ _
   | exact spec_DrawQuotientsOf.mono _ _
   | exact spec_DrawStandardWord.mono _ _
   | exact spec_MechanicalWord.mono _ _ _ _ _
   | exact spec_QuotientsOf.mono _ _ _
   | exact spec_StandardWord.mono _ _
   | exact LeO.none _
   | refine LeO.ite ?_ ?_
   | refine LeO.bind ?_ (fun _ => ?_)
  ·intro y0 y1
   unfold laws_FnSturmian.j2
   repeat' first
   | (with_reducible exact ih0 _ _ _ _ _ _ _ _ _)
   | (with_reducible exact ih1 _ _ _ _ _)
   | (with_reducible exact ih2 _ _)
   | (with_reducible exact ih3 _ _ _ _ _ _)
   | (with_reducible exact ih4 _)
   | (with_reducible exact impl_AreQuotients.mono _ _)
   | (with_reducible exact impl_CentralWord.mono _ _)
   | (with_reducible exact impl_CharacteristicPrefix.mono _ _ _)
   | (with_reducible exact impl_ConvergentOf.mono _ _)
   | (with_reducible exact impl_IsBalanced.mono _ _)
   | (with_reducible exact impl_IsPalindrome.mono _ _)
   | (with_reducible exact impl_MechanicalWord.mono _ _ _ _ _)
   | (with_reducible exact impl_QuotientsOf.mono _ _ _)
   | (with_reducible exact impl_StandardWord.mono _ _)
   | (with_reducible exact laws_gcd.mono _ _ _)
   | (with_reducible exact laws_sameInts.mono _ _ _)
   | (with_reducible exact spec_AreQuotients.mono _ _)
   | (with_reducible exact spec_CentralWord.mono _ _)
   | (with_reducible exact spec_CharacteristicPrefix.mono _ _ _)
   | (with_reducible exact spec_ConvergentOf.mono _ _)
   | (with_reducible exact spec_CountLetters.mono _ _ _)
   | (with_reducible exact spec_DrawCharacteristicPrefix.mono _ _)
   | (with_reducible exact spec_DrawMechanicalWord.mono _ _)
   | (with_reducible exact spec_DrawQuotientsOf.mono _ _)
   | (with_reducible exact spec_DrawStandardWord.mono _ _)
   | (with_reducible exact spec_MechanicalWord.mono _ _ _ _ _)
   | (with_reducible exact spec_QuotientsOf.mono _ _ _)
   | (with_reducible exact spec_StandardWord.mono _ _)
   | (with_reducible exact LeO.refl _)
   | (with_reducible exact LeO.none _)
   | (with_reducible refine LeO.ite ?_ ?_)
   | (with_reducible refine LeO.bind ?_ (fun _ => ?_))
   | exact ih0 _ _ _ _ _ _ _ _ _
   | exact ih1 _ _ _ _ _
   | exact ih2 _ _
   | exact ih3 _ _ _ _ _ _
   | exact ih4 _
   | exact impl_AreQuotients.mono _ _
   | exact impl_CentralWord.mono _ _
   | exact impl_CharacteristicPrefix.mono _ _ _
   | exact impl_ConvergentOf.mono _ _
   | exact impl_IsBalanced.mono _ _
   | exact impl_IsPalindrome.mono _ _
   | exact impl_MechanicalWord.mono _ _ _ _ _
   | exact impl_QuotientsOf.mono _ _ _
   | exact impl_StandardWord.mono _ _
   | exact laws_gcd.mono _ _ _
   | exact laws_sameInts.mono _ _ _
   | exact spec_AreQuotients.mono _ _
   | exact spec_CentralWord.mono _ _
   | exact spec_CharacteristicPrefix.mono _ _ _
   | exact spec_ConvergentOf.mono _ _
   | exact spec_CountLetters.mono _ _ _
   | exact spec_DrawCharacteristicPrefix.mono _ _
   | exact spec_DrawMechanicalWord.mono _ _
   | exact spec_DrawQuotientsOf.mono _ _
   | exact spec_DrawStandardWord.mono _ _
   | exact spec_MechanicalWord.mono _ _ _ _ _
   | exact spec_QuotientsOf.mono _ _ _
   | exact spec_StandardWord.mono _ _
   | exact LeO.none _
   | refine LeO.ite ?_ ?_
   | refine LeO.bind ?_ (fun _ => ?_)
  ·intro y0 y1 y2 y3 y4 y5
   unfold laws_FnSturmian.j3
   repeat' first
   | (with_reducible exact ih0 _ _ _ _ _ _ _ _ _)
   | (with_reducible exact ih1 _ _ _ _ _)
   | (with_reducible exact ih2 _ _)
   | (with_reducible exact ih3 _ _ _ _ _ _)
   | (with_reducible exact ih4 _)
   | (with_reducible exact impl_AreQuotients.mono _ _)
   | (with_reducible exact impl_CentralWord.mono _ _)
   | (with_reducible exact impl_CharacteristicPrefix.mono _ _ _)
   | (with_reducible exact impl_ConvergentOf.mono _ _)
   | (with_reducible exact impl_IsBalanced.mono _ _)
   | (with_reducible exact impl_IsPalindrome.mono _ _)
   | (with_reducible exact impl_MechanicalWord.mono _ _ _ _ _)
   | (with_reducible exact impl_QuotientsOf.mono _ _ _)
   | (with_reducible exact impl_StandardWord.mono _ _)
   | (with_reducible exact laws_gcd.mono _ _ _)
   | (with_reducible exact laws_sameInts.mono _ _ _)
   | (with_reducible exact spec_AreQuotients.mono _ _)
   | (with_reducible exact spec_CentralWord.mono _ _)
   | (with_reducible exact spec_CharacteristicPrefix.mono _ _ _)
   | (with_reducible exact spec_ConvergentOf.mono _ _)
   | (with_reducible exact spec_CountLetters.mono _ _ _)
   | (with_reducible exact spec_DrawCharacteristicPrefix.mono _ _)
   | (with_reducible exact spec_DrawMechanicalWord.mono _ _)
   | (with_reducible exact spec_DrawQuotientsOf.mono _ _)
   | (with_reducible exact spec_DrawStandardWord.mono _ _)
   | (with_reducible exact spec_MechanicalWord.mono _ _ _ _ _)
   | (with_reducible exact spec_QuotientsOf.mono _ _ _)
   | (with_reducible exact spec_StandardWord.mono _ _)
   | (with_reducible exact LeO.refl _)
   | (with_reducible exact LeO.none _)
   | (with_reducible refine LeO.ite ?_ ?_)
   | (with_reducible refine LeO.bind ?_ (fun _ => ?_))
   | exact ih0 _ _ _ _ _ _ _ _ _
   | exact ih1 _ _ _ _ _
   | exact ih2 _ _
   | exact ih3 _ _ _ _ _ _
   | exact ih4 _
   | exact impl_AreQuotients.mono _ _
   | exact impl_CentralWord.mono _ _
   | exact impl_CharacteristicPrefix.mono _ _ _
   | exact impl_ConvergentOf.mono _ _
   | exact impl_IsBalanced.mono _ _
   | exact impl_IsPalindrome.mono _ _
   | exact impl_MechanicalWord.mono _ _ _ _ _
   | exact impl_QuotientsOf.mono _ _ _
   | exact impl_StandardWord.mono _ _
   | exact laws_gcd.mono _ _ _
   | exact laws_sameInts.mono _ _ _
   | exact spec_AreQuotients.mono _ _
   | exact spec_CentralWord.mono _ _
   | exact spec_CharacteristicPrefix.mono _ _ _
   | exact spec_ConvergentOf.mono _ _
   | exact spec_CountLetters.mono _ _ _
   | exact spec_DrawCharacteristicPrefix.mono _ _
   | exact spec_DrawMechanicalWord.mono _ _
   | exact spec_DrawQuotientsOf.mono _ _
   | exact spec_DrawStandardWord.mono _ _
   | exact spec_MechanicalWord.mono _ _ _ _ _
   | exact spec_QuotientsOf.mono _ _ _
   | exact spec_StandardWord.mono _ _
   | exact LeO.none _
   | refine LeO.ite ?_ ?_
   | refine LeO.bind ?_ (fun _ => ?_)
  ·intro y0
   unfold laws_FnSturmian.j4
   repeat' first
   | (with_reducible exact ih0 _ _ _ _ _ _ _ _ _)
   | (with_reducible exact ih1 _ _ _ _ _)
   | (with_reducible exact ih2 _ _)
   | (with_reducible exact ih3 _ _ _ _ _ _)
   | (with_reducible exact ih4 _)
   | (with_reducible exact impl_AreQuotients.mono _ _)
   | (with_reducible exact impl_CentralWord.mono _ _)
   | (with_reducible exact impl_CharacteristicPrefix.mono _ _ _)
   | (with_reducible exact impl_ConvergentOf.mono _ _)
   | (with_reducible exact impl_IsBalanced.mono _ _)
   | (with_reducible exact impl_IsPalindrome.mono _ _)
   | (with_reducible exact impl_MechanicalWord.mono _ _ _ _ _)
   | (with_reducible exact impl_QuotientsOf.mono _ _ _)
   | (with_reducible exact impl_StandardWord.mono _ _)
   | (with_reducible exact laws_gcd.mono _ _ _)
   | (with_reducible exact laws_sameInts.mono _ _ _)
   | (with_reducible exact spec_AreQuotients.mono _ _)
   | (with_reducible exact spec_CentralWord.mono _ _)
   | (with_reducible exact spec_CharacteristicPrefix.mono _ _ _)
   | (with_reducible exact spec_ConvergentOf.mono _ _)
   | (with_reducible exact spec_CountLetters.mono _ _ _)
   | (with_reducible exact spec_DrawCharacteristicPrefix.mono _ _)
   | (with_reducible exact spec_DrawMechanicalWord.mono _ _)
   | (with_reducible exact spec_DrawQuotientsOf.mono _ _)
   | (with_reducible exact spec_DrawStandardWord.mono _ _)
   | (with_reducible exact spec_MechanicalWord.mono _ _ _ _ _)
   | (with_reducible exact spec_QuotientsOf.mono _ _ _)
   | (with_reducible exact spec_StandardWord.mono _ _)
   | (with_reducible exact LeO.refl _)
   | (with_reducible exact LeO.none _)
   | (with_reducible refine LeO.ite ?_ ?_)
   | (with_reducible refine LeO.bind ?_ (fun _ => ?_))
   | exact ih0 _ _ _ _ _ _ _ _ _
   | exact ih1 _ _ _ _ _
   | exact ih2 _ _
   | exact ih3 _ _ _ _ _ _
   | exact ih4 _
   | exact impl_AreQuotients.mono _ _
   | exact impl_CentralWord.mono _ _
   | exact impl_CharacteristicPrefix.mono _ _ _
   | exact impl_ConvergentOf.mono _ _
   | exact impl_IsBalanced.mono _ _
   | exact impl_IsPalindrome.mono _ _
   | exact impl_MechanicalWord.mono _ _ _ _ _
   | exact impl_QuotientsOf.mono _ _ _
   | exact impl_StandardWord.mono _ _
   | exact laws_gcd.mono _ _ _
   | exact laws_sameInts.mono _ _ _
   | exact spec_AreQuotients.mono _ _
   | exact spec_CentralWord.mono _ _
   | exact spec_CharacteristicPrefix.mono _ _ _
   | exact spec_ConvergentOf.mono _ _
   | exact spec_CountLetters.mono _ _ _
   | exact spec_DrawCharacteristicPrefix.mono _ _
   | exact spec_DrawMechanicalWord.mono _ _
   | exact spec_DrawQuotientsOf.mono _ _
   | exact spec_DrawStandardWord.mono _ _
   | exact spec_MechanicalWord.mono _ _ _ _ _
   | exact spec_QuotientsOf.mono _ _ _
   | exact spec_StandardWord.mono _ _
   | exact LeO.none _
   | refine LeO.ite ?_ ?_
   | refine LeO.bind ?_ (fun _ => ?_)
theorem laws_FnSturmian.mono : ∀ a0 k, LeO (laws_FnSturmian.f k a0) (laws_FnSturmian.f (k + 1) a0) := by
 intro a0 k
 obtain ⟨ih0, ih1, ih2, ih3, ih4⟩ := laws_FnSturmian.mono_l k
 unfold laws_FnSturmian.f
 repeat' first
   | (with_reducible exact ih0 _ _ _ _ _ _ _ _ _)
   | (with_reducible exact ih1 _ _ _ _ _)
   | (with_reducible exact ih2 _ _)
   | (with_reducible exact ih3 _ _ _ _ _ _)
   | (with_reducible exact ih4 _)
   | (with_reducible exact impl_AreQuotients.mono _ _)
   | (with_reducible exact impl_CentralWord.mono _ _)
   | (with_reducible exact impl_CharacteristicPrefix.mono _ _ _)
   | (with_reducible exact impl_ConvergentOf.mono _ _)
   | (with_reducible exact impl_IsBalanced.mono _ _)
   | (with_reducible exact impl_IsPalindrome.mono _ _)
   | (with_reducible exact impl_MechanicalWord.mono _ _ _ _ _)
   | (with_reducible exact impl_QuotientsOf.mono _ _ _)
   | (with_reducible exact impl_StandardWord.mono _ _)
   | (with_reducible exact laws_gcd.mono _ _ _)
   | (with_reducible exact laws_sameInts.mono _ _ _)
   | (with_reducible exact spec_AreQuotients.mono _ _)
   | (with_reducible exact spec_CentralWord.mono _ _)
   | (with_reducible exact spec_CharacteristicPrefix.mono _ _ _)
   | (with_reducible exact spec_ConvergentOf.mono _ _)
   | (with_reducible exact spec_CountLetters.mono _ _ _)
   | (with_reducible exact spec_DrawCharacteristicPrefix.mono _ _)
   | (with_reducible exact spec_DrawMechanicalWord.mono _ _)
   | (with_reducible exact spec_DrawQuotientsOf.mono _ _)
   | (with_reducible exact spec_DrawStandardWord.mono _ _)
   | (with_reducible exact spec_MechanicalWord.mono _ _ _ _ _)
   | (with_reducible exact spec_QuotientsOf.mono _ _ _)
   | (with_reducible exact spec_StandardWord.mono _ _)
   | (with_reducible exact LeO.refl _)
   | (with_reducible exact LeO.none _)
   | (with_reducible refine LeO.ite ?_ ?_)
   | (with_reducible refine LeO.bind ?_ (fun _ => ?_))
   | exact ih0 _ _ _ _ _ _ _ _ _
   | exact ih1 _ _ _ _ _
   | exact ih2 _ _
   | exact ih3 _ _ _ _ _ _
   | exact ih4 _
   | exact impl_AreQuotients.mono _ _
   | exact impl_CentralWord.mono _ _
   | exact impl_CharacteristicPrefix.mono _ _ _
   | exact impl_ConvergentOf.mono _ _
   | exact impl_IsBalanced.mono _ _
   | exact impl_IsPalindrome.mono _ _
   | exact impl_MechanicalWord.mono _ _ _ _ _
   | exact impl_QuotientsOf.mono _ _ _
   | exact impl_StandardWord.mono _ _
   | exact laws_gcd.mono _ _ _
   | exact laws_sameInts.mono _ _ _
   | exact spec_AreQuotients.mono _ _
   | exact spec_CentralWord.mono _ _
   | exact spec_CharacteristicPrefix.mono _ _ _
   | exact spec_ConvergentOf.mono _ _
   | exact spec_CountLetters.mono _ _ _
   | exact spec_DrawCharacteristicPrefix.mono _ _
   | exact spec_DrawMechanicalWord.mono _ _
   | exact spec_DrawQuotientsOf.mono _ _
   | exact spec_DrawStandardWord.mono _ _
   | exact spec_MechanicalWord.mono _ _ _ _ _
   | exact spec_QuotientsOf.mono _ _ _
   | exact spec_StandardWord.mono _ _
   | exact LeO.none _
   | refine LeO.ite ?_ ?_
   | refine LeO.bind ?_ (fun _ => ?_)
set_option maxHeartbeats 8000000 in
set_option maxRecDepth 100000 in
theorem laws_FnSturmian.calls (k : Nat) (A0 : Option Addr) (c0 : Nat) (l0 : List Int) (r : Bool) (w : World) (hr0 : Kd.C (Kd.int .u8) w A0 l0.length l0) (hc0 : l0.length ≤ c0) (h : laws_FnSturmian.f k l0 = some r) :
  Calls Try.prog 13 #[.slice A0 l0.length c0] w fun e w' => e = .returned (.bool r) ∧ Below w.heap.size w w' := by
 have HR0 := Aside0.mk hr0
 have HC0 := Aside0.mk hc0
 clear hr0 hc0
 have HB := Aside0.mk (Below.refl w.heap.size w)
 have H : ((laws_big.f l0).bind fun t443 => (if t443 = true then (some true) else ((spec_DrawStandardWord.f k l0).bind fun t444 => ((impl_StandardWord.f k t444).bind fun bt447 => ((spec_StandardWord.f k t444).bind fun bt451 => ((impl_ConvergentOf.f k t444).bind fun bt455 => ((spec_ConvergentOf.f k t444).bind fun bt458 => ((impl_CentralWord.f k t444).bind fun bt461 => ((spec_CentralWord.f k t444).bind fun bt465 => (if (bt447.2 != bt451.2) = true then (laws_FnSturmian.j0 k l0 bt447.2 bt451.1 bt455.1 bt455.2.1 bt455.2.2 bt461.2 bt465.1 true) else ((laws_sameInts.f k bt447.1 bt451.1).bind fun t469 => (if t469 = true then (if (bt455.2.2 != bt458.2.2) = true then (laws_FnSturmian.j0 k l0 bt447.2 bt451.1 bt455.1 bt455.2.1 bt455.2.2 bt461.2 bt465.1 true) else (if bt455.1 = bt458.1 then (if bt455.2.1 = bt458.2.1 then (if (bt461.2 != bt465.2) = true then (laws_FnSturmian.j0 k l0 bt447.2 bt451.1 bt455.1 bt455.2.1 bt455.2.2 bt461.2 bt465.1 true) else ((laws_sameInts.f k bt461.1 bt465.1).bind fun t470 => (if t470 = true then ((impl_AreQuotients.f k t444).bind fun t471 => ((spec_AreQuotients.f k t444).bind fun t472 => (laws_FnSturmian.j0 k l0 bt447.2 bt451.1 bt455.1 bt455.2.1 bt455.2.2 bt461.2 bt465.1 (t471 != t472)))) else (laws_FnSturmian.j0 k l0 bt447.2 bt451.1 bt455.1 bt455.2.1 bt455.2.2 bt461.2 bt465.1 true)))) else (laws_FnSturmian.j0 k l0 bt447.2 bt451.1 bt455.1 bt455.2.1 bt455.2.2 bt461.2 bt465.1 true)) else (laws_FnSturmian.j0 k l0 bt447.2 bt451.1 bt455.1 bt455.2.1 bt455.2.2 bt461.2 bt465.1 true))) else (laws_FnSturmian.j0 k l0 bt447.2 bt451.1 bt455.1 bt455.2.1 bt455.2.2 bt461.2 bt465.1 true))))))))))))) = some r := h
 clear h
 replace H := Option.bind_eq_some_iff.mp H
 obtain ⟨t443, A20, H⟩ := H
 replace H : (if t443 = true then (some true) else ((spec_DrawStandardWord.f k l0).bind fun t444 => ((impl_StandardWord.f k t444).bind fun bt447 => ((spec_StandardWord.f k t444).bind fun bt451 => ((impl_ConvergentOf.f k t444).bind fun bt455 => ((spec_ConvergentOf.f k t444).bind fun bt458 => ((impl_CentralWord.f k t444).bind fun bt461 => ((spec_CentralWord.f k t444).bind fun bt465 => (if (bt447.2 != bt451.2) = true then (laws_FnSturmian.j0 k l0 bt447.2 bt451.1 bt455.1 bt455.2.1 bt455.2.2 bt461.2 bt465.1 true) else ((laws_sameInts.f k bt447.1 bt451.1).bind fun t469 => (if t469 = true then (if (bt455.2.2 != bt458.2.2) = true then (laws_FnSturmian.j0 k l0 bt447.2 bt451.1 bt455.1 bt455.2.1 bt455.2.2 bt461.2 bt465.1 true) else (if bt455.1 = bt458.1 then (if bt455.2.1 = bt458.2.1 then (if (bt461.2 != bt465.2) = true then (laws_FnSturmian.j0 k l0 bt447.2 bt451.1 bt455.1 bt455.2.1 bt455.2.2 bt461.2 bt465.1 true) else ((laws_sameInts.f k bt461.1 bt465.1).bind fun t470 => (if t470 = true then ((impl_AreQuotients.f k t444).bind fun t471 => ((spec_AreQuotients.f k t444).bind fun t472 => (laws_FnSturmian.j0 k l0 bt447.2 bt451.1 bt455.1 bt455.2.1 bt455.2.2 bt461.2 bt465.1 (t471 != t472)))) else (laws_FnSturmian.j0 k l0 bt447.2 bt451.1 bt455.1 bt455.2.1 bt455.2.2 bt461.2 bt465.1 true)))) else (laws_FnSturmian.j0 k l0 bt447.2 bt451.1 bt455.1 bt455.2.1 bt455.2.2 bt461.2 bt465.1 true)) else (laws_FnSturmian.j0 k l0 bt447.2 bt451.1 bt455.1 bt455.2.1 bt455.2.2 bt461.2 bt465.1 true))) else (laws_FnSturmian.j0 k l0 bt447.2 bt451.1 bt455.1 bt455.2.1 bt455.2.2 bt461.2 bt465.1 true)))))))))))) = some r := H
 have A2 := Aside0.mk A20
 clear A20
 by_cases c3 : t443 = true
 ·subst c3
  have H1 : (some true) = some r := by rw [if_pos rfl] at H; exact H
  clear H
  have H := H1
  clear H1
  obtain rfl := Option.some.inj H
  go_enter Try.func13, Try.ntmps13
  go_wp2_with (first | ((with_reducible refine gate_callee (f := 42) rfl ?_); refine goesL_ (some 42) rfl rfl Try.func42 (by kernel_rfl) rfl #[.slice A0 l0.length c0] rfl (by (try simp only [List.map_toArray, List.map_cons, List.map_nil]); first | done | rfl | (simp only [List.length_drop, List.length_take]; rfl)) ?_; (with_reducible refine (laws_big.calls _ _ l0 true _ ?side1 ?side2 A2.out).mono ?_); (case side1 => repeat (first | exact HR0.out | (with_reducible refine Kd.C_alloc ?_ _) | (with_reducible refine Kd.C_drewN ?_ _) | (with_reducible refine Kd.C_drew ?_))); (case side2 => exact HC0.out); rintro e w' ⟨rfl, ⟨nd, rfl⟩⟩; refine ⟨_, rfl, ?_⟩))
  go_ret
  exact ⟨by first | rfl | (simp [errW_none, errW_some] <;> rfl) | (simp [*, errW_none, errW_some] <;> rfl), by repeat (first | (with_reducible first | exact HB.out | apply below_alloc | apply pw_below_drewN | apply below_drew1) | exact HB.out)⟩
 ·replace c3 := Bool.eq_false_iff.mpr c3
  subst c3
  have H1 : ((spec_DrawStandardWord.f k l0).bind fun t444 => ((impl_StandardWord.f k t444).bind fun bt447 => ((spec_StandardWord.f k t444).bind fun bt451 => ((impl_ConvergentOf.f k t444).bind fun bt455 => ((spec_ConvergentOf.f k t444).bind fun bt458 => ((impl_CentralWord.f k t444).bind fun bt461 => ((spec_CentralWord.f k t444).bind fun bt465 => (if (bt447.2 != bt451.2) = true then (laws_FnSturmian.j0 k l0 bt447.2 bt451.1 bt455.1 bt455.2.1 bt455.2.2 bt461.2 bt465.1 true) else ((laws_sameInts.f k bt447.1 bt451.1).bind fun t469 => (if t469 = true then (if (bt455.2.2 != bt458.2.2) = true then (laws_FnSturmian.j0 k l0 bt447.2 bt451.1 bt455.1 bt455.2.1 bt455.2.2 bt461.2 bt465.1 true) else (if bt455.1 = bt458.1 then (if bt455.2.1 = bt458.2.1 then (if (bt461.2 != bt465.2) = true then (laws_FnSturmian.j0 k l0 bt447.2 bt451.1 bt455.1 bt455.2.1 bt455.2.2 bt461.2 bt465.1 true) else ((laws_sameInts.f k bt461.1 bt465.1).bind fun t470 => (if t470 = true then ((impl_AreQuotients.f k t444).bind fun t471 => ((spec_AreQuotients.f k t444).bind fun t472 => (laws_FnSturmian.j0 k l0 bt447.2 bt451.1 bt455.1 bt455.2.1 bt455.2.2 bt461.2 bt465.1 (t471 != t472)))) else (laws_FnSturmian.j0 k l0 bt447.2 bt451.1 bt455.1 bt455.2.1 bt455.2.2 bt461.2 bt465.1 true)))) else (laws_FnSturmian.j0 k l0 bt447.2 bt451.1 bt455.1 bt455.2.1 bt455.2.2 bt461.2 bt465.1 true)) else (laws_FnSturmian.j0 k l0 bt447.2 bt451.1 bt455.1 bt455.2.1 bt455.2.2 bt461.2 bt465.1 true))) else (laws_FnSturmian.j0 k l0 bt447.2 bt451.1 bt455.1 bt455.2.1 bt455.2.2 bt461.2 bt465.1 true))))))))))) = some r := by rw [if_neg (show ¬ (false = true) by decide)] at H; exact H
  clear H
  have H := H1
  clear H1
  replace H := Option.bind_eq_some_iff.mp H
  obtain ⟨t444, A40, H⟩ := H
  replace H : ((impl_StandardWord.f k t444).bind fun bt447 => ((spec_StandardWord.f k t444).bind fun bt451 => ((impl_ConvergentOf.f k t444).bind fun bt455 => ((spec_ConvergentOf.f k t444).bind fun bt458 => ((impl_CentralWord.f k t444).bind fun bt461 => ((spec_CentralWord.f k t444).bind fun bt465 => (if (bt447.2 != bt451.2) = true then (laws_FnSturmian.j0 k l0 bt447.2 bt451.1 bt455.1 bt455.2.1 bt455.2.2 bt461.2 bt465.1 true) else ((laws_sameInts.f k bt447.1 bt451.1).bind fun t469 => (if t469 = true then (if (bt455.2.2 != bt458.2.2) = true then (laws_FnSturmian.j0 k l0 bt447.2 bt451.1 bt455.1 bt455.2.1 bt455.2.2 bt461.2 bt465.1 true) else (if bt455.1 = bt458.1 then (if bt455.2.1 = bt458.2.1 then (if (bt461.2 != bt465.2) = true then (laws_FnSturmian.j0 k l0 bt447.2 bt451.1 bt455.1 bt455.2.1 bt455.2.2 bt461.2 bt465.1 true) else ((laws_sameInts.f k bt461.1 bt465.1).bind fun t470 => (if t470 = true then ((impl_AreQuotients.f k t444).bind fun t471 => ((spec_AreQuotients.f k t444).bind fun t472 => (laws_FnSturmian.j0 k l0 bt447.2 bt451.1 bt455.1 bt455.2.1 bt455.2.2 bt461.2 bt465.1 (t471 != t472)))) else (laws_FnSturmian.j0 k l0 bt447.2 bt451.1 bt455.1 bt455.2.1 bt455.2.2 bt461.2 bt465.1 true)))) else (laws_FnSturmian.j0 k l0 bt447.2 bt451.1 bt455.1 bt455.2.1 bt455.2.2 bt461.2 bt465.1 true)) else (laws_FnSturmian.j0 k l0 bt447.2 bt451.1 bt455.1 bt455.2.1 bt455.2.2 bt461.2 bt465.1 true))) else (laws_FnSturmian.j0 k l0 bt447.2 bt451.1 bt455.1 bt455.2.1 bt455.2.2 bt461.2 bt465.1 true)))))))))) = some r := H
  have A4 := Aside0.mk A40
  clear A40
  replace H := Option.bind_eq_some_iff.mp H
  obtain ⟨⟨t447, t448⟩, A50, H⟩ := H
  replace H : ((spec_StandardWord.f k t444).bind fun bt451 => ((impl_ConvergentOf.f k t444).bind fun bt455 => ((spec_ConvergentOf.f k t444).bind fun bt458 => ((impl_CentralWord.f k t444).bind fun bt461 => ((spec_CentralWord.f k t444).bind fun bt465 => (if (t448 != bt451.2) = true then (laws_FnSturmian.j0 k l0 t448 bt451.1 bt455.1 bt455.2.1 bt455.2.2 bt461.2 bt465.1 true) else ((laws_sameInts.f k t447 bt451.1).bind fun t469 => (if t469 = true then (if (bt455.2.2 != bt458.2.2) = true then (laws_FnSturmian.j0 k l0 t448 bt451.1 bt455.1 bt455.2.1 bt455.2.2 bt461.2 bt465.1 true) else (if bt455.1 = bt458.1 then (if bt455.2.1 = bt458.2.1 then (if (bt461.2 != bt465.2) = true then (laws_FnSturmian.j0 k l0 t448 bt451.1 bt455.1 bt455.2.1 bt455.2.2 bt461.2 bt465.1 true) else ((laws_sameInts.f k bt461.1 bt465.1).bind fun t470 => (if t470 = true then ((impl_AreQuotients.f k t444).bind fun t471 => ((spec_AreQuotients.f k t444).bind fun t472 => (laws_FnSturmian.j0 k l0 t448 bt451.1 bt455.1 bt455.2.1 bt455.2.2 bt461.2 bt465.1 (t471 != t472)))) else (laws_FnSturmian.j0 k l0 t448 bt451.1 bt455.1 bt455.2.1 bt455.2.2 bt461.2 bt465.1 true)))) else (laws_FnSturmian.j0 k l0 t448 bt451.1 bt455.1 bt455.2.1 bt455.2.2 bt461.2 bt465.1 true)) else (laws_FnSturmian.j0 k l0 t448 bt451.1 bt455.1 bt455.2.1 bt455.2.2 bt461.2 bt465.1 true))) else (laws_FnSturmian.j0 k l0 t448 bt451.1 bt455.1 bt455.2.1 bt455.2.2 bt461.2 bt465.1 true))))))))) = some r := H
  have A5 := Aside0.mk A50
  clear A50
  replace H := Option.bind_eq_some_iff.mp H
  obtain ⟨⟨t451, t452⟩, A60, H⟩ := H
  replace H : ((impl_ConvergentOf.f k t444).bind fun bt455 => ((spec_ConvergentOf.f k t444).bind fun bt458 => ((impl_CentralWord.f k t444).bind fun bt461 => ((spec_CentralWord.f k t444).bind fun bt465 => (if (t448 != t452) = true then (laws_FnSturmian.j0 k l0 t448 t451 bt455.1 bt455.2.1 bt455.2.2 bt461.2 bt465.1 true) else ((laws_sameInts.f k t447 t451).bind fun t469 => (if t469 = true then (if (bt455.2.2 != bt458.2.2) = true then (laws_FnSturmian.j0 k l0 t448 t451 bt455.1 bt455.2.1 bt455.2.2 bt461.2 bt465.1 true) else (if bt455.1 = bt458.1 then (if bt455.2.1 = bt458.2.1 then (if (bt461.2 != bt465.2) = true then (laws_FnSturmian.j0 k l0 t448 t451 bt455.1 bt455.2.1 bt455.2.2 bt461.2 bt465.1 true) else ((laws_sameInts.f k bt461.1 bt465.1).bind fun t470 => (if t470 = true then ((impl_AreQuotients.f k t444).bind fun t471 => ((spec_AreQuotients.f k t444).bind fun t472 => (laws_FnSturmian.j0 k l0 t448 t451 bt455.1 bt455.2.1 bt455.2.2 bt461.2 bt465.1 (t471 != t472)))) else (laws_FnSturmian.j0 k l0 t448 t451 bt455.1 bt455.2.1 bt455.2.2 bt461.2 bt465.1 true)))) else (laws_FnSturmian.j0 k l0 t448 t451 bt455.1 bt455.2.1 bt455.2.2 bt461.2 bt465.1 true)) else (laws_FnSturmian.j0 k l0 t448 t451 bt455.1 bt455.2.1 bt455.2.2 bt461.2 bt465.1 true))) else (laws_FnSturmian.j0 k l0 t448 t451 bt455.1 bt455.2.1 bt455.2.2 bt461.2 bt465.1 true)))))))) = some r := H
  have A6 := Aside0.mk A60
  clear A60
  replace H := Option.bind_eq_some_iff.mp H
  obtain ⟨⟨t455, t456, t457⟩, A70, H⟩ := H
  replace H : ((spec_ConvergentOf.f k t444).bind fun bt458 => ((impl_CentralWord.f k t444).bind fun bt461 => ((spec_CentralWord.f k t444).bind fun bt465 => (if (t448 != t452) = true then (laws_FnSturmian.j0 k l0 t448 t451 t455 t456 t457 bt461.2 bt465.1 true) else ((laws_sameInts.f k t447 t451).bind fun t469 => (if t469 = true then (if (t457 != bt458.2.2) = true then (laws_FnSturmian.j0 k l0 t448 t451 t455 t456 t457 bt461.2 bt465.1 true) else (if t455 = bt458.1 then (if t456 = bt458.2.1 then (if (bt461.2 != bt465.2) = true then (laws_FnSturmian.j0 k l0 t448 t451 t455 t456 t457 bt461.2 bt465.1 true) else ((laws_sameInts.f k bt461.1 bt465.1).bind fun t470 => (if t470 = true then ((impl_AreQuotients.f k t444).bind fun t471 => ((spec_AreQuotients.f k t444).bind fun t472 => (laws_FnSturmian.j0 k l0 t448 t451 t455 t456 t457 bt461.2 bt465.1 (t471 != t472)))) else (laws_FnSturmian.j0 k l0 t448 t451 t455 t456 t457 bt461.2 bt465.1 true)))) else (laws_FnSturmian.j0 k l0 t448 t451 t455 t456 t457 bt461.2 bt465.1 true)) else (laws_FnSturmian.j0 k l0 t448 t451 t455 t456 t457 bt461.2 bt465.1 true))) else (laws_FnSturmian.j0 k l0 t448 t451 t455 t456 t457 bt461.2 bt465.1 true))))))) = some r := H
  have A7 := Aside0.mk A70
  clear A70
  replace H := Option.bind_eq_some_iff.mp H
  obtain ⟨⟨t458, t459, t460⟩, A80, H⟩ := H
  replace H : ((impl_CentralWord.f k t444).bind fun bt461 => ((spec_CentralWord.f k t444).bind fun bt465 => (if (t448 != t452) = true then (laws_FnSturmian.j0 k l0 t448 t451 t455 t456 t457 bt461.2 bt465.1 true) else ((laws_sameInts.f k t447 t451).bind fun t469 => (if t469 = true then (if (t457 != t460) = true then (laws_FnSturmian.j0 k l0 t448 t451 t455 t456 t457 bt461.2 bt465.1 true) else (if t455 = t458 then (if t456 = t459 then (if (bt461.2 != bt465.2) = true then (laws_FnSturmian.j0 k l0 t448 t451 t455 t456 t457 bt461.2 bt465.1 true) else ((laws_sameInts.f k bt461.1 bt465.1).bind fun t470 => (if t470 = true then ((impl_AreQuotients.f k t444).bind fun t471 => ((spec_AreQuotients.f k t444).bind fun t472 => (laws_FnSturmian.j0 k l0 t448 t451 t455 t456 t457 bt461.2 bt465.1 (t471 != t472)))) else (laws_FnSturmian.j0 k l0 t448 t451 t455 t456 t457 bt461.2 bt465.1 true)))) else (laws_FnSturmian.j0 k l0 t448 t451 t455 t456 t457 bt461.2 bt465.1 true)) else (laws_FnSturmian.j0 k l0 t448 t451 t455 t456 t457 bt461.2 bt465.1 true))) else (laws_FnSturmian.j0 k l0 t448 t451 t455 t456 t457 bt461.2 bt465.1 true)))))) = some r := H
  have A8 := Aside0.mk A80
  clear A80
  replace H := Option.bind_eq_some_iff.mp H
  obtain ⟨⟨t461, t462⟩, A90, H⟩ := H
  replace H : ((spec_CentralWord.f k t444).bind fun bt465 => (if (t448 != t452) = true then (laws_FnSturmian.j0 k l0 t448 t451 t455 t456 t457 t462 bt465.1 true) else ((laws_sameInts.f k t447 t451).bind fun t469 => (if t469 = true then (if (t457 != t460) = true then (laws_FnSturmian.j0 k l0 t448 t451 t455 t456 t457 t462 bt465.1 true) else (if t455 = t458 then (if t456 = t459 then (if (t462 != bt465.2) = true then (laws_FnSturmian.j0 k l0 t448 t451 t455 t456 t457 t462 bt465.1 true) else ((laws_sameInts.f k t461 bt465.1).bind fun t470 => (if t470 = true then ((impl_AreQuotients.f k t444).bind fun t471 => ((spec_AreQuotients.f k t444).bind fun t472 => (laws_FnSturmian.j0 k l0 t448 t451 t455 t456 t457 t462 bt465.1 (t471 != t472)))) else (laws_FnSturmian.j0 k l0 t448 t451 t455 t456 t457 t462 bt465.1 true)))) else (laws_FnSturmian.j0 k l0 t448 t451 t455 t456 t457 t462 bt465.1 true)) else (laws_FnSturmian.j0 k l0 t448 t451 t455 t456 t457 t462 bt465.1 true))) else (laws_FnSturmian.j0 k l0 t448 t451 t455 t456 t457 t462 bt465.1 true))))) = some r := H
  have A9 := Aside0.mk A90
  clear A90
  replace H := Option.bind_eq_some_iff.mp H
  obtain ⟨⟨t465, t466⟩, A100, H⟩ := H
  replace H : (if (t448 != t452) = true then (laws_FnSturmian.j0 k l0 t448 t451 t455 t456 t457 t462 t465 true) else ((laws_sameInts.f k t447 t451).bind fun t469 => (if t469 = true then (if (t457 != t460) = true then (laws_FnSturmian.j0 k l0 t448 t451 t455 t456 t457 t462 t465 true) else (if t455 = t458 then (if t456 = t459 then (if (t462 != t466) = true then (laws_FnSturmian.j0 k l0 t448 t451 t455 t456 t457 t462 t465 true) else ((laws_sameInts.f k t461 t465).bind fun t470 => (if t470 = true then ((impl_AreQuotients.f k t444).bind fun t471 => ((spec_AreQuotients.f k t444).bind fun t472 => (laws_FnSturmian.j0 k l0 t448 t451 t455 t456 t457 t462 t465 (t471 != t472)))) else (laws_FnSturmian.j0 k l0 t448 t451 t455 t456 t457 t462 t465 true)))) else (laws_FnSturmian.j0 k l0 t448 t451 t455 t456 t457 t462 t465 true)) else (laws_FnSturmian.j0 k l0 t448 t451 t455 t456 t457 t462 t465 true))) else (laws_FnSturmian.j0 k l0 t448 t451 t455 t456 t457 t462 t465 true)))) = some r := H
  have A10 := Aside0.mk A100
  clear A100
  have HC11 := Aside0.mk H
  clear H
  go_enter Try.func13, Try.ntmps13
  go_upto_region 10 with (first | ((with_reducible refine gate_callee (f := 42) rfl ?_); refine goesL_ (some 42) rfl rfl Try.func42 (by kernel_rfl) rfl #[.slice A0 l0.length c0] rfl (by (try simp only [List.map_toArray, List.map_cons, List.map_nil]); first | done | rfl | (simp only [List.length_drop, List.length_take]; rfl)) ?_; (with_reducible refine (laws_big.calls _ _ l0 false _ ?side1 ?side2 A2.out).mono ?_); (case side1 => repeat (first | exact HR0.out | (with_reducible refine Kd.C_alloc ?_ _) | (with_reducible refine Kd.C_drewN ?_ _) | (with_reducible refine Kd.C_drew ?_))); (case side2 => exact HC0.out); rintro e w' ⟨rfl, ⟨nd, rfl⟩⟩; refine ⟨_, rfl, ?_⟩) | ((with_reducible refine gate_callee (f := 43) rfl ?_); refine goesL_ (some 44) rfl rfl Try.func43 (by kernel_rfl) rfl #[.slice A0 l0.length c0] rfl (by (try simp only [List.map_toArray, List.map_cons, List.map_nil]); first | done | rfl | (simp only [List.length_drop, List.length_take]; rfl)) ?_; (with_reducible refine (spec_DrawStandardWord.calls k _ _ l0 t444 _ ?side1 ?side2 A4.out).mono ?_); (case side1 => repeat (first | exact HR0.out | (with_reducible refine Kd.C_alloc ?_ _) | (with_reducible refine Kd.C_drewN ?_ _) | (with_reducible refine Kd.C_drew ?_))); (case side2 => exact HC0.out); rintro e w12 ⟨v445, rfl, ho0, hb⟩; refine ⟨_, rfl, ?_⟩; have n0_ := Aside0.mk (Kd.R_lower ho0 (below_size (by repeat (first | (with_reducible first | exact HB.out | apply below_alloc | apply pw_below_drewN | apply below_drew1) | exact HB.out)))); have n1_ := Aside0.mk (below_step (by repeat (first | (with_reducible first | exact HB.out | apply below_alloc | apply pw_below_drewN | apply below_drew1) | exact HB.out)) hb); clear HB; have HO446 := n0_; have HB := n1_; clear n0_ n1_; (try clear hb); (try clear hb2); (try clear hk); (try clear hi); (try clear ho0); obtain ⟨Ao13, co13, eo13⟩ := Kd.R_slice HO446.out; subst eo13) | ((with_reducible refine gate_callee (f := 24) rfl ?_); refine goesL_ (some 47) rfl rfl Try.func24 (by kernel_rfl) rfl #[.slice Ao13 t444.length co13] rfl (by (try simp only [List.map_toArray, List.map_cons, List.map_nil]); first | done | rfl | (simp only [List.length_drop, List.length_take]; rfl)) ?_; (with_reducible refine (impl_StandardWord.calls k _ _ t444 t447 t448 _ ?side1 ?side2 A5.out).mono ?_); (case side1 => repeat (first | exact (Kd.R_reads' HO446.out).2.2 | (with_reducible refine Kd.C_alloc ?_ _) | (with_reducible refine Kd.C_drewN ?_ _) | (with_reducible refine Kd.C_drew ?_))); (case side2 => exact (Kd.R_reads' HO446.out).2.1); rintro e w14 ⟨v449, rfl, ho0, hb⟩; refine ⟨_, rfl, ?_⟩; have n0_ := Aside0.mk (Kd.R_elder' (by (with_reducible repeat (first | apply Kd.R_alloc | apply Kd.R_drewN | apply Kd.R_drew)); exact HO446.out) (Kd.R_base ho0) hb); have n1_ := Aside0.mk (Kd.R_lower (Kd.R_new' ho0 (Kd.R_lt (by (with_reducible repeat (first | apply Kd.R_alloc | apply Kd.R_drewN | apply Kd.R_drew)); exact HO446.out))) (below_size (by repeat (first | (with_reducible first | exact HB.out | apply below_alloc | apply pw_below_drewN | apply below_drew1) | exact HB.out)))); have n2_ := Aside0.mk (below_step (by repeat (first | (with_reducible first | exact HB.out | apply below_alloc | apply pw_below_drewN | apply below_drew1) | exact HB.out)) hb); clear HO446; clear HB; have HO446 := n0_; have HO450 := n1_; have HB := n2_; clear n0_ n1_ n2_; (try clear hb); (try clear hb2); (try clear hk); (try clear hi); (try clear ho0)) | ((with_reducible refine gate_callee (f := 23) rfl ?_); refine goesL_ (some 52) rfl rfl Try.func23 (by kernel_rfl) rfl #[.slice Ao13 t444.length co13] rfl (by (try simp only [List.map_toArray, List.map_cons, List.map_nil]); first | done | rfl | (simp only [List.length_drop, List.length_take]; rfl)) ?_; (with_reducible refine (spec_StandardWord.calls k _ _ t444 t451 t452 _ ?side1 ?side2 A6.out).mono ?_); (case side1 => repeat (first | exact (Kd.R_reads' HO446.out).2.2 | (with_reducible refine Kd.C_alloc ?_ _) | (with_reducible refine Kd.C_drewN ?_ _) | (with_reducible refine Kd.C_drew ?_))); (case side2 => exact (Kd.R_reads' HO446.out).2.1); rintro e w15 ⟨v453, rfl, ho0, hb⟩; refine ⟨_, rfl, ?_⟩; have n0_ := Aside0.mk (Kd.R_elder' (by (with_reducible repeat (first | apply Kd.R_alloc | apply Kd.R_drewN | apply Kd.R_drew)); exact HO446.out) (Kd.R_base ho0) hb); have n1_ := Aside0.mk (Kd.R_elder' (by (with_reducible repeat (first | apply Kd.R_alloc | apply Kd.R_drewN | apply Kd.R_drew)); exact HO450.out) (Kd.R_base ho0) hb); have n2_ := Aside0.mk (Kd.R_lower (Kd.R_new' (Kd.R_new' ho0 (Kd.R_lt (by (with_reducible repeat (first | apply Kd.R_alloc | apply Kd.R_drewN | apply Kd.R_drew)); exact HO446.out))) (Kd.R_lt (by (with_reducible repeat (first | apply Kd.R_alloc | apply Kd.R_drewN | apply Kd.R_drew)); exact HO450.out))) (below_size (by repeat (first | (with_reducible first | exact HB.out | apply below_alloc | apply pw_below_drewN | apply below_drew1) | exact HB.out)))); have n3_ := Aside0.mk (below_step (by repeat (first | (with_reducible first | exact HB.out | apply below_alloc | apply pw_below_drewN | apply below_drew1) | exact HB.out)) hb); clear HO446; clear HO450; clear HB; have HO446 := n0_; have HO450 := n1_; have HO454 := n2_; have HB := n3_; clear n0_ n1_ n2_ n3_; (try clear hb); (try clear hb2); (try clear hk); (try clear hi); (try clear ho0)) | ((with_reducible refine gate_callee (f := 17) rfl ?_); refine goesL_ (some 57) rfl rfl Try.func17 (by kernel_rfl) rfl #[.slice Ao13 t444.length co13] rfl (by (try simp only [List.map_toArray, List.map_cons, List.map_nil]); first | done | rfl | (simp only [List.length_drop, List.length_take]; rfl)) ?_; (with_reducible refine (impl_ConvergentOf.calls k _ _ t444 t455 t456 t457 _ ?side1 ?side2 A7.out).mono ?_); (case side1 => repeat (first | exact (Kd.R_reads' HO446.out).2.2 | (with_reducible refine Kd.C_alloc ?_ _) | (with_reducible refine Kd.C_drewN ?_ _) | (with_reducible refine Kd.C_drew ?_))); (case side2 => exact (Kd.R_reads' HO446.out).2.1); rintro e w' ⟨rfl, ⟨nd, rfl⟩⟩; refine ⟨_, rfl, ?_⟩) | ((with_reducible refine gate_callee (f := 15) rfl ?_); refine goesL_ (some 63) rfl rfl Try.func15 (by kernel_rfl) rfl #[.slice Ao13 t444.length co13] rfl (by (try simp only [List.map_toArray, List.map_cons, List.map_nil]); first | done | rfl | (simp only [List.length_drop, List.length_take]; rfl)) ?_; (with_reducible refine (spec_ConvergentOf.calls k _ _ t444 t458 t459 t460 _ ?side1 ?side2 A8.out).mono ?_); (case side1 => repeat (first | exact (Kd.R_reads' HO446.out).2.2 | (with_reducible refine Kd.C_alloc ?_ _) | (with_reducible refine Kd.C_drewN ?_ _) | (with_reducible refine Kd.C_drew ?_))); (case side2 => exact (Kd.R_reads' HO446.out).2.1); rintro e w' ⟨rfl, ⟨nd, rfl⟩⟩; refine ⟨_, rfl, ?_⟩) | ((with_reducible refine gate_callee (f := 28) rfl ?_); refine goesL_ (some 69) rfl rfl Try.func28 (by kernel_rfl) rfl #[.slice Ao13 t444.length co13] rfl (by (try simp only [List.map_toArray, List.map_cons, List.map_nil]); first | done | rfl | (simp only [List.length_drop, List.length_take]; rfl)) ?_; (with_reducible refine (impl_CentralWord.calls k _ _ t444 t461 t462 _ ?side1 ?side2 A9.out).mono ?_); (case side1 => repeat (first | exact (Kd.R_reads' HO446.out).2.2 | (with_reducible refine Kd.C_alloc ?_ _) | (with_reducible refine Kd.C_drewN ?_ _) | (with_reducible refine Kd.C_drew ?_))); (case side2 => exact (Kd.R_reads' HO446.out).2.1); rintro e w16 ⟨v463, rfl, ho0, hb⟩; refine ⟨_, rfl, ?_⟩; have n0_ := Aside0.mk (Kd.R_elder' (by (with_reducible repeat (first | apply Kd.R_alloc | apply Kd.R_drewN | apply Kd.R_drew)); exact HO446.out) (Kd.R_base ho0) hb); have n1_ := Aside0.mk (Kd.R_elder' (by (with_reducible repeat (first | apply Kd.R_alloc | apply Kd.R_drewN | apply Kd.R_drew)); exact HO450.out) (Kd.R_base ho0) hb); have n2_ := Aside0.mk (Kd.R_elder' (by (with_reducible repeat (first | apply Kd.R_alloc | apply Kd.R_drewN | apply Kd.R_drew)); exact HO454.out) (Kd.R_base ho0) hb); have n3_ := Aside0.mk (Kd.R_lower (Kd.R_new' (Kd.R_new' (Kd.R_new' ho0 (Kd.R_lt (by (with_reducible repeat (first | apply Kd.R_alloc | apply Kd.R_drewN | apply Kd.R_drew)); exact HO446.out))) (Kd.R_lt (by (with_reducible repeat (first | apply Kd.R_alloc | apply Kd.R_drewN | apply Kd.R_drew)); exact HO450.out))) (Kd.R_lt (by (with_reducible repeat (first | apply Kd.R_alloc | apply Kd.R_drewN | apply Kd.R_drew)); exact HO454.out))) (below_size (by repeat (first | (with_reducible first | exact HB.out | apply below_alloc | apply pw_below_drewN | apply below_drew1) | exact HB.out)))); have n4_ := Aside0.mk (below_step (by repeat (first | (with_reducible first | exact HB.out | apply below_alloc | apply pw_below_drewN | apply below_drew1) | exact HB.out)) hb); clear HO446; clear HO450; clear HO454; clear HB; have HO446 := n0_; have HO450 := n1_; have HO454 := n2_; have HO464 := n3_; have HB := n4_; clear n0_ n1_ n2_ n3_ n4_; (try clear hb); (try clear hb2); (try clear hk); (try clear hi); (try clear ho0)) | ((with_reducible refine gate_callee (f := 27) rfl ?_); refine goesL_ (some 74) rfl rfl Try.func27 (by kernel_rfl) rfl #[.slice Ao13 t444.length co13] rfl (by (try simp only [List.map_toArray, List.map_cons, List.map_nil]); first | done | rfl | (simp only [List.length_drop, List.length_take]; rfl)) ?_; (with_reducible refine (spec_CentralWord.calls k _ _ t444 t465 t466 _ ?side1 ?side2 A10.out).mono ?_); (case side1 => repeat (first | exact (Kd.R_reads' HO446.out).2.2 | (with_reducible refine Kd.C_alloc ?_ _) | (with_reducible refine Kd.C_drewN ?_ _) | (with_reducible refine Kd.C_drew ?_))); (case side2 => exact (Kd.R_reads' HO446.out).2.1); rintro e w17 ⟨v467, rfl, ho0, hb⟩; refine ⟨_, rfl, ?_⟩; have n0_ := Aside0.mk (Kd.R_elder' (by (with_reducible repeat (first | apply Kd.R_alloc | apply Kd.R_drewN | apply Kd.R_drew)); exact HO446.out) (Kd.R_base ho0) hb); have n1_ := Aside0.mk (Kd.R_elder' (by (with_reducible repeat (first | apply Kd.R_alloc | apply Kd.R_drewN | apply Kd.R_drew)); exact HO450.out) (Kd.R_base ho0) hb); have n2_ := Aside0.mk (Kd.R_elder' (by (with_reducible repeat (first | apply Kd.R_alloc | apply Kd.R_drewN | apply Kd.R_drew)); exact HO454.out) (Kd.R_base ho0) hb); have n3_ := Aside0.mk (Kd.R_elder' (by (with_reducible repeat (first | apply Kd.R_alloc | apply Kd.R_drewN | apply Kd.R_drew)); exact HO464.out) (Kd.R_base ho0) hb); have n4_ := Aside0.mk (Kd.R_lower (Kd.R_new' (Kd.R_new' (Kd.R_new' (Kd.R_new' ho0 (Kd.R_lt (by (with_reducible repeat (first | apply Kd.R_alloc | apply Kd.R_drewN | apply Kd.R_drew)); exact HO446.out))) (Kd.R_lt (by (with_reducible repeat (first | apply Kd.R_alloc | apply Kd.R_drewN | apply Kd.R_drew)); exact HO450.out))) (Kd.R_lt (by (with_reducible repeat (first | apply Kd.R_alloc | apply Kd.R_drewN | apply Kd.R_drew)); exact HO454.out))) (Kd.R_lt (by (with_reducible repeat (first | apply Kd.R_alloc | apply Kd.R_drewN | apply Kd.R_drew)); exact HO464.out))) (below_size (by repeat (first | (with_reducible first | exact HB.out | apply below_alloc | apply pw_below_drewN | apply below_drew1) | exact HB.out)))); have n5_ := Aside0.mk (below_step (by repeat (first | (with_reducible first | exact HB.out | apply below_alloc | apply pw_below_drewN | apply below_drew1) | exact HB.out)) hb); clear HO446; clear HO450; clear HO454; clear HO464; clear HB; have HO446 := n0_; have HO450 := n1_; have HO454 := n2_; have HO464 := n3_; have HO468 := n4_; have HB := n5_; clear n0_ n1_ n2_ n3_ n4_ n5_; (try clear hb); (try clear hb2); (try clear hk); (try clear hi); (try clear ho0)))
  (try simp only [Act.put, List.setIfInBounds_toArray, List.set_cons_zero, List.set_cons_succ])
  go_cut [118] (fun v118 wc => ∃ (kq : Nat) (x118_10 : Bool), v118 = .bool x118_10 ∧ Aside0 (laws_FnSturmian.j0 kq l0 t448 t451 t455 t456 t457 t462 t465 x118_10 = some r) ∧ Aside0 (kq ≤ k) ∧ Aside0 (Kd.R (Kd.int .i64) 3 wc w.heap.size (fun k_ => some k_ ≠ (v467 : Value).ownBlock) v453 t451) ∧ Aside0 (Kd.R (Kd.int .i64) 3 wc w.heap.size (fun k_ => some k_ ≠ (v453 : Value).ownBlock) v467 t465) ∧ Aside0 (Below w.heap.size w wc))
  case first => as_aux_lemma =>
   have H := HC11.out
   clear HC11
   by_cases c18 : (t448 != t452) = true
   ·rw [if_pos c18] at H
    have c18b0 : (t448 != t452) = true := c18
    (try (have c18b1 : decide (t448 = t452) = false := by simpa using c18))
    (try (have c18b2 : (t448 == t452) = false := by simpa using c18))
    (try (have c18b3 : ¬ (t448 = t452) := by simpa using c18))
    clear c18
    (first | rw [c18b0] | (simp only [i64_w, i32_w]; rw [c18b0]) | skip)
    have H' := Aside0.mk H
    clear H
    go_wp2
    go_meet
    case rel => exact ⟨_, (true), (by first | rfl | (simp; done) | (simp [*]; done)), H', ⟨by first | omega | exact Nat.le_refl _⟩, ⟨by (with_reducible repeat (first | apply Kd.R_alloc | apply Kd.R_drewN | apply Kd.R_drew)); exact Kd.R_mono HO454.out (fun _ hk => hk.2)⟩, ⟨by (with_reducible repeat (first | apply Kd.R_alloc | apply Kd.R_drewN | apply Kd.R_drew)); exact Kd.R_mono HO468.out (fun _ hk => hk.1.2)⟩, ⟨by repeat (first | (with_reducible first | exact HB.out | apply below_alloc | apply pw_below_drewN | apply below_drew1) | exact HB.out)⟩⟩
   ·rw [if_neg c18] at H
    have c18b0 : (t448 != t452) = false := by simpa using c18
    (try (have c18b1 : decide (t448 = t452) = true := by simpa using c18))
    (try (have c18b2 : (t448 == t452) = true := by simpa using c18))
    clear c18
    (first | rw [c18b0] | (simp only [i64_w, i32_w]; rw [c18b0]) | skip)
    replace H := Option.bind_eq_some_iff.mp H
    obtain ⟨t469, A190, H⟩ := H
    replace H : (if t469 = true then (if (t457 != t460) = true then (laws_FnSturmian.j0 k l0 t448 t451 t455 t456 t457 t462 t465 true) else (if t455 = t458 then (if t456 = t459 then (if (t462 != t466) = true then (laws_FnSturmian.j0 k l0 t448 t451 t455 t456 t457 t462 t465 true) else ((laws_sameInts.f k t461 t465).bind fun t470 => (if t470 = true then ((impl_AreQuotients.f k t444).bind fun t471 => ((spec_AreQuotients.f k t444).bind fun t472 => (laws_FnSturmian.j0 k l0 t448 t451 t455 t456 t457 t462 t465 (t471 != t472)))) else (laws_FnSturmian.j0 k l0 t448 t451 t455 t456 t457 t462 t465 true)))) else (laws_FnSturmian.j0 k l0 t448 t451 t455 t456 t457 t462 t465 true)) else (laws_FnSturmian.j0 k l0 t448 t451 t455 t456 t457 t462 t465 true))) else (laws_FnSturmian.j0 k l0 t448 t451 t455 t456 t457 t462 t465 true)) = some r := H
    have A19 := Aside0.mk A190
    clear A190
    by_cases c20 : t469 = true
    ·subst c20
     have H1 : (if (t457 != t460) = true then (laws_FnSturmian.j0 k l0 t448 t451 t455 t456 t457 t462 t465 true) else (if t455 = t458 then (if t456 = t459 then (if (t462 != t466) = true then (laws_FnSturmian.j0 k l0 t448 t451 t455 t456 t457 t462 t465 true) else ((laws_sameInts.f k t461 t465).bind fun t470 => (if t470 = true then ((impl_AreQuotients.f k t444).bind fun t471 => ((spec_AreQuotients.f k t444).bind fun t472 => (laws_FnSturmian.j0 k l0 t448 t451 t455 t456 t457 t462 t465 (t471 != t472)))) else (laws_FnSturmian.j0 k l0 t448 t451 t455 t456 t457 t462 t465 true)))) else (laws_FnSturmian.j0 k l0 t448 t451 t455 t456 t457 t462 t465 true)) else (laws_FnSturmian.j0 k l0 t448 t451 t455 t456 t457 t462 t465 true))) = some r := by rw [if_pos rfl] at H; exact H
     clear H
     have H := H1
     clear H1
     by_cases c21 : (t457 != t460) = true
     ·rw [if_pos c21] at H
      have c21b0 : (t457 != t460) = true := c21
      (try (have c21b1 : decide (t457 = t460) = false := by simpa using c21))
      (try (have c21b2 : (t457 == t460) = false := by simpa using c21))
      (try (have c21b3 : ¬ (t457 = t460) := by simpa using c21))
      clear c21
      have H' := Aside0.mk H
      clear H
      obtain ⟨Ao22, co22, eo22⟩ := Kd.R_slice HO450.out
      subst eo22
      obtain ⟨Ao23, co23, eo23⟩ := Kd.R_slice HO454.out
      subst eo23
      go_wp2_with (first | (go_at_call 44; (with_reducible refine (laws_sameInts.calls k _ _ t447 _ _ t451 true _ ?side1 ?side2 ?side3 ?side4 A19.out).mono ?_); (case side1 => repeat (first | exact (Kd.R_reads' HO450.out).2.2 | (with_reducible refine Kd.C_alloc ?_ _) | (with_reducible refine Kd.C_drewN ?_ _) | (with_reducible refine Kd.C_drew ?_))); (case side2 => exact (Kd.R_reads' HO450.out).2.1); (case side3 => repeat (first | exact (Kd.R_reads' HO454.out).2.2 | (with_reducible refine Kd.C_alloc ?_ _) | (with_reducible refine Kd.C_drewN ?_ _) | (with_reducible refine Kd.C_drew ?_))); (case side4 => exact (Kd.R_reads' HO454.out).2.1); rintro e w' ⟨rfl, ⟨nd, rfl⟩⟩))
      go_meet
      case rel => exact ⟨_, (true), (by first | rfl | (simp; done) | (simp [*]; done)), H', ⟨by first | omega | exact Nat.le_refl _⟩, ⟨by (with_reducible repeat (first | apply Kd.R_alloc | apply Kd.R_drewN | apply Kd.R_drew)); exact Kd.R_mono HO454.out (fun _ hk => hk.2)⟩, ⟨by (with_reducible repeat (first | apply Kd.R_alloc | apply Kd.R_drewN | apply Kd.R_drew)); exact Kd.R_mono HO468.out (fun _ hk => hk.1.2)⟩, ⟨by repeat (first | (with_reducible first | exact HB.out | apply below_alloc | apply pw_below_drewN | apply below_drew1) | exact HB.out)⟩⟩
     ·rw [if_neg c21] at H
      have c21b0 : (t457 != t460) = false := by simpa using c21
      (try (have c21b1 : decide (t457 = t460) = true := by simpa using c21))
      (try (have c21b2 : (t457 == t460) = true := by simpa using c21))
      clear c21
      by_cases c24 : t455 = t458
      ·rw [if_pos c24] at H
       have c24b0 : (t455 == t458) = true := beq_iff_eq.mpr c24
       have c24b1 : (t455 != t458) = false := bne_eq_false_iff_eq.mpr c24
       clear c24
       by_cases c25 : t456 = t459
       ·rw [if_pos c25] at H
        have c25b0 : (t456 == t459) = true := beq_iff_eq.mpr c25
        have c25b1 : (t456 != t459) = false := bne_eq_false_iff_eq.mpr c25
        clear c25
        by_cases c26 : (t462 != t466) = true
        ·rw [if_pos c26] at H
         have c26b0 : (t462 != t466) = true := c26
         (try (have c26b1 : decide (t462 = t466) = false := by simpa using c26))
         (try (have c26b2 : (t462 == t466) = false := by simpa using c26))
         (try (have c26b3 : ¬ (t462 = t466) := by simpa using c26))
         clear c26
         have H' := Aside0.mk H
         clear H
         obtain ⟨Ao27, co27, eo27⟩ := Kd.R_slice HO450.out
         subst eo27
         obtain ⟨Ao28, co28, eo28⟩ := Kd.R_slice HO454.out
         subst eo28
         go_wp2_with (first | (go_at_call 44; (with_reducible refine (laws_sameInts.calls k _ _ t447 _ _ t451 true _ ?side1 ?side2 ?side3 ?side4 A19.out).mono ?_); (case side1 => repeat (first | exact (Kd.R_reads' HO450.out).2.2 | (with_reducible refine Kd.C_alloc ?_ _) | (with_reducible refine Kd.C_drewN ?_ _) | (with_reducible refine Kd.C_drew ?_))); (case side2 => exact (Kd.R_reads' HO450.out).2.1); (case side3 => repeat (first | exact (Kd.R_reads' HO454.out).2.2 | (with_reducible refine Kd.C_alloc ?_ _) | (with_reducible refine Kd.C_drewN ?_ _) | (with_reducible refine Kd.C_drew ?_))); (case side4 => exact (Kd.R_reads' HO454.out).2.1); rintro e w' ⟨rfl, ⟨nd, rfl⟩⟩))
         go_meet
         case rel => exact ⟨_, (true), (by first | rfl | (simp; done) | (simp [*]; done)), H', ⟨by first | omega | exact Nat.le_refl _⟩, ⟨by (with_reducible repeat (first | apply Kd.R_alloc | apply Kd.R_drewN | apply Kd.R_drew)); exact Kd.R_mono HO454.out (fun _ hk => hk.2)⟩, ⟨by (with_reducible repeat (first | apply Kd.R_alloc | apply Kd.R_drewN | apply Kd.R_drew)); exact Kd.R_mono HO468.out (fun _ hk => hk.1.2)⟩, ⟨by repeat (first | (with_reducible first | exact HB.out | apply below_alloc | apply pw_below_drewN | apply below_drew1) | exact HB.out)⟩⟩
        ·rw [if_neg c26] at H
         have c26b0 : (t462 != t466) = false := by simpa using c26
         (try (have c26b1 : decide (t462 = t466) = true := by simpa using c26))
         (try (have c26b2 : (t462 == t466) = true := by simpa using c26))
         clear c26
         replace H := Option.bind_eq_some_iff.mp H
         obtain ⟨t470, A290, H⟩ := H
         replace H : (if t470 = true then ((impl_AreQuotients.f k t444).bind fun t471 => ((spec_AreQuotients.f k t444).bind fun t472 => (laws_FnSturmian.j0 k l0 t448 t451 t455 t456 t457 t462 t465 (t471 != t472)))) else (laws_FnSturmian.j0 k l0 t448 t451 t455 t456 t457 t462 t465 true)) = some r := H
         have A29 := Aside0.mk A290
         clear A290
         by_cases c30 : t470 = true
         ·subst c30
          have H1 : ((impl_AreQuotients.f k t444).bind fun t471 => ((spec_AreQuotients.f k t444).bind fun t472 => (laws_FnSturmian.j0 k l0 t448 t451 t455 t456 t457 t462 t465 (t471 != t472)))) = some r := by rw [if_pos rfl] at H; exact H
          clear H
          have H := H1
          clear H1
          replace H := Option.bind_eq_some_iff.mp H
          obtain ⟨t471, A310, H⟩ := H
          replace H : ((spec_AreQuotients.f k t444).bind fun t472 => (laws_FnSturmian.j0 k l0 t448 t451 t455 t456 t457 t462 t465 (t471 != t472))) = some r := H
          have A31 := Aside0.mk A310
          clear A310
          replace H := Option.bind_eq_some_iff.mp H
          obtain ⟨t472, A320, H⟩ := H
          replace H : (laws_FnSturmian.j0 k l0 t448 t451 t455 t456 t457 t462 t465 (t471 != t472)) = some r := H
          have A32 := Aside0.mk A320
          clear A320
          have H' := Aside0.mk H
          clear H
          obtain ⟨Ao33, co33, eo33⟩ := Kd.R_slice HO450.out
          subst eo33
          obtain ⟨Ao34, co34, eo34⟩ := Kd.R_slice HO454.out
          subst eo34
          go_wp2_with (first | (go_at_call 44; (with_reducible refine (laws_sameInts.calls k _ _ t447 _ _ t451 true _ ?side1 ?side2 ?side3 ?side4 A19.out).mono ?_); (case side1 => repeat (first | exact (Kd.R_reads' HO450.out).2.2 | (with_reducible refine Kd.C_alloc ?_ _) | (with_reducible refine Kd.C_drewN ?_ _) | (with_reducible refine Kd.C_drew ?_))); (case side2 => exact (Kd.R_reads' HO450.out).2.1); (case side3 => repeat (first | exact (Kd.R_reads' HO454.out).2.2 | (with_reducible refine Kd.C_alloc ?_ _) | (with_reducible refine Kd.C_drewN ?_ _) | (with_reducible refine Kd.C_drew ?_))); (case side4 => exact (Kd.R_reads' HO454.out).2.1); rintro e w' ⟨rfl, ⟨nd, rfl⟩⟩; obtain ⟨Ao35, co35, eo35⟩ := Kd.R_slice HO464.out; subst eo35; obtain ⟨Ao36, co36, eo36⟩ := Kd.R_slice HO468.out; subst eo36) | (go_at_call 44; (with_reducible refine (laws_sameInts.calls k _ _ t461 _ _ t465 true _ ?side1 ?side2 ?side3 ?side4 A29.out).mono ?_); (case side1 => repeat (first | exact (Kd.R_reads' HO464.out).2.2 | (with_reducible refine Kd.C_alloc ?_ _) | (with_reducible refine Kd.C_drewN ?_ _) | (with_reducible refine Kd.C_drew ?_))); (case side2 => exact (Kd.R_reads' HO464.out).2.1); (case side3 => repeat (first | exact (Kd.R_reads' HO468.out).2.2 | (with_reducible refine Kd.C_alloc ?_ _) | (with_reducible refine Kd.C_drewN ?_ _) | (with_reducible refine Kd.C_drew ?_))); (case side4 => exact (Kd.R_reads' HO468.out).2.1); rintro e w' ⟨rfl, ⟨nd, rfl⟩⟩) | (go_at_call 45; (with_reducible refine (impl_AreQuotients.calls k _ _ t444 t471 _ ?side1 ?side2 A31.out).mono ?_); (case side1 => repeat (first | exact (Kd.R_reads' HO446.out).2.2 | (with_reducible refine Kd.C_alloc ?_ _) | (with_reducible refine Kd.C_drewN ?_ _) | (with_reducible refine Kd.C_drew ?_))); (case side2 => exact (Kd.R_reads' HO446.out).2.1); rintro e w' ⟨rfl, ⟨nd, rfl⟩⟩) | (go_at_call 46; (with_reducible refine (spec_AreQuotients.calls k _ _ t444 t472 _ ?side1 ?side2 A32.out).mono ?_); (case side1 => repeat (first | exact (Kd.R_reads' HO446.out).2.2 | (with_reducible refine Kd.C_alloc ?_ _) | (with_reducible refine Kd.C_drewN ?_ _) | (with_reducible refine Kd.C_drew ?_))); (case side2 => exact (Kd.R_reads' HO446.out).2.1); rintro e w' ⟨rfl, ⟨nd, rfl⟩⟩))
          go_meet
          case rel => exact ⟨_, ((t471 != t472)), (by first | rfl | (simp; done) | (simp [*]; done)), H', ⟨by first | omega | exact Nat.le_refl _⟩, ⟨by (with_reducible repeat (first | apply Kd.R_alloc | apply Kd.R_drewN | apply Kd.R_drew)); exact Kd.R_mono HO454.out (fun _ hk => hk.2)⟩, ⟨by (with_reducible repeat (first | apply Kd.R_alloc | apply Kd.R_drewN | apply Kd.R_drew)); exact Kd.R_mono HO468.out (fun _ hk => hk.1.2)⟩, ⟨by repeat (first | (with_reducible first | exact HB.out | apply below_alloc | apply pw_below_drewN | apply below_drew1) | exact HB.out)⟩⟩
         ·replace c30 := Bool.eq_false_iff.mpr c30
          subst c30
          have H1 : (laws_FnSturmian.j0 k l0 t448 t451 t455 t456 t457 t462 t465 true) = some r := by rw [if_neg (show ¬ (false = true) by decide)] at H; exact H
          clear H
          have H := H1
          clear H1
          have H' := Aside0.mk H
          clear H
          obtain ⟨Ao37, co37, eo37⟩ := Kd.R_slice HO450.out
          subst eo37
          obtain ⟨Ao38, co38, eo38⟩ := Kd.R_slice HO454.out
          subst eo38
          go_wp2_with (first | (go_at_call 44; (with_reducible refine (laws_sameInts.calls k _ _ t447 _ _ t451 true _ ?side1 ?side2 ?side3 ?side4 A19.out).mono ?_); (case side1 => repeat (first | exact (Kd.R_reads' HO450.out).2.2 | (with_reducible refine Kd.C_alloc ?_ _) | (with_reducible refine Kd.C_drewN ?_ _) | (with_reducible refine Kd.C_drew ?_))); (case side2 => exact (Kd.R_reads' HO450.out).2.1); (case side3 => repeat (first | exact (Kd.R_reads' HO454.out).2.2 | (with_reducible refine Kd.C_alloc ?_ _) | (with_reducible refine Kd.C_drewN ?_ _) | (with_reducible refine Kd.C_drew ?_))); (case side4 => exact (Kd.R_reads' HO454.out).2.1); rintro e w' ⟨rfl, ⟨nd, rfl⟩⟩; obtain ⟨Ao39, co39, eo39⟩ := Kd.R_slice HO464.out; subst eo39; obtain ⟨Ao40, co40, eo40⟩ := Kd.R_slice HO468.out; subst eo40) | (go_at_call 44; (with_reducible refine (laws_sameInts.calls k _ _ t461 _ _ t465 false _ ?side1 ?side2 ?side3 ?side4 A29.out).mono ?_); (case side1 => repeat (first | exact (Kd.R_reads' HO464.out).2.2 | (with_reducible refine Kd.C_alloc ?_ _) | (with_reducible refine Kd.C_drewN ?_ _) | (with_reducible refine Kd.C_drew ?_))); (case side2 => exact (Kd.R_reads' HO464.out).2.1); (case side3 => repeat (first | exact (Kd.R_reads' HO468.out).2.2 | (with_reducible refine Kd.C_alloc ?_ _) | (with_reducible refine Kd.C_drewN ?_ _) | (with_reducible refine Kd.C_drew ?_))); (case side4 => exact (Kd.R_reads' HO468.out).2.1); rintro e w' ⟨rfl, ⟨nd, rfl⟩⟩))
          go_meet
          case rel => exact ⟨_, (true), (by first | rfl | (simp; done) | (simp [*]; done)), H', ⟨by first | omega | exact Nat.le_refl _⟩, ⟨by (with_reducible repeat (first | apply Kd.R_alloc | apply Kd.R_drewN | apply Kd.R_drew)); exact Kd.R_mono HO454.out (fun _ hk => hk.2)⟩, ⟨by (with_reducible repeat (first | apply Kd.R_alloc | apply Kd.R_drewN | apply Kd.R_drew)); exact Kd.R_mono HO468.out (fun _ hk => hk.1.2)⟩, ⟨by repeat (first | (with_reducible first | exact HB.out | apply below_alloc | apply pw_below_drewN | apply below_drew1) | exact HB.out)⟩⟩
       ·rw [if_neg c25] at H
        have c25b0 : (t456 == t459) = false := beq_eq_false_iff_ne.mpr c25
        have c25b1 : (t456 != t459) = true := bne_iff_ne.mpr c25
        have H' := Aside0.mk H
        clear H
        obtain ⟨Ao41, co41, eo41⟩ := Kd.R_slice HO450.out
        subst eo41
        obtain ⟨Ao42, co42, eo42⟩ := Kd.R_slice HO454.out
        subst eo42
        go_wp2_with (first | (go_at_call 44; (with_reducible refine (laws_sameInts.calls k _ _ t447 _ _ t451 true _ ?side1 ?side2 ?side3 ?side4 A19.out).mono ?_); (case side1 => repeat (first | exact (Kd.R_reads' HO450.out).2.2 | (with_reducible refine Kd.C_alloc ?_ _) | (with_reducible refine Kd.C_drewN ?_ _) | (with_reducible refine Kd.C_drew ?_))); (case side2 => exact (Kd.R_reads' HO450.out).2.1); (case side3 => repeat (first | exact (Kd.R_reads' HO454.out).2.2 | (with_reducible refine Kd.C_alloc ?_ _) | (with_reducible refine Kd.C_drewN ?_ _) | (with_reducible refine Kd.C_drew ?_))); (case side4 => exact (Kd.R_reads' HO454.out).2.1); rintro e w' ⟨rfl, ⟨nd, rfl⟩⟩))
        go_meet
        case rel => exact ⟨_, (true), (by first | rfl | (simp; done) | (simp [*]; done)), H', ⟨by first | omega | exact Nat.le_refl _⟩, ⟨by (with_reducible repeat (first | apply Kd.R_alloc | apply Kd.R_drewN | apply Kd.R_drew)); exact Kd.R_mono HO454.out (fun _ hk => hk.2)⟩, ⟨by (with_reducible repeat (first | apply Kd.R_alloc | apply Kd.R_drewN | apply Kd.R_drew)); exact Kd.R_mono HO468.out (fun _ hk => hk.1.2)⟩, ⟨by repeat (first | (with_reducible first | exact HB.out | apply below_alloc | apply pw_below_drewN | apply below_drew1) | exact HB.out)⟩⟩
      ·rw [if_neg c24] at H
       have c24b0 : (t455 == t458) = false := beq_eq_false_iff_ne.mpr c24
       have c24b1 : (t455 != t458) = true := bne_iff_ne.mpr c24
       have H' := Aside0.mk H
       clear H
       obtain ⟨Ao43, co43, eo43⟩ := Kd.R_slice HO450.out
       subst eo43
       obtain ⟨Ao44, co44, eo44⟩ := Kd.R_slice HO454.out
       subst eo44
       go_wp2_with (first | (go_at_call 44; (with_reducible refine (laws_sameInts.calls k _ _ t447 _ _ t451 true _ ?side1 ?side2 ?side3 ?side4 A19.out).mono ?_); (case side1 => repeat (first | exact (Kd.R_reads' HO450.out).2.2 | (with_reducible refine Kd.C_alloc ?_ _) | (with_reducible refine Kd.C_drewN ?_ _) | (with_reducible refine Kd.C_drew ?_))); (case side2 => exact (Kd.R_reads' HO450.out).2.1); (case side3 => repeat (first | exact (Kd.R_reads' HO454.out).2.2 | (with_reducible refine Kd.C_alloc ?_ _) | (with_reducible refine Kd.C_drewN ?_ _) | (with_reducible refine Kd.C_drew ?_))); (case side4 => exact (Kd.R_reads' HO454.out).2.1); rintro e w' ⟨rfl, ⟨nd, rfl⟩⟩))
       go_meet
       case rel => exact ⟨_, (true), (by first | rfl | (simp; done) | (simp [*]; done)), H', ⟨by first | omega | exact Nat.le_refl _⟩, ⟨by (with_reducible repeat (first | apply Kd.R_alloc | apply Kd.R_drewN | apply Kd.R_drew)); exact Kd.R_mono HO454.out (fun _ hk => hk.2)⟩, ⟨by (with_reducible repeat (first | apply Kd.R_alloc | apply Kd.R_drewN | apply Kd.R_drew)); exact Kd.R_mono HO468.out (fun _ hk => hk.1.2)⟩, ⟨by repeat (first | (with_reducible first | exact HB.out | apply below_alloc | apply pw_below_drewN | apply below_drew1) | exact HB.out)⟩⟩
    ·replace c20 := Bool.eq_false_iff.mpr c20
     subst c20
     have H1 : (laws_FnSturmian.j0 k l0 t448 t451 t455 t456 t457 t462 t465 true) = some r := by rw [if_neg (show ¬ (false = true) by decide)] at H; exact H
     clear H
     have H := H1
     clear H1
     have H' := Aside0.mk H
     clear H
     obtain ⟨Ao45, co45, eo45⟩ := Kd.R_slice HO450.out
     subst eo45
     obtain ⟨Ao46, co46, eo46⟩ := Kd.R_slice HO454.out
     subst eo46
     go_wp2_with (first | (go_at_call 44; (with_reducible refine (laws_sameInts.calls k _ _ t447 _ _ t451 false _ ?side1 ?side2 ?side3 ?side4 A19.out).mono ?_); (case side1 => repeat (first | exact (Kd.R_reads' HO450.out).2.2 | (with_reducible refine Kd.C_alloc ?_ _) | (with_reducible refine Kd.C_drewN ?_ _) | (with_reducible refine Kd.C_drew ?_))); (case side2 => exact (Kd.R_reads' HO450.out).2.1); (case side3 => repeat (first | exact (Kd.R_reads' HO454.out).2.2 | (with_reducible refine Kd.C_alloc ?_ _) | (with_reducible refine Kd.C_drewN ?_ _) | (with_reducible refine Kd.C_drew ?_))); (case side4 => exact (Kd.R_reads' HO454.out).2.1); rintro e w' ⟨rfl, ⟨nd, rfl⟩⟩))
     go_meet
     case rel => exact ⟨_, (true), (by first | rfl | (simp; done) | (simp [*]; done)), H', ⟨by first | omega | exact Nat.le_refl _⟩, ⟨by (with_reducible repeat (first | apply Kd.R_alloc | apply Kd.R_drewN | apply Kd.R_drew)); exact Kd.R_mono HO454.out (fun _ hk => hk.2)⟩, ⟨by (with_reducible repeat (first | apply Kd.R_alloc | apply Kd.R_drewN | apply Kd.R_drew)); exact Kd.R_mono HO468.out (fun _ hk => hk.1.2)⟩, ⟨by repeat (first | (with_reducible first | exact HB.out | apply below_alloc | apply pw_below_drewN | apply below_drew1) | exact HB.out)⟩⟩
  case rest => as_aux_lemma =>
   clear HC11
   try clear c1
   try clear c2
   try clear p2
   try clear c3
   try clear c4
   try clear c13
   try clear c15
   try clear c17
   try clear c18
   try clear c18b0
   try clear c18b1
   try clear c18b2
   try clear c20
   try clear c21
   try clear c21b0
   try clear c21b1
   try clear c21b2
   try clear c23
   try clear c24
   try clear c24b0
   try clear c24b1
   try clear c25
   try clear c25b0
   try clear c25b1
   try clear c26
   try clear c26b0
   try clear c26b1
   try clear c26b2
   try clear c27
   try clear c28
   try clear c30
   try clear c42
   try clear c43
   obtain ⟨kq, x118_10, rfl, HA, HJ10, HO_6, HO_16, HB⟩ := hcut
   cases kq with
   | zero => exact absurd HA.out (by simp [laws_FnSturmian.j0])
   | succ kj10 =>
    have H := HA.out
    clear HA
    simp only [laws_FnSturmian.j0] at H
    by_cases c47 : x118_10 = true
    ·subst c47
     have H1 : (some false) = some r := by rw [if_pos rfl] at H; exact H
     clear H
     have H := H1
     clear H1
     obtain rfl := Option.some.inj H
     go_wp2
     go_ret
     exact ⟨by first | rfl | (simp [errW_none, errW_some] <;> rfl) | (simp [*, errW_none, errW_some] <;> rfl), by repeat (first | (with_reducible first | exact HB.out | apply below_alloc | apply pw_below_drewN | apply below_drew1) | exact HB.out)⟩
    ·replace c47 := Bool.eq_false_iff.mpr c47
     subst c47
     have H1 : (if t448 = true then (if (t451.length : Int) = t456 then ((spec_CountLetters.f kj10 t451 1).bind fun t473 => (if t473 = t455 then (if t462 = true then ((impl_IsPalindrome.f kj10 t465).bind fun t474 => (if t474 = true then (if (t451.length : Int) ≤ 64 then ((impl_IsBalanced.f kj10 t451).bind fun t475 => (laws_FnSturmian.j1 kj10 l0 t455 t456 t457 (!t475))) else (laws_FnSturmian.j1 kj10 l0 t455 t456 t457 false)) else (laws_FnSturmian.j1 kj10 l0 t455 t456 t457 true))) else (if (t451.length : Int) ≤ 64 then ((impl_IsBalanced.f kj10 t451).bind fun t476 => (laws_FnSturmian.j1 kj10 l0 t455 t456 t457 (!t476))) else (laws_FnSturmian.j1 kj10 l0 t455 t456 t457 false))) else (laws_FnSturmian.j1 kj10 l0 t455 t456 t457 true))) else (laws_FnSturmian.j1 kj10 l0 t455 t456 t457 true)) else (laws_FnSturmian.j1 kj10 l0 t455 t456 t457 false)) = some r := by rw [if_neg (show ¬ (false = true) by decide)] at H; exact H
     clear H
     have H := H1
     clear H1
     have HC48 := Aside0.mk H
     clear H
     go_upto_region 12 with (fail)
     go_cut [149] (fun v149 wc => ∃ (kq : Nat) (x149_47 : Bool), v149 = .bool x149_47 ∧ Aside0 (laws_FnSturmian.j1 kq l0 t455 t456 t457 x149_47 = some r) ∧ Aside0 (kq ≤ kj10) ∧ Aside0 (Below w.heap.size w wc))
     case first => as_aux_lemma =>
      have H := HC48.out
      clear HC48
      by_cases c49 : t448 = true
      ·subst c49
       have H1 : (if (t451.length : Int) = t456 then ((spec_CountLetters.f kj10 t451 1).bind fun t473 => (if t473 = t455 then (if t462 = true then ((impl_IsPalindrome.f kj10 t465).bind fun t474 => (if t474 = true then (if (t451.length : Int) ≤ 64 then ((impl_IsBalanced.f kj10 t451).bind fun t475 => (laws_FnSturmian.j1 kj10 l0 t455 t456 t457 (!t475))) else (laws_FnSturmian.j1 kj10 l0 t455 t456 t457 false)) else (laws_FnSturmian.j1 kj10 l0 t455 t456 t457 true))) else (if (t451.length : Int) ≤ 64 then ((impl_IsBalanced.f kj10 t451).bind fun t476 => (laws_FnSturmian.j1 kj10 l0 t455 t456 t457 (!t476))) else (laws_FnSturmian.j1 kj10 l0 t455 t456 t457 false))) else (laws_FnSturmian.j1 kj10 l0 t455 t456 t457 true))) else (laws_FnSturmian.j1 kj10 l0 t455 t456 t457 true)) = some r := by rw [if_pos rfl] at H; exact H
       clear H
       have H := H1
       clear H1
       by_cases c50 : (t451.length : Int) = t456
       ·rw [if_pos c50] at H
        have c50b0 : ((t451.length : Int) == t456) = true := beq_iff_eq.mpr c50
        have c50b1 : ((t451.length : Int) != t456) = false := bne_eq_false_iff_eq.mpr c50
        clear c50
        (first | rw [c50b0] | (simp only [i64_w, i32_w]; rw [c50b0]) | skip)
        replace H := Option.bind_eq_some_iff.mp H
        obtain ⟨t473, A510, H⟩ := H
        replace H : (if t473 = t455 then (if t462 = true then ((impl_IsPalindrome.f kj10 t465).bind fun t474 => (if t474 = true then (if (t451.length : Int) ≤ 64 then ((impl_IsBalanced.f kj10 t451).bind fun t475 => (laws_FnSturmian.j1 kj10 l0 t455 t456 t457 (!t475))) else (laws_FnSturmian.j1 kj10 l0 t455 t456 t457 false)) else (laws_FnSturmian.j1 kj10 l0 t455 t456 t457 true))) else (if (t451.length : Int) ≤ 64 then ((impl_IsBalanced.f kj10 t451).bind fun t476 => (laws_FnSturmian.j1 kj10 l0 t455 t456 t457 (!t476))) else (laws_FnSturmian.j1 kj10 l0 t455 t456 t457 false))) else (laws_FnSturmian.j1 kj10 l0 t455 t456 t457 true)) = some r := H
        have A51 := Aside0.mk A510
        clear A510
        by_cases c52 : t473 = t455
        ·rw [if_pos c52] at H
         have c52b0 : (t473 == t455) = true := beq_iff_eq.mpr c52
         have c52b1 : (t473 != t455) = false := bne_eq_false_iff_eq.mpr c52
         clear c52
         by_cases c53 : t462 = true
         ·subst c53
          have H1 : ((impl_IsPalindrome.f kj10 t465).bind fun t474 => (if t474 = true then (if (t451.length : Int) ≤ 64 then ((impl_IsBalanced.f kj10 t451).bind fun t475 => (laws_FnSturmian.j1 kj10 l0 t455 t456 t457 (!t475))) else (laws_FnSturmian.j1 kj10 l0 t455 t456 t457 false)) else (laws_FnSturmian.j1 kj10 l0 t455 t456 t457 true))) = some r := by rw [if_pos rfl] at H; exact H
          clear H
          have H := H1
          clear H1
          replace H := Option.bind_eq_some_iff.mp H
          obtain ⟨t474, A540, H⟩ := H
          replace H : (if t474 = true then (if (t451.length : Int) ≤ 64 then ((impl_IsBalanced.f kj10 t451).bind fun t475 => (laws_FnSturmian.j1 kj10 l0 t455 t456 t457 (!t475))) else (laws_FnSturmian.j1 kj10 l0 t455 t456 t457 false)) else (laws_FnSturmian.j1 kj10 l0 t455 t456 t457 true)) = some r := H
          have A54 := Aside0.mk A540
          clear A540
          by_cases c55 : t474 = true
          ·subst c55
           have H1 : (if (t451.length : Int) ≤ 64 then ((impl_IsBalanced.f kj10 t451).bind fun t475 => (laws_FnSturmian.j1 kj10 l0 t455 t456 t457 (!t475))) else (laws_FnSturmian.j1 kj10 l0 t455 t456 t457 false)) = some r := by rw [if_pos rfl] at H; exact H
           clear H
           have H := H1
           clear H1
           by_cases c56 : (t451.length : Int) ≤ 64
           ·rw [if_pos c56] at H
            have c56b0 : decide ((t451.length : Int) ≤ 64) = true := decide_eq_true c56
            have c56b1 : decide (t451.length ≤ 64) = true := decide_eq_true (by omega)
            clear c56
            replace H := Option.bind_eq_some_iff.mp H
            obtain ⟨t475, A570, H⟩ := H
            replace H : (laws_FnSturmian.j1 kj10 l0 t455 t456 t457 (!t475)) = some r := H
            have A57 := Aside0.mk A570
            clear A570
            have H' := Aside0.mk H
            clear H
            obtain ⟨Ao58, co58, eo58⟩ := Kd.R_slice HO_6.out
            subst eo58
            go_wp2_with (first | (go_at_call 47; (with_reducible refine (spec_CountLetters.calls kj10 _ _ t451 1 t473 _ ?side1 ?side2 A51.out).mono ?_); (case side1 => repeat (first | exact (Kd.R_reads' HO_6.out).2.2 | (with_reducible refine Kd.C_alloc ?_ _) | (with_reducible refine Kd.C_drewN ?_ _) | (with_reducible refine Kd.C_drew ?_))); (case side2 => exact (Kd.R_reads' HO_6.out).2.1); rintro e w' ⟨rfl, ⟨nd, rfl⟩⟩; obtain ⟨Ao59, co59, eo59⟩ := Kd.R_slice HO_16.out; subst eo59) | (go_at_call 48; (with_reducible refine (impl_IsPalindrome.calls kj10 _ _ t465 true _ ?side1 ?side2 A54.out).mono ?_); (case side1 => repeat (first | exact (Kd.R_reads' HO_16.out).2.2 | (with_reducible refine Kd.C_alloc ?_ _) | (with_reducible refine Kd.C_drewN ?_ _) | (with_reducible refine Kd.C_drew ?_))); (case side2 => exact (Kd.R_reads' HO_16.out).2.1); rintro e w' ⟨rfl, ⟨nd, rfl⟩⟩) | (go_at_call 49; (with_reducible refine (impl_IsBalanced.calls kj10 _ _ t451 t475 _ ?side1 ?side2 A57.out).mono ?_); (case side1 => repeat (first | exact (Kd.R_reads' HO_6.out).2.2 | (with_reducible refine Kd.C_alloc ?_ _) | (with_reducible refine Kd.C_drewN ?_ _) | (with_reducible refine Kd.C_drew ?_))); (case side2 => exact (Kd.R_reads' HO_6.out).2.1); rintro e w60 ⟨rfl, hb⟩; have n0_ := Aside0.mk (Kd.R_below (by (with_reducible repeat (first | apply Kd.R_alloc | apply Kd.R_drewN | apply Kd.R_drew)); exact HO_6.out) hb); have n1_ := Aside0.mk (Kd.R_below (by (with_reducible repeat (first | apply Kd.R_alloc | apply Kd.R_drewN | apply Kd.R_drew)); exact HO_16.out) hb); have n2_ := Aside0.mk (below_step (by repeat (first | (with_reducible first | exact HB.out | apply below_alloc | apply pw_below_drewN | apply below_drew1) | exact HB.out)) hb); clear HO_6; clear HO_16; clear HB; have HO_6 := n0_; have HO_16 := n1_; have HB := n2_; clear n0_ n1_ n2_; (try clear hb); (try clear hb2); (try clear hk); (try clear hi)))
            go_meet
            case rel => exact ⟨_, (!t475), (by first | rfl | (simp; done) | (simp [*]; done)), H', ⟨by have := HJ10.out; first | omega | exact Nat.le_refl _⟩, ⟨by repeat (first | (with_reducible first | exact HB.out | apply below_alloc | apply pw_below_drewN | apply below_drew1) | exact HB.out)⟩⟩
           ·rw [if_neg c56] at H
            have c56b0 : decide ((t451.length : Int) ≤ 64) = false := decide_eq_false c56
            have c56b1 : decide (t451.length ≤ 64) = false := decide_eq_false (by omega)
            clear c56
            have H' := Aside0.mk H
            clear H
            obtain ⟨Ao61, co61, eo61⟩ := Kd.R_slice HO_6.out
            subst eo61
            go_wp2_with (first | (go_at_call 47; (with_reducible refine (spec_CountLetters.calls kj10 _ _ t451 1 t473 _ ?side1 ?side2 A51.out).mono ?_); (case side1 => repeat (first | exact (Kd.R_reads' HO_6.out).2.2 | (with_reducible refine Kd.C_alloc ?_ _) | (with_reducible refine Kd.C_drewN ?_ _) | (with_reducible refine Kd.C_drew ?_))); (case side2 => exact (Kd.R_reads' HO_6.out).2.1); rintro e w' ⟨rfl, ⟨nd, rfl⟩⟩; obtain ⟨Ao62, co62, eo62⟩ := Kd.R_slice HO_16.out; subst eo62) | (go_at_call 48; (with_reducible refine (impl_IsPalindrome.calls kj10 _ _ t465 true _ ?side1 ?side2 A54.out).mono ?_); (case side1 => repeat (first | exact (Kd.R_reads' HO_16.out).2.2 | (with_reducible refine Kd.C_alloc ?_ _) | (with_reducible refine Kd.C_drewN ?_ _) | (with_reducible refine Kd.C_drew ?_))); (case side2 => exact (Kd.R_reads' HO_16.out).2.1); rintro e w' ⟨rfl, ⟨nd, rfl⟩⟩))
            go_meet
            case rel => exact ⟨_, (false), (by first | rfl | (simp; done) | (simp [*]; done)), H', ⟨by have := HJ10.out; first | omega | exact Nat.le_refl _⟩, ⟨by repeat (first | (with_reducible first | exact HB.out | apply below_alloc | apply pw_below_drewN | apply below_drew1) | exact HB.out)⟩⟩
          ·replace c55 := Bool.eq_false_iff.mpr c55
           subst c55
           have H1 : (laws_FnSturmian.j1 kj10 l0 t455 t456 t457 true) = some r := by rw [if_neg (show ¬ (false = true) by decide)] at H; exact H
           clear H
           have H := H1
           clear H1
           have H' := Aside0.mk H
           clear H
           obtain ⟨Ao63, co63, eo63⟩ := Kd.R_slice HO_6.out
           subst eo63
           go_wp2_with (first | (go_at_call 47; (with_reducible refine (spec_CountLetters.calls kj10 _ _ t451 1 t473 _ ?side1 ?side2 A51.out).mono ?_); (case side1 => repeat (first | exact (Kd.R_reads' HO_6.out).2.2 | (with_reducible refine Kd.C_alloc ?_ _) | (with_reducible refine Kd.C_drewN ?_ _) | (with_reducible refine Kd.C_drew ?_))); (case side2 => exact (Kd.R_reads' HO_6.out).2.1); rintro e w' ⟨rfl, ⟨nd, rfl⟩⟩; obtain ⟨Ao64, co64, eo64⟩ := Kd.R_slice HO_16.out; subst eo64) | (go_at_call 48; (with_reducible refine (impl_IsPalindrome.calls kj10 _ _ t465 false _ ?side1 ?side2 A54.out).mono ?_); (case side1 => repeat (first | exact (Kd.R_reads' HO_16.out).2.2 | (with_reducible refine Kd.C_alloc ?_ _) | (with_reducible refine Kd.C_drewN ?_ _) | (with_reducible refine Kd.C_drew ?_))); (case side2 => exact (Kd.R_reads' HO_16.out).2.1); rintro e w' ⟨rfl, ⟨nd, rfl⟩⟩))
           go_meet
           case rel => exact ⟨_, (true), (by first | rfl | (simp; done) | (simp [*]; done)), H', ⟨by have := HJ10.out; first | omega | exact Nat.le_refl _⟩, ⟨by repeat (first | (with_reducible first | exact HB.out | apply below_alloc | apply pw_below_drewN | apply below_drew1) | exact HB.out)⟩⟩
         ·replace c53 := Bool.eq_false_iff.mpr c53
          subst c53
          have H1 : (if (t451.length : Int) ≤ 64 then ((impl_IsBalanced.f kj10 t451).bind fun t476 => (laws_FnSturmian.j1 kj10 l0 t455 t456 t457 (!t476))) else (laws_FnSturmian.j1 kj10 l0 t455 t456 t457 false)) = some r := by rw [if_neg (show ¬ (false = true) by decide)] at H; exact H
          clear H
          have H := H1
          clear H1
          by_cases c65 : (t451.length : Int) ≤ 64
          ·rw [if_pos c65] at H
           have c65b0 : decide ((t451.length : Int) ≤ 64) = true := decide_eq_true c65
           have c65b1 : decide (t451.length ≤ 64) = true := decide_eq_true (by omega)
           clear c65
           replace H := Option.bind_eq_some_iff.mp H
           obtain ⟨t476, A660, H⟩ := H
           replace H : (laws_FnSturmian.j1 kj10 l0 t455 t456 t457 (!t476)) = some r := H
           have A66 := Aside0.mk A660
           clear A660
           have H' := Aside0.mk H
           clear H
           obtain ⟨Ao67, co67, eo67⟩ := Kd.R_slice HO_6.out
           subst eo67
           go_wp2_with (first | (go_at_call 47; (with_reducible refine (spec_CountLetters.calls kj10 _ _ t451 1 t473 _ ?side1 ?side2 A51.out).mono ?_); (case side1 => repeat (first | exact (Kd.R_reads' HO_6.out).2.2 | (with_reducible refine Kd.C_alloc ?_ _) | (with_reducible refine Kd.C_drewN ?_ _) | (with_reducible refine Kd.C_drew ?_))); (case side2 => exact (Kd.R_reads' HO_6.out).2.1); rintro e w' ⟨rfl, ⟨nd, rfl⟩⟩) | (go_at_call 49; (with_reducible refine (impl_IsBalanced.calls kj10 _ _ t451 t476 _ ?side1 ?side2 A66.out).mono ?_); (case side1 => repeat (first | exact (Kd.R_reads' HO_6.out).2.2 | (with_reducible refine Kd.C_alloc ?_ _) | (with_reducible refine Kd.C_drewN ?_ _) | (with_reducible refine Kd.C_drew ?_))); (case side2 => exact (Kd.R_reads' HO_6.out).2.1); rintro e w68 ⟨rfl, hb⟩; have n0_ := Aside0.mk (Kd.R_below (by (with_reducible repeat (first | apply Kd.R_alloc | apply Kd.R_drewN | apply Kd.R_drew)); exact HO_6.out) hb); have n1_ := Aside0.mk (Kd.R_below (by (with_reducible repeat (first | apply Kd.R_alloc | apply Kd.R_drewN | apply Kd.R_drew)); exact HO_16.out) hb); have n2_ := Aside0.mk (below_step (by repeat (first | (with_reducible first | exact HB.out | apply below_alloc | apply pw_below_drewN | apply below_drew1) | exact HB.out)) hb); clear HO_6; clear HO_16; clear HB; have HO_6 := n0_; have HO_16 := n1_; have HB := n2_; clear n0_ n1_ n2_; (try clear hb); (try clear hb2); (try clear hk); (try clear hi)))
           go_meet
           case rel => exact ⟨_, (!t476), (by first | rfl | (simp; done) | (simp [*]; done)), H', ⟨by have := HJ10.out; first | omega | exact Nat.le_refl _⟩, ⟨by repeat (first | (with_reducible first | exact HB.out | apply below_alloc | apply pw_below_drewN | apply below_drew1) | exact HB.out)⟩⟩
          ·rw [if_neg c65] at H
           have c65b0 : decide ((t451.length : Int) ≤ 64) = false := decide_eq_false c65
           have c65b1 : decide (t451.length ≤ 64) = false := decide_eq_false (by omega)
           clear c65
           have H' := Aside0.mk H
           clear H
           obtain ⟨Ao69, co69, eo69⟩ := Kd.R_slice HO_6.out
           subst eo69
           go_wp2_with (first | (go_at_call 47; (with_reducible refine (spec_CountLetters.calls kj10 _ _ t451 1 t473 _ ?side1 ?side2 A51.out).mono ?_); (case side1 => repeat (first | exact (Kd.R_reads' HO_6.out).2.2 | (with_reducible refine Kd.C_alloc ?_ _) | (with_reducible refine Kd.C_drewN ?_ _) | (with_reducible refine Kd.C_drew ?_))); (case side2 => exact (Kd.R_reads' HO_6.out).2.1); rintro e w' ⟨rfl, ⟨nd, rfl⟩⟩))
           go_meet
           case rel => exact ⟨_, (false), (by first | rfl | (simp; done) | (simp [*]; done)), H', ⟨by have := HJ10.out; first | omega | exact Nat.le_refl _⟩, ⟨by repeat (first | (with_reducible first | exact HB.out | apply below_alloc | apply pw_below_drewN | apply below_drew1) | exact HB.out)⟩⟩
        ·rw [if_neg c52] at H
         have c52b0 : (t473 == t455) = false := beq_eq_false_iff_ne.mpr c52
         have c52b1 : (t473 != t455) = true := bne_iff_ne.mpr c52
         have H' := Aside0.mk H
         clear H
         obtain ⟨Ao70, co70, eo70⟩ := Kd.R_slice HO_6.out
         subst eo70
         go_wp2_with (first | (go_at_call 47; (with_reducible refine (spec_CountLetters.calls kj10 _ _ t451 1 t473 _ ?side1 ?side2 A51.out).mono ?_); (case side1 => repeat (first | exact (Kd.R_reads' HO_6.out).2.2 | (with_reducible refine Kd.C_alloc ?_ _) | (with_reducible refine Kd.C_drewN ?_ _) | (with_reducible refine Kd.C_drew ?_))); (case side2 => exact (Kd.R_reads' HO_6.out).2.1); rintro e w' ⟨rfl, ⟨nd, rfl⟩⟩))
         go_meet
         case rel => exact ⟨_, (true), (by first | rfl | (simp; done) | (simp [*]; done)), H', ⟨by have := HJ10.out; first | omega | exact Nat.le_refl _⟩, ⟨by repeat (first | (with_reducible first | exact HB.out | apply below_alloc | apply pw_below_drewN | apply below_drew1) | exact HB.out)⟩⟩
       ·rw [if_neg c50] at H
        have c50b0 : ((t451.length : Int) == t456) = false := beq_eq_false_iff_ne.mpr c50
        have c50b1 : ((t451.length : Int) != t456) = true := bne_iff_ne.mpr c50
        (first | rw [c50b0] | (simp only [i64_w, i32_w]; rw [c50b0]) | skip)
        have H' := Aside0.mk H
        clear H
        obtain ⟨Ao71, co71, eo71⟩ := Kd.R_slice HO_6.out
        subst eo71
        go_wp2
        go_meet
        case rel => exact ⟨_, (true), (by first | rfl | (simp; done) | (simp [*]; done)), H', ⟨by have := HJ10.out; first | omega | exact Nat.le_refl _⟩, ⟨by repeat (first | (with_reducible first | exact HB.out | apply below_alloc | apply pw_below_drewN | apply below_drew1) | exact HB.out)⟩⟩
      ·replace c49 := Bool.eq_false_iff.mpr c49
       subst c49
       have H1 : (laws_FnSturmian.j1 kj10 l0 t455 t456 t457 false) = some r := by rw [if_neg (show ¬ (false = true) by decide)] at H; exact H
       clear H
       have H := H1
       clear H1
       have H' := Aside0.mk H
       clear H
       go_wp2
       go_meet
       case rel => exact ⟨_, (false), (by first | rfl | (simp; done) | (simp [*]; done)), H', ⟨by have := HJ10.out; first | omega | exact Nat.le_refl _⟩, ⟨by repeat (first | (with_reducible first | exact HB.out | apply below_alloc | apply pw_below_drewN | apply below_drew1) | exact HB.out)⟩⟩
     case rest => as_aux_lemma =>
      clear HC48
      try clear c1
      try clear c2
      try clear p2
      try clear c3
      try clear c4
      try clear c5
      try clear c6
      try clear c13
      try clear c15
      try clear c17
      try clear c18
      try clear c18b0
      try clear c18b1
      try clear c18b2
      try clear c20
      try clear c21
      try clear c21b0
      try clear c21b1
      try clear c21b2
      try clear c23
      try clear c24
      try clear c24b0
      try clear c24b1
      try clear c25
      try clear c25b0
      try clear c25b1
      try clear c26
      try clear c26b0
      try clear c26b1
      try clear c26b2
      try clear c27
      try clear c28
      try clear c30
      try clear c42
      try clear c43
      try clear c47
      try clear c49
      try clear c50
      try clear c50b0
      try clear c50b1
      try clear c52
      try clear c52b0
      try clear c52b1
      try clear c53
      try clear c55
      try clear c56
      try clear c56b0
      try clear c56b1
      try clear c65
      try clear c65b0
      try clear c65b1
      try clear p2
      obtain ⟨kq, x149_47, rfl, HA, HJ47, HB⟩ := hcut
      cases kq with
      | zero => exact absurd HA.out (by simp [laws_FnSturmian.j1])
      | succ kj47 =>
       have H := HA.out
       clear HA
       simp only [laws_FnSturmian.j1] at H
       by_cases c72 : x149_47 = true
       ·subst c72
        have H1 : (some false) = some r := by rw [if_pos rfl] at H; exact H
        clear H
        have H := H1
        clear H1
        obtain rfl := Option.some.inj H
        go_wp2
        go_ret
        exact ⟨by first | rfl | (simp [errW_none, errW_some] <;> rfl) | (simp [*, errW_none, errW_some] <;> rfl), by repeat (first | (with_reducible first | exact HB.out | apply below_alloc | apply pw_below_drewN | apply below_drew1) | exact HB.out)⟩
       ·replace c72 := Bool.eq_false_iff.mpr c72
        subst c72
        have H1 : (if t457 = true then ((laws_gcd.f kj47 t456 t455).bind fun t477 => (laws_FnSturmian.j2 kj47 l0 (t477 != 1))) else (laws_FnSturmian.j2 kj47 l0 false)) = some r := by rw [if_neg (show ¬ (false = true) by decide)] at H; exact H
        clear H
        have H := H1
        clear H1
        have HC73 := Aside0.mk H
        clear H
        go_upto_region 14 with (fail)
        go_cut [156] (fun v156 wc => ∃ (kq : Nat) (x156_72 : Bool), v156 = .bool x156_72 ∧ Aside0 (laws_FnSturmian.j2 kq l0 x156_72 = some r) ∧ Aside0 (kq ≤ kj47) ∧ Aside0 (Below w.heap.size w wc))
        case first => as_aux_lemma =>
         have H := HC73.out
         clear HC73
         by_cases c74 : t457 = true
         ·subst c74
          have H1 : ((laws_gcd.f kj47 t456 t455).bind fun t477 => (laws_FnSturmian.j2 kj47 l0 (t477 != 1))) = some r := by rw [if_pos rfl] at H; exact H
          clear H
          have H := H1
          clear H1
          replace H := Option.bind_eq_some_iff.mp H
          obtain ⟨t477, A750, H⟩ := H
          replace H : (laws_FnSturmian.j2 kj47 l0 (t477 != 1)) = some r := H
          have A75 := Aside0.mk A750
          clear A750
          have H' := Aside0.mk H
          clear H
          go_wp2_with (first | (go_at_call 50; (with_reducible refine (laws_gcd.calls kj47 t456 t455 t477 _ A75.out).mono ?_); rintro e w' ⟨rfl, ⟨nd, rfl⟩⟩))
          go_meet
          case rel => exact ⟨_, ((t477 != 1)), (by first | rfl | (simp; done) | (simp [*]; done)), H', ⟨by have := HJ10.out; have := HJ47.out; first | omega | exact Nat.le_refl _⟩, ⟨by repeat (first | (with_reducible first | exact HB.out | apply below_alloc | apply pw_below_drewN | apply below_drew1) | exact HB.out)⟩⟩
         ·replace c74 := Bool.eq_false_iff.mpr c74
          subst c74
          have H1 : (laws_FnSturmian.j2 kj47 l0 false) = some r := by rw [if_neg (show ¬ (false = true) by decide)] at H; exact H
          clear H
          have H := H1
          clear H1
          have H' := Aside0.mk H
          clear H
          go_wp2
          go_meet
          case rel => exact ⟨_, (false), (by first | rfl | (simp; done) | (simp [*]; done)), H', ⟨by have := HJ10.out; have := HJ47.out; first | omega | exact Nat.le_refl _⟩, ⟨by repeat (first | (with_reducible first | exact HB.out | apply below_alloc | apply pw_below_drewN | apply below_drew1) | exact HB.out)⟩⟩
        case rest => as_aux_lemma =>
         clear HC73
         try clear c1
         try clear c2
         try clear p2
         try clear c3
         try clear c4
         try clear c5
         try clear c6
         try clear c7
         try clear c13
         try clear c15
         try clear c17
         try clear c18
         try clear c18b0
         try clear c18b1
         try clear c18b2
         try clear c20
         try clear c21
         try clear c21b0
         try clear c21b1
         try clear c21b2
         try clear c23
         try clear c24
         try clear c24b0
         try clear c24b1
         try clear c25
         try clear c25b0
         try clear c25b1
         try clear c26
         try clear c26b0
         try clear c26b1
         try clear c26b2
         try clear c27
         try clear c28
         try clear c30
         try clear c42
         try clear c43
         try clear c47
         try clear c49
         try clear c50
         try clear c50b0
         try clear c50b1
         try clear c52
         try clear c52b0
         try clear c52b1
         try clear c53
         try clear c55
         try clear c56
         try clear c56b0
         try clear c56b1
         try clear c65
         try clear c65b0
         try clear c65b1
         try clear c72
         try clear c74
         try clear p2
         obtain ⟨kq, x156_72, rfl, HA, HJ72, HB⟩ := hcut
         cases kq with
         | zero => exact absurd HA.out (by simp [laws_FnSturmian.j2])
         | succ kj72 =>
          have H := HA.out
          clear HA
          simp only [laws_FnSturmian.j2] at H
          by_cases c76 : x156_72 = true
          ·subst c76
           have H1 : (some false) = some r := by rw [if_pos rfl] at H; exact H
           clear H
           have H := H1
           clear H1
           obtain rfl := Option.some.inj H
           go_wp2
           go_ret
           exact ⟨by first | rfl | (simp [errW_none, errW_some] <;> rfl) | (simp [*, errW_none, errW_some] <;> rfl), by repeat (first | (with_reducible first | exact HB.out | apply below_alloc | apply pw_below_drewN | apply below_drew1) | exact HB.out)⟩
          ·replace c76 := Bool.eq_false_iff.mpr c76
           subst c76
           have H1 : ((spec_DrawQuotientsOf.f kj72 l0).bind fun bt478 => ((impl_QuotientsOf.f kj72 bt478.1 bt478.2).bind fun bt480 => ((spec_QuotientsOf.f kj72 bt478.1 bt478.2).bind fun bt484 => (if (bt480.2 != bt484.2) = true then (laws_FnSturmian.j3 kj72 l0 bt478.1 bt478.2 bt480.2 bt484.1 true) else ((laws_sameInts.f kj72 bt480.1 bt484.1).bind fun t488 => (laws_FnSturmian.j3 kj72 l0 bt478.1 bt478.2 bt480.2 bt484.1 (!t488))))))) = some r := by rw [if_neg (show ¬ (false = true) by decide)] at H; exact H
           clear H
           have H := H1
           clear H1
           replace H := Option.bind_eq_some_iff.mp H
           obtain ⟨⟨t478, t479⟩, A770, H⟩ := H
           replace H : ((impl_QuotientsOf.f kj72 t478 t479).bind fun bt480 => ((spec_QuotientsOf.f kj72 t478 t479).bind fun bt484 => (if (bt480.2 != bt484.2) = true then (laws_FnSturmian.j3 kj72 l0 t478 t479 bt480.2 bt484.1 true) else ((laws_sameInts.f kj72 bt480.1 bt484.1).bind fun t488 => (laws_FnSturmian.j3 kj72 l0 t478 t479 bt480.2 bt484.1 (!t488)))))) = some r := H
           have A77 := Aside0.mk A770
           clear A770
           replace H := Option.bind_eq_some_iff.mp H
           obtain ⟨⟨t480, t481⟩, A780, H⟩ := H
           replace H : ((spec_QuotientsOf.f kj72 t478 t479).bind fun bt484 => (if (t481 != bt484.2) = true then (laws_FnSturmian.j3 kj72 l0 t478 t479 t481 bt484.1 true) else ((laws_sameInts.f kj72 t480 bt484.1).bind fun t488 => (laws_FnSturmian.j3 kj72 l0 t478 t479 t481 bt484.1 (!t488))))) = some r := H
           have A78 := Aside0.mk A780
           clear A780
           replace H := Option.bind_eq_some_iff.mp H
           obtain ⟨⟨t484, t485⟩, A790, H⟩ := H
           replace H : (if (t481 != t485) = true then (laws_FnSturmian.j3 kj72 l0 t478 t479 t481 t484 true) else ((laws_sameInts.f kj72 t480 t484).bind fun t488 => (laws_FnSturmian.j3 kj72 l0 t478 t479 t481 t484 (!t488)))) = some r := H
           have A79 := Aside0.mk A790
           clear A790
           have HC80 := Aside0.mk H
           clear H
           go_upto_region 19 with (first | ((with_reducible refine gate_callee (f := 51) rfl ?_); refine goesL_ (some 159) rfl rfl Try.func51 (by kernel_rfl) rfl #[.slice A0 l0.length c0] rfl (by (try simp only [List.map_toArray, List.map_cons, List.map_nil]); first | done | rfl | (simp only [List.length_drop, List.length_take]; rfl)) ?_; (with_reducible refine (spec_DrawQuotientsOf.calls kj72 _ _ l0 t478 t479 _ ?side1 ?side2 A77.out).mono ?_); (case side1 => repeat (first | exact (Kd.C_below HR0.out HB.out) | (with_reducible refine Kd.C_alloc ?_ _) | (with_reducible refine Kd.C_drewN ?_ _) | (with_reducible refine Kd.C_drew ?_))); (case side2 => exact HC0.out); rintro e w81 ⟨rfl, hb⟩; refine ⟨_, rfl, ?_⟩; have n0_ := Aside0.mk (below_step (by repeat (first | (with_reducible first | exact HB.out | apply below_alloc | apply pw_below_drewN | apply below_drew1) | exact HB.out)) hb); clear HB; have HB := n0_; clear n0_; (try clear hb); (try clear hb2); (try clear hk); (try clear hi)) | ((with_reducible refine gate_callee (f := 20) rfl ?_); refine goesL_ (some 165) rfl rfl Try.func20 (by kernel_rfl) rfl #[.int .i64 t478, .int .i64 t479] rfl (by (try simp only [List.map_toArray, List.map_cons, List.map_nil]); first | done | rfl | (simp only [List.length_drop, List.length_take]; rfl)) ?_; (with_reducible refine (impl_QuotientsOf.calls kj72 t478 t479 t480 t481 _ A78.out).mono ?_); rintro e w82 ⟨v482, rfl, ho0, hb⟩; refine ⟨_, rfl, ?_⟩; have n0_ := Aside0.mk (Kd.R_lower ho0 (below_size (by repeat (first | (with_reducible first | exact HB.out | apply below_alloc | apply pw_below_drewN | apply below_drew1) | exact HB.out)))); have n1_ := Aside0.mk (below_step (by repeat (first | (with_reducible first | exact HB.out | apply below_alloc | apply pw_below_drewN | apply below_drew1) | exact HB.out)) hb); clear HB; have HO483 := n0_; have HB := n1_; clear n0_ n1_; (try clear hb); (try clear hb2); (try clear hk); (try clear hi); (try clear ho0)) | ((with_reducible refine gate_callee (f := 19) rfl ?_); refine goesL_ (some 171) rfl rfl Try.func19 (by kernel_rfl) rfl #[.int .i64 t478, .int .i64 t479] rfl (by (try simp only [List.map_toArray, List.map_cons, List.map_nil]); first | done | rfl | (simp only [List.length_drop, List.length_take]; rfl)) ?_; (with_reducible refine (spec_QuotientsOf.calls kj72 t478 t479 t484 t485 _ A79.out).mono ?_); rintro e w83 ⟨v486, rfl, ho0, hb⟩; refine ⟨_, rfl, ?_⟩; have n0_ := Aside0.mk (Kd.R_elder' (by (with_reducible repeat (first | apply Kd.R_alloc | apply Kd.R_drewN | apply Kd.R_drew)); exact HO483.out) (Kd.R_base ho0) hb); have n1_ := Aside0.mk (Kd.R_lower (Kd.R_new' ho0 (Kd.R_lt (by (with_reducible repeat (first | apply Kd.R_alloc | apply Kd.R_drewN | apply Kd.R_drew)); exact HO483.out))) (below_size (by repeat (first | (with_reducible first | exact HB.out | apply below_alloc | apply pw_below_drewN | apply below_drew1) | exact HB.out)))); have n2_ := Aside0.mk (below_step (by repeat (first | (with_reducible first | exact HB.out | apply below_alloc | apply pw_below_drewN | apply below_drew1) | exact HB.out)) hb); clear HO483; clear HB; have HO483 := n0_; have HO487 := n1_; have HB := n2_; clear n0_ n1_ n2_; (try clear hb); (try clear hb2); (try clear hk); (try clear hi); (try clear ho0)))
           (try simp only [Act.put, List.setIfInBounds_toArray, List.set_cons_zero, List.set_cons_succ])
           go_cut [182] (fun v182 wc => ∃ (kq : Nat) (x182_79 : Bool), v182 = .bool x182_79 ∧ Aside0 (laws_FnSturmian.j3 kq l0 t478 t479 t481 t484 x182_79 = some r) ∧ Aside0 (kq ≤ kj72) ∧ Aside0 (Kd.R (Kd.int .i64) 3 wc w.heap.size (fun _ => True) v486 t484) ∧ Aside0 (Below w.heap.size w wc))
           case first => as_aux_lemma =>
            have H := HC80.out
            clear HC80
            by_cases c84 : (t481 != t485) = true
            ·rw [if_pos c84] at H
             have c84b0 : (t481 != t485) = true := c84
             (try (have c84b1 : decide (t481 = t485) = false := by simpa using c84))
             (try (have c84b2 : (t481 == t485) = false := by simpa using c84))
             (try (have c84b3 : ¬ (t481 = t485) := by simpa using c84))
             clear c84
             (first | rw [c84b0] | (simp only [i64_w, i32_w]; rw [c84b0]) | skip)
             have H' := Aside0.mk H
             clear H
             go_wp2
             go_meet
             case rel => exact ⟨_, (true), (by first | rfl | (simp; done) | (simp [*]; done)), H', ⟨by have := HJ10.out; have := HJ47.out; have := HJ72.out; first | omega | exact Nat.le_refl _⟩, ⟨by (with_reducible repeat (first | apply Kd.R_alloc | apply Kd.R_drewN | apply Kd.R_drew)); exact Kd.R_mono HO487.out (fun _ hk => trivial)⟩, ⟨by repeat (first | (with_reducible first | exact HB.out | apply below_alloc | apply pw_below_drewN | apply below_drew1) | exact HB.out)⟩⟩
            ·rw [if_neg c84] at H
             have c84b0 : (t481 != t485) = false := by simpa using c84
             (try (have c84b1 : decide (t481 = t485) = true := by simpa using c84))
             (try (have c84b2 : (t481 == t485) = true := by simpa using c84))
             clear c84
             (first | rw [c84b0] | (simp only [i64_w, i32_w]; rw [c84b0]) | skip)
             replace H := Option.bind_eq_some_iff.mp H
             obtain ⟨t488, A850, H⟩ := H
             replace H : (laws_FnSturmian.j3 kj72 l0 t478 t479 t481 t484 (!t488)) = some r := H
             have A85 := Aside0.mk A850
             clear A850
             have H' := Aside0.mk H
             clear H
             obtain ⟨Ao86, co86, eo86⟩ := Kd.R_slice HO483.out
             subst eo86
             obtain ⟨Ao87, co87, eo87⟩ := Kd.R_slice HO487.out
             subst eo87
             go_wp2_with (first | (go_at_call 44; (with_reducible refine (laws_sameInts.calls kj72 _ _ t480 _ _ t484 t488 _ ?side1 ?side2 ?side3 ?side4 A85.out).mono ?_); (case side1 => repeat (first | exact (Kd.R_reads' HO483.out).2.2 | (with_reducible refine Kd.C_alloc ?_ _) | (with_reducible refine Kd.C_drewN ?_ _) | (with_reducible refine Kd.C_drew ?_))); (case side2 => exact (Kd.R_reads' HO483.out).2.1); (case side3 => repeat (first | exact (Kd.R_reads' HO487.out).2.2 | (with_reducible refine Kd.C_alloc ?_ _) | (with_reducible refine Kd.C_drewN ?_ _) | (with_reducible refine Kd.C_drew ?_))); (case side4 => exact (Kd.R_reads' HO487.out).2.1); rintro e w' ⟨rfl, ⟨nd, rfl⟩⟩))
             go_meet
             case rel => exact ⟨_, (!t488), (by first | rfl | (simp; done) | (simp [*]; done)), H', ⟨by have := HJ10.out; have := HJ47.out; have := HJ72.out; first | omega | exact Nat.le_refl _⟩, ⟨by (with_reducible repeat (first | apply Kd.R_alloc | apply Kd.R_drewN | apply Kd.R_drew)); exact Kd.R_mono HO487.out (fun _ hk => trivial)⟩, ⟨by repeat (first | (with_reducible first | exact HB.out | apply below_alloc | apply pw_below_drewN | apply below_drew1) | exact HB.out)⟩⟩
           case rest => as_aux_lemma =>
            clear HC80
            try clear c1
            try clear c2
            try clear p2
            try clear c3
            try clear c4
            try clear c5
            try clear c6
            try clear c7
            try clear c8
            try clear c13
            try clear c15
            try clear c17
            try clear c18
            try clear c18b0
            try clear c18b1
            try clear c18b2
            try clear c19
            try clear c20
            try clear c21
            try clear c21b0
            try clear c21b1
            try clear c21b2
            try clear c23
            try clear c24
            try clear c24b0
            try clear c24b1
            try clear c25
            try clear c25b0
            try clear c25b1
            try clear c26
            try clear c26b0
            try clear c26b1
            try clear c26b2
            try clear c27
            try clear c28
            try clear c30
            try clear c42
            try clear c43
            try clear c47
            try clear c49
            try clear c50
            try clear c50b0
            try clear c50b1
            try clear c51
            try clear c52
            try clear c52b0
            try clear c52b1
            try clear c53
            try clear c55
            try clear c56
            try clear c56b0
            try clear c56b1
            try clear c65
            try clear c65b0
            try clear c65b1
            try clear c72
            try clear c74
            try clear c76
            try clear c84
            try clear c84b0
            try clear c84b1
            try clear c84b2
            try clear p2
            obtain ⟨kq, x182_79, rfl, HA, HJ79, HO_22, HB⟩ := hcut
            cases kq with
            | zero => exact absurd HA.out (by simp [laws_FnSturmian.j3])
            | succ kj79 =>
             have H := HA.out
             clear HA
             simp only [laws_FnSturmian.j3] at H
             by_cases c88 : x182_79 = true
             ·subst c88
              have H1 : (some false) = some r := by rw [if_pos rfl] at H; exact H
              clear H
              have H := H1
              clear H1
              obtain rfl := Option.some.inj H
              go_wp2
              go_ret
              exact ⟨by first | rfl | (simp [errW_none, errW_some] <;> rfl) | (simp [*, errW_none, errW_some] <;> rfl), by repeat (first | (with_reducible first | exact HB.out | apply below_alloc | apply pw_below_drewN | apply below_drew1) | exact HB.out)⟩
             ·replace c88 := Bool.eq_false_iff.mpr c88
              subst c88
              have H1 : (if t481 = true then ((impl_ConvergentOf.f kj79 t484).bind fun bt489 => (if bt489.2.2 = true then (if bt489.1 = t478 then (if bt489.2.1 = t479 then (laws_FnSturmian.j4 kj79 l0) else (some false)) else (some false)) else (some false))) else (laws_FnSturmian.j4 kj79 l0)) = some r := by rw [if_neg (show ¬ (false = true) by decide)] at H; exact H
              clear H
              have H := H1
              clear H1
              have HC89 := Aside0.mk H
              clear H
              go_upto_if 183 with (fail)
              go_cut [] (fun wc => ∃ (kq : Nat), Aside0 (laws_FnSturmian.j4 kq l0 = some r) ∧ Aside0 (kq ≤ kj79) ∧ Aside0 (Below w.heap.size w wc))
              case first => as_aux_lemma =>
               have H := HC89.out
               clear HC89
               by_cases c90 : t481 = true
               ·subst c90
                have H1 : ((impl_ConvergentOf.f kj79 t484).bind fun bt489 => (if bt489.2.2 = true then (if bt489.1 = t478 then (if bt489.2.1 = t479 then (laws_FnSturmian.j4 kj79 l0) else (some false)) else (some false)) else (some false))) = some r := by rw [if_pos rfl] at H; exact H
                clear H
                have H := H1
                clear H1
                replace H := Option.bind_eq_some_iff.mp H
                obtain ⟨⟨t489, t490, t491⟩, A910, H⟩ := H
                replace H : (if t491 = true then (if t489 = t478 then (if t490 = t479 then (laws_FnSturmian.j4 kj79 l0) else (some false)) else (some false)) else (some false)) = some r := H
                have A91 := Aside0.mk A910
                clear A910
                by_cases c92 : t491 = true
                ·subst c92
                 have H1 : (if t489 = t478 then (if t490 = t479 then (laws_FnSturmian.j4 kj79 l0) else (some false)) else (some false)) = some r := by rw [if_pos rfl] at H; exact H
                 clear H
                 have H := H1
                 clear H1
                 by_cases c93 : t489 = t478
                 ·rw [if_pos c93] at H
                  have c93b0 : (t489 == t478) = true := beq_iff_eq.mpr c93
                  have c93b1 : (t489 != t478) = false := bne_eq_false_iff_eq.mpr c93
                  clear c93
                  (first | rw [c93b0] | (simp only [i64_w, i32_w]; rw [c93b0]) | skip)
                  by_cases c94 : t490 = t479
                  ·rw [if_pos c94] at H
                   have c94b0 : (t490 == t479) = true := beq_iff_eq.mpr c94
                   have c94b1 : (t490 != t479) = false := bne_eq_false_iff_eq.mpr c94
                   clear c94
                   have H' := Aside0.mk H
                   clear H
                   obtain ⟨Ao95, co95, eo95⟩ := Kd.R_slice HO_22.out
                   subst eo95
                   go_wp2_with (first | ((with_reducible refine gate_callee (f := 17) rfl ?_); refine goesL_ (some 186) rfl rfl Try.func17 (by kernel_rfl) rfl #[.slice Ao95 t484.length co95] rfl (by (try simp only [List.map_toArray, List.map_cons, List.map_nil]); first | done | rfl | (simp only [List.length_drop, List.length_take]; rfl)) ?_; (with_reducible refine (impl_ConvergentOf.calls kj79 _ _ t484 t489 t490 true _ ?side1 ?side2 A91.out).mono ?_); (case side1 => repeat (first | exact (Kd.R_reads' HO_22.out).2.2 | (with_reducible refine Kd.C_alloc ?_ _) | (with_reducible refine Kd.C_drewN ?_ _) | (with_reducible refine Kd.C_drew ?_))); (case side2 => exact (Kd.R_reads' HO_22.out).2.1); rintro e w' ⟨rfl, ⟨nd, rfl⟩⟩; refine ⟨_, rfl, ?_⟩))
                   go_meet
                   case rel => exact ⟨_, H', ⟨by have := HJ10.out; have := HJ47.out; have := HJ72.out; have := HJ79.out; first | omega | exact Nat.le_refl _⟩, ⟨by repeat (first | (with_reducible first | exact HB.out | apply below_alloc | apply pw_below_drewN | apply below_drew1) | exact HB.out)⟩⟩
                  ·rw [if_neg c94] at H
                   have c94b0 : (t490 == t479) = false := beq_eq_false_iff_ne.mpr c94
                   have c94b1 : (t490 != t479) = true := bne_iff_ne.mpr c94
                   obtain rfl := Option.some.inj H
                   obtain ⟨Ao96, co96, eo96⟩ := Kd.R_slice HO_22.out
                   subst eo96
                   go_wp2_with (first | ((with_reducible refine gate_callee (f := 17) rfl ?_); refine goesL_ (some 186) rfl rfl Try.func17 (by kernel_rfl) rfl #[.slice Ao96 t484.length co96] rfl (by (try simp only [List.map_toArray, List.map_cons, List.map_nil]); first | done | rfl | (simp only [List.length_drop, List.length_take]; rfl)) ?_; (with_reducible refine (impl_ConvergentOf.calls kj79 _ _ t484 t489 t490 true _ ?side1 ?side2 A91.out).mono ?_); (case side1 => repeat (first | exact (Kd.R_reads' HO_22.out).2.2 | (with_reducible refine Kd.C_alloc ?_ _) | (with_reducible refine Kd.C_drewN ?_ _) | (with_reducible refine Kd.C_drew ?_))); (case side2 => exact (Kd.R_reads' HO_22.out).2.1); rintro e w' ⟨rfl, ⟨nd, rfl⟩⟩; refine ⟨_, rfl, ?_⟩))
                   go_ret
                   exact ⟨by first | rfl | (simp [errW_none, errW_some] <;> rfl) | (simp [*, errW_none, errW_some] <;> rfl), by repeat (first | (with_reducible first | exact HB.out | apply below_alloc | apply pw_below_drewN | apply below_drew1) | exact HB.out)⟩
                 ·rw [if_neg c93] at H
                  have c93b0 : (t489 == t478) = false := beq_eq_false_iff_ne.mpr c93
                  have c93b1 : (t489 != t478) = true := bne_iff_ne.mpr c93
                  (first | rw [c93b0] | (simp only [i64_w, i32_w]; rw [c93b0]) | skip)
                  obtain rfl := Option.some.inj H
                  obtain ⟨Ao97, co97, eo97⟩ := Kd.R_slice HO_22.out
                  subst eo97
                  go_wp2_with (first | ((with_reducible refine gate_callee (f := 17) rfl ?_); refine goesL_ (some 186) rfl rfl Try.func17 (by kernel_rfl) rfl #[.slice Ao97 t484.length co97] rfl (by (try simp only [List.map_toArray, List.map_cons, List.map_nil]); first | done | rfl | (simp only [List.length_drop, List.length_take]; rfl)) ?_; (with_reducible refine (impl_ConvergentOf.calls kj79 _ _ t484 t489 t490 true _ ?side1 ?side2 A91.out).mono ?_); (case side1 => repeat (first | exact (Kd.R_reads' HO_22.out).2.2 | (with_reducible refine Kd.C_alloc ?_ _) | (with_reducible refine Kd.C_drewN ?_ _) | (with_reducible refine Kd.C_drew ?_))); (case side2 => exact (Kd.R_reads' HO_22.out).2.1); rintro e w' ⟨rfl, ⟨nd, rfl⟩⟩; refine ⟨_, rfl, ?_⟩))
                  go_ret
                  exact ⟨by first | rfl | (simp [errW_none, errW_some] <;> rfl) | (simp [*, errW_none, errW_some] <;> rfl), by repeat (first | (with_reducible first | exact HB.out | apply below_alloc | apply pw_below_drewN | apply below_drew1) | exact HB.out)⟩
                ·replace c92 := Bool.eq_false_iff.mpr c92
                 subst c92
                 have H1 : (some false) = some r := by rw [if_neg (show ¬ (false = true) by decide)] at H; exact H
                 clear H
                 have H := H1
                 clear H1
                 obtain rfl := Option.some.inj H
                 obtain ⟨Ao98, co98, eo98⟩ := Kd.R_slice HO_22.out
                 subst eo98
                 go_wp2_with (first | ((with_reducible refine gate_callee (f := 17) rfl ?_); refine goesL_ (some 186) rfl rfl Try.func17 (by kernel_rfl) rfl #[.slice Ao98 t484.length co98] rfl (by (try simp only [List.map_toArray, List.map_cons, List.map_nil]); first | done | rfl | (simp only [List.length_drop, List.length_take]; rfl)) ?_; (with_reducible refine (impl_ConvergentOf.calls kj79 _ _ t484 t489 t490 false _ ?side1 ?side2 A91.out).mono ?_); (case side1 => repeat (first | exact (Kd.R_reads' HO_22.out).2.2 | (with_reducible refine Kd.C_alloc ?_ _) | (with_reducible refine Kd.C_drewN ?_ _) | (with_reducible refine Kd.C_drew ?_))); (case side2 => exact (Kd.R_reads' HO_22.out).2.1); rintro e w' ⟨rfl, ⟨nd, rfl⟩⟩; refine ⟨_, rfl, ?_⟩))
                 go_ret
                 exact ⟨by first | rfl | (simp [errW_none, errW_some] <;> rfl) | (simp [*, errW_none, errW_some] <;> rfl), by repeat (first | (with_reducible first | exact HB.out | apply below_alloc | apply pw_below_drewN | apply below_drew1) | exact HB.out)⟩
               ·replace c90 := Bool.eq_false_iff.mpr c90
                subst c90
                have H1 : (laws_FnSturmian.j4 kj79 l0) = some r := by rw [if_neg (show ¬ (false = true) by decide)] at H; exact H
                clear H
                have H := H1
                clear H1
                have H' := Aside0.mk H
                clear H
                go_wp2
                go_meet
                case rel => exact ⟨_, H', ⟨by have := HJ10.out; have := HJ47.out; have := HJ72.out; have := HJ79.out; first | omega | exact Nat.le_refl _⟩, ⟨by repeat (first | (with_reducible first | exact HB.out | apply below_alloc | apply pw_below_drewN | apply below_drew1) | exact HB.out)⟩⟩
              case rest => as_aux_lemma =>
               clear HC89
               try clear c1
               try clear c2
               try clear p2
               try clear c3
               try clear c4
               try clear c5
               try clear c6
               try clear c7
               try clear c8
               try clear c9
               try clear c13
               try clear c15
               try clear c17
               try clear c18
               try clear c18b0
               try clear c18b1
               try clear c18b2
               try clear c19
               try clear c20
               try clear c21
               try clear c21b0
               try clear c21b1
               try clear c21b2
               try clear c23
               try clear c24
               try clear c24b0
               try clear c24b1
               try clear c25
               try clear c25b0
               try clear c25b1
               try clear c26
               try clear c26b0
               try clear c26b1
               try clear c26b2
               try clear c27
               try clear c28
               try clear c30
               try clear c42
               try clear c43
               try clear c47
               try clear c49
               try clear c50
               try clear c50b0
               try clear c50b1
               try clear c51
               try clear c52
               try clear c52b0
               try clear c52b1
               try clear c53
               try clear c55
               try clear c56
               try clear c56b0
               try clear c56b1
               try clear c65
               try clear c65b0
               try clear c65b1
               try clear c72
               try clear c74
               try clear c76
               try clear c84
               try clear c84b0
               try clear c84b1
               try clear c84b2
               try clear c88
               try clear c90
               try clear c92
               try clear c93
               try clear c93b0
               try clear c93b1
               try clear c94
               try clear c94b0
               try clear c94b1
               try clear p2
               obtain ⟨kq, HA, HJ88, HB⟩ := hcut
               cases kq with
               | zero => exact absurd HA.out (by simp [laws_FnSturmian.j4])
               | succ kj88 =>
                have H := HA.out
                clear HA
                simp only [laws_FnSturmian.j4] at H
                replace H := Option.bind_eq_some_iff.mp H
                obtain ⟨⟨t492, t493⟩, A990, H⟩ := H
                replace H : ((impl_CharacteristicPrefix.f kj88 t492 t493).bind fun bt496 => ((spec_CharacteristicPrefix.f kj88 t492 t493).bind fun bt500 => ((spec_DrawMechanicalWord.f kj88 l0).bind fun bt504 => ((impl_MechanicalWord.f kj88 bt504.1 bt504.2.1 bt504.2.2.1 bt504.2.2.2).bind fun bt508 => ((spec_MechanicalWord.f kj88 bt504.1 bt504.2.1 bt504.2.2.1 bt504.2.2.2).bind fun bt512 => (if (bt496.2 == bt500.2) = true then ((laws_sameInts.f kj88 bt496.1 bt500.1).bind fun t516 => (if t516 = true then (if (bt508.2 == bt512.2) = true then ((laws_sameInts.f kj88 bt508.1 bt512.1).bind fun t517 => (if t517 = true then (if bt508.2 = true then (if (bt512.1.length : Int) > 64 then (some true) else ((impl_IsBalanced.f kj88 bt512.1).bind fun t518 => (some t518))) else (some true)) else (some false))) else (some false)) else (some false))) else (some false))))))) = some r := H
                have A99 := Aside0.mk A990
                clear A990
                replace H := Option.bind_eq_some_iff.mp H
                obtain ⟨⟨t496, t497⟩, A1000, H⟩ := H
                replace H : ((spec_CharacteristicPrefix.f kj88 t492 t493).bind fun bt500 => ((spec_DrawMechanicalWord.f kj88 l0).bind fun bt504 => ((impl_MechanicalWord.f kj88 bt504.1 bt504.2.1 bt504.2.2.1 bt504.2.2.2).bind fun bt508 => ((spec_MechanicalWord.f kj88 bt504.1 bt504.2.1 bt504.2.2.1 bt504.2.2.2).bind fun bt512 => (if (t497 == bt500.2) = true then ((laws_sameInts.f kj88 t496 bt500.1).bind fun t516 => (if t516 = true then (if (bt508.2 == bt512.2) = true then ((laws_sameInts.f kj88 bt508.1 bt512.1).bind fun t517 => (if t517 = true then (if bt508.2 = true then (if (bt512.1.length : Int) > 64 then (some true) else ((impl_IsBalanced.f kj88 bt512.1).bind fun t518 => (some t518))) else (some true)) else (some false))) else (some false)) else (some false))) else (some false)))))) = some r := H
                have A100 := Aside0.mk A1000
                clear A1000
                replace H := Option.bind_eq_some_iff.mp H
                obtain ⟨⟨t500, t501⟩, A1010, H⟩ := H
                replace H : ((spec_DrawMechanicalWord.f kj88 l0).bind fun bt504 => ((impl_MechanicalWord.f kj88 bt504.1 bt504.2.1 bt504.2.2.1 bt504.2.2.2).bind fun bt508 => ((spec_MechanicalWord.f kj88 bt504.1 bt504.2.1 bt504.2.2.1 bt504.2.2.2).bind fun bt512 => (if (t497 == t501) = true then ((laws_sameInts.f kj88 t496 t500).bind fun t516 => (if t516 = true then (if (bt508.2 == bt512.2) = true then ((laws_sameInts.f kj88 bt508.1 bt512.1).bind fun t517 => (if t517 = true then (if bt508.2 = true then (if (bt512.1.length : Int) > 64 then (some true) else ((impl_IsBalanced.f kj88 bt512.1).bind fun t518 => (some t518))) else (some true)) else (some false))) else (some false)) else (some false))) else (some false))))) = some r := H
                have A101 := Aside0.mk A1010
                clear A1010
                replace H := Option.bind_eq_some_iff.mp H
                obtain ⟨⟨t504, t505, t506, t507⟩, A1020, H⟩ := H
                replace H : ((impl_MechanicalWord.f kj88 t504 t505 t506 t507).bind fun bt508 => ((spec_MechanicalWord.f kj88 t504 t505 t506 t507).bind fun bt512 => (if (t497 == t501) = true then ((laws_sameInts.f kj88 t496 t500).bind fun t516 => (if t516 = true then (if (bt508.2 == bt512.2) = true then ((laws_sameInts.f kj88 bt508.1 bt512.1).bind fun t517 => (if t517 = true then (if bt508.2 = true then (if (bt512.1.length : Int) > 64 then (some true) else ((impl_IsBalanced.f kj88 bt512.1).bind fun t518 => (some t518))) else (some true)) else (some false))) else (some false)) else (some false))) else (some false)))) = some r := H
                have A102 := Aside0.mk A1020
                clear A1020
                replace H := Option.bind_eq_some_iff.mp H
                obtain ⟨⟨t508, t509⟩, A1030, H⟩ := H
                replace H : ((spec_MechanicalWord.f kj88 t504 t505 t506 t507).bind fun bt512 => (if (t497 == t501) = true then ((laws_sameInts.f kj88 t496 t500).bind fun t516 => (if t516 = true then (if (t509 == bt512.2) = true then ((laws_sameInts.f kj88 t508 bt512.1).bind fun t517 => (if t517 = true then (if t509 = true then (if (bt512.1.length : Int) > 64 then (some true) else ((impl_IsBalanced.f kj88 bt512.1).bind fun t518 => (some t518))) else (some true)) else (some false))) else (some false)) else (some false))) else (some false))) = some r := H
                have A103 := Aside0.mk A1030
                clear A1030
                replace H := Option.bind_eq_some_iff.mp H
                obtain ⟨⟨t512, t513⟩, A1040, H⟩ := H
                replace H : (if (t497 == t501) = true then ((laws_sameInts.f kj88 t496 t500).bind fun t516 => (if t516 = true then (if (t509 == t513) = true then ((laws_sameInts.f kj88 t508 t512).bind fun t517 => (if t517 = true then (if t509 = true then (if (t512.length : Int) > 64 then (some true) else ((impl_IsBalanced.f kj88 t512).bind fun t518 => (some t518))) else (some true)) else (some false))) else (some false)) else (some false))) else (some false)) = some r := H
                have A104 := Aside0.mk A1040
                clear A1040
                by_cases c105 : (t497 == t501) = true
                ·rw [if_pos c105] at H
                 have c105b0 : (t497 == t501) = true := c105
                 (try (have c105b1 : decide (t497 = t501) = true := by simpa using c105))
                 (try (have c105b2 : (t497 == t501) = true := by simpa using c105))
                 clear c105
                 replace H := Option.bind_eq_some_iff.mp H
                 obtain ⟨t516, A1060, H⟩ := H
                 replace H : (if t516 = true then (if (t509 == t513) = true then ((laws_sameInts.f kj88 t508 t512).bind fun t517 => (if t517 = true then (if t509 = true then (if (t512.length : Int) > 64 then (some true) else ((impl_IsBalanced.f kj88 t512).bind fun t518 => (some t518))) else (some true)) else (some false))) else (some false)) else (some false)) = some r := H
                 have A106 := Aside0.mk A1060
                 clear A1060
                 by_cases c107 : t516 = true
                 ·subst c107
                  have H1 : (if (t509 == t513) = true then ((laws_sameInts.f kj88 t508 t512).bind fun t517 => (if t517 = true then (if t509 = true then (if (t512.length : Int) > 64 then (some true) else ((impl_IsBalanced.f kj88 t512).bind fun t518 => (some t518))) else (some true)) else (some false))) else (some false)) = some r := by rw [if_pos rfl] at H; exact H
                  clear H
                  have H := H1
                  clear H1
                  by_cases c108 : (t509 == t513) = true
                  ·rw [if_pos c108] at H
                   have c108b0 : (t509 == t513) = true := c108
                   (try (have c108b1 : decide (t509 = t513) = true := by simpa using c108))
                   (try (have c108b2 : (t509 == t513) = true := by simpa using c108))
                   clear c108
                   replace H := Option.bind_eq_some_iff.mp H
                   obtain ⟨t517, A1090, H⟩ := H
                   replace H : (if t517 = true then (if t509 = true then (if (t512.length : Int) > 64 then (some true) else ((impl_IsBalanced.f kj88 t512).bind fun t518 => (some t518))) else (some true)) else (some false)) = some r := H
                   have A109 := Aside0.mk A1090
                   clear A1090
                   by_cases c110 : t517 = true
                   ·subst c110
                    have H1 : (if t509 = true then (if (t512.length : Int) > 64 then (some true) else ((impl_IsBalanced.f kj88 t512).bind fun t518 => (some t518))) else (some true)) = some r := by rw [if_pos rfl] at H; exact H
                    clear H
                    have H := H1
                    clear H1
                    by_cases c111 : t509 = true
                    ·subst c111
                     have H1 : (if (t512.length : Int) > 64 then (some true) else ((impl_IsBalanced.f kj88 t512).bind fun t518 => (some t518))) = some r := by rw [if_pos rfl] at H; exact H
                     clear H
                     have H := H1
                     clear H1
                     by_cases c112 : (t512.length : Int) > 64
                     ·rw [if_pos c112] at H
                      have c112b0 : decide (64 < (t512.length : Int)) = true := decide_eq_true c112
                      have c112b1 : decide (64 < t512.length) = true := decide_eq_true (by omega)
                      clear c112
                      obtain rfl := Option.some.inj H
                      go_wp2_with (first | ((with_reducible refine gate_callee (f := 52) rfl ?_); refine goesL_ (some 204) rfl rfl Try.func52 (by kernel_rfl) rfl #[.slice A0 l0.length c0] rfl (by (try simp only [List.map_toArray, List.map_cons, List.map_nil]); first | done | rfl | (simp only [List.length_drop, List.length_take]; rfl)) ?_; (with_reducible refine (spec_DrawCharacteristicPrefix.calls kj88 _ _ l0 t492 t493 _ ?side1 ?side2 A99.out).mono ?_); (case side1 => repeat (first | exact (Kd.C_below HR0.out HB.out) | (with_reducible refine Kd.C_alloc ?_ _) | (with_reducible refine Kd.C_drewN ?_ _) | (with_reducible refine Kd.C_drew ?_))); (case side2 => exact HC0.out); rintro e w113 ⟨v494, rfl, ho0, hb⟩; refine ⟨_, rfl, ?_⟩; have n0_ := Aside0.mk (Kd.R_lower ho0 (below_size (by repeat (first | (with_reducible first | exact HB.out | apply below_alloc | apply pw_below_drewN | apply below_drew1) | exact HB.out)))); have n1_ := Aside0.mk (below_step (by repeat (first | (with_reducible first | exact HB.out | apply below_alloc | apply pw_below_drewN | apply below_drew1) | exact HB.out)) hb); clear HB; have HO495 := n0_; have HB := n1_; clear n0_ n1_; (try clear hb); (try clear hb2); (try clear hk); (try clear hi); (try clear ho0); obtain ⟨Ao114, co114, eo114⟩ := Kd.R_slice HO495.out; subst eo114) | ((with_reducible refine gate_callee (f := 26) rfl ?_); refine goesL_ (some 210) rfl rfl Try.func26 (by kernel_rfl) rfl #[.slice Ao114 t492.length co114, .int .i64 t493] rfl (by (try simp only [List.map_toArray, List.map_cons, List.map_nil]); first | done | rfl | (simp only [List.length_drop, List.length_take]; rfl)) ?_; (with_reducible refine (impl_CharacteristicPrefix.calls kj88 _ _ t492 t493 t496 t497 _ ?side1 ?side2 A100.out).mono ?_); (case side1 => repeat (first | exact (Kd.R_reads' HO495.out).2.2 | (with_reducible refine Kd.C_alloc ?_ _) | (with_reducible refine Kd.C_drewN ?_ _) | (with_reducible refine Kd.C_drew ?_))); (case side2 => exact (Kd.R_reads' HO495.out).2.1); rintro e w115 ⟨v498, rfl, ho0, hb⟩; refine ⟨_, rfl, ?_⟩; have n0_ := Aside0.mk (Kd.R_elder' (by (with_reducible repeat (first | apply Kd.R_alloc | apply Kd.R_drewN | apply Kd.R_drew)); exact HO495.out) (Kd.R_base ho0) hb); have n1_ := Aside0.mk (Kd.R_lower (Kd.R_new' ho0 (Kd.R_lt (by (with_reducible repeat (first | apply Kd.R_alloc | apply Kd.R_drewN | apply Kd.R_drew)); exact HO495.out))) (below_size (by repeat (first | (with_reducible first | exact HB.out | apply below_alloc | apply pw_below_drewN | apply below_drew1) | exact HB.out)))); have n2_ := Aside0.mk (below_step (by repeat (first | (with_reducible first | exact HB.out | apply below_alloc | apply pw_below_drewN | apply below_drew1) | exact HB.out)) hb); clear HO495; clear HB; have HO495 := n0_; have HO499 := n1_; have HB := n2_; clear n0_ n1_ n2_; (try clear hb); (try clear hb2); (try clear hk); (try clear hi); (try clear ho0)) | ((with_reducible refine gate_callee (f := 25) rfl ?_); refine goesL_ (some 216) rfl rfl Try.func25 (by kernel_rfl) rfl #[.slice Ao114 t492.length co114, .int .i64 t493] rfl (by (try simp only [List.map_toArray, List.map_cons, List.map_nil]); first | done | rfl | (simp only [List.length_drop, List.length_take]; rfl)) ?_; (with_reducible refine (spec_CharacteristicPrefix.calls kj88 _ _ t492 t493 t500 t501 _ ?side1 ?side2 A101.out).mono ?_); (case side1 => repeat (first | exact (Kd.R_reads' HO495.out).2.2 | (with_reducible refine Kd.C_alloc ?_ _) | (with_reducible refine Kd.C_drewN ?_ _) | (with_reducible refine Kd.C_drew ?_))); (case side2 => exact (Kd.R_reads' HO495.out).2.1); rintro e w116 ⟨v502, rfl, ho0, hb⟩; refine ⟨_, rfl, ?_⟩; have n0_ := Aside0.mk (Kd.R_elder' (by (with_reducible repeat (first | apply Kd.R_alloc | apply Kd.R_drewN | apply Kd.R_drew)); exact HO495.out) (Kd.R_base ho0) hb); have n1_ := Aside0.mk (Kd.R_elder' (by (with_reducible repeat (first | apply Kd.R_alloc | apply Kd.R_drewN | apply Kd.R_drew)); exact HO499.out) (Kd.R_base ho0) hb); have n2_ := Aside0.mk (Kd.R_lower (Kd.R_new' (Kd.R_new' ho0 (Kd.R_lt (by (with_reducible repeat (first | apply Kd.R_alloc | apply Kd.R_drewN | apply Kd.R_drew)); exact HO495.out))) (Kd.R_lt (by (with_reducible repeat (first | apply Kd.R_alloc | apply Kd.R_drewN | apply Kd.R_drew)); exact HO499.out))) (below_size (by repeat (first | (with_reducible first | exact HB.out | apply below_alloc | apply pw_below_drewN | apply below_drew1) | exact HB.out)))); have n3_ := Aside0.mk (below_step (by repeat (first | (with_reducible first | exact HB.out | apply below_alloc | apply pw_below_drewN | apply below_drew1) | exact HB.out)) hb); clear HO495; clear HO499; clear HB; have HO495 := n0_; have HO499 := n1_; have HO503 := n2_; have HB := n3_; clear n0_ n1_ n2_ n3_; (try clear hb); (try clear hb2); (try clear hk); (try clear hi); (try clear ho0)) | ((with_reducible refine gate_callee (f := 53) rfl ?_); refine goesL_ (some 221) rfl rfl Try.func53 (by kernel_rfl) rfl #[.slice A0 l0.length c0] rfl (by (try simp only [List.map_toArray, List.map_cons, List.map_nil]); first | done | rfl | (simp only [List.length_drop, List.length_take]; rfl)) ?_; (with_reducible refine (spec_DrawMechanicalWord.calls kj88 _ _ l0 t504 t505 t506 t507 _ ?side1 ?side2 A102.out).mono ?_); (case side1 => repeat (first | exact (Kd.C_below HR0.out HB.out) | (with_reducible refine Kd.C_alloc ?_ _) | (with_reducible refine Kd.C_drewN ?_ _) | (with_reducible refine Kd.C_drew ?_))); (case side2 => exact HC0.out); rintro e w117 ⟨rfl, hb⟩; refine ⟨_, rfl, ?_⟩; have n0_ := Aside0.mk (Kd.R_below (by (with_reducible repeat (first | apply Kd.R_alloc | apply Kd.R_drewN | apply Kd.R_drew)); exact HO495.out) hb); have n1_ := Aside0.mk (Kd.R_below (by (with_reducible repeat (first | apply Kd.R_alloc | apply Kd.R_drewN | apply Kd.R_drew)); exact HO499.out) hb); have n2_ := Aside0.mk (Kd.R_below (by (with_reducible repeat (first | apply Kd.R_alloc | apply Kd.R_drewN | apply Kd.R_drew)); exact HO503.out) hb); have n3_ := Aside0.mk (below_step (by repeat (first | (with_reducible first | exact HB.out | apply below_alloc | apply pw_below_drewN | apply below_drew1) | exact HB.out)) hb); clear HO495; clear HO499; clear HO503; clear HB; have HO495 := n0_; have HO499 := n1_; have HO503 := n2_; have HB := n3_; clear n0_ n1_ n2_ n3_; (try clear hb); (try clear hb2); (try clear hk); (try clear hi)) | ((with_reducible refine gate_callee (f := 54) rfl ?_); refine goesL_ (some 231) rfl rfl Try.func54 (by kernel_rfl) rfl #[.int .i64 t504, .int .i64 t505, .int .i64 t506, .int .i64 t507] rfl (by (try simp only [List.map_toArray, List.map_cons, List.map_nil]); first | done | rfl | (simp only [List.length_drop, List.length_take]; rfl)) ?_; (with_reducible refine (impl_MechanicalWord.calls kj88 t504 t505 t506 t507 t508 true _ A103.out).mono ?_); rintro e w118 ⟨v510, rfl, ho0, hb⟩; refine ⟨_, rfl, ?_⟩; have n0_ := Aside0.mk (Kd.R_elder' (by (with_reducible repeat (first | apply Kd.R_alloc | apply Kd.R_drewN | apply Kd.R_drew)); exact HO495.out) (Kd.R_base ho0) hb); have n1_ := Aside0.mk (Kd.R_elder' (by (with_reducible repeat (first | apply Kd.R_alloc | apply Kd.R_drewN | apply Kd.R_drew)); exact HO499.out) (Kd.R_base ho0) hb); have n2_ := Aside0.mk (Kd.R_elder' (by (with_reducible repeat (first | apply Kd.R_alloc | apply Kd.R_drewN | apply Kd.R_drew)); exact HO503.out) (Kd.R_base ho0) hb); have n3_ := Aside0.mk (Kd.R_lower (Kd.R_new' (Kd.R_new' (Kd.R_new' ho0 (Kd.R_lt (by (with_reducible repeat (first | apply Kd.R_alloc | apply Kd.R_drewN | apply Kd.R_drew)); exact HO495.out))) (Kd.R_lt (by (with_reducible repeat (first | apply Kd.R_alloc | apply Kd.R_drewN | apply Kd.R_drew)); exact HO499.out))) (Kd.R_lt (by (with_reducible repeat (first | apply Kd.R_alloc | apply Kd.R_drewN | apply Kd.R_drew)); exact HO503.out))) (below_size (by repeat (first | (with_reducible first | exact HB.out | apply below_alloc | apply pw_below_drewN | apply below_drew1) | exact HB.out)))); have n4_ := Aside0.mk (below_step (by repeat (first | (with_reducible first | exact HB.out | apply below_alloc | apply pw_below_drewN | apply below_drew1) | exact HB.out)) hb); clear HO495; clear HO499; clear HO503; clear HB; have HO495 := n0_; have HO499 := n1_; have HO503 := n2_; have HO511 := n3_; have HB := n4_; clear n0_ n1_ n2_ n3_ n4_; (try clear hb); (try clear hb2); (try clear hk); (try clear hi); (try clear ho0)) | ((with_reducible refine gate_callee (f := 55) rfl ?_); refine goesL_ (some 239) rfl rfl Try.func55 (by kernel_rfl) rfl #[.int .i64 t504, .int .i64 t505, .int .i64 t506, .int .i64 t507] rfl (by (try simp only [List.map_toArray, List.map_cons, List.map_nil]); first | done | rfl | (simp only [List.length_drop, List.length_take]; rfl)) ?_; (with_reducible refine (spec_MechanicalWord.calls kj88 t504 t505 t506 t507 t512 t513 _ A104.out).mono ?_); rintro e w119 ⟨v514, rfl, ho0, hb⟩; refine ⟨_, rfl, ?_⟩; have n0_ := Aside0.mk (Kd.R_elder' (by (with_reducible repeat (first | apply Kd.R_alloc | apply Kd.R_drewN | apply Kd.R_drew)); exact HO495.out) (Kd.R_base ho0) hb); have n1_ := Aside0.mk (Kd.R_elder' (by (with_reducible repeat (first | apply Kd.R_alloc | apply Kd.R_drewN | apply Kd.R_drew)); exact HO499.out) (Kd.R_base ho0) hb); have n2_ := Aside0.mk (Kd.R_elder' (by (with_reducible repeat (first | apply Kd.R_alloc | apply Kd.R_drewN | apply Kd.R_drew)); exact HO503.out) (Kd.R_base ho0) hb); have n3_ := Aside0.mk (Kd.R_elder' (by (with_reducible repeat (first | apply Kd.R_alloc | apply Kd.R_drewN | apply Kd.R_drew)); exact HO511.out) (Kd.R_base ho0) hb); have n4_ := Aside0.mk (Kd.R_lower (Kd.R_new' (Kd.R_new' (Kd.R_new' (Kd.R_new' ho0 (Kd.R_lt (by (with_reducible repeat (first | apply Kd.R_alloc | apply Kd.R_drewN | apply Kd.R_drew)); exact HO495.out))) (Kd.R_lt (by (with_reducible repeat (first | apply Kd.R_alloc | apply Kd.R_drewN | apply Kd.R_drew)); exact HO499.out))) (Kd.R_lt (by (with_reducible repeat (first | apply Kd.R_alloc | apply Kd.R_drewN | apply Kd.R_drew)); exact HO503.out))) (Kd.R_lt (by (with_reducible repeat (first | apply Kd.R_alloc | apply Kd.R_drewN | apply Kd.R_drew)); exact HO511.out))) (below_size (by repeat (first | (with_reducible first | exact HB.out | apply below_alloc | apply pw_below_drewN | apply below_drew1) | exact HB.out)))); have n5_ := Aside0.mk (below_step (by repeat (first | (with_reducible first | exact HB.out | apply below_alloc | apply pw_below_drewN | apply below_drew1) | exact HB.out)) hb); clear HO495; clear HO499; clear HO503; clear HO511; clear HB; have HO495 := n0_; have HO499 := n1_; have HO503 := n2_; have HO511 := n3_; have HO515 := n4_; have HB := n5_; clear n0_ n1_ n2_ n3_ n4_ n5_; (try clear hb); (try clear hb2); (try clear hk); (try clear hi); (try clear ho0); obtain ⟨Ao120, co120, eo120⟩ := Kd.R_slice HO499.out; subst eo120; obtain ⟨Ao121, co121, eo121⟩ := Kd.R_slice HO503.out; subst eo121) | (go_at_call 44; (with_reducible refine (laws_sameInts.calls kj88 _ _ t496 _ _ t500 true _ ?side1 ?side2 ?side3 ?side4 A106.out).mono ?_); (case side1 => repeat (first | exact (Kd.R_reads' HO499.out).2.2 | (with_reducible refine Kd.C_alloc ?_ _) | (with_reducible refine Kd.C_drewN ?_ _) | (with_reducible refine Kd.C_drew ?_))); (case side2 => exact (Kd.R_reads' HO499.out).2.1); (case side3 => repeat (first | exact (Kd.R_reads' HO503.out).2.2 | (with_reducible refine Kd.C_alloc ?_ _) | (with_reducible refine Kd.C_drewN ?_ _) | (with_reducible refine Kd.C_drew ?_))); (case side4 => exact (Kd.R_reads' HO503.out).2.1); rintro e w' ⟨rfl, ⟨nd, rfl⟩⟩; obtain ⟨Ao122, co122, eo122⟩ := Kd.R_slice HO511.out; subst eo122; obtain ⟨Ao123, co123, eo123⟩ := Kd.R_slice HO515.out; subst eo123) | (go_at_call 44; (with_reducible refine (laws_sameInts.calls kj88 _ _ t508 _ _ t512 true _ ?side1 ?side2 ?side3 ?side4 A109.out).mono ?_); (case side1 => repeat (first | exact (Kd.R_reads' HO511.out).2.2 | (with_reducible refine Kd.C_alloc ?_ _) | (with_reducible refine Kd.C_drewN ?_ _) | (with_reducible refine Kd.C_drew ?_))); (case side2 => exact (Kd.R_reads' HO511.out).2.1); (case side3 => repeat (first | exact (Kd.R_reads' HO515.out).2.2 | (with_reducible refine Kd.C_alloc ?_ _) | (with_reducible refine Kd.C_drewN ?_ _) | (with_reducible refine Kd.C_drew ?_))); (case side4 => exact (Kd.R_reads' HO515.out).2.1); rintro e w' ⟨rfl, ⟨nd, rfl⟩⟩))
                      go_ret
                      exact ⟨by first | rfl | (simp [errW_none, errW_some] <;> rfl) | (simp [*, errW_none, errW_some] <;> rfl), by repeat (first | (with_reducible first | exact HB.out | apply below_alloc | apply pw_below_drewN | apply below_drew1) | exact HB.out)⟩
                     ·rw [if_neg c112] at H
                      have c112b0 : decide (64 < (t512.length : Int)) = false := decide_eq_false c112
                      have c112b1 : decide (64 < t512.length) = false := decide_eq_false (by omega)
                      clear c112
                      replace H := Option.bind_eq_some_iff.mp H
                      obtain ⟨t518, A1240, H⟩ := H
                      replace H : (some t518) = some r := H
                      have A124 := Aside0.mk A1240
                      clear A1240
                      obtain rfl := Option.some.inj H
                      go_wp2_with (first | ((with_reducible refine gate_callee (f := 52) rfl ?_); refine goesL_ (some 204) rfl rfl Try.func52 (by kernel_rfl) rfl #[.slice A0 l0.length c0] rfl (by (try simp only [List.map_toArray, List.map_cons, List.map_nil]); first | done | rfl | (simp only [List.length_drop, List.length_take]; rfl)) ?_; (with_reducible refine (spec_DrawCharacteristicPrefix.calls kj88 _ _ l0 t492 t493 _ ?side1 ?side2 A99.out).mono ?_); (case side1 => repeat (first | exact (Kd.C_below HR0.out HB.out) | (with_reducible refine Kd.C_alloc ?_ _) | (with_reducible refine Kd.C_drewN ?_ _) | (with_reducible refine Kd.C_drew ?_))); (case side2 => exact HC0.out); rintro e w125 ⟨v494, rfl, ho0, hb⟩; refine ⟨_, rfl, ?_⟩; have n0_ := Aside0.mk (Kd.R_lower ho0 (below_size (by repeat (first | (with_reducible first | exact HB.out | apply below_alloc | apply pw_below_drewN | apply below_drew1) | exact HB.out)))); have n1_ := Aside0.mk (below_step (by repeat (first | (with_reducible first | exact HB.out | apply below_alloc | apply pw_below_drewN | apply below_drew1) | exact HB.out)) hb); clear HB; have HO495 := n0_; have HB := n1_; clear n0_ n1_; (try clear hb); (try clear hb2); (try clear hk); (try clear hi); (try clear ho0); obtain ⟨Ao126, co126, eo126⟩ := Kd.R_slice HO495.out; subst eo126) | ((with_reducible refine gate_callee (f := 26) rfl ?_); refine goesL_ (some 210) rfl rfl Try.func26 (by kernel_rfl) rfl #[.slice Ao126 t492.length co126, .int .i64 t493] rfl (by (try simp only [List.map_toArray, List.map_cons, List.map_nil]); first | done | rfl | (simp only [List.length_drop, List.length_take]; rfl)) ?_; (with_reducible refine (impl_CharacteristicPrefix.calls kj88 _ _ t492 t493 t496 t497 _ ?side1 ?side2 A100.out).mono ?_); (case side1 => repeat (first | exact (Kd.R_reads' HO495.out).2.2 | (with_reducible refine Kd.C_alloc ?_ _) | (with_reducible refine Kd.C_drewN ?_ _) | (with_reducible refine Kd.C_drew ?_))); (case side2 => exact (Kd.R_reads' HO495.out).2.1); rintro e w127 ⟨v498, rfl, ho0, hb⟩; refine ⟨_, rfl, ?_⟩; have n0_ := Aside0.mk (Kd.R_elder' (by (with_reducible repeat (first | apply Kd.R_alloc | apply Kd.R_drewN | apply Kd.R_drew)); exact HO495.out) (Kd.R_base ho0) hb); have n1_ := Aside0.mk (Kd.R_lower (Kd.R_new' ho0 (Kd.R_lt (by (with_reducible repeat (first | apply Kd.R_alloc | apply Kd.R_drewN | apply Kd.R_drew)); exact HO495.out))) (below_size (by repeat (first | (with_reducible first | exact HB.out | apply below_alloc | apply pw_below_drewN | apply below_drew1) | exact HB.out)))); have n2_ := Aside0.mk (below_step (by repeat (first | (with_reducible first | exact HB.out | apply below_alloc | apply pw_below_drewN | apply below_drew1) | exact HB.out)) hb); clear HO495; clear HB; have HO495 := n0_; have HO499 := n1_; have HB := n2_; clear n0_ n1_ n2_; (try clear hb); (try clear hb2); (try clear hk); (try clear hi); (try clear ho0)) | ((with_reducible refine gate_callee (f := 25) rfl ?_); refine goesL_ (some 216) rfl rfl Try.func25 (by kernel_rfl) rfl #[.slice Ao126 t492.length co126, .int .i64 t493] rfl (by (try simp only [List.map_toArray, List.map_cons, List.map_nil]); first | done | rfl | (simp only [List.length_drop, List.length_take]; rfl)) ?_; (with_reducible refine (spec_CharacteristicPrefix.calls kj88 _ _ t492 t493 t500 t501 _ ?side1 ?side2 A101.out).mono ?_); (case side1 => repeat (first | exact (Kd.R_reads' HO495.out).2.2 | (with_reducible refine Kd.C_alloc ?_ _) | (with_reducible refine Kd.C_drewN ?_ _) | (with_reducible refine Kd.C_drew ?_))); (case side2 => exact (Kd.R_reads' HO495.out).2.1); rintro e w128 ⟨v502, rfl, ho0, hb⟩; refine ⟨_, rfl, ?_⟩; have n0_ := Aside0.mk (Kd.R_elder' (by (with_reducible repeat (first | apply Kd.R_alloc | apply Kd.R_drewN | apply Kd.R_drew)); exact HO495.out) (Kd.R_base ho0) hb); have n1_ := Aside0.mk (Kd.R_elder' (by (with_reducible repeat (first | apply Kd.R_alloc | apply Kd.R_drewN | apply Kd.R_drew)); exact HO499.out) (Kd.R_base ho0) hb); have n2_ := Aside0.mk (Kd.R_lower (Kd.R_new' (Kd.R_new' ho0 (Kd.R_lt (by (with_reducible repeat (first | apply Kd.R_alloc | apply Kd.R_drewN | apply Kd.R_drew)); exact HO495.out))) (Kd.R_lt (by (with_reducible repeat (first | apply Kd.R_alloc | apply Kd.R_drewN | apply Kd.R_drew)); exact HO499.out))) (below_size (by repeat (first | (with_reducible first | exact HB.out | apply below_alloc | apply pw_below_drewN | apply below_drew1) | exact HB.out)))); have n3_ := Aside0.mk (below_step (by repeat (first | (with_reducible first | exact HB.out | apply below_alloc | apply pw_below_drewN | apply below_drew1) | exact HB.out)) hb); clear HO495; clear HO499; clear HB; have HO495 := n0_; have HO499 := n1_; have HO503 := n2_; have HB := n3_; clear n0_ n1_ n2_ n3_; (try clear hb); (try clear hb2); (try clear hk); (try clear hi); (try clear ho0)) | ((with_reducible refine gate_callee (f := 53) rfl ?_); refine goesL_ (some 221) rfl rfl Try.func53 (by kernel_rfl) rfl #[.slice A0 l0.length c0] rfl (by (try simp only [List.map_toArray, List.map_cons, List.map_nil]); first | done | rfl | (simp only [List.length_drop, List.length_take]; rfl)) ?_; (with_reducible refine (spec_DrawMechanicalWord.calls kj88 _ _ l0 t504 t505 t506 t507 _ ?side1 ?side2 A102.out).mono ?_); (case side1 => repeat (first | exact (Kd.C_below HR0.out HB.out) | (with_reducible refine Kd.C_alloc ?_ _) | (with_reducible refine Kd.C_drewN ?_ _) | (with_reducible refine Kd.C_drew ?_))); (case side2 => exact HC0.out); rintro e w129 ⟨rfl, hb⟩; refine ⟨_, rfl, ?_⟩; have n0_ := Aside0.mk (Kd.R_below (by (with_reducible repeat (first | apply Kd.R_alloc | apply Kd.R_drewN | apply Kd.R_drew)); exact HO495.out) hb); have n1_ := Aside0.mk (Kd.R_below (by (with_reducible repeat (first | apply Kd.R_alloc | apply Kd.R_drewN | apply Kd.R_drew)); exact HO499.out) hb); have n2_ := Aside0.mk (Kd.R_below (by (with_reducible repeat (first | apply Kd.R_alloc | apply Kd.R_drewN | apply Kd.R_drew)); exact HO503.out) hb); have n3_ := Aside0.mk (below_step (by repeat (first | (with_reducible first | exact HB.out | apply below_alloc | apply pw_below_drewN | apply below_drew1) | exact HB.out)) hb); clear HO495; clear HO499; clear HO503; clear HB; have HO495 := n0_; have HO499 := n1_; have HO503 := n2_; have HB := n3_; clear n0_ n1_ n2_ n3_; (try clear hb); (try clear hb2); (try clear hk); (try clear hi)) | ((with_reducible refine gate_callee (f := 54) rfl ?_); refine goesL_ (some 231) rfl rfl Try.func54 (by kernel_rfl) rfl #[.int .i64 t504, .int .i64 t505, .int .i64 t506, .int .i64 t507] rfl (by (try simp only [List.map_toArray, List.map_cons, List.map_nil]); first | done | rfl | (simp only [List.length_drop, List.length_take]; rfl)) ?_; (with_reducible refine (impl_MechanicalWord.calls kj88 t504 t505 t506 t507 t508 true _ A103.out).mono ?_); rintro e w130 ⟨v510, rfl, ho0, hb⟩; refine ⟨_, rfl, ?_⟩; have n0_ := Aside0.mk (Kd.R_elder' (by (with_reducible repeat (first | apply Kd.R_alloc | apply Kd.R_drewN | apply Kd.R_drew)); exact HO495.out) (Kd.R_base ho0) hb); have n1_ := Aside0.mk (Kd.R_elder' (by (with_reducible repeat (first | apply Kd.R_alloc | apply Kd.R_drewN | apply Kd.R_drew)); exact HO499.out) (Kd.R_base ho0) hb); have n2_ := Aside0.mk (Kd.R_elder' (by (with_reducible repeat (first | apply Kd.R_alloc | apply Kd.R_drewN | apply Kd.R_drew)); exact HO503.out) (Kd.R_base ho0) hb); have n3_ := Aside0.mk (Kd.R_lower (Kd.R_new' (Kd.R_new' (Kd.R_new' ho0 (Kd.R_lt (by (with_reducible repeat (first | apply Kd.R_alloc | apply Kd.R_drewN | apply Kd.R_drew)); exact HO495.out))) (Kd.R_lt (by (with_reducible repeat (first | apply Kd.R_alloc | apply Kd.R_drewN | apply Kd.R_drew)); exact HO499.out))) (Kd.R_lt (by (with_reducible repeat (first | apply Kd.R_alloc | apply Kd.R_drewN | apply Kd.R_drew)); exact HO503.out))) (below_size (by repeat (first | (with_reducible first | exact HB.out | apply below_alloc | apply pw_below_drewN | apply below_drew1) | exact HB.out)))); have n4_ := Aside0.mk (below_step (by repeat (first | (with_reducible first | exact HB.out | apply below_alloc | apply pw_below_drewN | apply below_drew1) | exact HB.out)) hb); clear HO495; clear HO499; clear HO503; clear HB; have HO495 := n0_; have HO499 := n1_; have HO503 := n2_; have HO511 := n3_; have HB := n4_; clear n0_ n1_ n2_ n3_ n4_; (try clear hb); (try clear hb2); (try clear hk); (try clear hi); (try clear ho0)) | ((with_reducible refine gate_callee (f := 55) rfl ?_); refine goesL_ (some 239) rfl rfl Try.func55 (by kernel_rfl) rfl #[.int .i64 t504, .int .i64 t505, .int .i64 t506, .int .i64 t507] rfl (by (try simp only [List.map_toArray, List.map_cons, List.map_nil]); first | done | rfl | (simp only [List.length_drop, List.length_take]; rfl)) ?_; (with_reducible refine (spec_MechanicalWord.calls kj88 t504 t505 t506 t507 t512 t513 _ A104.out).mono ?_); rintro e w131 ⟨v514, rfl, ho0, hb⟩; refine ⟨_, rfl, ?_⟩; have n0_ := Aside0.mk (Kd.R_elder' (by (with_reducible repeat (first | apply Kd.R_alloc | apply Kd.R_drewN | apply Kd.R_drew)); exact HO495.out) (Kd.R_base ho0) hb); have n1_ := Aside0.mk (Kd.R_elder' (by (with_reducible repeat (first | apply Kd.R_alloc | apply Kd.R_drewN | apply Kd.R_drew)); exact HO499.out) (Kd.R_base ho0) hb); have n2_ := Aside0.mk (Kd.R_elder' (by (with_reducible repeat (first | apply Kd.R_alloc | apply Kd.R_drewN | apply Kd.R_drew)); exact HO503.out) (Kd.R_base ho0) hb); have n3_ := Aside0.mk (Kd.R_elder' (by (with_reducible repeat (first | apply Kd.R_alloc | apply Kd.R_drewN | apply Kd.R_drew)); exact HO511.out) (Kd.R_base ho0) hb); have n4_ := Aside0.mk (Kd.R_lower (Kd.R_new' (Kd.R_new' (Kd.R_new' (Kd.R_new' ho0 (Kd.R_lt (by (with_reducible repeat (first | apply Kd.R_alloc | apply Kd.R_drewN | apply Kd.R_drew)); exact HO495.out))) (Kd.R_lt (by (with_reducible repeat (first | apply Kd.R_alloc | apply Kd.R_drewN | apply Kd.R_drew)); exact HO499.out))) (Kd.R_lt (by (with_reducible repeat (first | apply Kd.R_alloc | apply Kd.R_drewN | apply Kd.R_drew)); exact HO503.out))) (Kd.R_lt (by (with_reducible repeat (first | apply Kd.R_alloc | apply Kd.R_drewN | apply Kd.R_drew)); exact HO511.out))) (below_size (by repeat (first | (with_reducible first | exact HB.out | apply below_alloc | apply pw_below_drewN | apply below_drew1) | exact HB.out)))); have n5_ := Aside0.mk (below_step (by repeat (first | (with_reducible first | exact HB.out | apply below_alloc | apply pw_below_drewN | apply below_drew1) | exact HB.out)) hb); clear HO495; clear HO499; clear HO503; clear HO511; clear HB; have HO495 := n0_; have HO499 := n1_; have HO503 := n2_; have HO511 := n3_; have HO515 := n4_; have HB := n5_; clear n0_ n1_ n2_ n3_ n4_ n5_; (try clear hb); (try clear hb2); (try clear hk); (try clear hi); (try clear ho0); obtain ⟨Ao132, co132, eo132⟩ := Kd.R_slice HO499.out; subst eo132; obtain ⟨Ao133, co133, eo133⟩ := Kd.R_slice HO503.out; subst eo133) | (go_at_call 44; (with_reducible refine (laws_sameInts.calls kj88 _ _ t496 _ _ t500 true _ ?side1 ?side2 ?side3 ?side4 A106.out).mono ?_); (case side1 => repeat (first | exact (Kd.R_reads' HO499.out).2.2 | (with_reducible refine Kd.C_alloc ?_ _) | (with_reducible refine Kd.C_drewN ?_ _) | (with_reducible refine Kd.C_drew ?_))); (case side2 => exact (Kd.R_reads' HO499.out).2.1); (case side3 => repeat (first | exact (Kd.R_reads' HO503.out).2.2 | (with_reducible refine Kd.C_alloc ?_ _) | (with_reducible refine Kd.C_drewN ?_ _) | (with_reducible refine Kd.C_drew ?_))); (case side4 => exact (Kd.R_reads' HO503.out).2.1); rintro e w' ⟨rfl, ⟨nd, rfl⟩⟩; obtain ⟨Ao134, co134, eo134⟩ := Kd.R_slice HO511.out; subst eo134; obtain ⟨Ao135, co135, eo135⟩ := Kd.R_slice HO515.out; subst eo135) | (go_at_call 44; (with_reducible refine (laws_sameInts.calls kj88 _ _ t508 _ _ t512 true _ ?side1 ?side2 ?side3 ?side4 A109.out).mono ?_); (case side1 => repeat (first | exact (Kd.R_reads' HO511.out).2.2 | (with_reducible refine Kd.C_alloc ?_ _) | (with_reducible refine Kd.C_drewN ?_ _) | (with_reducible refine Kd.C_drew ?_))); (case side2 => exact (Kd.R_reads' HO511.out).2.1); (case side3 => repeat (first | exact (Kd.R_reads' HO515.out).2.2 | (with_reducible refine Kd.C_alloc ?_ _) | (with_reducible refine Kd.C_drewN ?_ _) | (with_reducible refine Kd.C_drew ?_))); (case side4 => exact (Kd.R_reads' HO515.out).2.1); rintro e w' ⟨rfl, ⟨nd, rfl⟩⟩) | (go_at_call 49; (with_reducible refine (impl_IsBalanced.calls kj88 _ _ t512 t518 _ ?side1 ?side2 A124.out).mono ?_); (case side1 => repeat (first | exact (Kd.R_reads' HO515.out).2.2 | (with_reducible refine Kd.C_alloc ?_ _) | (with_reducible refine Kd.C_drewN ?_ _) | (with_reducible refine Kd.C_drew ?_))); (case side2 => exact (Kd.R_reads' HO515.out).2.1); rintro e w136 ⟨rfl, hb⟩; have n0_ := Aside0.mk (Kd.R_below (by (with_reducible repeat (first | apply Kd.R_alloc | apply Kd.R_drewN | apply Kd.R_drew)); exact HO495.out) hb); have n1_ := Aside0.mk (Kd.R_below (by (with_reducible repeat (first | apply Kd.R_alloc | apply Kd.R_drewN | apply Kd.R_drew)); exact HO499.out) hb); have n2_ := Aside0.mk (Kd.R_below (by (with_reducible repeat (first | apply Kd.R_alloc | apply Kd.R_drewN | apply Kd.R_drew)); exact HO503.out) hb); have n3_ := Aside0.mk (Kd.R_below (by (with_reducible repeat (first | apply Kd.R_alloc | apply Kd.R_drewN | apply Kd.R_drew)); exact HO511.out) hb); have n4_ := Aside0.mk (Kd.R_below (by (with_reducible repeat (first | apply Kd.R_alloc | apply Kd.R_drewN | apply Kd.R_drew)); exact HO515.out) hb); have n5_ := Aside0.mk (below_step (by repeat (first | (with_reducible first | exact HB.out | apply below_alloc | apply pw_below_drewN | apply below_drew1) | exact HB.out)) hb); clear HO495; clear HO499; clear HO503; clear HO511; clear HO515; clear HB; have HO495 := n0_; have HO499 := n1_; have HO503 := n2_; have HO511 := n3_; have HO515 := n4_; have HB := n5_; clear n0_ n1_ n2_ n3_ n4_ n5_; (try clear hb); (try clear hb2); (try clear hk); (try clear hi)))
                      go_ret
                      exact ⟨by first | rfl | (simp [errW_none, errW_some] <;> rfl) | (simp [*, errW_none, errW_some] <;> rfl), by repeat (first | (with_reducible first | exact HB.out | apply below_alloc | apply pw_below_drewN | apply below_drew1) | exact HB.out)⟩
                    ·replace c111 := Bool.eq_false_iff.mpr c111
                     subst c111
                     have H1 : (some true) = some r := by rw [if_neg (show ¬ (false = true) by decide)] at H; exact H
                     clear H
                     have H := H1
                     clear H1
                     obtain rfl := Option.some.inj H
                     go_wp2_with (first | ((with_reducible refine gate_callee (f := 52) rfl ?_); refine goesL_ (some 204) rfl rfl Try.func52 (by kernel_rfl) rfl #[.slice A0 l0.length c0] rfl (by (try simp only [List.map_toArray, List.map_cons, List.map_nil]); first | done | rfl | (simp only [List.length_drop, List.length_take]; rfl)) ?_; (with_reducible refine (spec_DrawCharacteristicPrefix.calls kj88 _ _ l0 t492 t493 _ ?side1 ?side2 A99.out).mono ?_); (case side1 => repeat (first | exact (Kd.C_below HR0.out HB.out) | (with_reducible refine Kd.C_alloc ?_ _) | (with_reducible refine Kd.C_drewN ?_ _) | (with_reducible refine Kd.C_drew ?_))); (case side2 => exact HC0.out); rintro e w137 ⟨v494, rfl, ho0, hb⟩; refine ⟨_, rfl, ?_⟩; have n0_ := Aside0.mk (Kd.R_lower ho0 (below_size (by repeat (first | (with_reducible first | exact HB.out | apply below_alloc | apply pw_below_drewN | apply below_drew1) | exact HB.out)))); have n1_ := Aside0.mk (below_step (by repeat (first | (with_reducible first | exact HB.out | apply below_alloc | apply pw_below_drewN | apply below_drew1) | exact HB.out)) hb); clear HB; have HO495 := n0_; have HB := n1_; clear n0_ n1_; (try clear hb); (try clear hb2); (try clear hk); (try clear hi); (try clear ho0); obtain ⟨Ao138, co138, eo138⟩ := Kd.R_slice HO495.out; subst eo138) | ((with_reducible refine gate_callee (f := 26) rfl ?_); refine goesL_ (some 210) rfl rfl Try.func26 (by kernel_rfl) rfl #[.slice Ao138 t492.length co138, .int .i64 t493] rfl (by (try simp only [List.map_toArray, List.map_cons, List.map_nil]); first | done | rfl | (simp only [List.length_drop, List.length_take]; rfl)) ?_; (with_reducible refine (impl_CharacteristicPrefix.calls kj88 _ _ t492 t493 t496 t497 _ ?side1 ?side2 A100.out).mono ?_); (case side1 => repeat (first | exact (Kd.R_reads' HO495.out).2.2 | (with_reducible refine Kd.C_alloc ?_ _) | (with_reducible refine Kd.C_drewN ?_ _) | (with_reducible refine Kd.C_drew ?_))); (case side2 => exact (Kd.R_reads' HO495.out).2.1); rintro e w139 ⟨v498, rfl, ho0, hb⟩; refine ⟨_, rfl, ?_⟩; have n0_ := Aside0.mk (Kd.R_elder' (by (with_reducible repeat (first | apply Kd.R_alloc | apply Kd.R_drewN | apply Kd.R_drew)); exact HO495.out) (Kd.R_base ho0) hb); have n1_ := Aside0.mk (Kd.R_lower (Kd.R_new' ho0 (Kd.R_lt (by (with_reducible repeat (first | apply Kd.R_alloc | apply Kd.R_drewN | apply Kd.R_drew)); exact HO495.out))) (below_size (by repeat (first | (with_reducible first | exact HB.out | apply below_alloc | apply pw_below_drewN | apply below_drew1) | exact HB.out)))); have n2_ := Aside0.mk (below_step (by repeat (first | (with_reducible first | exact HB.out | apply below_alloc | apply pw_below_drewN | apply below_drew1) | exact HB.out)) hb); clear HO495; clear HB; have HO495 := n0_; have HO499 := n1_; have HB := n2_; clear n0_ n1_ n2_; (try clear hb); (try clear hb2); (try clear hk); (try clear hi); (try clear ho0)) | ((with_reducible refine gate_callee (f := 25) rfl ?_); refine goesL_ (some 216) rfl rfl Try.func25 (by kernel_rfl) rfl #[.slice Ao138 t492.length co138, .int .i64 t493] rfl (by (try simp only [List.map_toArray, List.map_cons, List.map_nil]); first | done | rfl | (simp only [List.length_drop, List.length_take]; rfl)) ?_; (with_reducible refine (spec_CharacteristicPrefix.calls kj88 _ _ t492 t493 t500 t501 _ ?side1 ?side2 A101.out).mono ?_); (case side1 => repeat (first | exact (Kd.R_reads' HO495.out).2.2 | (with_reducible refine Kd.C_alloc ?_ _) | (with_reducible refine Kd.C_drewN ?_ _) | (with_reducible refine Kd.C_drew ?_))); (case side2 => exact (Kd.R_reads' HO495.out).2.1); rintro e w140 ⟨v502, rfl, ho0, hb⟩; refine ⟨_, rfl, ?_⟩; have n0_ := Aside0.mk (Kd.R_elder' (by (with_reducible repeat (first | apply Kd.R_alloc | apply Kd.R_drewN | apply Kd.R_drew)); exact HO495.out) (Kd.R_base ho0) hb); have n1_ := Aside0.mk (Kd.R_elder' (by (with_reducible repeat (first | apply Kd.R_alloc | apply Kd.R_drewN | apply Kd.R_drew)); exact HO499.out) (Kd.R_base ho0) hb); have n2_ := Aside0.mk (Kd.R_lower (Kd.R_new' (Kd.R_new' ho0 (Kd.R_lt (by (with_reducible repeat (first | apply Kd.R_alloc | apply Kd.R_drewN | apply Kd.R_drew)); exact HO495.out))) (Kd.R_lt (by (with_reducible repeat (first | apply Kd.R_alloc | apply Kd.R_drewN | apply Kd.R_drew)); exact HO499.out))) (below_size (by repeat (first | (with_reducible first | exact HB.out | apply below_alloc | apply pw_below_drewN | apply below_drew1) | exact HB.out)))); have n3_ := Aside0.mk (below_step (by repeat (first | (with_reducible first | exact HB.out | apply below_alloc | apply pw_below_drewN | apply below_drew1) | exact HB.out)) hb); clear HO495; clear HO499; clear HB; have HO495 := n0_; have HO499 := n1_; have HO503 := n2_; have HB := n3_; clear n0_ n1_ n2_ n3_; (try clear hb); (try clear hb2); (try clear hk); (try clear hi); (try clear ho0)) | ((with_reducible refine gate_callee (f := 53) rfl ?_); refine goesL_ (some 221) rfl rfl Try.func53 (by kernel_rfl) rfl #[.slice A0 l0.length c0] rfl (by (try simp only [List.map_toArray, List.map_cons, List.map_nil]); first | done | rfl | (simp only [List.length_drop, List.length_take]; rfl)) ?_; (with_reducible refine (spec_DrawMechanicalWord.calls kj88 _ _ l0 t504 t505 t506 t507 _ ?side1 ?side2 A102.out).mono ?_); (case side1 => repeat (first | exact (Kd.C_below HR0.out HB.out) | (with_reducible refine Kd.C_alloc ?_ _) | (with_reducible refine Kd.C_drewN ?_ _) | (with_reducible refine Kd.C_drew ?_))); (case side2 => exact HC0.out); rintro e w141 ⟨rfl, hb⟩; refine ⟨_, rfl, ?_⟩; have n0_ := Aside0.mk (Kd.R_below (by (with_reducible repeat (first | apply Kd.R_alloc | apply Kd.R_drewN | apply Kd.R_drew)); exact HO495.out) hb); have n1_ := Aside0.mk (Kd.R_below (by (with_reducible repeat (first | apply Kd.R_alloc | apply Kd.R_drewN | apply Kd.R_drew)); exact HO499.out) hb); have n2_ := Aside0.mk (Kd.R_below (by (with_reducible repeat (first | apply Kd.R_alloc | apply Kd.R_drewN | apply Kd.R_drew)); exact HO503.out) hb); have n3_ := Aside0.mk (below_step (by repeat (first | (with_reducible first | exact HB.out | apply below_alloc | apply pw_below_drewN | apply below_drew1) | exact HB.out)) hb); clear HO495; clear HO499; clear HO503; clear HB; have HO495 := n0_; have HO499 := n1_; have HO503 := n2_; have HB := n3_; clear n0_ n1_ n2_ n3_; (try clear hb); (try clear hb2); (try clear hk); (try clear hi)) | ((with_reducible refine gate_callee (f := 54) rfl ?_); refine goesL_ (some 231) rfl rfl Try.func54 (by kernel_rfl) rfl #[.int .i64 t504, .int .i64 t505, .int .i64 t506, .int .i64 t507] rfl (by (try simp only [List.map_toArray, List.map_cons, List.map_nil]); first | done | rfl | (simp only [List.length_drop, List.length_take]; rfl)) ?_; (with_reducible refine (impl_MechanicalWord.calls kj88 t504 t505 t506 t507 t508 false _ A103.out).mono ?_); rintro e w142 ⟨v510, rfl, ho0, hb⟩; refine ⟨_, rfl, ?_⟩; have n0_ := Aside0.mk (Kd.R_elder' (by (with_reducible repeat (first | apply Kd.R_alloc | apply Kd.R_drewN | apply Kd.R_drew)); exact HO495.out) (Kd.R_base ho0) hb); have n1_ := Aside0.mk (Kd.R_elder' (by (with_reducible repeat (first | apply Kd.R_alloc | apply Kd.R_drewN | apply Kd.R_drew)); exact HO499.out) (Kd.R_base ho0) hb); have n2_ := Aside0.mk (Kd.R_elder' (by (with_reducible repeat (first | apply Kd.R_alloc | apply Kd.R_drewN | apply Kd.R_drew)); exact HO503.out) (Kd.R_base ho0) hb); have n3_ := Aside0.mk (Kd.R_lower (Kd.R_new' (Kd.R_new' (Kd.R_new' ho0 (Kd.R_lt (by (with_reducible repeat (first | apply Kd.R_alloc | apply Kd.R_drewN | apply Kd.R_drew)); exact HO495.out))) (Kd.R_lt (by (with_reducible repeat (first | apply Kd.R_alloc | apply Kd.R_drewN | apply Kd.R_drew)); exact HO499.out))) (Kd.R_lt (by (with_reducible repeat (first | apply Kd.R_alloc | apply Kd.R_drewN | apply Kd.R_drew)); exact HO503.out))) (below_size (by repeat (first | (with_reducible first | exact HB.out | apply below_alloc | apply pw_below_drewN | apply below_drew1) | exact HB.out)))); have n4_ := Aside0.mk (below_step (by repeat (first | (with_reducible first | exact HB.out | apply below_alloc | apply pw_below_drewN | apply below_drew1) | exact HB.out)) hb); clear HO495; clear HO499; clear HO503; clear HB; have HO495 := n0_; have HO499 := n1_; have HO503 := n2_; have HO511 := n3_; have HB := n4_; clear n0_ n1_ n2_ n3_ n4_; (try clear hb); (try clear hb2); (try clear hk); (try clear hi); (try clear ho0)) | ((with_reducible refine gate_callee (f := 55) rfl ?_); refine goesL_ (some 239) rfl rfl Try.func55 (by kernel_rfl) rfl #[.int .i64 t504, .int .i64 t505, .int .i64 t506, .int .i64 t507] rfl (by (try simp only [List.map_toArray, List.map_cons, List.map_nil]); first | done | rfl | (simp only [List.length_drop, List.length_take]; rfl)) ?_; (with_reducible refine (spec_MechanicalWord.calls kj88 t504 t505 t506 t507 t512 t513 _ A104.out).mono ?_); rintro e w143 ⟨v514, rfl, ho0, hb⟩; refine ⟨_, rfl, ?_⟩; have n0_ := Aside0.mk (Kd.R_elder' (by (with_reducible repeat (first | apply Kd.R_alloc | apply Kd.R_drewN | apply Kd.R_drew)); exact HO495.out) (Kd.R_base ho0) hb); have n1_ := Aside0.mk (Kd.R_elder' (by (with_reducible repeat (first | apply Kd.R_alloc | apply Kd.R_drewN | apply Kd.R_drew)); exact HO499.out) (Kd.R_base ho0) hb); have n2_ := Aside0.mk (Kd.R_elder' (by (with_reducible repeat (first | apply Kd.R_alloc | apply Kd.R_drewN | apply Kd.R_drew)); exact HO503.out) (Kd.R_base ho0) hb); have n3_ := Aside0.mk (Kd.R_elder' (by (with_reducible repeat (first | apply Kd.R_alloc | apply Kd.R_drewN | apply Kd.R_drew)); exact HO511.out) (Kd.R_base ho0) hb); have n4_ := Aside0.mk (Kd.R_lower (Kd.R_new' (Kd.R_new' (Kd.R_new' (Kd.R_new' ho0 (Kd.R_lt (by (with_reducible repeat (first | apply Kd.R_alloc | apply Kd.R_drewN | apply Kd.R_drew)); exact HO495.out))) (Kd.R_lt (by (with_reducible repeat (first | apply Kd.R_alloc | apply Kd.R_drewN | apply Kd.R_drew)); exact HO499.out))) (Kd.R_lt (by (with_reducible repeat (first | apply Kd.R_alloc | apply Kd.R_drewN | apply Kd.R_drew)); exact HO503.out))) (Kd.R_lt (by (with_reducible repeat (first | apply Kd.R_alloc | apply Kd.R_drewN | apply Kd.R_drew)); exact HO511.out))) (below_size (by repeat (first | (with_reducible first | exact HB.out | apply below_alloc | apply pw_below_drewN | apply below_drew1) | exact HB.out)))); have n5_ := Aside0.mk (below_step (by repeat (first | (with_reducible first | exact HB.out | apply below_alloc | apply pw_below_drewN | apply below_drew1) | exact HB.out)) hb); clear HO495; clear HO499; clear HO503; clear HO511; clear HB; have HO495 := n0_; have HO499 := n1_; have HO503 := n2_; have HO511 := n3_; have HO515 := n4_; have HB := n5_; clear n0_ n1_ n2_ n3_ n4_ n5_; (try clear hb); (try clear hb2); (try clear hk); (try clear hi); (try clear ho0); obtain ⟨Ao144, co144, eo144⟩ := Kd.R_slice HO499.out; subst eo144; obtain ⟨Ao145, co145, eo145⟩ := Kd.R_slice HO503.out; subst eo145) | (go_at_call 44; (with_reducible refine (laws_sameInts.calls kj88 _ _ t496 _ _ t500 true _ ?side1 ?side2 ?side3 ?side4 A106.out).mono ?_); (case side1 => repeat (first | exact (Kd.R_reads' HO499.out).2.2 | (with_reducible refine Kd.C_alloc ?_ _) | (with_reducible refine Kd.C_drewN ?_ _) | (with_reducible refine Kd.C_drew ?_))); (case side2 => exact (Kd.R_reads' HO499.out).2.1); (case side3 => repeat (first | exact (Kd.R_reads' HO503.out).2.2 | (with_reducible refine Kd.C_alloc ?_ _) | (with_reducible refine Kd.C_drewN ?_ _) | (with_reducible refine Kd.C_drew ?_))); (case side4 => exact (Kd.R_reads' HO503.out).2.1); rintro e w' ⟨rfl, ⟨nd, rfl⟩⟩; obtain ⟨Ao146, co146, eo146⟩ := Kd.R_slice HO511.out; subst eo146; obtain ⟨Ao147, co147, eo147⟩ := Kd.R_slice HO515.out; subst eo147) | (go_at_call 44; (with_reducible refine (laws_sameInts.calls kj88 _ _ t508 _ _ t512 true _ ?side1 ?side2 ?side3 ?side4 A109.out).mono ?_); (case side1 => repeat (first | exact (Kd.R_reads' HO511.out).2.2 | (with_reducible refine Kd.C_alloc ?_ _) | (with_reducible refine Kd.C_drewN ?_ _) | (with_reducible refine Kd.C_drew ?_))); (case side2 => exact (Kd.R_reads' HO511.out).2.1); (case side3 => repeat (first | exact (Kd.R_reads' HO515.out).2.2 | (with_reducible refine Kd.C_alloc ?_ _) | (with_reducible refine Kd.C_drewN ?_ _) | (with_reducible refine Kd.C_drew ?_))); (case side4 => exact (Kd.R_reads' HO515.out).2.1); rintro e w' ⟨rfl, ⟨nd, rfl⟩⟩))
                     go_ret
                     exact ⟨by first | rfl | (simp [errW_none, errW_some] <;> rfl) | (simp [*, errW_none, errW_some] <;> rfl), by repeat (first | (with_reducible first | exact HB.out | apply below_alloc | apply pw_below_drewN | apply below_drew1) | exact HB.out)⟩
                   ·replace c110 := Bool.eq_false_iff.mpr c110
                    subst c110
                    have H1 : (some false) = some r := by rw [if_neg (show ¬ (false = true) by decide)] at H; exact H
                    clear H
                    have H := H1
                    clear H1
                    obtain rfl := Option.some.inj H
                    go_wp2_with (first | ((with_reducible refine gate_callee (f := 52) rfl ?_); refine goesL_ (some 204) rfl rfl Try.func52 (by kernel_rfl) rfl #[.slice A0 l0.length c0] rfl (by (try simp only [List.map_toArray, List.map_cons, List.map_nil]); first | done | rfl | (simp only [List.length_drop, List.length_take]; rfl)) ?_; (with_reducible refine (spec_DrawCharacteristicPrefix.calls kj88 _ _ l0 t492 t493 _ ?side1 ?side2 A99.out).mono ?_); (case side1 => repeat (first | exact (Kd.C_below HR0.out HB.out) | (with_reducible refine Kd.C_alloc ?_ _) | (with_reducible refine Kd.C_drewN ?_ _) | (with_reducible refine Kd.C_drew ?_))); (case side2 => exact HC0.out); rintro e w148 ⟨v494, rfl, ho0, hb⟩; refine ⟨_, rfl, ?_⟩; have n0_ := Aside0.mk (Kd.R_lower ho0 (below_size (by repeat (first | (with_reducible first | exact HB.out | apply below_alloc | apply pw_below_drewN | apply below_drew1) | exact HB.out)))); have n1_ := Aside0.mk (below_step (by repeat (first | (with_reducible first | exact HB.out | apply below_alloc | apply pw_below_drewN | apply below_drew1) | exact HB.out)) hb); clear HB; have HO495 := n0_; have HB := n1_; clear n0_ n1_; (try clear hb); (try clear hb2); (try clear hk); (try clear hi); (try clear ho0); obtain ⟨Ao149, co149, eo149⟩ := Kd.R_slice HO495.out; subst eo149) | ((with_reducible refine gate_callee (f := 26) rfl ?_); refine goesL_ (some 210) rfl rfl Try.func26 (by kernel_rfl) rfl #[.slice Ao149 t492.length co149, .int .i64 t493] rfl (by (try simp only [List.map_toArray, List.map_cons, List.map_nil]); first | done | rfl | (simp only [List.length_drop, List.length_take]; rfl)) ?_; (with_reducible refine (impl_CharacteristicPrefix.calls kj88 _ _ t492 t493 t496 t497 _ ?side1 ?side2 A100.out).mono ?_); (case side1 => repeat (first | exact (Kd.R_reads' HO495.out).2.2 | (with_reducible refine Kd.C_alloc ?_ _) | (with_reducible refine Kd.C_drewN ?_ _) | (with_reducible refine Kd.C_drew ?_))); (case side2 => exact (Kd.R_reads' HO495.out).2.1); rintro e w150 ⟨v498, rfl, ho0, hb⟩; refine ⟨_, rfl, ?_⟩; have n0_ := Aside0.mk (Kd.R_elder' (by (with_reducible repeat (first | apply Kd.R_alloc | apply Kd.R_drewN | apply Kd.R_drew)); exact HO495.out) (Kd.R_base ho0) hb); have n1_ := Aside0.mk (Kd.R_lower (Kd.R_new' ho0 (Kd.R_lt (by (with_reducible repeat (first | apply Kd.R_alloc | apply Kd.R_drewN | apply Kd.R_drew)); exact HO495.out))) (below_size (by repeat (first | (with_reducible first | exact HB.out | apply below_alloc | apply pw_below_drewN | apply below_drew1) | exact HB.out)))); have n2_ := Aside0.mk (below_step (by repeat (first | (with_reducible first | exact HB.out | apply below_alloc | apply pw_below_drewN | apply below_drew1) | exact HB.out)) hb); clear HO495; clear HB; have HO495 := n0_; have HO499 := n1_; have HB := n2_; clear n0_ n1_ n2_; (try clear hb); (try clear hb2); (try clear hk); (try clear hi); (try clear ho0)) | ((with_reducible refine gate_callee (f := 25) rfl ?_); refine goesL_ (some 216) rfl rfl Try.func25 (by kernel_rfl) rfl #[.slice Ao149 t492.length co149, .int .i64 t493] rfl (by (try simp only [List.map_toArray, List.map_cons, List.map_nil]); first | done | rfl | (simp only [List.length_drop, List.length_take]; rfl)) ?_; (with_reducible refine (spec_CharacteristicPrefix.calls kj88 _ _ t492 t493 t500 t501 _ ?side1 ?side2 A101.out).mono ?_); (case side1 => repeat (first | exact (Kd.R_reads' HO495.out).2.2 | (with_reducible refine Kd.C_alloc ?_ _) | (with_reducible refine Kd.C_drewN ?_ _) | (with_reducible refine Kd.C_drew ?_))); (case side2 => exact (Kd.R_reads' HO495.out).2.1); rintro e w151 ⟨v502, rfl, ho0, hb⟩; refine ⟨_, rfl, ?_⟩; have n0_ := Aside0.mk (Kd.R_elder' (by (with_reducible repeat (first | apply Kd.R_alloc | apply Kd.R_drewN | apply Kd.R_drew)); exact HO495.out) (Kd.R_base ho0) hb); have n1_ := Aside0.mk (Kd.R_elder' (by (with_reducible repeat (first | apply Kd.R_alloc | apply Kd.R_drewN | apply Kd.R_drew)); exact HO499.out) (Kd.R_base ho0) hb); have n2_ := Aside0.mk (Kd.R_lower (Kd.R_new' (Kd.R_new' ho0 (Kd.R_lt (by (with_reducible repeat (first | apply Kd.R_alloc | apply Kd.R_drewN | apply Kd.R_drew)); exact HO495.out))) (Kd.R_lt (by (with_reducible repeat (first | apply Kd.R_alloc | apply Kd.R_drewN | apply Kd.R_drew)); exact HO499.out))) (below_size (by repeat (first | (with_reducible first | exact HB.out | apply below_alloc | apply pw_below_drewN | apply below_drew1) | exact HB.out)))); have n3_ := Aside0.mk (below_step (by repeat (first | (with_reducible first | exact HB.out | apply below_alloc | apply pw_below_drewN | apply below_drew1) | exact HB.out)) hb); clear HO495; clear HO499; clear HB; have HO495 := n0_; have HO499 := n1_; have HO503 := n2_; have HB := n3_; clear n0_ n1_ n2_ n3_; (try clear hb); (try clear hb2); (try clear hk); (try clear hi); (try clear ho0)) | ((with_reducible refine gate_callee (f := 53) rfl ?_); refine goesL_ (some 221) rfl rfl Try.func53 (by kernel_rfl) rfl #[.slice A0 l0.length c0] rfl (by (try simp only [List.map_toArray, List.map_cons, List.map_nil]); first | done | rfl | (simp only [List.length_drop, List.length_take]; rfl)) ?_; (with_reducible refine (spec_DrawMechanicalWord.calls kj88 _ _ l0 t504 t505 t506 t507 _ ?side1 ?side2 A102.out).mono ?_); (case side1 => repeat (first | exact (Kd.C_below HR0.out HB.out) | (with_reducible refine Kd.C_alloc ?_ _) | (with_reducible refine Kd.C_drewN ?_ _) | (with_reducible refine Kd.C_drew ?_))); (case side2 => exact HC0.out); rintro e w152 ⟨rfl, hb⟩; refine ⟨_, rfl, ?_⟩; have n0_ := Aside0.mk (Kd.R_below (by (with_reducible repeat (first | apply Kd.R_alloc | apply Kd.R_drewN | apply Kd.R_drew)); exact HO495.out) hb); have n1_ := Aside0.mk (Kd.R_below (by (with_reducible repeat (first | apply Kd.R_alloc | apply Kd.R_drewN | apply Kd.R_drew)); exact HO499.out) hb); have n2_ := Aside0.mk (Kd.R_below (by (with_reducible repeat (first | apply Kd.R_alloc | apply Kd.R_drewN | apply Kd.R_drew)); exact HO503.out) hb); have n3_ := Aside0.mk (below_step (by repeat (first | (with_reducible first | exact HB.out | apply below_alloc | apply pw_below_drewN | apply below_drew1) | exact HB.out)) hb); clear HO495; clear HO499; clear HO503; clear HB; have HO495 := n0_; have HO499 := n1_; have HO503 := n2_; have HB := n3_; clear n0_ n1_ n2_ n3_; (try clear hb); (try clear hb2); (try clear hk); (try clear hi)) | ((with_reducible refine gate_callee (f := 54) rfl ?_); refine goesL_ (some 231) rfl rfl Try.func54 (by kernel_rfl) rfl #[.int .i64 t504, .int .i64 t505, .int .i64 t506, .int .i64 t507] rfl (by (try simp only [List.map_toArray, List.map_cons, List.map_nil]); first | done | rfl | (simp only [List.length_drop, List.length_take]; rfl)) ?_; (with_reducible refine (impl_MechanicalWord.calls kj88 t504 t505 t506 t507 t508 t509 _ A103.out).mono ?_); rintro e w153 ⟨v510, rfl, ho0, hb⟩; refine ⟨_, rfl, ?_⟩; have n0_ := Aside0.mk (Kd.R_elder' (by (with_reducible repeat (first | apply Kd.R_alloc | apply Kd.R_drewN | apply Kd.R_drew)); exact HO495.out) (Kd.R_base ho0) hb); have n1_ := Aside0.mk (Kd.R_elder' (by (with_reducible repeat (first | apply Kd.R_alloc | apply Kd.R_drewN | apply Kd.R_drew)); exact HO499.out) (Kd.R_base ho0) hb); have n2_ := Aside0.mk (Kd.R_elder' (by (with_reducible repeat (first | apply Kd.R_alloc | apply Kd.R_drewN | apply Kd.R_drew)); exact HO503.out) (Kd.R_base ho0) hb); have n3_ := Aside0.mk (Kd.R_lower (Kd.R_new' (Kd.R_new' (Kd.R_new' ho0 (Kd.R_lt (by (with_reducible repeat (first | apply Kd.R_alloc | apply Kd.R_drewN | apply Kd.R_drew)); exact HO495.out))) (Kd.R_lt (by (with_reducible repeat (first | apply Kd.R_alloc | apply Kd.R_drewN | apply Kd.R_drew)); exact HO499.out))) (Kd.R_lt (by (with_reducible repeat (first | apply Kd.R_alloc | apply Kd.R_drewN | apply Kd.R_drew)); exact HO503.out))) (below_size (by repeat (first | (with_reducible first | exact HB.out | apply below_alloc | apply pw_below_drewN | apply below_drew1) | exact HB.out)))); have n4_ := Aside0.mk (below_step (by repeat (first | (with_reducible first | exact HB.out | apply below_alloc | apply pw_below_drewN | apply below_drew1) | exact HB.out)) hb); clear HO495; clear HO499; clear HO503; clear HB; have HO495 := n0_; have HO499 := n1_; have HO503 := n2_; have HO511 := n3_; have HB := n4_; clear n0_ n1_ n2_ n3_ n4_; (try clear hb); (try clear hb2); (try clear hk); (try clear hi); (try clear ho0)) | ((with_reducible refine gate_callee (f := 55) rfl ?_); refine goesL_ (some 239) rfl rfl Try.func55 (by kernel_rfl) rfl #[.int .i64 t504, .int .i64 t505, .int .i64 t506, .int .i64 t507] rfl (by (try simp only [List.map_toArray, List.map_cons, List.map_nil]); first | done | rfl | (simp only [List.length_drop, List.length_take]; rfl)) ?_; (with_reducible refine (spec_MechanicalWord.calls kj88 t504 t505 t506 t507 t512 t513 _ A104.out).mono ?_); rintro e w154 ⟨v514, rfl, ho0, hb⟩; refine ⟨_, rfl, ?_⟩; have n0_ := Aside0.mk (Kd.R_elder' (by (with_reducible repeat (first | apply Kd.R_alloc | apply Kd.R_drewN | apply Kd.R_drew)); exact HO495.out) (Kd.R_base ho0) hb); have n1_ := Aside0.mk (Kd.R_elder' (by (with_reducible repeat (first | apply Kd.R_alloc | apply Kd.R_drewN | apply Kd.R_drew)); exact HO499.out) (Kd.R_base ho0) hb); have n2_ := Aside0.mk (Kd.R_elder' (by (with_reducible repeat (first | apply Kd.R_alloc | apply Kd.R_drewN | apply Kd.R_drew)); exact HO503.out) (Kd.R_base ho0) hb); have n3_ := Aside0.mk (Kd.R_elder' (by (with_reducible repeat (first | apply Kd.R_alloc | apply Kd.R_drewN | apply Kd.R_drew)); exact HO511.out) (Kd.R_base ho0) hb); have n4_ := Aside0.mk (Kd.R_lower (Kd.R_new' (Kd.R_new' (Kd.R_new' (Kd.R_new' ho0 (Kd.R_lt (by (with_reducible repeat (first | apply Kd.R_alloc | apply Kd.R_drewN | apply Kd.R_drew)); exact HO495.out))) (Kd.R_lt (by (with_reducible repeat (first | apply Kd.R_alloc | apply Kd.R_drewN | apply Kd.R_drew)); exact HO499.out))) (Kd.R_lt (by (with_reducible repeat (first | apply Kd.R_alloc | apply Kd.R_drewN | apply Kd.R_drew)); exact HO503.out))) (Kd.R_lt (by (with_reducible repeat (first | apply Kd.R_alloc | apply Kd.R_drewN | apply Kd.R_drew)); exact HO511.out))) (below_size (by repeat (first | (with_reducible first | exact HB.out | apply below_alloc | apply pw_below_drewN | apply below_drew1) | exact HB.out)))); have n5_ := Aside0.mk (below_step (by repeat (first | (with_reducible first | exact HB.out | apply below_alloc | apply pw_below_drewN | apply below_drew1) | exact HB.out)) hb); clear HO495; clear HO499; clear HO503; clear HO511; clear HB; have HO495 := n0_; have HO499 := n1_; have HO503 := n2_; have HO511 := n3_; have HO515 := n4_; have HB := n5_; clear n0_ n1_ n2_ n3_ n4_ n5_; (try clear hb); (try clear hb2); (try clear hk); (try clear hi); (try clear ho0); obtain ⟨Ao155, co155, eo155⟩ := Kd.R_slice HO499.out; subst eo155; obtain ⟨Ao156, co156, eo156⟩ := Kd.R_slice HO503.out; subst eo156) | (go_at_call 44; (with_reducible refine (laws_sameInts.calls kj88 _ _ t496 _ _ t500 true _ ?side1 ?side2 ?side3 ?side4 A106.out).mono ?_); (case side1 => repeat (first | exact (Kd.R_reads' HO499.out).2.2 | (with_reducible refine Kd.C_alloc ?_ _) | (with_reducible refine Kd.C_drewN ?_ _) | (with_reducible refine Kd.C_drew ?_))); (case side2 => exact (Kd.R_reads' HO499.out).2.1); (case side3 => repeat (first | exact (Kd.R_reads' HO503.out).2.2 | (with_reducible refine Kd.C_alloc ?_ _) | (with_reducible refine Kd.C_drewN ?_ _) | (with_reducible refine Kd.C_drew ?_))); (case side4 => exact (Kd.R_reads' HO503.out).2.1); rintro e w' ⟨rfl, ⟨nd, rfl⟩⟩; obtain ⟨Ao157, co157, eo157⟩ := Kd.R_slice HO511.out; subst eo157; obtain ⟨Ao158, co158, eo158⟩ := Kd.R_slice HO515.out; subst eo158) | (go_at_call 44; (with_reducible refine (laws_sameInts.calls kj88 _ _ t508 _ _ t512 false _ ?side1 ?side2 ?side3 ?side4 A109.out).mono ?_); (case side1 => repeat (first | exact (Kd.R_reads' HO511.out).2.2 | (with_reducible refine Kd.C_alloc ?_ _) | (with_reducible refine Kd.C_drewN ?_ _) | (with_reducible refine Kd.C_drew ?_))); (case side2 => exact (Kd.R_reads' HO511.out).2.1); (case side3 => repeat (first | exact (Kd.R_reads' HO515.out).2.2 | (with_reducible refine Kd.C_alloc ?_ _) | (with_reducible refine Kd.C_drewN ?_ _) | (with_reducible refine Kd.C_drew ?_))); (case side4 => exact (Kd.R_reads' HO515.out).2.1); rintro e w' ⟨rfl, ⟨nd, rfl⟩⟩))
                    go_ret
                    exact ⟨by first | rfl | (simp [errW_none, errW_some] <;> rfl) | (simp [*, errW_none, errW_some] <;> rfl), by repeat (first | (with_reducible first | exact HB.out | apply below_alloc | apply pw_below_drewN | apply below_drew1) | exact HB.out)⟩
                  ·rw [if_neg c108] at H
                   have c108b0 : (t509 == t513) = false := by simpa using c108
                   (try (have c108b1 : decide (t509 = t513) = false := by simpa using c108))
                   (try (have c108b2 : (t509 == t513) = false := by simpa using c108))
                   (try (have c108b3 : ¬ (t509 = t513) := by simpa using c108))
                   clear c108
                   obtain rfl := Option.some.inj H
                   go_wp2_with (first | ((with_reducible refine gate_callee (f := 52) rfl ?_); refine goesL_ (some 204) rfl rfl Try.func52 (by kernel_rfl) rfl #[.slice A0 l0.length c0] rfl (by (try simp only [List.map_toArray, List.map_cons, List.map_nil]); first | done | rfl | (simp only [List.length_drop, List.length_take]; rfl)) ?_; (with_reducible refine (spec_DrawCharacteristicPrefix.calls kj88 _ _ l0 t492 t493 _ ?side1 ?side2 A99.out).mono ?_); (case side1 => repeat (first | exact (Kd.C_below HR0.out HB.out) | (with_reducible refine Kd.C_alloc ?_ _) | (with_reducible refine Kd.C_drewN ?_ _) | (with_reducible refine Kd.C_drew ?_))); (case side2 => exact HC0.out); rintro e w159 ⟨v494, rfl, ho0, hb⟩; refine ⟨_, rfl, ?_⟩; have n0_ := Aside0.mk (Kd.R_lower ho0 (below_size (by repeat (first | (with_reducible first | exact HB.out | apply below_alloc | apply pw_below_drewN | apply below_drew1) | exact HB.out)))); have n1_ := Aside0.mk (below_step (by repeat (first | (with_reducible first | exact HB.out | apply below_alloc | apply pw_below_drewN | apply below_drew1) | exact HB.out)) hb); clear HB; have HO495 := n0_; have HB := n1_; clear n0_ n1_; (try clear hb); (try clear hb2); (try clear hk); (try clear hi); (try clear ho0); obtain ⟨Ao160, co160, eo160⟩ := Kd.R_slice HO495.out; subst eo160) | ((with_reducible refine gate_callee (f := 26) rfl ?_); refine goesL_ (some 210) rfl rfl Try.func26 (by kernel_rfl) rfl #[.slice Ao160 t492.length co160, .int .i64 t493] rfl (by (try simp only [List.map_toArray, List.map_cons, List.map_nil]); first | done | rfl | (simp only [List.length_drop, List.length_take]; rfl)) ?_; (with_reducible refine (impl_CharacteristicPrefix.calls kj88 _ _ t492 t493 t496 t497 _ ?side1 ?side2 A100.out).mono ?_); (case side1 => repeat (first | exact (Kd.R_reads' HO495.out).2.2 | (with_reducible refine Kd.C_alloc ?_ _) | (with_reducible refine Kd.C_drewN ?_ _) | (with_reducible refine Kd.C_drew ?_))); (case side2 => exact (Kd.R_reads' HO495.out).2.1); rintro e w161 ⟨v498, rfl, ho0, hb⟩; refine ⟨_, rfl, ?_⟩; have n0_ := Aside0.mk (Kd.R_elder' (by (with_reducible repeat (first | apply Kd.R_alloc | apply Kd.R_drewN | apply Kd.R_drew)); exact HO495.out) (Kd.R_base ho0) hb); have n1_ := Aside0.mk (Kd.R_lower (Kd.R_new' ho0 (Kd.R_lt (by (with_reducible repeat (first | apply Kd.R_alloc | apply Kd.R_drewN | apply Kd.R_drew)); exact HO495.out))) (below_size (by repeat (first | (with_reducible first | exact HB.out | apply below_alloc | apply pw_below_drewN | apply below_drew1) | exact HB.out)))); have n2_ := Aside0.mk (below_step (by repeat (first | (with_reducible first | exact HB.out | apply below_alloc | apply pw_below_drewN | apply below_drew1) | exact HB.out)) hb); clear HO495; clear HB; have HO495 := n0_; have HO499 := n1_; have HB := n2_; clear n0_ n1_ n2_; (try clear hb); (try clear hb2); (try clear hk); (try clear hi); (try clear ho0)) | ((with_reducible refine gate_callee (f := 25) rfl ?_); refine goesL_ (some 216) rfl rfl Try.func25 (by kernel_rfl) rfl #[.slice Ao160 t492.length co160, .int .i64 t493] rfl (by (try simp only [List.map_toArray, List.map_cons, List.map_nil]); first | done | rfl | (simp only [List.length_drop, List.length_take]; rfl)) ?_; (with_reducible refine (spec_CharacteristicPrefix.calls kj88 _ _ t492 t493 t500 t501 _ ?side1 ?side2 A101.out).mono ?_); (case side1 => repeat (first | exact (Kd.R_reads' HO495.out).2.2 | (with_reducible refine Kd.C_alloc ?_ _) | (with_reducible refine Kd.C_drewN ?_ _) | (with_reducible refine Kd.C_drew ?_))); (case side2 => exact (Kd.R_reads' HO495.out).2.1); rintro e w162 ⟨v502, rfl, ho0, hb⟩; refine ⟨_, rfl, ?_⟩; have n0_ := Aside0.mk (Kd.R_elder' (by (with_reducible repeat (first | apply Kd.R_alloc | apply Kd.R_drewN | apply Kd.R_drew)); exact HO495.out) (Kd.R_base ho0) hb); have n1_ := Aside0.mk (Kd.R_elder' (by (with_reducible repeat (first | apply Kd.R_alloc | apply Kd.R_drewN | apply Kd.R_drew)); exact HO499.out) (Kd.R_base ho0) hb); have n2_ := Aside0.mk (Kd.R_lower (Kd.R_new' (Kd.R_new' ho0 (Kd.R_lt (by (with_reducible repeat (first | apply Kd.R_alloc | apply Kd.R_drewN | apply Kd.R_drew)); exact HO495.out))) (Kd.R_lt (by (with_reducible repeat (first | apply Kd.R_alloc | apply Kd.R_drewN | apply Kd.R_drew)); exact HO499.out))) (below_size (by repeat (first | (with_reducible first | exact HB.out | apply below_alloc | apply pw_below_drewN | apply below_drew1) | exact HB.out)))); have n3_ := Aside0.mk (below_step (by repeat (first | (with_reducible first | exact HB.out | apply below_alloc | apply pw_below_drewN | apply below_drew1) | exact HB.out)) hb); clear HO495; clear HO499; clear HB; have HO495 := n0_; have HO499 := n1_; have HO503 := n2_; have HB := n3_; clear n0_ n1_ n2_ n3_; (try clear hb); (try clear hb2); (try clear hk); (try clear hi); (try clear ho0)) | ((with_reducible refine gate_callee (f := 53) rfl ?_); refine goesL_ (some 221) rfl rfl Try.func53 (by kernel_rfl) rfl #[.slice A0 l0.length c0] rfl (by (try simp only [List.map_toArray, List.map_cons, List.map_nil]); first | done | rfl | (simp only [List.length_drop, List.length_take]; rfl)) ?_; (with_reducible refine (spec_DrawMechanicalWord.calls kj88 _ _ l0 t504 t505 t506 t507 _ ?side1 ?side2 A102.out).mono ?_); (case side1 => repeat (first | exact (Kd.C_below HR0.out HB.out) | (with_reducible refine Kd.C_alloc ?_ _) | (with_reducible refine Kd.C_drewN ?_ _) | (with_reducible refine Kd.C_drew ?_))); (case side2 => exact HC0.out); rintro e w163 ⟨rfl, hb⟩; refine ⟨_, rfl, ?_⟩; have n0_ := Aside0.mk (Kd.R_below (by (with_reducible repeat (first | apply Kd.R_alloc | apply Kd.R_drewN | apply Kd.R_drew)); exact HO495.out) hb); have n1_ := Aside0.mk (Kd.R_below (by (with_reducible repeat (first | apply Kd.R_alloc | apply Kd.R_drewN | apply Kd.R_drew)); exact HO499.out) hb); have n2_ := Aside0.mk (Kd.R_below (by (with_reducible repeat (first | apply Kd.R_alloc | apply Kd.R_drewN | apply Kd.R_drew)); exact HO503.out) hb); have n3_ := Aside0.mk (below_step (by repeat (first | (with_reducible first | exact HB.out | apply below_alloc | apply pw_below_drewN | apply below_drew1) | exact HB.out)) hb); clear HO495; clear HO499; clear HO503; clear HB; have HO495 := n0_; have HO499 := n1_; have HO503 := n2_; have HB := n3_; clear n0_ n1_ n2_ n3_; (try clear hb); (try clear hb2); (try clear hk); (try clear hi)) | ((with_reducible refine gate_callee (f := 54) rfl ?_); refine goesL_ (some 231) rfl rfl Try.func54 (by kernel_rfl) rfl #[.int .i64 t504, .int .i64 t505, .int .i64 t506, .int .i64 t507] rfl (by (try simp only [List.map_toArray, List.map_cons, List.map_nil]); first | done | rfl | (simp only [List.length_drop, List.length_take]; rfl)) ?_; (with_reducible refine (impl_MechanicalWord.calls kj88 t504 t505 t506 t507 t508 t509 _ A103.out).mono ?_); rintro e w164 ⟨v510, rfl, ho0, hb⟩; refine ⟨_, rfl, ?_⟩; have n0_ := Aside0.mk (Kd.R_elder' (by (with_reducible repeat (first | apply Kd.R_alloc | apply Kd.R_drewN | apply Kd.R_drew)); exact HO495.out) (Kd.R_base ho0) hb); have n1_ := Aside0.mk (Kd.R_elder' (by (with_reducible repeat (first | apply Kd.R_alloc | apply Kd.R_drewN | apply Kd.R_drew)); exact HO499.out) (Kd.R_base ho0) hb); have n2_ := Aside0.mk (Kd.R_elder' (by (with_reducible repeat (first | apply Kd.R_alloc | apply Kd.R_drewN | apply Kd.R_drew)); exact HO503.out) (Kd.R_base ho0) hb); have n3_ := Aside0.mk (Kd.R_lower (Kd.R_new' (Kd.R_new' (Kd.R_new' ho0 (Kd.R_lt (by (with_reducible repeat (first | apply Kd.R_alloc | apply Kd.R_drewN | apply Kd.R_drew)); exact HO495.out))) (Kd.R_lt (by (with_reducible repeat (first | apply Kd.R_alloc | apply Kd.R_drewN | apply Kd.R_drew)); exact HO499.out))) (Kd.R_lt (by (with_reducible repeat (first | apply Kd.R_alloc | apply Kd.R_drewN | apply Kd.R_drew)); exact HO503.out))) (below_size (by repeat (first | (with_reducible first | exact HB.out | apply below_alloc | apply pw_below_drewN | apply below_drew1) | exact HB.out)))); have n4_ := Aside0.mk (below_step (by repeat (first | (with_reducible first | exact HB.out | apply below_alloc | apply pw_below_drewN | apply below_drew1) | exact HB.out)) hb); clear HO495; clear HO499; clear HO503; clear HB; have HO495 := n0_; have HO499 := n1_; have HO503 := n2_; have HO511 := n3_; have HB := n4_; clear n0_ n1_ n2_ n3_ n4_; (try clear hb); (try clear hb2); (try clear hk); (try clear hi); (try clear ho0)) | ((with_reducible refine gate_callee (f := 55) rfl ?_); refine goesL_ (some 239) rfl rfl Try.func55 (by kernel_rfl) rfl #[.int .i64 t504, .int .i64 t505, .int .i64 t506, .int .i64 t507] rfl (by (try simp only [List.map_toArray, List.map_cons, List.map_nil]); first | done | rfl | (simp only [List.length_drop, List.length_take]; rfl)) ?_; (with_reducible refine (spec_MechanicalWord.calls kj88 t504 t505 t506 t507 t512 t513 _ A104.out).mono ?_); rintro e w165 ⟨v514, rfl, ho0, hb⟩; refine ⟨_, rfl, ?_⟩; have n0_ := Aside0.mk (Kd.R_elder' (by (with_reducible repeat (first | apply Kd.R_alloc | apply Kd.R_drewN | apply Kd.R_drew)); exact HO495.out) (Kd.R_base ho0) hb); have n1_ := Aside0.mk (Kd.R_elder' (by (with_reducible repeat (first | apply Kd.R_alloc | apply Kd.R_drewN | apply Kd.R_drew)); exact HO499.out) (Kd.R_base ho0) hb); have n2_ := Aside0.mk (Kd.R_elder' (by (with_reducible repeat (first | apply Kd.R_alloc | apply Kd.R_drewN | apply Kd.R_drew)); exact HO503.out) (Kd.R_base ho0) hb); have n3_ := Aside0.mk (Kd.R_elder' (by (with_reducible repeat (first | apply Kd.R_alloc | apply Kd.R_drewN | apply Kd.R_drew)); exact HO511.out) (Kd.R_base ho0) hb); have n4_ := Aside0.mk (Kd.R_lower (Kd.R_new' (Kd.R_new' (Kd.R_new' (Kd.R_new' ho0 (Kd.R_lt (by (with_reducible repeat (first | apply Kd.R_alloc | apply Kd.R_drewN | apply Kd.R_drew)); exact HO495.out))) (Kd.R_lt (by (with_reducible repeat (first | apply Kd.R_alloc | apply Kd.R_drewN | apply Kd.R_drew)); exact HO499.out))) (Kd.R_lt (by (with_reducible repeat (first | apply Kd.R_alloc | apply Kd.R_drewN | apply Kd.R_drew)); exact HO503.out))) (Kd.R_lt (by (with_reducible repeat (first | apply Kd.R_alloc | apply Kd.R_drewN | apply Kd.R_drew)); exact HO511.out))) (below_size (by repeat (first | (with_reducible first | exact HB.out | apply below_alloc | apply pw_below_drewN | apply below_drew1) | exact HB.out)))); have n5_ := Aside0.mk (below_step (by repeat (first | (with_reducible first | exact HB.out | apply below_alloc | apply pw_below_drewN | apply below_drew1) | exact HB.out)) hb); clear HO495; clear HO499; clear HO503; clear HO511; clear HB; have HO495 := n0_; have HO499 := n1_; have HO503 := n2_; have HO511 := n3_; have HO515 := n4_; have HB := n5_; clear n0_ n1_ n2_ n3_ n4_ n5_; (try clear hb); (try clear hb2); (try clear hk); (try clear hi); (try clear ho0); obtain ⟨Ao166, co166, eo166⟩ := Kd.R_slice HO499.out; subst eo166; obtain ⟨Ao167, co167, eo167⟩ := Kd.R_slice HO503.out; subst eo167) | (go_at_call 44; (with_reducible refine (laws_sameInts.calls kj88 _ _ t496 _ _ t500 true _ ?side1 ?side2 ?side3 ?side4 A106.out).mono ?_); (case side1 => repeat (first | exact (Kd.R_reads' HO499.out).2.2 | (with_reducible refine Kd.C_alloc ?_ _) | (with_reducible refine Kd.C_drewN ?_ _) | (with_reducible refine Kd.C_drew ?_))); (case side2 => exact (Kd.R_reads' HO499.out).2.1); (case side3 => repeat (first | exact (Kd.R_reads' HO503.out).2.2 | (with_reducible refine Kd.C_alloc ?_ _) | (with_reducible refine Kd.C_drewN ?_ _) | (with_reducible refine Kd.C_drew ?_))); (case side4 => exact (Kd.R_reads' HO503.out).2.1); rintro e w' ⟨rfl, ⟨nd, rfl⟩⟩))
                   go_ret
                   exact ⟨by first | rfl | (simp [errW_none, errW_some] <;> rfl) | (simp [*, errW_none, errW_some] <;> rfl), by repeat (first | (with_reducible first | exact HB.out | apply below_alloc | apply pw_below_drewN | apply below_drew1) | exact HB.out)⟩
                 ·replace c107 := Bool.eq_false_iff.mpr c107
                  subst c107
                  have H1 : (some false) = some r := by rw [if_neg (show ¬ (false = true) by decide)] at H; exact H
                  clear H
                  have H := H1
                  clear H1
                  obtain rfl := Option.some.inj H
                  go_wp2_with (first | ((with_reducible refine gate_callee (f := 52) rfl ?_); refine goesL_ (some 204) rfl rfl Try.func52 (by kernel_rfl) rfl #[.slice A0 l0.length c0] rfl (by (try simp only [List.map_toArray, List.map_cons, List.map_nil]); first | done | rfl | (simp only [List.length_drop, List.length_take]; rfl)) ?_; (with_reducible refine (spec_DrawCharacteristicPrefix.calls kj88 _ _ l0 t492 t493 _ ?side1 ?side2 A99.out).mono ?_); (case side1 => repeat (first | exact (Kd.C_below HR0.out HB.out) | (with_reducible refine Kd.C_alloc ?_ _) | (with_reducible refine Kd.C_drewN ?_ _) | (with_reducible refine Kd.C_drew ?_))); (case side2 => exact HC0.out); rintro e w168 ⟨v494, rfl, ho0, hb⟩; refine ⟨_, rfl, ?_⟩; have n0_ := Aside0.mk (Kd.R_lower ho0 (below_size (by repeat (first | (with_reducible first | exact HB.out | apply below_alloc | apply pw_below_drewN | apply below_drew1) | exact HB.out)))); have n1_ := Aside0.mk (below_step (by repeat (first | (with_reducible first | exact HB.out | apply below_alloc | apply pw_below_drewN | apply below_drew1) | exact HB.out)) hb); clear HB; have HO495 := n0_; have HB := n1_; clear n0_ n1_; (try clear hb); (try clear hb2); (try clear hk); (try clear hi); (try clear ho0); obtain ⟨Ao169, co169, eo169⟩ := Kd.R_slice HO495.out; subst eo169) | ((with_reducible refine gate_callee (f := 26) rfl ?_); refine goesL_ (some 210) rfl rfl Try.func26 (by kernel_rfl) rfl #[.slice Ao169 t492.length co169, .int .i64 t493] rfl (by (try simp only [List.map_toArray, List.map_cons, List.map_nil]); first | done | rfl | (simp only [List.length_drop, List.length_take]; rfl)) ?_; (with_reducible refine (impl_CharacteristicPrefix.calls kj88 _ _ t492 t493 t496 t497 _ ?side1 ?side2 A100.out).mono ?_); (case side1 => repeat (first | exact (Kd.R_reads' HO495.out).2.2 | (with_reducible refine Kd.C_alloc ?_ _) | (with_reducible refine Kd.C_drewN ?_ _) | (with_reducible refine Kd.C_drew ?_))); (case side2 => exact (Kd.R_reads' HO495.out).2.1); rintro e w170 ⟨v498, rfl, ho0, hb⟩; refine ⟨_, rfl, ?_⟩; have n0_ := Aside0.mk (Kd.R_elder' (by (with_reducible repeat (first | apply Kd.R_alloc | apply Kd.R_drewN | apply Kd.R_drew)); exact HO495.out) (Kd.R_base ho0) hb); have n1_ := Aside0.mk (Kd.R_lower (Kd.R_new' ho0 (Kd.R_lt (by (with_reducible repeat (first | apply Kd.R_alloc | apply Kd.R_drewN | apply Kd.R_drew)); exact HO495.out))) (below_size (by repeat (first | (with_reducible first | exact HB.out | apply below_alloc | apply pw_below_drewN | apply below_drew1) | exact HB.out)))); have n2_ := Aside0.mk (below_step (by repeat (first | (with_reducible first | exact HB.out | apply below_alloc | apply pw_below_drewN | apply below_drew1) | exact HB.out)) hb); clear HO495; clear HB; have HO495 := n0_; have HO499 := n1_; have HB := n2_; clear n0_ n1_ n2_; (try clear hb); (try clear hb2); (try clear hk); (try clear hi); (try clear ho0)) | ((with_reducible refine gate_callee (f := 25) rfl ?_); refine goesL_ (some 216) rfl rfl Try.func25 (by kernel_rfl) rfl #[.slice Ao169 t492.length co169, .int .i64 t493] rfl (by (try simp only [List.map_toArray, List.map_cons, List.map_nil]); first | done | rfl | (simp only [List.length_drop, List.length_take]; rfl)) ?_; (with_reducible refine (spec_CharacteristicPrefix.calls kj88 _ _ t492 t493 t500 t501 _ ?side1 ?side2 A101.out).mono ?_); (case side1 => repeat (first | exact (Kd.R_reads' HO495.out).2.2 | (with_reducible refine Kd.C_alloc ?_ _) | (with_reducible refine Kd.C_drewN ?_ _) | (with_reducible refine Kd.C_drew ?_))); (case side2 => exact (Kd.R_reads' HO495.out).2.1); rintro e w171 ⟨v502, rfl, ho0, hb⟩; refine ⟨_, rfl, ?_⟩; have n0_ := Aside0.mk (Kd.R_elder' (by (with_reducible repeat (first | apply Kd.R_alloc | apply Kd.R_drewN | apply Kd.R_drew)); exact HO495.out) (Kd.R_base ho0) hb); have n1_ := Aside0.mk (Kd.R_elder' (by (with_reducible repeat (first | apply Kd.R_alloc | apply Kd.R_drewN | apply Kd.R_drew)); exact HO499.out) (Kd.R_base ho0) hb); have n2_ := Aside0.mk (Kd.R_lower (Kd.R_new' (Kd.R_new' ho0 (Kd.R_lt (by (with_reducible repeat (first | apply Kd.R_alloc | apply Kd.R_drewN | apply Kd.R_drew)); exact HO495.out))) (Kd.R_lt (by (with_reducible repeat (first | apply Kd.R_alloc | apply Kd.R_drewN | apply Kd.R_drew)); exact HO499.out))) (below_size (by repeat (first | (with_reducible first | exact HB.out | apply below_alloc | apply pw_below_drewN | apply below_drew1) | exact HB.out)))); have n3_ := Aside0.mk (below_step (by repeat (first | (with_reducible first | exact HB.out | apply below_alloc | apply pw_below_drewN | apply below_drew1) | exact HB.out)) hb); clear HO495; clear HO499; clear HB; have HO495 := n0_; have HO499 := n1_; have HO503 := n2_; have HB := n3_; clear n0_ n1_ n2_ n3_; (try clear hb); (try clear hb2); (try clear hk); (try clear hi); (try clear ho0)) | ((with_reducible refine gate_callee (f := 53) rfl ?_); refine goesL_ (some 221) rfl rfl Try.func53 (by kernel_rfl) rfl #[.slice A0 l0.length c0] rfl (by (try simp only [List.map_toArray, List.map_cons, List.map_nil]); first | done | rfl | (simp only [List.length_drop, List.length_take]; rfl)) ?_; (with_reducible refine (spec_DrawMechanicalWord.calls kj88 _ _ l0 t504 t505 t506 t507 _ ?side1 ?side2 A102.out).mono ?_); (case side1 => repeat (first | exact (Kd.C_below HR0.out HB.out) | (with_reducible refine Kd.C_alloc ?_ _) | (with_reducible refine Kd.C_drewN ?_ _) | (with_reducible refine Kd.C_drew ?_))); (case side2 => exact HC0.out); rintro e w172 ⟨rfl, hb⟩; refine ⟨_, rfl, ?_⟩; have n0_ := Aside0.mk (Kd.R_below (by (with_reducible repeat (first | apply Kd.R_alloc | apply Kd.R_drewN | apply Kd.R_drew)); exact HO495.out) hb); have n1_ := Aside0.mk (Kd.R_below (by (with_reducible repeat (first | apply Kd.R_alloc | apply Kd.R_drewN | apply Kd.R_drew)); exact HO499.out) hb); have n2_ := Aside0.mk (Kd.R_below (by (with_reducible repeat (first | apply Kd.R_alloc | apply Kd.R_drewN | apply Kd.R_drew)); exact HO503.out) hb); have n3_ := Aside0.mk (below_step (by repeat (first | (with_reducible first | exact HB.out | apply below_alloc | apply pw_below_drewN | apply below_drew1) | exact HB.out)) hb); clear HO495; clear HO499; clear HO503; clear HB; have HO495 := n0_; have HO499 := n1_; have HO503 := n2_; have HB := n3_; clear n0_ n1_ n2_ n3_; (try clear hb); (try clear hb2); (try clear hk); (try clear hi)) | ((with_reducible refine gate_callee (f := 54) rfl ?_); refine goesL_ (some 231) rfl rfl Try.func54 (by kernel_rfl) rfl #[.int .i64 t504, .int .i64 t505, .int .i64 t506, .int .i64 t507] rfl (by (try simp only [List.map_toArray, List.map_cons, List.map_nil]); first | done | rfl | (simp only [List.length_drop, List.length_take]; rfl)) ?_; (with_reducible refine (impl_MechanicalWord.calls kj88 t504 t505 t506 t507 t508 t509 _ A103.out).mono ?_); rintro e w173 ⟨v510, rfl, ho0, hb⟩; refine ⟨_, rfl, ?_⟩; have n0_ := Aside0.mk (Kd.R_elder' (by (with_reducible repeat (first | apply Kd.R_alloc | apply Kd.R_drewN | apply Kd.R_drew)); exact HO495.out) (Kd.R_base ho0) hb); have n1_ := Aside0.mk (Kd.R_elder' (by (with_reducible repeat (first | apply Kd.R_alloc | apply Kd.R_drewN | apply Kd.R_drew)); exact HO499.out) (Kd.R_base ho0) hb); have n2_ := Aside0.mk (Kd.R_elder' (by (with_reducible repeat (first | apply Kd.R_alloc | apply Kd.R_drewN | apply Kd.R_drew)); exact HO503.out) (Kd.R_base ho0) hb); have n3_ := Aside0.mk (Kd.R_lower (Kd.R_new' (Kd.R_new' (Kd.R_new' ho0 (Kd.R_lt (by (with_reducible repeat (first | apply Kd.R_alloc | apply Kd.R_drewN | apply Kd.R_drew)); exact HO495.out))) (Kd.R_lt (by (with_reducible repeat (first | apply Kd.R_alloc | apply Kd.R_drewN | apply Kd.R_drew)); exact HO499.out))) (Kd.R_lt (by (with_reducible repeat (first | apply Kd.R_alloc | apply Kd.R_drewN | apply Kd.R_drew)); exact HO503.out))) (below_size (by repeat (first | (with_reducible first | exact HB.out | apply below_alloc | apply pw_below_drewN | apply below_drew1) | exact HB.out)))); have n4_ := Aside0.mk (below_step (by repeat (first | (with_reducible first | exact HB.out | apply below_alloc | apply pw_below_drewN | apply below_drew1) | exact HB.out)) hb); clear HO495; clear HO499; clear HO503; clear HB; have HO495 := n0_; have HO499 := n1_; have HO503 := n2_; have HO511 := n3_; have HB := n4_; clear n0_ n1_ n2_ n3_ n4_; (try clear hb); (try clear hb2); (try clear hk); (try clear hi); (try clear ho0)) | ((with_reducible refine gate_callee (f := 55) rfl ?_); refine goesL_ (some 239) rfl rfl Try.func55 (by kernel_rfl) rfl #[.int .i64 t504, .int .i64 t505, .int .i64 t506, .int .i64 t507] rfl (by (try simp only [List.map_toArray, List.map_cons, List.map_nil]); first | done | rfl | (simp only [List.length_drop, List.length_take]; rfl)) ?_; (with_reducible refine (spec_MechanicalWord.calls kj88 t504 t505 t506 t507 t512 t513 _ A104.out).mono ?_); rintro e w174 ⟨v514, rfl, ho0, hb⟩; refine ⟨_, rfl, ?_⟩; have n0_ := Aside0.mk (Kd.R_elder' (by (with_reducible repeat (first | apply Kd.R_alloc | apply Kd.R_drewN | apply Kd.R_drew)); exact HO495.out) (Kd.R_base ho0) hb); have n1_ := Aside0.mk (Kd.R_elder' (by (with_reducible repeat (first | apply Kd.R_alloc | apply Kd.R_drewN | apply Kd.R_drew)); exact HO499.out) (Kd.R_base ho0) hb); have n2_ := Aside0.mk (Kd.R_elder' (by (with_reducible repeat (first | apply Kd.R_alloc | apply Kd.R_drewN | apply Kd.R_drew)); exact HO503.out) (Kd.R_base ho0) hb); have n3_ := Aside0.mk (Kd.R_elder' (by (with_reducible repeat (first | apply Kd.R_alloc | apply Kd.R_drewN | apply Kd.R_drew)); exact HO511.out) (Kd.R_base ho0) hb); have n4_ := Aside0.mk (Kd.R_lower (Kd.R_new' (Kd.R_new' (Kd.R_new' (Kd.R_new' ho0 (Kd.R_lt (by (with_reducible repeat (first | apply Kd.R_alloc | apply Kd.R_drewN | apply Kd.R_drew)); exact HO495.out))) (Kd.R_lt (by (with_reducible repeat (first | apply Kd.R_alloc | apply Kd.R_drewN | apply Kd.R_drew)); exact HO499.out))) (Kd.R_lt (by (with_reducible repeat (first | apply Kd.R_alloc | apply Kd.R_drewN | apply Kd.R_drew)); exact HO503.out))) (Kd.R_lt (by (with_reducible repeat (first | apply Kd.R_alloc | apply Kd.R_drewN | apply Kd.R_drew)); exact HO511.out))) (below_size (by repeat (first | (with_reducible first | exact HB.out | apply below_alloc | apply pw_below_drewN | apply below_drew1) | exact HB.out)))); have n5_ := Aside0.mk (below_step (by repeat (first | (with_reducible first | exact HB.out | apply below_alloc | apply pw_below_drewN | apply below_drew1) | exact HB.out)) hb); clear HO495; clear HO499; clear HO503; clear HO511; clear HB; have HO495 := n0_; have HO499 := n1_; have HO503 := n2_; have HO511 := n3_; have HO515 := n4_; have HB := n5_; clear n0_ n1_ n2_ n3_ n4_ n5_; (try clear hb); (try clear hb2); (try clear hk); (try clear hi); (try clear ho0); obtain ⟨Ao175, co175, eo175⟩ := Kd.R_slice HO499.out; subst eo175; obtain ⟨Ao176, co176, eo176⟩ := Kd.R_slice HO503.out; subst eo176) | (go_at_call 44; (with_reducible refine (laws_sameInts.calls kj88 _ _ t496 _ _ t500 false _ ?side1 ?side2 ?side3 ?side4 A106.out).mono ?_); (case side1 => repeat (first | exact (Kd.R_reads' HO499.out).2.2 | (with_reducible refine Kd.C_alloc ?_ _) | (with_reducible refine Kd.C_drewN ?_ _) | (with_reducible refine Kd.C_drew ?_))); (case side2 => exact (Kd.R_reads' HO499.out).2.1); (case side3 => repeat (first | exact (Kd.R_reads' HO503.out).2.2 | (with_reducible refine Kd.C_alloc ?_ _) | (with_reducible refine Kd.C_drewN ?_ _) | (with_reducible refine Kd.C_drew ?_))); (case side4 => exact (Kd.R_reads' HO503.out).2.1); rintro e w' ⟨rfl, ⟨nd, rfl⟩⟩))
                  go_ret
                  exact ⟨by first | rfl | (simp [errW_none, errW_some] <;> rfl) | (simp [*, errW_none, errW_some] <;> rfl), by repeat (first | (with_reducible first | exact HB.out | apply below_alloc | apply pw_below_drewN | apply below_drew1) | exact HB.out)⟩
                ·rw [if_neg c105] at H
                 have c105b0 : (t497 == t501) = false := by simpa using c105
                 (try (have c105b1 : decide (t497 = t501) = false := by simpa using c105))
                 (try (have c105b2 : (t497 == t501) = false := by simpa using c105))
                 (try (have c105b3 : ¬ (t497 = t501) := by simpa using c105))
                 clear c105
                 obtain rfl := Option.some.inj H
                 go_wp2_with (first | ((with_reducible refine gate_callee (f := 52) rfl ?_); refine goesL_ (some 204) rfl rfl Try.func52 (by kernel_rfl) rfl #[.slice A0 l0.length c0] rfl (by (try simp only [List.map_toArray, List.map_cons, List.map_nil]); first | done | rfl | (simp only [List.length_drop, List.length_take]; rfl)) ?_; (with_reducible refine (spec_DrawCharacteristicPrefix.calls kj88 _ _ l0 t492 t493 _ ?side1 ?side2 A99.out).mono ?_); (case side1 => repeat (first | exact (Kd.C_below HR0.out HB.out) | (with_reducible refine Kd.C_alloc ?_ _) | (with_reducible refine Kd.C_drewN ?_ _) | (with_reducible refine Kd.C_drew ?_))); (case side2 => exact HC0.out); rintro e w177 ⟨v494, rfl, ho0, hb⟩; refine ⟨_, rfl, ?_⟩; have n0_ := Aside0.mk (Kd.R_lower ho0 (below_size (by repeat (first | (with_reducible first | exact HB.out | apply below_alloc | apply pw_below_drewN | apply below_drew1) | exact HB.out)))); have n1_ := Aside0.mk (below_step (by repeat (first | (with_reducible first | exact HB.out | apply below_alloc | apply pw_below_drewN | apply below_drew1) | exact HB.out)) hb); clear HB; have HO495 := n0_; have HB := n1_; clear n0_ n1_; (try clear hb); (try clear hb2); (try clear hk); (try clear hi); (try clear ho0); obtain ⟨Ao178, co178, eo178⟩ := Kd.R_slice HO495.out; subst eo178) | ((with_reducible refine gate_callee (f := 26) rfl ?_); refine goesL_ (some 210) rfl rfl Try.func26 (by kernel_rfl) rfl #[.slice Ao178 t492.length co178, .int .i64 t493] rfl (by (try simp only [List.map_toArray, List.map_cons, List.map_nil]); first | done | rfl | (simp only [List.length_drop, List.length_take]; rfl)) ?_; (with_reducible refine (impl_CharacteristicPrefix.calls kj88 _ _ t492 t493 t496 t497 _ ?side1 ?side2 A100.out).mono ?_); (case side1 => repeat (first | exact (Kd.R_reads' HO495.out).2.2 | (with_reducible refine Kd.C_alloc ?_ _) | (with_reducible refine Kd.C_drewN ?_ _) | (with_reducible refine Kd.C_drew ?_))); (case side2 => exact (Kd.R_reads' HO495.out).2.1); rintro e w179 ⟨v498, rfl, ho0, hb⟩; refine ⟨_, rfl, ?_⟩; have n0_ := Aside0.mk (Kd.R_elder' (by (with_reducible repeat (first | apply Kd.R_alloc | apply Kd.R_drewN | apply Kd.R_drew)); exact HO495.out) (Kd.R_base ho0) hb); have n1_ := Aside0.mk (Kd.R_lower (Kd.R_new' ho0 (Kd.R_lt (by (with_reducible repeat (first | apply Kd.R_alloc | apply Kd.R_drewN | apply Kd.R_drew)); exact HO495.out))) (below_size (by repeat (first | (with_reducible first | exact HB.out | apply below_alloc | apply pw_below_drewN | apply below_drew1) | exact HB.out)))); have n2_ := Aside0.mk (below_step (by repeat (first | (with_reducible first | exact HB.out | apply below_alloc | apply pw_below_drewN | apply below_drew1) | exact HB.out)) hb); clear HO495; clear HB; have HO495 := n0_; have HO499 := n1_; have HB := n2_; clear n0_ n1_ n2_; (try clear hb); (try clear hb2); (try clear hk); (try clear hi); (try clear ho0)) | ((with_reducible refine gate_callee (f := 25) rfl ?_); refine goesL_ (some 216) rfl rfl Try.func25 (by kernel_rfl) rfl #[.slice Ao178 t492.length co178, .int .i64 t493] rfl (by (try simp only [List.map_toArray, List.map_cons, List.map_nil]); first | done | rfl | (simp only [List.length_drop, List.length_take]; rfl)) ?_; (with_reducible refine (spec_CharacteristicPrefix.calls kj88 _ _ t492 t493 t500 t501 _ ?side1 ?side2 A101.out).mono ?_); (case side1 => repeat (first | exact (Kd.R_reads' HO495.out).2.2 | (with_reducible refine Kd.C_alloc ?_ _) | (with_reducible refine Kd.C_drewN ?_ _) | (with_reducible refine Kd.C_drew ?_))); (case side2 => exact (Kd.R_reads' HO495.out).2.1); rintro e w180 ⟨v502, rfl, ho0, hb⟩; refine ⟨_, rfl, ?_⟩; have n0_ := Aside0.mk (Kd.R_elder' (by (with_reducible repeat (first | apply Kd.R_alloc | apply Kd.R_drewN | apply Kd.R_drew)); exact HO495.out) (Kd.R_base ho0) hb); have n1_ := Aside0.mk (Kd.R_elder' (by (with_reducible repeat (first | apply Kd.R_alloc | apply Kd.R_drewN | apply Kd.R_drew)); exact HO499.out) (Kd.R_base ho0) hb); have n2_ := Aside0.mk (Kd.R_lower (Kd.R_new' (Kd.R_new' ho0 (Kd.R_lt (by (with_reducible repeat (first | apply Kd.R_alloc | apply Kd.R_drewN | apply Kd.R_drew)); exact HO495.out))) (Kd.R_lt (by (with_reducible repeat (first | apply Kd.R_alloc | apply Kd.R_drewN | apply Kd.R_drew)); exact HO499.out))) (below_size (by repeat (first | (with_reducible first | exact HB.out | apply below_alloc | apply pw_below_drewN | apply below_drew1) | exact HB.out)))); have n3_ := Aside0.mk (below_step (by repeat (first | (with_reducible first | exact HB.out | apply below_alloc | apply pw_below_drewN | apply below_drew1) | exact HB.out)) hb); clear HO495; clear HO499; clear HB; have HO495 := n0_; have HO499 := n1_; have HO503 := n2_; have HB := n3_; clear n0_ n1_ n2_ n3_; (try clear hb); (try clear hb2); (try clear hk); (try clear hi); (try clear ho0)) | ((with_reducible refine gate_callee (f := 53) rfl ?_); refine goesL_ (some 221) rfl rfl Try.func53 (by kernel_rfl) rfl #[.slice A0 l0.length c0] rfl (by (try simp only [List.map_toArray, List.map_cons, List.map_nil]); first | done | rfl | (simp only [List.length_drop, List.length_take]; rfl)) ?_; (with_reducible refine (spec_DrawMechanicalWord.calls kj88 _ _ l0 t504 t505 t506 t507 _ ?side1 ?side2 A102.out).mono ?_); (case side1 => repeat (first | exact (Kd.C_below HR0.out HB.out) | (with_reducible refine Kd.C_alloc ?_ _) | (with_reducible refine Kd.C_drewN ?_ _) | (with_reducible refine Kd.C_drew ?_))); (case side2 => exact HC0.out); rintro e w181 ⟨rfl, hb⟩; refine ⟨_, rfl, ?_⟩; have n0_ := Aside0.mk (Kd.R_below (by (with_reducible repeat (first | apply Kd.R_alloc | apply Kd.R_drewN | apply Kd.R_drew)); exact HO495.out) hb); have n1_ := Aside0.mk (Kd.R_below (by (with_reducible repeat (first | apply Kd.R_alloc | apply Kd.R_drewN | apply Kd.R_drew)); exact HO499.out) hb); have n2_ := Aside0.mk (Kd.R_below (by (with_reducible repeat (first | apply Kd.R_alloc | apply Kd.R_drewN | apply Kd.R_drew)); exact HO503.out) hb); have n3_ := Aside0.mk (below_step (by repeat (first | (with_reducible first | exact HB.out | apply below_alloc | apply pw_below_drewN | apply below_drew1) | exact HB.out)) hb); clear HO495; clear HO499; clear HO503; clear HB; have HO495 := n0_; have HO499 := n1_; have HO503 := n2_; have HB := n3_; clear n0_ n1_ n2_ n3_; (try clear hb); (try clear hb2); (try clear hk); (try clear hi)) | ((with_reducible refine gate_callee (f := 54) rfl ?_); refine goesL_ (some 231) rfl rfl Try.func54 (by kernel_rfl) rfl #[.int .i64 t504, .int .i64 t505, .int .i64 t506, .int .i64 t507] rfl (by (try simp only [List.map_toArray, List.map_cons, List.map_nil]); first | done | rfl | (simp only [List.length_drop, List.length_take]; rfl)) ?_; (with_reducible refine (impl_MechanicalWord.calls kj88 t504 t505 t506 t507 t508 t509 _ A103.out).mono ?_); rintro e w182 ⟨v510, rfl, ho0, hb⟩; refine ⟨_, rfl, ?_⟩; have n0_ := Aside0.mk (Kd.R_elder' (by (with_reducible repeat (first | apply Kd.R_alloc | apply Kd.R_drewN | apply Kd.R_drew)); exact HO495.out) (Kd.R_base ho0) hb); have n1_ := Aside0.mk (Kd.R_elder' (by (with_reducible repeat (first | apply Kd.R_alloc | apply Kd.R_drewN | apply Kd.R_drew)); exact HO499.out) (Kd.R_base ho0) hb); have n2_ := Aside0.mk (Kd.R_elder' (by (with_reducible repeat (first | apply Kd.R_alloc | apply Kd.R_drewN | apply Kd.R_drew)); exact HO503.out) (Kd.R_base ho0) hb); have n3_ := Aside0.mk (Kd.R_lower (Kd.R_new' (Kd.R_new' (Kd.R_new' ho0 (Kd.R_lt (by (with_reducible repeat (first | apply Kd.R_alloc | apply Kd.R_drewN | apply Kd.R_drew)); exact HO495.out))) (Kd.R_lt (by (with_reducible repeat (first | apply Kd.R_alloc | apply Kd.R_drewN | apply Kd.R_drew)); exact HO499.out))) (Kd.R_lt (by (with_reducible repeat (first | apply Kd.R_alloc | apply Kd.R_drewN | apply Kd.R_drew)); exact HO503.out))) (below_size (by repeat (first | (with_reducible first | exact HB.out | apply below_alloc | apply pw_below_drewN | apply below_drew1) | exact HB.out)))); have n4_ := Aside0.mk (below_step (by repeat (first | (with_reducible first | exact HB.out | apply below_alloc | apply pw_below_drewN | apply below_drew1) | exact HB.out)) hb); clear HO495; clear HO499; clear HO503; clear HB; have HO495 := n0_; have HO499 := n1_; have HO503 := n2_; have HO511 := n3_; have HB := n4_; clear n0_ n1_ n2_ n3_ n4_; (try clear hb); (try clear hb2); (try clear hk); (try clear hi); (try clear ho0)) | ((with_reducible refine gate_callee (f := 55) rfl ?_); refine goesL_ (some 239) rfl rfl Try.func55 (by kernel_rfl) rfl #[.int .i64 t504, .int .i64 t505, .int .i64 t506, .int .i64 t507] rfl (by (try simp only [List.map_toArray, List.map_cons, List.map_nil]); first | done | rfl | (simp only [List.length_drop, List.length_take]; rfl)) ?_; (with_reducible refine (spec_MechanicalWord.calls kj88 t504 t505 t506 t507 t512 t513 _ A104.out).mono ?_); rintro e w183 ⟨v514, rfl, ho0, hb⟩; refine ⟨_, rfl, ?_⟩; have n0_ := Aside0.mk (Kd.R_elder' (by (with_reducible repeat (first | apply Kd.R_alloc | apply Kd.R_drewN | apply Kd.R_drew)); exact HO495.out) (Kd.R_base ho0) hb); have n1_ := Aside0.mk (Kd.R_elder' (by (with_reducible repeat (first | apply Kd.R_alloc | apply Kd.R_drewN | apply Kd.R_drew)); exact HO499.out) (Kd.R_base ho0) hb); have n2_ := Aside0.mk (Kd.R_elder' (by (with_reducible repeat (first | apply Kd.R_alloc | apply Kd.R_drewN | apply Kd.R_drew)); exact HO503.out) (Kd.R_base ho0) hb); have n3_ := Aside0.mk (Kd.R_elder' (by (with_reducible repeat (first | apply Kd.R_alloc | apply Kd.R_drewN | apply Kd.R_drew)); exact HO511.out) (Kd.R_base ho0) hb); have n4_ := Aside0.mk (Kd.R_lower (Kd.R_new' (Kd.R_new' (Kd.R_new' (Kd.R_new' ho0 (Kd.R_lt (by (with_reducible repeat (first | apply Kd.R_alloc | apply Kd.R_drewN | apply Kd.R_drew)); exact HO495.out))) (Kd.R_lt (by (with_reducible repeat (first | apply Kd.R_alloc | apply Kd.R_drewN | apply Kd.R_drew)); exact HO499.out))) (Kd.R_lt (by (with_reducible repeat (first | apply Kd.R_alloc | apply Kd.R_drewN | apply Kd.R_drew)); exact HO503.out))) (Kd.R_lt (by (with_reducible repeat (first | apply Kd.R_alloc | apply Kd.R_drewN | apply Kd.R_drew)); exact HO511.out))) (below_size (by repeat (first | (with_reducible first | exact HB.out | apply below_alloc | apply pw_below_drewN | apply below_drew1) | exact HB.out)))); have n5_ := Aside0.mk (below_step (by repeat (first | (with_reducible first | exact HB.out | apply below_alloc | apply pw_below_drewN | apply below_drew1) | exact HB.out)) hb); clear HO495; clear HO499; clear HO503; clear HO511; clear HB; have HO495 := n0_; have HO499 := n1_; have HO503 := n2_; have HO511 := n3_; have HO515 := n4_; have HB := n5_; clear n0_ n1_ n2_ n3_ n4_ n5_; (try clear hb); (try clear hb2); (try clear hk); (try clear hi); (try clear ho0)))
                 go_ret
                 exact ⟨by first | rfl | (simp [errW_none, errW_some] <;> rfl) | (simp [*, errW_none, errW_some] <;> rfl), by repeat (first | (with_reducible first | exact HB.out | apply below_alloc | apply pw_below_drewN | apply below_drew1) | exact HB.out)⟩

/-- THE ONE PURE STATEMENT of laws_FnSturmian: yours. -/
def laws_FnSturmian.Pure : Prop := ∀ (l0 : List Int), l0.length ≤ maxLen → l0.length * 1 ≤ 140737488351232 → (∀ x ∈ l0, (Lit.int .u8 x).wf = true) → ∃ k, laws_FnSturmian.f k l0 = some true
theorem laws_FnSturmian.walk (P : laws_FnSturmian.Pure) (a0 : Option Addr) (len0 cap0 : Nat) (z0 : List Int) (w : World) (w0 : (a0 = none ∧ len0 = 0 ∧ cap0 = 0 ∧ z0 = []) ∨ ∃ x, a0 = some x ∧ len0 ≤ cap0 ∧ cap0 ≤ maxLen ∧ z0.length = cap0 ∧ (∀ i, i < z0.length → w.cell? (x.add i) = some (.int .u8 (z0.getD i 0))) ∧ ∀ n ∈ z0, (Lit.int .u8 n).wf = true) (y0 : len0 * 1 ≤ 140737488351232) :
  Calls Try.prog 13 #[.slice a0 len0 cap0] w fun e w' => e = .returned (.bool true) ∧ Below w.heap.size w w' := by
 obtain ⟨l0, rfl, hr0, hm0, hw0, hc0⟩ := ReadsInt.ofRowC w0
 obtain ⟨k, h⟩ := P l0 hm0 y0 hw0
 refine (laws_FnSturmian.calls k _ _ l0 true w (Kd.C_of_reads (d := (0 : Int)) (h1 := fun _ => rfl) hr0) hc0 h).mono ?_
 rintro e w' ⟨rfl, hd⟩
 exact ⟨rfl, hd⟩

end Go.Proofs.Ytihbelkchcedpaa.PFnSturmian
