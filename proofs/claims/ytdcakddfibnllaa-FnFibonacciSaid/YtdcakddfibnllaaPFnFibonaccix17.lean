/- Written by this session's own program (wip/myprint.py): the machine side of one law, some contracts of it typed by hand. -/
import Derived.Test.YtdcakddfibnllaaPFnFibonaccix1
import Derived.Test.YtdcakddfibnllaaPFnFibonaccix2
import Derived.Test.YtdcakddfibnllaaPFnFibonaccix3
import Derived.Test.YtdcakddfibnllaaPFnFibonaccix5
import Derived.Test.YtdcakddfibnllaaPFnFibonaccix6
import Derived.Test.YtdcakddfibnllaaPFnFibonaccix7
import Derived.Test.YtdcakddfibnllaaPFnFibonaccix10
import Derived.Test.YtdcakddfibnllaaPFnFibonaccix16
import Derived.Test.YtdcakddfibnllaaPFnFibonaccix0
namespace Go.Proofs.Ytdcakddfibnllaa.PFnFibonacci
open Go.RowKit Go.Proofs.YtdcakddfibnllaaW.PrintWords Go.Proofs.YtdcakddfibnllaaW.PrintLast Go.Proofs.YtdcakddfibnllaaW.PrintMore
attribute [local go_sem] max2_int min2_int max_two min_two max_three min_three max_four min_four   -- for this text's walks alone
set_option linter.unusedVariables false
set_option maxHeartbeats 8000000
set_option maxRecDepth 100000
set_option linter.unusedSimpArgs false

/-! ### spec_CountLetters: function 60 -/
def spec_CountLetters.l0 : Nat → List Int → Int → Int → Int → Option (Int)
 | 0, _, _, _, _ => none
 | k + 1, x0, x1, x5, x6 => if x6 < (x0.length : Int) then (if 0 ≤ x6 then (if (rd x0 x6) = x1 then (spec_CountLetters.l0 k x0 x1 (wrap64 (x5 + 1)) (wrap64 (x6 + 1))) else (spec_CountLetters.l0 k x0 x1 x5 (wrap64 (x6 + 1)))) else (none)) else (some x5)
def spec_CountLetters.f (k : Nat) (l0 : List Int) (a1 : Int) : Option (Int) := spec_CountLetters.l0 k l0 a1 0 0
theorem spec_CountLetters.mono_l : ∀ k, (∀ y0 y1 y2 y3, LeO (spec_CountLetters.l0 k y0 y1 y2 y3) (spec_CountLetters.l0 (k + 1) y0 y1 y2 y3))
 | 0 => fun _ _ _ _ r h => by simp [spec_CountLetters.l0] at h
 | k + 1 => by
  have ih0 := spec_CountLetters.mono_l k
  ·intro y0 y1 y2 y3
   unfold spec_CountLetters.l0
   with_reducible repeat' first | exact ih0 _ _ _ _ | exact LeO.refl _ | exact LeO.none _ | refine LeO.ite ?_ ?_ | refine LeO.bind ?_ (fun _ => ?_)
theorem spec_CountLetters.mono : ∀ a0 a1 k, LeO (spec_CountLetters.f k a0 a1) (spec_CountLetters.f (k + 1) a0 a1) := by
 intro a0 a1 k
 have ih0 := spec_CountLetters.mono_l k
 unfold spec_CountLetters.f
 with_reducible repeat' first | exact ih0 _ _ _ _ | exact LeO.refl _ | exact LeO.none _ | refine LeO.ite ?_ ?_ | refine LeO.bind ?_ (fun _ => ?_)
theorem spec_CountLetters.calls (k : Nat) (A0 : Option Addr) (c0 : Nat) (l0 : List Int) (a1 : Int) (r : Int) (w : World) (hr0 : Kd.C (Kd.int .i64) w A0 l0.length l0) (hc0 : l0.length ≤ c0) (h : spec_CountLetters.f k l0 a1 = some r) :
  Calls Try.prog 60 #[.slice A0 l0.length c0, .int .i64 a1] w fun e w' => e = .returned (.int .i64 r) ∧ Drawn0 w w' := by
 have HR0 := A_ hr0
 have HC0 := A_ hc0
 clear hr0 hc0
 unfold spec_CountLetters.f at h
 have H := h
 clear h
 have H' := A_ H
 clear H
 go_enter Try.func60, Try.ntmps60
 go_wp2
 go_loopg [5, 6] k (fun kq v5 v6 w' => ∃ (x5_1 : Int) (x6_1 : Int), v5 = .int .i64 x5_1 ∧ v6 = .int .i64 x6_1 ∧ Aside0 (spec_CountLetters.l0 kq l0 a1 x5_1 x6_1 = some r) ∧ Aside0 (kq ≤ k) ∧ Drawn0 w w')
 case atStart => exact ⟨(0), (0), (by rfl), (by rfl), H', ⟨Nat.le_refl _⟩, by repeat (first | exact Drawn0.refl _ | apply Drawn0.step)⟩
 case round =>
  clear H'
  obtain ⟨x5_1, x6_1, rfl, rfl, HA, HK1, ⟨m1, rfl⟩⟩ := hrel
  cases gk with
  | zero => exact absurd HA.out (by simp [spec_CountLetters.l0])
  | succ k1 =>
   have H := HA.out
   clear HA
   simp only [spec_CountLetters.l0] at H
   by_cases c3 : x6_1 < (l0.length : Int)
   ·rw [if_pos c3] at H
    have c3b0 : decide (x6_1 < (l0.length : Int)) = true := decide_eq_true c3
    clear c3
    by_cases c4 : 0 ≤ x6_1
    ·rw [if_pos c4] at H
     have c4b0 : decide (0 ≤ x6_1) = true := decide_eq_true c4
     clear c4
     by_cases c5 : (rd l0 x6_1) = a1
     ·rw [if_pos c5] at H
      have c5b0 : ((rd l0 x6_1) == a1) = true := beq_iff_eq.mpr c5
      have c5b1 : ((rd l0 x6_1) != a1) = false := bne_eq_false_iff_eq.mpr c5
      clear c5
      have H' := A_ H
      clear H
      have p822 : 0 ≤ (x6_1 : Int) := of_decide_eq_true (by first | (with_reducible assumption) | assumption)
      have q822 : x6_1 < (l0.length : Int) := of_decide_eq_true (by first | (with_reducible assumption) | assumption)
      obtain ⟨ad822, e822, hx822_0⟩ := Kd.at_int HR0.out x6_1 p822 q822
      cases e822
      replace p822 := eq_true p822
      replace q822 := eq_true q822
      go_wp2
      go_roundg k1
      case measure => have := HK1.out; omega
      case rel => exact ⟨(wrap64 (x5_1 + 1)), (wrap64 (x6_1 + 1)), (by rfl), (by rfl), H', ⟨by have := HK1.out; omega⟩, by repeat (first | exact Drawn0.refl _ | apply Drawn0.step)⟩
     rw [if_neg c5] at H
     have c5b0 : ((rd l0 x6_1) == a1) = false := beq_eq_false_iff_ne.mpr c5
     have c5b1 : ((rd l0 x6_1) != a1) = true := bne_iff_ne.mpr c5
     have H' := A_ H
     clear H
     have p822 : 0 ≤ (x6_1 : Int) := of_decide_eq_true (by first | (with_reducible assumption) | assumption)
     have q822 : x6_1 < (l0.length : Int) := of_decide_eq_true (by first | (with_reducible assumption) | assumption)
     obtain ⟨ad822, e822, hx822_0⟩ := Kd.at_int HR0.out x6_1 p822 q822
     cases e822
     replace p822 := eq_true p822
     replace q822 := eq_true q822
     go_wp2
     go_roundg k1
     case measure => have := HK1.out; omega
     case rel => exact ⟨(x5_1), (wrap64 (x6_1 + 1)), (by rfl), (by rfl), H', ⟨by have := HK1.out; omega⟩, by repeat (first | exact Drawn0.refl _ | apply Drawn0.step)⟩
    rw [if_neg c4] at H
    exact absurd H (by simp)
   rw [if_neg c3] at H
   have c3b0 : decide (x6_1 < (l0.length : Int)) = false := decide_eq_false c3
   clear c3
   obtain rfl := Option.some.inj H
   go_wp2
   go_ret
   exact ⟨by rfl, by repeat (first | exact Drawn0.refl _ | apply Drawn0.step)⟩


mutual
def laws_FnFibonacci.j0 : Nat → List Int → Bool → Option (Bool)
 | 0, _, _ => none
 | k + 1, x0, x65 => if x65 = true then (some false) else ((spec_FixedPrefix.f k (([(([0, 1] : List Int)), (([0] : List Int))] : List (List Int))) 0 60).bind fun bt855 => (if bt855.2 = true then ((impl_FibonacciPrefix.f k 60).bind fun t859 => ((laws_sameInts.f k t859 bt855.1).bind fun t862 => (laws_FnFibonacci.j1 k x0 (!t862)))) else (laws_FnFibonacci.j1 k x0 true)))
def laws_FnFibonacci.j1 : Nat → List Int → Bool → Option (Bool)
 | 0, _, _ => none
 | k + 1, x0, x81 => if x81 = true then (some false) else ((laws_at.f x0 3).bind fun t863 => ((impl_LowerWythoff.f k (wrap64 (1 + (Int.tmod t863 100)))).bind fun t864 => ((impl_UpperWythoff.f k (wrap64 (1 + (Int.tmod t863 100)))).bind fun t865 => ((spec_LowerWythoff.f k (wrap64 (1 + (Int.tmod t863 100)))).bind fun t866 => (if t864 = t866 then (if t865 = (wrap64 (t864 + (wrap64 (1 + (Int.tmod t863 100))))) then ((impl_FibonacciLetter.f k (wrap64 (t864 - 1))).bind fun t867 => (if t867 = 0 then (if (wrap64 (1 + (Int.tmod t863 100))) > 1 then ((spec_LowerWythoff.f k (wrap64 ((wrap64 (1 + (Int.tmod t863 100))) - 1))).bind fun t868 => (laws_FnFibonacci.j2 k x0 t864 t865 (decide (t864 ≤ t868)))) else (laws_FnFibonacci.j2 k x0 t864 t865 false)) else (laws_FnFibonacci.j2 k x0 t864 t865 true))) else (laws_FnFibonacci.j2 k x0 t864 t865 true)) else (laws_FnFibonacci.j2 k x0 t864 t865 true))))))
def laws_FnFibonacci.j2 : Nat → List Int → Int → Int → Bool → Option (Bool)
 | 0, _, _, _, _ => none
 | k + 1, x0, x13, x14, x117 => if x117 = true then (some false) else (if x14 ≤ 200 then ((impl_IsColdPair.f k x13 x14).bind fun t869 => (if t869 = true then ((impl_IsColdPair.f k x14 x13).bind fun t870 => (if t870 = true then ((impl_IsColdPair.f k x13 (wrap64 (x14 + 1))).bind fun t871 => (if t871 = true then (laws_FnFibonacci.j3 k x0 true) else ((impl_FibonacciLetter.f k (wrap64 (x14 - 1))).bind fun t872 => (laws_FnFibonacci.j3 k x0 (t872 != 1))))) else (laws_FnFibonacci.j3 k x0 true))) else (laws_FnFibonacci.j3 k x0 true))) else (laws_FnFibonacci.j3 k x0 false))
def laws_FnFibonacci.j3 : Nat → List Int → Bool → Option (Bool)
 | 0, _, _ => none
 | k + 1, x0, x143 => if x143 = true then (some false) else ((spec_DrawIsColdPair.f k x0).bind fun bt873 => ((spec_DrawCountLetters.f k x0).bind fun bt875 => ((spec_DrawFibonacciLetter.f k x0).bind fun t879 => ((spec_DrawLowerWythoff.f k x0).bind fun t880 => ((impl_IsColdPair.f k bt873.1 bt873.2).bind fun t881 => ((spec_IsColdPair.f k bt873.1 bt873.2).bind fun t882 => (if (t881 == t882) = true then ((impl_CountLetters.f k bt875.1 bt875.2).bind fun t883 => ((spec_CountLetters.f k bt875.1 bt875.2).bind fun t884 => (if t883 = t884 then ((impl_FibonacciLetter.f k t879).bind fun t885 => ((spec_FibonacciLetter.f k t879).bind fun t886 => (if t885 = t886 then ((impl_LowerWythoff.f k t880).bind fun t887 => ((spec_LowerWythoff.f k t880).bind fun t888 => (if t887 = t888 then ((impl_UpperWythoff.f k t880).bind fun t889 => ((spec_UpperWythoff.f k t880).bind fun t890 => (some (t889 == t890)))) else (some false)))) else (some false)))) else (some false)))) else (some false))))))))
end
def laws_FnFibonacci.f (k : Nat) (l0 : List Int) : Option (Bool) := (laws_big.f l0).bind fun t823 => (if t823 = true then (some true) else ((spec_DrawFibonacciPrefix.f k l0).bind fun t824 => ((impl_FibonacciPrefix.f k t824).bind fun t825 => ((spec_DrawFibonacciWord.f k l0).bind fun t828 => ((impl_FibonacciWord.f k t828).bind fun bt829 => ((spec_FibonacciWord.f k t828).bind fun bt833 => ((spec_FibonacciPrefix.f k t824).bind fun t837 => ((laws_sameInts.f k t825 t837).bind fun t840 => (if t840 = true then (if (bt829.2 != bt833.2) = true then (laws_FnFibonacci.j0 k l0 true) else ((laws_sameInts.f k bt829.1 bt833.1).bind fun t841 => (if t841 = true then (if bt829.2 = true then ((spec_FibonacciPrefix.f k (bt833.1.length : Int)).bind fun t842 => ((laws_sameInts.f k t842 bt833.1).bind fun t845 => (laws_FnFibonacci.j0 k l0 (!t845)))) else (laws_FnFibonacci.j0 k l0 false)) else (laws_FnFibonacci.j0 k l0 true)))) else (laws_FnFibonacci.j0 k l0 true))))))))))
theorem laws_FnFibonacci.mono_l : ∀ k, (∀ y0 y1, LeO (laws_FnFibonacci.j0 k y0 y1) (laws_FnFibonacci.j0 (k + 1) y0 y1)) ∧ (∀ y0 y1, LeO (laws_FnFibonacci.j1 k y0 y1) (laws_FnFibonacci.j1 (k + 1) y0 y1)) ∧ (∀ y0 y1 y2 y3, LeO (laws_FnFibonacci.j2 k y0 y1 y2 y3) (laws_FnFibonacci.j2 (k + 1) y0 y1 y2 y3)) ∧ (∀ y0 y1, LeO (laws_FnFibonacci.j3 k y0 y1) (laws_FnFibonacci.j3 (k + 1) y0 y1))
 | 0 => ⟨fun _ _ r h => by simp [laws_FnFibonacci.j0] at h, fun _ _ r h => by simp [laws_FnFibonacci.j1] at h, fun _ _ _ _ r h => by simp [laws_FnFibonacci.j2] at h, fun _ _ r h => by simp [laws_FnFibonacci.j3] at h⟩
 | k + 1 => by
  obtain ⟨ih0, ih1, ih2, ih3⟩ := laws_FnFibonacci.mono_l k
  refine ⟨?_, ?_, ?_, ?_⟩
  ·intro y0 y1
   unfold laws_FnFibonacci.j0
   with_reducible repeat' first | exact ih0 _ _ | exact ih1 _ _ | exact ih2 _ _ _ _ | exact ih3 _ _ | exact impl_CountLetters.mono _ _ _ | exact impl_FibonacciLetter.mono _ _ | exact impl_FibonacciPrefix.mono _ _ | exact impl_FibonacciWord.mono _ _ | exact impl_IsColdPair.mono _ _ _ | exact impl_LowerWythoff.mono _ _ | exact impl_UpperWythoff.mono _ _ | exact laws_sameInts.mono _ _ _ | exact spec_CountLetters.mono _ _ _ | exact spec_DrawCountLetters.mono _ _ | exact spec_DrawFibonacciLetter.mono _ _ | exact spec_DrawFibonacciPrefix.mono _ _ | exact spec_DrawFibonacciWord.mono _ _ | exact spec_DrawIsColdPair.mono _ _ | exact spec_DrawLowerWythoff.mono _ _ | exact spec_FibonacciLetter.mono _ _ | exact spec_FibonacciPrefix.mono _ _ | exact spec_FibonacciWord.mono _ _ | exact spec_FixedPrefix.mono _ _ _ _ | exact spec_IsColdPair.mono _ _ _ | exact spec_LowerWythoff.mono _ _ | exact spec_UpperWythoff.mono _ _ | exact LeO.refl _ | exact LeO.none _ | refine LeO.ite ?_ ?_ | refine LeO.bind ?_ (fun _ => ?_)
  ·intro y0 y1
   unfold laws_FnFibonacci.j1
   with_reducible repeat' first | exact ih0 _ _ | exact ih1 _ _ | exact ih2 _ _ _ _ | exact ih3 _ _ | exact impl_CountLetters.mono _ _ _ | exact impl_FibonacciLetter.mono _ _ | exact impl_FibonacciPrefix.mono _ _ | exact impl_FibonacciWord.mono _ _ | exact impl_IsColdPair.mono _ _ _ | exact impl_LowerWythoff.mono _ _ | exact impl_UpperWythoff.mono _ _ | exact laws_sameInts.mono _ _ _ | exact spec_CountLetters.mono _ _ _ | exact spec_DrawCountLetters.mono _ _ | exact spec_DrawFibonacciLetter.mono _ _ | exact spec_DrawFibonacciPrefix.mono _ _ | exact spec_DrawFibonacciWord.mono _ _ | exact spec_DrawIsColdPair.mono _ _ | exact spec_DrawLowerWythoff.mono _ _ | exact spec_FibonacciLetter.mono _ _ | exact spec_FibonacciPrefix.mono _ _ | exact spec_FibonacciWord.mono _ _ | exact spec_FixedPrefix.mono _ _ _ _ | exact spec_IsColdPair.mono _ _ _ | exact spec_LowerWythoff.mono _ _ | exact spec_UpperWythoff.mono _ _ | exact LeO.refl _ | exact LeO.none _ | refine LeO.ite ?_ ?_ | refine LeO.bind ?_ (fun _ => ?_)
  ·intro y0 y1 y2 y3
   unfold laws_FnFibonacci.j2
   with_reducible repeat' first | exact ih0 _ _ | exact ih1 _ _ | exact ih2 _ _ _ _ | exact ih3 _ _ | exact impl_CountLetters.mono _ _ _ | exact impl_FibonacciLetter.mono _ _ | exact impl_FibonacciPrefix.mono _ _ | exact impl_FibonacciWord.mono _ _ | exact impl_IsColdPair.mono _ _ _ | exact impl_LowerWythoff.mono _ _ | exact impl_UpperWythoff.mono _ _ | exact laws_sameInts.mono _ _ _ | exact spec_CountLetters.mono _ _ _ | exact spec_DrawCountLetters.mono _ _ | exact spec_DrawFibonacciLetter.mono _ _ | exact spec_DrawFibonacciPrefix.mono _ _ | exact spec_DrawFibonacciWord.mono _ _ | exact spec_DrawIsColdPair.mono _ _ | exact spec_DrawLowerWythoff.mono _ _ | exact spec_FibonacciLetter.mono _ _ | exact spec_FibonacciPrefix.mono _ _ | exact spec_FibonacciWord.mono _ _ | exact spec_FixedPrefix.mono _ _ _ _ | exact spec_IsColdPair.mono _ _ _ | exact spec_LowerWythoff.mono _ _ | exact spec_UpperWythoff.mono _ _ | exact LeO.refl _ | exact LeO.none _ | refine LeO.ite ?_ ?_ | refine LeO.bind ?_ (fun _ => ?_)
  intro y0 y1
  unfold laws_FnFibonacci.j3
  with_reducible repeat' first | exact ih0 _ _ | exact ih1 _ _ | exact ih2 _ _ _ _ | exact ih3 _ _ | exact impl_CountLetters.mono _ _ _ | exact impl_FibonacciLetter.mono _ _ | exact impl_FibonacciPrefix.mono _ _ | exact impl_FibonacciWord.mono _ _ | exact impl_IsColdPair.mono _ _ _ | exact impl_LowerWythoff.mono _ _ | exact impl_UpperWythoff.mono _ _ | exact laws_sameInts.mono _ _ _ | exact spec_CountLetters.mono _ _ _ | exact spec_DrawCountLetters.mono _ _ | exact spec_DrawFibonacciLetter.mono _ _ | exact spec_DrawFibonacciPrefix.mono _ _ | exact spec_DrawFibonacciWord.mono _ _ | exact spec_DrawIsColdPair.mono _ _ | exact spec_DrawLowerWythoff.mono _ _ | exact spec_FibonacciLetter.mono _ _ | exact spec_FibonacciPrefix.mono _ _ | exact spec_FibonacciWord.mono _ _ | exact spec_FixedPrefix.mono _ _ _ _ | exact spec_IsColdPair.mono _ _ _ | exact spec_LowerWythoff.mono _ _ | exact spec_UpperWythoff.mono _ _ | exact LeO.refl _ | exact LeO.none _ | refine LeO.ite ?_ ?_ | refine LeO.bind ?_ (fun _ => ?_)
theorem laws_FnFibonacci.mono : ∀ a0 k, LeO (laws_FnFibonacci.f k a0) (laws_FnFibonacci.f (k + 1) a0) := by
 intro a0 k
 obtain ⟨ih0, ih1, ih2, ih3⟩ := laws_FnFibonacci.mono_l k
 unfold laws_FnFibonacci.f
 with_reducible repeat' first | exact ih0 _ _ | exact ih1 _ _ | exact ih2 _ _ _ _ | exact ih3 _ _ | exact impl_CountLetters.mono _ _ _ | exact impl_FibonacciLetter.mono _ _ | exact impl_FibonacciPrefix.mono _ _ | exact impl_FibonacciWord.mono _ _ | exact impl_IsColdPair.mono _ _ _ | exact impl_LowerWythoff.mono _ _ | exact impl_UpperWythoff.mono _ _ | exact laws_sameInts.mono _ _ _ | exact spec_CountLetters.mono _ _ _ | exact spec_DrawCountLetters.mono _ _ | exact spec_DrawFibonacciLetter.mono _ _ | exact spec_DrawFibonacciPrefix.mono _ _ | exact spec_DrawFibonacciWord.mono _ _ | exact spec_DrawIsColdPair.mono _ _ | exact spec_DrawLowerWythoff.mono _ _ | exact spec_FibonacciLetter.mono _ _ | exact spec_FibonacciPrefix.mono _ _ | exact spec_FibonacciWord.mono _ _ | exact spec_FixedPrefix.mono _ _ _ _ | exact spec_IsColdPair.mono _ _ _ | exact spec_LowerWythoff.mono _ _ | exact spec_UpperWythoff.mono _ _ | exact LeO.refl _ | exact LeO.none _ | refine LeO.ite ?_ ?_ | refine LeO.bind ?_ (fun _ => ?_)

end Go.Proofs.Ytdcakddfibnllaa.PFnFibonacci
