/- Walks of the functions that the law reaches. -/
import Derived.Test.YtgmfjcckmapkbaaPFnExactPrefixSumx2
namespace Go.Proofs.Ytgmfjcckmapkbaa.PFnExactPrefixSum
open Go.RowKit Go.Proofs.YtgmfjcckmapkbaaW.PrintWords Go.Proofs.YtgmfjcckmapkbaaW.PrintLast Go.Proofs.YtgmfjcckmapkbaaW.PrintMore
attribute [local go_sem] max2_int min2_int max_two min_two max_three min_three max_four min_four
set_option linter.unusedVariables false
set_option maxHeartbeats 8000000
set_option maxRecDepth 100000
set_option linter.unusedSimpArgs false

mutual
def spec_PowerOf.j0 : Nat → Int → Int → Bool → Option (Int)
 | 0, _, _, _ => none
 | k + 1, x0, x1, ak => if ak = true then (some 0) else (spec_PowerOf.l0 k x0 x1 1 0)
def spec_PowerOf.l0 : Nat → Int → Int → Int → Int → Option (Int)
 | 0, _, _, _, _ => none
 | k + 1, x0, x1, x5, x6 => if x6 < x1 then (spec_PowerOf.l0 k x0 x1 (wrap64 (x5 * x0)) (wrap64 (x6 + 1))) else (some x5)
end
def spec_PowerOf.f (k : Nat) (a0 : Int) (a1 : Int) : Option (Int) := (spec_l1In.f a0 2 4).bind fun af => (if af = true then ((spec_l1In.f a1 0 16).bind fun ac => (spec_PowerOf.j0 k a0 a1 (!ac))) else (spec_PowerOf.j0 k a0 a1 true))
theorem spec_PowerOf.calls (k : Nat) (a0 : Int) (a1 : Int) (r : Int) (w : World) (h : spec_PowerOf.f k a0 a1 = some r) :
  Calls Try.prog 37 #[.int .i64 a0, .int .i64 a1] w fun e w' => e = .returned (.int .i64 r) ∧ Drawn0 w w' := by
 unfold spec_PowerOf.f at h; have H := h; clear h; have HC3 := A_ H; clear H; go_enter Try.func37, Try.ntmps37
 go_upto_region 1 with (fail)
 go_cut [14] (fun aj wc => ∃ (kq : Nat) (aa : Bool), aj = .bool aa ∧ Aside0 (spec_PowerOf.j0 kq a0 a1 aa = some r) ∧ Aside0 (kq ≤ k) ∧ Drawn0 w wc)
 case first =>
  have H := HC3.o; clear HC3; replace H := bA_ H; obtain ⟨af, A4, H⟩ := H
  by_cases c5 : af = true
  ·subst c5; rw [if_pos rfl] at H; replace H := bA_ H; obtain ⟨ac, A6, H⟩ := H
   have H' := A_ H
   clear H
   go_wp2_with (first | ((with_reducible refine gc_ 22 rfl ?_); refine cL_ E22 8 rfl rfl rfl (spec_l1In.calls a0 2 4 true _ A4.o) (by (try simp only [mA, mB, mC]); first | done | rfl | (simp only [List.length_drop, List.length_take]; rfl)) ?_; rintro e w' ⟨rfl, ⟨nd, rfl⟩⟩; refine ⟨_, rfl, ?_⟩) | (go_at_call 22; (with_reducible refine (spec_l1In.calls a1 0 16 ac _ A6.o).mono ?_); rintro e w' ⟨rfl, ⟨nd, rfl⟩⟩))
   go_meet
   case rel => exact ⟨_, (!ac), (by rfl), H', ⟨by omega⟩, by repeat (first | exact Drawn0.refl _ | apply Drawn0.step)⟩
  replace c5 := Bool.eq_false_iff.mpr c5; subst c5; rw [if_neg nf_] at H
  have H' := A_ H
  clear H
  go_wp2_with (first | ((with_reducible refine gc_ 22 rfl ?_); refine cM_ E22 8 (spec_l1In.calls a0 2 4 false _ A4.o) ?_; rintro e w' ⟨rfl, ⟨nd, rfl⟩⟩; refine ⟨_, rfl, ?_⟩))
  go_meet
  case rel => exact ⟨_, (true), (by rfl), H', ⟨by omega⟩, by repeat (first | exact Drawn0.refl _ | apply Drawn0.step)⟩
 case rest =>
  clear HC3; obtain ⟨kq, aa, rfl, HA, ah, ⟨mc2, rfl⟩⟩ := hcut
  cases kq with
  | zero => exact nz_ HA.o
  | succ kj2 =>
   have H := HA.o; clear HA; simp only [spec_PowerOf.j0] at H
   by_cases c7 : aa = true
   ·subst c7; rw [if_pos rfl] at H; obtain rfl := Option.some.inj H
    go_wp2
    go_ret
    exact ⟨by rfl, by repeat (first | exact Drawn0.refl _ | apply Drawn0.step)⟩
   replace c7 := Bool.eq_false_iff.mpr c7; subst c7; rw [if_neg nf_] at H
   have H' := A_ H
   clear H
   go_wp2
   go_loopg [5, 6] kj2 (fun kq v5 v6 w' => ∃ (ae : Int) (ab : Int), v5 = .int .i64 ae ∧ v6 = .int .i64 ab ∧ Aside0 (spec_PowerOf.l0 kq a0 a1 ae ab = some r) ∧ Aside0 (kq ≤ kj2) ∧ Drawn0 w w')
   case atStart => exact ⟨(1), (0), (by rfl), (by rfl), H', ⟨Nat.le_refl _⟩, by repeat (first | exact Drawn0.refl _ | apply Drawn0.step)⟩
   case round =>
    clear H'; obtain ⟨ae, ab, rfl, rfl, HA, ai, ⟨m2, rfl⟩⟩ := hrel
    cases gk with
    | zero => exact nz_ HA.o
    | succ k2 =>
     have H := HA.o; clear HA; simp only [spec_PowerOf.l0] at H
     by_cases c8 : ab < a1
     ·rw [if_pos c8] at H; have ag := decide_eq_true c8; clear c8
      have H' := A_ H
      clear H
      go_wp2
      go_roundg k2
      case measure => have := ah.o; have := ai.o; omega
      case rel => exact ⟨(wrap64 (ae * a0)), (wrap64 (ab + 1)), (by rfl), (by rfl), H', ⟨by have := ah.o; have := ai.o; omega⟩, by repeat (first | exact Drawn0.refl _ | apply Drawn0.step)⟩
     rw [if_neg c8] at H; have ag := decide_eq_false c8; clear c8; obtain rfl := Option.some.inj H
     go_wp2
     go_ret
     exact ⟨by rfl, by repeat (first | exact Drawn0.refl _ | apply Drawn0.step)⟩

end Go.Proofs.Ytgmfjcckmapkbaa.PFnExactPrefixSum

