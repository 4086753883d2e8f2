/- Walks of the functions that the law reaches. -/
import Derived.Test.YtnhpbmagbajliaaPFnBordersx17
namespace Go.Proofs.Ytnhpbmagbajliaa.PFnBorders
open Go.RowKit Go.Proofs.YtnhpbmagbajliaaW.PrintWords Go.Proofs.YtnhpbmagbajliaaW.PrintLast Go.Proofs.YtnhpbmagbajliaaW.PrintMore
attribute [local go_sem] max2_int min2_int max_two min_two max_three min_three max_four min_four
set_option linter.unusedVariables false
set_option maxHeartbeats 8000000
set_option maxRecDepth 100000
set_option linter.unusedSimpArgs false

def spec_IsRich.f (k : Nat) (l0 : List Int) : Option (Bool) := (spec_IsWord.f k l0 16).bind fun t867 => (if t867 = true then (if (l0.length : Int) ≤ 64 then ((spec_RichnessOf.f k l0).bind fun t868 => (some (t868 == (l0.length : Int)))) else (some false)) else (some false))
theorem spec_IsRich.calls (k : Nat) (A0 : Option Addr) (c0 : Nat) (l0 : List Int) (r : Bool) (w : World) (hr0 : Kd.C (Kd.int .i64) w A0 l0.length l0) (hc0 : l0.length ≤ c0) (h : spec_IsRich.f k l0 = some r) :
  Calls Try.prog 26 #[.slice A0 l0.length c0] w fun e w' => e = .returned (.bool r) ∧ Below w.heap.size w w' := by
 have HR0 := A_ hr0; have HC0 := A_ hc0; clear hr0 hc0; have HB := A_ (Below.refl w.heap.size w); unfold spec_IsRich.f at h; have H := h; clear h; replace H := bA_ H; obtain ⟨t867, A2, H⟩ := H
 by_cases c3 : t867 = true
 ·subst c3; rw [if_pos rfl] at H
  by_cases c4 : (l0.length : Int) ≤ 64
  ·rw [if_pos c4] at H; have c4b0 := decide_eq_true c4
   have c4b1 : decide (l0.length ≤ 64) = true := decide_eq_true (by omega)
   clear c4; replace H := bA_ H; obtain ⟨t868, A5, H⟩ := H; obtain rfl := Option.some.inj H; go_enter Try.func26, Try.ntmps26
   go_wp2_with (first | ((with_reducible refine gc_ 48 rfl ?_); refine cD_ E48 4 rfl rfl rfl (spec_IsWord.calls k _ _ l0 16 true _ (by repeat (first | exact HR0.out | (with_reducible refine Kd.C_alloc ?_ _) | (with_reducible refine Kd.C_drewN ?_ _) | (with_reducible refine Kd.C_drew ?_))) HC0.out A2.out) (by simp only [mA, mB, mC]; rfl) fun nd => ?_) | (go_at_call 50; (with_reducible refine (spec_RichnessOf.calls k _ _ l0 t868 _ ?side1 ?side2 A5.out).mono ?_); (case side1 => repeat (first | exact HR0.out | (with_reducible refine Kd.C_alloc ?_ _) | (with_reducible refine Kd.C_drewN ?_ _) | (with_reducible refine Kd.C_drew ?_))); (case side2 => exact HC0.out); rintro e w6 ⟨rfl, hb⟩; replace HB := A_ (below_step (by repeat (first | (with_reducible first | exact HB.out | apply below_alloc | apply pw_below_drewN | apply below_drew1) | exact HB.out)) hb); clear hb; (try clear hi)))
   go_ret
   exact ⟨by rfl, HB.out⟩
  rw [if_neg c4] at H; have c4b0 := decide_eq_false c4
  have c4b1 : decide (l0.length ≤ 64) = false := decide_eq_false (by omega)
  clear c4; obtain rfl := Option.some.inj H; go_enter Try.func26, Try.ntmps26
  go_wp2_with (first | ((with_reducible refine gc_ 48 rfl ?_); refine cD_ E48 4 rfl rfl rfl (spec_IsWord.calls k _ _ l0 16 true _ (by repeat (first | exact HR0.out | (with_reducible refine Kd.C_alloc ?_ _) | (with_reducible refine Kd.C_drewN ?_ _) | (with_reducible refine Kd.C_drew ?_))) HC0.out A2.out) (by simp only [mA, mB, mC]; rfl) fun nd => ?_))
  go_ret
  exact ⟨by rfl, by repeat (first | (with_reducible first | exact HB.out | apply below_alloc | apply pw_below_drewN | apply below_drew1) | exact HB.out)⟩
 replace c3 := Bool.eq_false_iff.mpr c3; subst c3; rw [if_neg nf_] at H; obtain rfl := Option.some.inj H; go_enter Try.func26, Try.ntmps26
 go_wp2_with (first | ((with_reducible refine gc_ 48 rfl ?_); refine cD_ E48 4 rfl rfl rfl (spec_IsWord.calls k _ _ l0 16 false _ (by repeat (first | exact HR0.out | (with_reducible refine Kd.C_alloc ?_ _) | (with_reducible refine Kd.C_drewN ?_ _) | (with_reducible refine Kd.C_drew ?_))) HC0.out A2.out) (by simp only [mA, mB, mC]; rfl) fun nd => ?_))
 go_ret
 exact ⟨by rfl, by repeat (first | (with_reducible first | exact HB.out | apply below_alloc | apply pw_below_drewN | apply below_drew1) | exact HB.out)⟩

mutual
def impl_LongestPalindrome.l0 : Nat → List Int → Int → Int → Int → Int → Option (Int × Int)
 | 0, _, _, _, _, _ => none
 | k + 1, x0, x4, x5, x12, x13 => if x13 < x12 then (if x13 = 0 then (impl_LongestPalindrome.j1 k x0 x4 x5 0 (wrap64 (Int.tdiv x13 2)) x12 x13) else (impl_LongestPalindrome.j1 k x0 x4 x5 (wrap64 (Int.tdiv (wrap64 (x13 - 1)) 2)) (wrap64 (Int.tdiv x13 2)) x12 x13)) else (some (x4, x5))
def impl_LongestPalindrome.j1 : Nat → List Int → Int → Int → Int → Int → Int → Int → Option (Int × Int)
 | 0, _, _, _, _, _, _, _ => none
 | k + 1, x0, x4, x5, x7, x8, x12, x13 => impl_LongestPalindrome.l1 k x0 x4 x5 x7 x8 x12 x13
def impl_LongestPalindrome.l1 : Nat → List Int → Int → Int → Int → Int → Int → Int → Option (Int × Int)
 | 0, _, _, _, _, _, _, _ => none
 | k + 1, x0, x4, x5, x7, x8, x12, x13 => if x7 ≥ 0 then (if x8 < (x0.length : Int) then (if 0 ≤ x7 then (if x7 < (x0.length : Int) then (if 0 ≤ x8 then (if (rd x0 x7) = (rd x0 x8) then (impl_LongestPalindrome.l1 k x0 x4 x5 (wrap64 (x7 - 1)) (wrap64 (x8 + 1)) x12 x13) else (if (wrap64 ((wrap64 (x8 - x7)) - 1)) > x5 then (impl_LongestPalindrome.l0 k x0 (wrap64 (x7 + 1)) (wrap64 ((wrap64 (x8 - x7)) - 1)) x12 (wrap64 (x13 + 1))) else (if (wrap64 ((wrap64 (x8 - x7)) - 1)) = x5 then (if (wrap64 (x7 + 1)) < x4 then (impl_LongestPalindrome.l0 k x0 (wrap64 (x7 + 1)) (wrap64 ((wrap64 (x8 - x7)) - 1)) x12 (wrap64 (x13 + 1))) else (impl_LongestPalindrome.l0 k x0 x4 x5 x12 (wrap64 (x13 + 1)))) else (impl_LongestPalindrome.l0 k x0 x4 x5 x12 (wrap64 (x13 + 1)))))) else (none)) else (none)) else (none)) else (if (wrap64 ((wrap64 (x8 - x7)) - 1)) > x5 then (impl_LongestPalindrome.l0 k x0 (wrap64 (x7 + 1)) (wrap64 ((wrap64 (x8 - x7)) - 1)) x12 (wrap64 (x13 + 1))) else (if (wrap64 ((wrap64 (x8 - x7)) - 1)) = x5 then (if (wrap64 (x7 + 1)) < x4 then (impl_LongestPalindrome.l0 k x0 (wrap64 (x7 + 1)) (wrap64 ((wrap64 (x8 - x7)) - 1)) x12 (wrap64 (x13 + 1))) else (impl_LongestPalindrome.l0 k x0 x4 x5 x12 (wrap64 (x13 + 1)))) else (impl_LongestPalindrome.l0 k x0 x4 x5 x12 (wrap64 (x13 + 1)))))) else (if (wrap64 ((wrap64 (x8 - x7)) - 1)) > x5 then (impl_LongestPalindrome.l0 k x0 (wrap64 (x7 + 1)) (wrap64 ((wrap64 (x8 - x7)) - 1)) x12 (wrap64 (x13 + 1))) else (if (wrap64 ((wrap64 (x8 - x7)) - 1)) = x5 then (if (wrap64 (x7 + 1)) < x4 then (impl_LongestPalindrome.l0 k x0 (wrap64 (x7 + 1)) (wrap64 ((wrap64 (x8 - x7)) - 1)) x12 (wrap64 (x13 + 1))) else (impl_LongestPalindrome.l0 k x0 x4 x5 x12 (wrap64 (x13 + 1)))) else (impl_LongestPalindrome.l0 k x0 x4 x5 x12 (wrap64 (x13 + 1)))))
end
def impl_LongestPalindrome.f (k : Nat) (l0 : List Int) : Option (Int × Int) := impl_LongestPalindrome.l0 k l0 0 0 (wrap64 (2 * (l0.length : Int))) 0
theorem impl_LongestPalindrome.calls (k : Nat) (A0 : Option Addr) (c0 : Nat) (l0 : List Int) (r1 : Int) (r2 : Int) (w : World) (hr0 : Kd.C (Kd.int .i64) w A0 l0.length l0) (hc0 : l0.length ≤ c0) (h : impl_LongestPalindrome.f k l0 = some (r1, r2)) :
  Calls Try.prog 27 #[.slice A0 l0.length c0] w fun e w' => e = .returned (.tuple #[.int .i64 r1, .int .i64 r2]) ∧ Drawn0 w w' := by
 have HR0 := A_ hr0; have HC0 := A_ hc0; clear hr0 hc0; unfold impl_LongestPalindrome.f at h; have H := h; clear h
 have H' := A_ H
 clear H; go_enter Try.func27, Try.ntmps27
 go_wp2
 repeat (go_quiet (fail); try go_wp2)
 go_loopg [4, 5, 13] k (fun kq v4 v5 v13 w' => ∃ (x4_1 : Int) (x5_1 : Int) (x13_1 : Int), v4 = .int .i64 x4_1 ∧ v5 = .int .i64 x5_1 ∧ v13 = .int .i64 x13_1 ∧ Aside0 (impl_LongestPalindrome.l0 kq l0 x4_1 x5_1 (wrap64 (2 * (l0.length : Int))) x13_1 = some (r1, r2)) ∧ Aside0 (kq ≤ k) ∧ Drawn0 w w')
 case atStart => exact ⟨(0), (0), (0), (by rfl), (by rfl), (by rfl), H', ⟨Nat.le_refl _⟩, by repeat (first | exact Drawn0.refl _ | apply Drawn0.step)⟩
 case round =>
  clear H'; obtain ⟨x4_1, x5_1, x13_1, rfl, rfl, rfl, HA, HK1, ⟨m1, rfl⟩⟩ := hrel
  cases gk with
  | zero => exact absurd HA.out (by simp [impl_LongestPalindrome.l0])
  | succ k1 =>
   have H := HA.out; clear HA; simp only [impl_LongestPalindrome.l0] at H
   by_cases c2 : x13_1 < (wrap64 (2 * (l0.length : Int)))
   ·rw [if_pos c2] at H; have c2b0 := decide_eq_true c2; clear c2; have HC3 := A_ H; clear H
    go_upto_if 22 with (fail)
    repeat (go_quiet (fail); go_upto_if 22 with (fail))
    go_cut [7] (fun v7 wc => ∃ (kq : Nat) (x7_2 : Int), v7 = .int .i64 x7_2 ∧ Aside0 (impl_LongestPalindrome.j1 kq l0 x4_1 x5_1 x7_2 (wrap64 (Int.tdiv x13_1 2)) (wrap64 (2 * (l0.length : Int))) x13_1 = some (r1, r2)) ∧ Aside0 (kq ≤ k1) ∧ Drawn0 w wc)
    case first =>
     have H := HC3.out; clear HC3
     by_cases c4 : x13_1 = 0
     ·rw [if_pos c4] at H
      have c4b0 : (x13_1 == 0) = true := beq_iff_eq.mpr c4
      have c4b1 : (x13_1 != 0) = false := bne_eq_false_iff_eq.mpr c4
      clear c4
      (rw [c4b0])
      have H' := A_ H
      clear H
      go_wp2
      repeat (go_quiet (fail); try go_wp2)
      go_meet
      case rel => exact ⟨_, (0), (by rfl), H', ⟨by have := HK1.out; omega⟩, by repeat (first | exact Drawn0.refl _ | apply Drawn0.step)⟩
     rw [if_neg c4] at H
     have c4b0 : (x13_1 == 0) = false := beq_eq_false_iff_ne.mpr c4
     have c4b1 : (x13_1 != 0) = true := bne_iff_ne.mpr c4
     (rw [c4b0])
     have H' := A_ H
     clear H
     go_wp2
     repeat (go_quiet (fail); try go_wp2)
     go_meet
     case rel => exact ⟨_, (wrap64 (Int.tdiv (wrap64 (x13_1 - 1)) 2)), (by rfl), H', ⟨by have := HK1.out; omega⟩, by repeat (first | exact Drawn0.refl _ | apply Drawn0.step)⟩
    case rest =>
     clear HC3
     try clear c2b0
     obtain ⟨kq, x7_2, rfl, HA, HJ2, ⟨mc2, rfl⟩⟩ := hcut
     cases kq with
     | zero => exact absurd HA.out (by simp [impl_LongestPalindrome.j1])
     | succ kj2 =>
      have H := HA.out; clear HA; simp only [impl_LongestPalindrome.j1] at H
      have H' := A_ H
      clear H
      go_wp2
      repeat (go_quiet (fail); try go_wp2)
      go_loopg [7, 8] kj2 (fun kq v7 v8 w' => ∃ (x7_3 : Int) (x8_3 : Int), v7 = .int .i64 x7_3 ∧ v8 = .int .i64 x8_3 ∧ Aside0 (impl_LongestPalindrome.l1 kq l0 x4_1 x5_1 x7_3 x8_3 (wrap64 (2 * (l0.length : Int))) x13_1 = some (r1, r2)) ∧ Aside0 (kq ≤ kj2) ∧ Drawn0 w w')
      case atStart => exact ⟨(x7_2), ((wrap64 (Int.tdiv x13_1 2))), (by rfl), (by rfl), H', ⟨Nat.le_refl _⟩, by repeat (first | exact Drawn0.refl _ | apply Drawn0.step)⟩
      case round =>
       clear H'; obtain ⟨x7_3, x8_3, rfl, rfl, HA, HK3, ⟨m3, rfl⟩⟩ := hrel
       cases gk with
       | zero => exact absurd HA.out (by simp [impl_LongestPalindrome.l1])
       | succ k3 =>
        have H := HA.out; clear HA; simp only [impl_LongestPalindrome.l1] at H
        by_cases c5 : x7_3 ≥ 0
        ·rw [if_pos c5] at H
         have c5b0 : decide (0 ≤ x7_3) = true := decide_eq_true c5
         clear c5
         by_cases c6 : x8_3 < (l0.length : Int)
         ·rw [if_pos c6] at H; have c6b0 := decide_eq_true c6; clear c6
          by_cases c7 : 0 ≤ x7_3
          ·rw [if_pos c7] at H; have c7b0 := decide_eq_true c7; clear c7
           by_cases c8 : x7_3 < (l0.length : Int)
           ·rw [if_pos c8] at H; have c8b0 := decide_eq_true c8; clear c8
            by_cases c9 : 0 ≤ x8_3
            ·rw [if_pos c9] at H; have c9b0 := decide_eq_true c9; clear c9
             by_cases c10 : (rd l0 x7_3) = (rd l0 x8_3)
             ·rw [if_pos c10] at H
              have c10b0 : ((rd l0 x7_3) == (rd l0 x8_3)) = true := beq_iff_eq.mpr c10
              have c10b1 : ((rd l0 x7_3) != (rd l0 x8_3)) = false := bne_eq_false_iff_eq.mpr c10
              clear c10
              have H' := A_ H
              clear H
              have p869 : 0 ≤ (x7_3 : Int) := od_ (by assumption)
              have q869 : x7_3 < (l0.length : Int) := od_ (by assumption)
              obtain ⟨ad869, e869, hx869_0⟩ := Kd.at_int HR0.out x7_3 p869 q869
              cases e869
              replace p869 := eq_true p869; replace q869 := eq_true q869
              have p870 : 0 ≤ (x8_3 : Int) := od_ (by assumption)
              have q870 : x8_3 < (l0.length : Int) := od_ (by assumption)
              obtain ⟨ad870, e870, hx870_0⟩ := Kd.at_int HR0.out x8_3 p870 q870; obtain rfl : ad869 = ad870 := (by injection e870); replace p870 := eq_true p870; replace q870 := eq_true q870
              go_wp2
              repeat (go_quiet (fail); try go_wp2)
              go_roundg k3
              case measure => have := HK1.out; have := HJ2.out; have := HK3.out; omega
              case rel => exact ⟨(wrap64 (x7_3 - 1)), (wrap64 (x8_3 + 1)), (by rfl), (by rfl), H', ⟨by have := HK1.out; have := HJ2.out; have := HK3.out; omega⟩, by repeat (first | exact Drawn0.refl _ | apply Drawn0.step)⟩
             rw [if_neg c10] at H
             have c10b0 : ((rd l0 x7_3) == (rd l0 x8_3)) = false := beq_eq_false_iff_ne.mpr c10
             have c10b1 : ((rd l0 x7_3) != (rd l0 x8_3)) = true := bne_iff_ne.mpr c10
             by_cases c11 : (wrap64 ((wrap64 (x8_3 - x7_3)) - 1)) > x5_1
             ·rw [if_pos c11] at H
              have c11b0 : decide (x5_1 < (wrap64 ((wrap64 (x8_3 - x7_3)) - 1))) = true := decide_eq_true c11
              clear c11
              have H' := A_ H
              clear H
              have p869 : 0 ≤ (x7_3 : Int) := od_ (by assumption)
              have q869 : x7_3 < (l0.length : Int) := od_ (by assumption)
              obtain ⟨ad869, e869, hx869_0⟩ := Kd.at_int HR0.out x7_3 p869 q869
              cases e869
              replace p869 := eq_true p869; replace q869 := eq_true q869
              have p870 : 0 ≤ (x8_3 : Int) := od_ (by assumption)
              have q870 : x8_3 < (l0.length : Int) := od_ (by assumption)
              obtain ⟨ad870, e870, hx870_0⟩ := Kd.at_int HR0.out x8_3 p870 q870; obtain rfl : ad869 = ad870 := (by injection e870); replace p870 := eq_true p870; replace q870 := eq_true q870
              go_wp2
              repeat (go_quiet (fail); try go_wp2)
              go_roundg k3
              case measure => have := HK1.out; have := HJ2.out; have := HK3.out; omega
              case rel => exact ⟨(wrap64 (x7_3 + 1)), (wrap64 ((wrap64 (x8_3 - x7_3)) - 1)), (wrap64 (x13_1 + 1)), (by rfl), (by rfl), (by rfl), H', ⟨by have := HK1.out; have := HJ2.out; have := HK3.out; omega⟩, by repeat (first | exact Drawn0.refl _ | apply Drawn0.step)⟩
             rw [if_neg c11] at H
             have c11b0 : decide (x5_1 < (wrap64 ((wrap64 (x8_3 - x7_3)) - 1))) = false := decide_eq_false c11
             clear c11
             by_cases c12 : (wrap64 ((wrap64 (x8_3 - x7_3)) - 1)) = x5_1
             ·rw [if_pos c12] at H
              have c12b0 : ((wrap64 ((wrap64 (x8_3 - x7_3)) - 1)) == x5_1) = true := beq_iff_eq.mpr c12
              have c12b1 : ((wrap64 ((wrap64 (x8_3 - x7_3)) - 1)) != x5_1) = false := bne_eq_false_iff_eq.mpr c12
              clear c12
              by_cases c13 : (wrap64 (x7_3 + 1)) < x4_1
              ·rw [if_pos c13] at H; have c13b0 := decide_eq_true c13; clear c13
               have H' := A_ H
               clear H
               have p869 : 0 ≤ (x7_3 : Int) := od_ (by assumption)
               have q869 : x7_3 < (l0.length : Int) := od_ (by assumption)
               obtain ⟨ad869, e869, hx869_0⟩ := Kd.at_int HR0.out x7_3 p869 q869
               cases e869
               replace p869 := eq_true p869; replace q869 := eq_true q869
               have p870 : 0 ≤ (x8_3 : Int) := od_ (by assumption)
               have q870 : x8_3 < (l0.length : Int) := od_ (by assumption)
               obtain ⟨ad870, e870, hx870_0⟩ := Kd.at_int HR0.out x8_3 p870 q870; obtain rfl : ad869 = ad870 := (by injection e870); replace p870 := eq_true p870; replace q870 := eq_true q870
               go_wp2
               repeat (go_quiet (fail); try go_wp2)
               go_roundg k3
               case measure => have := HK1.out; have := HJ2.out; have := HK3.out; omega
               case rel => exact ⟨(wrap64 (x7_3 + 1)), (wrap64 ((wrap64 (x8_3 - x7_3)) - 1)), (wrap64 (x13_1 + 1)), (by rfl), (by rfl), (by rfl), H', ⟨by have := HK1.out; have := HJ2.out; have := HK3.out; omega⟩, by repeat (first | exact Drawn0.refl _ | apply Drawn0.step)⟩
              rw [if_neg c13] at H; have c13b0 := decide_eq_false c13; clear c13
              have H' := A_ H
              clear H
              have p869 : 0 ≤ (x7_3 : Int) := od_ (by assumption)
              have q869 : x7_3 < (l0.length : Int) := od_ (by assumption)
              obtain ⟨ad869, e869, hx869_0⟩ := Kd.at_int HR0.out x7_3 p869 q869
              cases e869
              replace p869 := eq_true p869; replace q869 := eq_true q869
              have p870 : 0 ≤ (x8_3 : Int) := od_ (by assumption)
              have q870 : x8_3 < (l0.length : Int) := od_ (by assumption)
              obtain ⟨ad870, e870, hx870_0⟩ := Kd.at_int HR0.out x8_3 p870 q870; obtain rfl : ad869 = ad870 := (by injection e870); replace p870 := eq_true p870; replace q870 := eq_true q870
              go_wp2
              repeat (go_quiet (fail); try go_wp2)
              go_roundg k3
              case measure => have := HK1.out; have := HJ2.out; have := HK3.out; omega
              case rel => exact ⟨(x4_1), (x5_1), (wrap64 (x13_1 + 1)), (by rfl), (by rfl), (by rfl), H', ⟨by have := HK1.out; have := HJ2.out; have := HK3.out; omega⟩, by repeat (first | exact Drawn0.refl _ | apply Drawn0.step)⟩
             rw [if_neg c12] at H
             have c12b0 : ((wrap64 ((wrap64 (x8_3 - x7_3)) - 1)) == x5_1) = false := beq_eq_false_iff_ne.mpr c12
             have c12b1 : ((wrap64 ((wrap64 (x8_3 - x7_3)) - 1)) != x5_1) = true := bne_iff_ne.mpr c12
             have H' := A_ H
             clear H
             have p869 : 0 ≤ (x7_3 : Int) := od_ (by assumption)
             have q869 : x7_3 < (l0.length : Int) := od_ (by assumption)
             obtain ⟨ad869, e869, hx869_0⟩ := Kd.at_int HR0.out x7_3 p869 q869
             cases e869
             replace p869 := eq_true p869; replace q869 := eq_true q869
             have p870 : 0 ≤ (x8_3 : Int) := od_ (by assumption)
             have q870 : x8_3 < (l0.length : Int) := od_ (by assumption)
             obtain ⟨ad870, e870, hx870_0⟩ := Kd.at_int HR0.out x8_3 p870 q870; obtain rfl : ad869 = ad870 := (by injection e870); replace p870 := eq_true p870; replace q870 := eq_true q870
             go_wp2
             repeat (go_quiet (fail); try go_wp2)
             go_roundg k3
             case measure => have := HK1.out; have := HJ2.out; have := HK3.out; omega
             case rel => exact ⟨(x4_1), (x5_1), (wrap64 (x13_1 + 1)), (by rfl), (by rfl), (by rfl), H', ⟨by have := HK1.out; have := HJ2.out; have := HK3.out; omega⟩, by repeat (first | exact Drawn0.refl _ | apply Drawn0.step)⟩
            rw [if_neg c9] at H
            cases H
           rw [if_neg c8] at H
           cases H
          rw [if_neg c7] at H
          cases H
         rw [if_neg c6] at H; have c6b0 := decide_eq_false c6; clear c6
         by_cases c14 : (wrap64 ((wrap64 (x8_3 - x7_3)) - 1)) > x5_1
         ·rw [if_pos c14] at H
          have c14b0 : decide (x5_1 < (wrap64 ((wrap64 (x8_3 - x7_3)) - 1))) = true := decide_eq_true c14
          clear c14
          have H' := A_ H
          clear H
          go_wp2
          repeat (go_quiet (fail); try go_wp2)
          go_roundg k3
          case measure => have := HK1.out; have := HJ2.out; have := HK3.out; omega
          case rel => exact ⟨(wrap64 (x7_3 + 1)), (wrap64 ((wrap64 (x8_3 - x7_3)) - 1)), (wrap64 (x13_1 + 1)), (by rfl), (by rfl), (by rfl), H', ⟨by have := HK1.out; have := HJ2.out; have := HK3.out; omega⟩, by repeat (first | exact Drawn0.refl _ | apply Drawn0.step)⟩
         rw [if_neg c14] at H
         have c14b0 : decide (x5_1 < (wrap64 ((wrap64 (x8_3 - x7_3)) - 1))) = false := decide_eq_false c14
         clear c14
         by_cases c15 : (wrap64 ((wrap64 (x8_3 - x7_3)) - 1)) = x5_1
         ·rw [if_pos c15] at H
          have c15b0 : ((wrap64 ((wrap64 (x8_3 - x7_3)) - 1)) == x5_1) = true := beq_iff_eq.mpr c15
          have c15b1 : ((wrap64 ((wrap64 (x8_3 - x7_3)) - 1)) != x5_1) = false := bne_eq_false_iff_eq.mpr c15
          clear c15
          by_cases c16 : (wrap64 (x7_3 + 1)) < x4_1
          ·rw [if_pos c16] at H; have c16b0 := decide_eq_true c16; clear c16
           have H' := A_ H
           clear H
           go_wp2
           repeat (go_quiet (fail); try go_wp2)
           go_roundg k3
           case measure => have := HK1.out; have := HJ2.out; have := HK3.out; omega
           case rel => exact ⟨(wrap64 (x7_3 + 1)), (wrap64 ((wrap64 (x8_3 - x7_3)) - 1)), (wrap64 (x13_1 + 1)), (by rfl), (by rfl), (by rfl), H', ⟨by have := HK1.out; have := HJ2.out; have := HK3.out; omega⟩, by repeat (first | exact Drawn0.refl _ | apply Drawn0.step)⟩
          rw [if_neg c16] at H; have c16b0 := decide_eq_false c16; clear c16
          have H' := A_ H
          clear H
          go_wp2
          repeat (go_quiet (fail); try go_wp2)
          go_roundg k3
          case measure => have := HK1.out; have := HJ2.out; have := HK3.out; omega
          case rel => exact ⟨(x4_1), (x5_1), (wrap64 (x13_1 + 1)), (by rfl), (by rfl), (by rfl), H', ⟨by have := HK1.out; have := HJ2.out; have := HK3.out; omega⟩, by repeat (first | exact Drawn0.refl _ | apply Drawn0.step)⟩
         rw [if_neg c15] at H
         have c15b0 : ((wrap64 ((wrap64 (x8_3 - x7_3)) - 1)) == x5_1) = false := beq_eq_false_iff_ne.mpr c15
         have c15b1 : ((wrap64 ((wrap64 (x8_3 - x7_3)) - 1)) != x5_1) = true := bne_iff_ne.mpr c15
         have H' := A_ H
         clear H
         go_wp2
         repeat (go_quiet (fail); try go_wp2)
         go_roundg k3
         case measure => have := HK1.out; have := HJ2.out; have := HK3.out; omega
         case rel => exact ⟨(x4_1), (x5_1), (wrap64 (x13_1 + 1)), (by rfl), (by rfl), (by rfl), H', ⟨by have := HK1.out; have := HJ2.out; have := HK3.out; omega⟩, by repeat (first | exact Drawn0.refl _ | apply Drawn0.step)⟩
        rw [if_neg c5] at H
        have c5b0 : decide (0 ≤ x7_3) = false := decide_eq_false c5
        clear c5
        by_cases c17 : (wrap64 ((wrap64 (x8_3 - x7_3)) - 1)) > x5_1
        ·rw [if_pos c17] at H
         have c17b0 : decide (x5_1 < (wrap64 ((wrap64 (x8_3 - x7_3)) - 1))) = true := decide_eq_true c17
         clear c17
         have H' := A_ H
         clear H
         go_wp2
         repeat (go_quiet (fail); try go_wp2)
         go_roundg k3
         case measure => have := HK1.out; have := HJ2.out; have := HK3.out; omega
         case rel => exact ⟨(wrap64 (x7_3 + 1)), (wrap64 ((wrap64 (x8_3 - x7_3)) - 1)), (wrap64 (x13_1 + 1)), (by rfl), (by rfl), (by rfl), H', ⟨by have := HK1.out; have := HJ2.out; have := HK3.out; omega⟩, by repeat (first | exact Drawn0.refl _ | apply Drawn0.step)⟩
        rw [if_neg c17] at H
        have c17b0 : decide (x5_1 < (wrap64 ((wrap64 (x8_3 - x7_3)) - 1))) = false := decide_eq_false c17
        clear c17
        by_cases c18 : (wrap64 ((wrap64 (x8_3 - x7_3)) - 1)) = x5_1
        ·rw [if_pos c18] at H
         have c18b0 : ((wrap64 ((wrap64 (x8_3 - x7_3)) - 1)) == x5_1) = true := beq_iff_eq.mpr c18
         have c18b1 : ((wrap64 ((wrap64 (x8_3 - x7_3)) - 1)) != x5_1) = false := bne_eq_false_iff_eq.mpr c18
         clear c18
         by_cases c19 : (wrap64 (x7_3 + 1)) < x4_1
         ·rw [if_pos c19] at H; have c19b0 := decide_eq_true c19; clear c19
          have H' := A_ H
          clear H
          go_wp2
          repeat (go_quiet (fail); try go_wp2)
          go_roundg k3
          case measure => have := HK1.out; have := HJ2.out; have := HK3.out; omega
          case rel => exact ⟨(wrap64 (x7_3 + 1)), (wrap64 ((wrap64 (x8_3 - x7_3)) - 1)), (wrap64 (x13_1 + 1)), (by rfl), (by rfl), (by rfl), H', ⟨by have := HK1.out; have := HJ2.out; have := HK3.out; omega⟩, by repeat (first | exact Drawn0.refl _ | apply Drawn0.step)⟩
         rw [if_neg c19] at H; have c19b0 := decide_eq_false c19; clear c19
         have H' := A_ H
         clear H
         go_wp2
         repeat (go_quiet (fail); try go_wp2)
         go_roundg k3
         case measure => have := HK1.out; have := HJ2.out; have := HK3.out; omega
         case rel => exact ⟨(x4_1), (x5_1), (wrap64 (x13_1 + 1)), (by rfl), (by rfl), (by rfl), H', ⟨by have := HK1.out; have := HJ2.out; have := HK3.out; omega⟩, by repeat (first | exact Drawn0.refl _ | apply Drawn0.step)⟩
        rw [if_neg c18] at H
        have c18b0 : ((wrap64 ((wrap64 (x8_3 - x7_3)) - 1)) == x5_1) = false := beq_eq_false_iff_ne.mpr c18
        have c18b1 : ((wrap64 ((wrap64 (x8_3 - x7_3)) - 1)) != x5_1) = true := bne_iff_ne.mpr c18
        have H' := A_ H
        clear H
        go_wp2
        repeat (go_quiet (fail); try go_wp2)
        go_roundg k3
        case measure => have := HK1.out; have := HJ2.out; have := HK3.out; omega
        case rel => exact ⟨(x4_1), (x5_1), (wrap64 (x13_1 + 1)), (by rfl), (by rfl), (by rfl), H', ⟨by have := HK1.out; have := HJ2.out; have := HK3.out; omega⟩, by repeat (first | exact Drawn0.refl _ | apply Drawn0.step)⟩
   rw [if_neg c2] at H; have c2b0 := decide_eq_false c2; clear c2; simp only [Option.some.injEq, Prod.mk.injEq] at H; obtain ⟨rfl, rfl⟩ := H
   go_wp2
   repeat (go_quiet (fail); try go_wp2)
   go_ret2
   exact ⟨by rfl, by repeat (first | exact Drawn0.refl _ | apply Drawn0.step)⟩

mutual
def spec_LongestPalindrome.l0 : Nat → List Int → Int → Option (Int × Int)
 | 0, _, _ => none
 | k + 1, x0, x4 => if x4 > 0 then (spec_LongestPalindrome.l1 k x0 x4 0) else (some (0, 0))
def spec_LongestPalindrome.l1 : Nat → List Int → Int → Int → Option (Int × Int)
 | 0, _, _, _ => none
 | k + 1, x0, x4, x5 => if (wrap64 (x5 + x4)) ≤ (x0.length : Int) then (if 0 ≤ x5 then (if x5 ≤ (wrap64 (x5 + x4)) then ((spec_IsPalindrome.f k ((x0.take ((wrap64 (x5 + x4)) : Int).toNat).drop (x5 : Int).toNat)).bind fun t872 => (if t872 = true then (some (x5, x4)) else (spec_LongestPalindrome.l1 k x0 x4 (wrap64 (x5 + 1))))) else (none)) else (none)) else (spec_LongestPalindrome.l0 k x0 (wrap64 (x4 - 1)))
end
def spec_LongestPalindrome.f (k : Nat) (l0 : List Int) : Option (Int × Int) := spec_LongestPalindrome.l0 k l0 (l0.length : Int)
theorem spec_LongestPalindrome.calls (k : Nat) (A0 : Option Addr) (c0 : Nat) (l0 : List Int) (r1 : Int) (r2 : Int) (w : World) (hr0 : Kd.C (Kd.int .i64) w A0 l0.length l0) (hc0 : l0.length ≤ c0) (h : spec_LongestPalindrome.f k l0 = some (r1, r2)) :
  Calls Try.prog 28 #[.slice A0 l0.length c0] w fun e w' => e = .returned (.tuple #[.int .i64 r1, .int .i64 r2]) ∧ Below w.heap.size w w' := by
 have HR0 := A_ hr0; have HC0 := A_ hc0; clear hr0 hc0; have HB := A_ (Below.refl w.heap.size w); unfold spec_LongestPalindrome.f at h; have H := h; clear h
 have H' := A_ H
 clear H; go_enter Try.func28, Try.ntmps28
 go_wp2
 go_loopg [4] k (fun kq v4 w' => ∃ (x4_1 : Int), v4 = .int .i64 x4_1 ∧ Aside0 (spec_LongestPalindrome.l0 kq l0 x4_1 = some (r1, r2)) ∧ Aside0 (kq ≤ k) ∧ Aside0 (Below w.heap.size w w'))
 case atStart => exact ⟨((l0.length : Int)), (by rfl), H', ⟨Nat.le_refl _⟩, ⟨HB.out⟩⟩
 case round =>
  clear H'; obtain ⟨x4_1, rfl, HA, HK1, HB⟩ := hrel
  cases gk with
  | zero => exact absurd HA.out (by simp [spec_LongestPalindrome.l0])
  | succ k1 =>
   have H := HA.out; clear HA; simp only [spec_LongestPalindrome.l0] at H
   by_cases c2 : x4_1 > 0
   ·rw [if_pos c2] at H
    have c2b0 : decide (0 < x4_1) = true := decide_eq_true c2
    clear c2
    have H' := A_ H
    clear H
    go_wp2
    go_loopg [5] k1 (fun kq v5 w' => ∃ (x5_2 : Int), v5 = .int .i64 x5_2 ∧ Aside0 (spec_LongestPalindrome.l1 kq l0 x4_1 x5_2 = some (r1, r2)) ∧ Aside0 (kq ≤ k1) ∧ Aside0 (Below w.heap.size w w'))
    case atStart => exact ⟨(0), (by rfl), H', ⟨Nat.le_refl _⟩, ⟨HB.out⟩⟩
    case round =>
     clear H'
     try clear c2b0
     obtain ⟨x5_2, rfl, HA, HK2, HB⟩ := hrel
     cases gk with
     | zero => exact absurd HA.out (by simp [spec_LongestPalindrome.l1])
     | succ k2 =>
      have H := HA.out; clear HA; simp only [spec_LongestPalindrome.l1] at H
      by_cases c3 : (wrap64 (x5_2 + x4_1)) ≤ (l0.length : Int)
      ·rw [if_pos c3] at H; have c3b0 := decide_eq_true c3; clear c3
       by_cases c4 : 0 ≤ x5_2
       ·rw [if_pos c4] at H; have c4b0 := eq_true c4; have c4b1 := decide_eq_true c4; clear c4
        by_cases c5 : x5_2 ≤ (wrap64 (x5_2 + x4_1))
        ·rw [if_pos c5] at H; have c5b0 := eq_true c5; have c5b1 := decide_eq_true c5; have c6b0 := eq_true (od_ (by assumption) : (wrap64 (x5_2 + x4_1)) ≤ (l0.length : Int)); replace H := bA_ H; obtain ⟨t872, A7, H⟩ := H
         by_cases c8 : t872 = true
         ·subst c8; rw [if_pos rfl] at H; simp only [Option.some.injEq, Prod.mk.injEq] at H; obtain ⟨rfl, rfl⟩ := H; obtain ⟨i09, hi09, _, hsz9, _⟩ := info_parts info3; obtain ⟨A9, hcut9, hA9, hC9⟩ := print_mid_of (P := Try.prog) (Value.int .i64) 0 24 3 .i64 .i64 Try.underlying24 hi09 hsz9 A0 c0 l0 x5_2 (wrap64 (x5_2 + x4_1)) (od_ (by assumption)) (by first | omega | exact od_ (by first | (with_reducible assumption) | assumption)) (od_ (by assumption)) HC0.out; have HR871 := A_ (Kd.C_of_reads (h1 := fun _ => rfl) (hA9 _ (Kd.reads_of_C HR0.out))); have HC871 := A_ hC9; clear hA9 hC9 hi09 hsz9
          go_wp2_with (first | ((with_reducible refine gc_ 30 rfl ?_); refine cL_ E30 26 rfl rfl rfl (spec_IsPalindrome.calls k2 _ _ ((l0.take ((wrap64 (x5_2 + x4_1)) : Int).toNat).drop (x5_2 : Int).toNat) true _ (Kd.C_below HR871.out HB.out) HC871.out A7.out) (by (try simp only [mA, mB, mC]); first | done | (rw [show ((l0.take ((wrap64 (x5_2 + x4_1)) : Int).toNat).drop (x5_2 : Int).toNat).length = ((wrap64 (x5_2 + x4_1)).toNat - x5_2.toNat) from (by rw [List.length_drop, List.length_take]; have h_ : ((wrap64 (x5_2 + x4_1)) : Int) ≤ (l0.length : Int) := od_ (by assumption); omega)] <;> rfl) | rfl | (simp only [List.length_drop, List.length_take]; rfl)) ?_; rintro e w10 ⟨rfl, hb⟩; refine ⟨_, rfl, ?_⟩; replace HB := bs_ HB hb; clear hb; (try clear hi)))
          go_ret2
          exact ⟨by rfl, HB.out⟩
         replace c8 := Bool.eq_false_iff.mpr c8; subst c8; rw [if_neg nf_] at H
         have H' := A_ H
         clear H; obtain ⟨i011, hi011, _, hsz11, _⟩ := info_parts info3; obtain ⟨A11, hcut11, hA11, hC11⟩ := print_mid_of (P := Try.prog) (Value.int .i64) 0 24 3 .i64 .i64 Try.underlying24 hi011 hsz11 A0 c0 l0 x5_2 (wrap64 (x5_2 + x4_1)) (od_ (by assumption)) (by first | omega | exact od_ (by first | (with_reducible assumption) | assumption)) (od_ (by assumption)) HC0.out; have HR871 := A_ (Kd.C_of_reads (h1 := fun _ => rfl) (hA11 _ (Kd.reads_of_C HR0.out))); have HC871 := A_ hC11; clear hA11 hC11 hi011 hsz11
         go_wp2_with (first | ((with_reducible refine gc_ 30 rfl ?_); refine cL_ E30 26 rfl rfl rfl (spec_IsPalindrome.calls k2 _ _ ((l0.take ((wrap64 (x5_2 + x4_1)) : Int).toNat).drop (x5_2 : Int).toNat) false _ (Kd.C_below HR871.out HB.out) HC871.out A7.out) (by (try simp only [mA, mB, mC]); first | done | (rw [show ((l0.take ((wrap64 (x5_2 + x4_1)) : Int).toNat).drop (x5_2 : Int).toNat).length = ((wrap64 (x5_2 + x4_1)).toNat - x5_2.toNat) from (by rw [List.length_drop, List.length_take]; have h_ : ((wrap64 (x5_2 + x4_1)) : Int) ≤ (l0.length : Int) := od_ (by assumption); omega)] <;> rfl) | rfl | (simp only [List.length_drop, List.length_take]; rfl)) ?_; rintro e w12 ⟨rfl, hb⟩; refine ⟨_, rfl, ?_⟩; replace HB := bs_ HB hb; clear hb; (try clear hi)))
         go_roundg k2
         case measure => have := HK1.out; have := HK2.out; omega
         case rel => exact ⟨(wrap64 (x5_2 + 1)), (by rfl), H', ⟨by have := HK1.out; have := HK2.out; omega⟩, ⟨HB.out⟩⟩
        rw [if_neg c5] at H
        cases H
       rw [if_neg c4] at H
       cases H
      rw [if_neg c3] at H; have c3b0 := decide_eq_false c3; clear c3
      have H' := A_ H
      clear H
      go_wp2
      go_roundg k2
      case measure => have := HK1.out; have := HK2.out; omega
      case rel => exact ⟨(wrap64 (x4_1 - 1)), (by rfl), H', ⟨by have := HK1.out; have := HK2.out; omega⟩, ⟨HB.out⟩⟩
   rw [if_neg c2] at H
   have c2b0 : decide (0 < x4_1) = false := decide_eq_false c2
   clear c2; simp only [Option.some.injEq, Prod.mk.injEq] at H; obtain ⟨rfl, rfl⟩ := H
   go_wp2
   go_ret2
   exact ⟨by rfl, HB.out⟩

def impl_ReverseDigits.f (k : Nat) (l0 : List Int) : Option (List Int) := (some (([] : List Int) : List Int)).bind fun y873 => (if y873.length + l0.length < 17592186044416 then ((slices_Reverse_int_int.f k (y873 ++ l0)).bind fun t879 => (some t879)) else (none))
theorem impl_ReverseDigits.calls (k : Nat) (A0 : Option Addr) (c0 : Nat) (l0 : List Int) (r : List Int) (w : World) (hr0 : Kd.C (Kd.int .i64) w A0 l0.length l0) (hc0 : l0.length ≤ c0) (h : impl_ReverseDigits.f k l0 = some r) :
  Calls Try.prog 52 #[.slice A0 l0.length c0] w fun e w' => ∃ v0_ : Value, e = .returned (v0_) ∧ Kd.R (Kd.int .i64) 3 w' w.heap.size (fun _ => True) v0_ r ∧ Below w.heap.size w w' := by
 have HR0 := A_ hr0; have HC0 := A_ hc0; clear hr0 hc0; have HB := A_ (Below.refl w.heap.size w); unfold impl_ReverseDigits.f at h; have H := h; clear h; obtain ⟨y873, hy873⟩ := ex_ ((([] : List Int)) : List Int); replace H : (if y873.length + l0.length < 17592186044416 then ((slices_Reverse_int_int.f k (y873 ++ l0)).bind fun t879 => (some t879)) else (none)) = some r := by (have H2_ := (Option.bind_some _ _).symm.trans H; rw [hy873]; with_reducible exact H2_)
 have Ny873 := A_ hy873; clear hy873
 by_cases c2 : y873.length + l0.length < 17592186044416
 ·rw [if_pos c2] at H; have LMc2 := A_ c2; clear c2; obtain ⟨y876, hy876⟩ := ex_ ((y873 ++ l0) : List Int); replace H : ((slices_Reverse_int_int.f k y876).bind fun t879 => (some t879)) = some r := by (rw [hy876]; with_reducible exact H)
  have Ny876 := A_ hy876; clear hy876; replace H := bA_ H; obtain ⟨t879, A3, H⟩ := H; obtain rfl := Option.some.inj H; go_enter Try.func52, Try.ntmps52
  go_wp2_with (first | ((with_reducible refine gd_ 4 rfl ?_); refine RL_ 4 3 [] [] rfl rfl (by go_simp; done) rfl rfl ?_; rintro v874 w4 ho5 hb - -; (rw [← Ny873.out] at ho5); have HO875 := A_ (Kd.R_lower ho5 (below_size HB.out)); replace HB := bs_ HB hb; clear hb ho5) | ((with_reducible refine gate_builtin (b := .append) (xs := #[.tmp 4, .tmp 5]) rfl ?_); at_builtin; refine Kd.R_append_rows (Kd.int .i64) (w0 := w) w.heap.size rfl (.tmp 4) (.tmp 5) 24 3 (.int .i64 0) 8 rfl Try.underlying24 info3 rfl (by decide) (by omega) v874 y873 l0 _ _ _ (fun _ => True) (fun _ => False) rfl rfl ?aO ?aR (fun _ _ h => h) (fun _ h => h.elim) ?aF ?aB ?aS ?aL ?_; (case aR => exact (Kd.C_below HR0.out HB.out)); (case aB => exact HB.out); (case aF => exact (fun _ _ => trivial)); (case aO => exact HO875.out); (case aS => exact (below_size HB.out)); (case aL => have := LMc2.out; omega); intro v877 w6 ho hb hg hat; rw [← Ny876.out] at ho; replace HB := A_ (hb); have HO878 := A_ (ho); clear HO875; clear ho hb hg hat; obtain ⟨Ao7, co7, eo7⟩ := Kd.R_slice HO878.out; subst eo7) | ((with_reducible refine gc_ 35 rfl ?_); refine cL_ E35 8 rfl rfl rfl (slices_Reverse_int_int.calls k (fun k_ => some k_ = (.slice Ao7 y876.length co7 : Value).ownBlock) (.slice Ao7 y876.length co7) y876 t879 w _ HB.out (Kd.R_tight rfl HO878.out) A3.out) (by simp only [mA, mB, mC]; rfl) ?_; rintro e w8 ⟨rfl, hy0, hb, hkp⟩; refine ⟨_, rfl, ?_⟩; replace HO878 := A_ (Kd.R_reok rfl hy0 (fun k_ e_ => HO878.out.1 k_ e_)); replace HB := A_ (hb); clear hb hkp; (try clear hy0)))
  go_ret
  exact ⟨_, by rfl, HO878.out, HB.out⟩
 rw [if_neg c2] at H
 cases H

def impl_MirrorWord.f (k : Nat) (l0 : List Int) : Option (List Int) := (impl_ReverseDigits.f k l0).bind fun t880 => (some t880)
theorem impl_MirrorWord.calls (k : Nat) (A0 : Option Addr) (c0 : Nat) (l0 : List Int) (r : List Int) (w : World) (hr0 : Kd.C (Kd.int .i64) w A0 l0.length l0) (hc0 : l0.length ≤ c0) (h : impl_MirrorWord.f k l0 = some r) :
  Calls Try.prog 31 #[.slice A0 l0.length c0] w fun e w' => ∃ v0_ : Value, e = .returned (v0_) ∧ Kd.R (Kd.int .i64) 3 w' w.heap.size (fun _ => True) v0_ r ∧ Below w.heap.size w w' := by
 have HR0 := A_ hr0; have HC0 := A_ hc0; clear hr0 hc0; have HB := A_ (Below.refl w.heap.size w); unfold impl_MirrorWord.f at h; have H := h; clear h; replace H := bA_ H; obtain ⟨t880, A2, H⟩ := H; obtain rfl := Option.some.inj H; go_enter Try.func31, Try.ntmps31
 go_wp2_with (first | ((with_reducible refine gc_ 52 rfl ?_); refine cL_ E52 4 rfl rfl rfl (impl_ReverseDigits.calls k _ _ l0 t880 _ (by repeat (first | exact HR0.out | (with_reducible refine Kd.C_alloc ?_ _) | (with_reducible refine Kd.C_drewN ?_ _) | (with_reducible refine Kd.C_drew ?_))) HC0.out A2.out) (by simp only [mA, mB, mC]; rfl) ?_; rintro e w3 ⟨v881, rfl, ho0, hb⟩; refine ⟨_, rfl, ?_⟩; have HO882 := A_ (Kd.R_lower ho0 (below_size HB.out)); replace HB := bs_ HB hb; clear hb; (try clear ho0)))
 go_ret
 exact ⟨_, by rfl, HO882.out, HB.out⟩

end Go.Proofs.Ytnhpbmagbajliaa.PFnBorders

