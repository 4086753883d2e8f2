/- Written by this session's own program (wip/myprint.py): the machine side of one law, some contracts of it typed by hand. -/
import Derived.Test.YtdcakddfibnllaaPFnZeckendorfx0
namespace Go.Proofs.Ytdcakddfibnllaa.PFnZeckendorf
open Go.RowKit Go.Proofs.YtdcakddfibnllaaW.PrintWords Go.Proofs.YtdcakddfibnllaaW.PrintLast Go.Proofs.YtdcakddfibnllaaW.PrintMore
attribute [local go_sem] max2_int min2_int max_two min_two max_three min_three max_four min_four   -- for this text's walks alone
set_option linter.unusedVariables false
set_option linter.unusedSimpArgs false

/-! ### impl_IsZeckendorf: function 38 -/
mutual
def impl_IsZeckendorf.j0 : Nat → List Int → Bool → Option (Bool)
 | 0, _, _ => none
 | k + 1, x0, x18 => if x18 = true then (some false) else (impl_IsZeckendorf.l0 k x0 x0 (x0.length : Int) 0)
def impl_IsZeckendorf.l0 : Nat → List Int → List Int → Int → Int → Option (Bool)
 | 0, _, _, _, _ => none
 | k + 1, x0, x19, x20, x21 => if x21 < x20 then (if 0 ≤ x21 then (if x21 < (x19.length : Int) then (if (rd x19 x21) < 0 then (some false) else (if (rd x19 x21) > 1 then (some false) else (if x21 > 0 then (if (rd x19 x21) = 1 then (if 0 ≤ (wrap64 (x21 - 1)) then (if (wrap64 (x21 - 1)) < (x0.length : Int) then (if (rd x0 (wrap64 (x21 - 1))) = 1 then (some false) else (impl_IsZeckendorf.l0 k x0 x19 x20 (wrap64 (x21 + 1)))) else (none)) else (none)) else (impl_IsZeckendorf.l0 k x0 x19 x20 (wrap64 (x21 + 1)))) else (impl_IsZeckendorf.l0 k x0 x19 x20 (wrap64 (x21 + 1)))))) else (none)) else (none)) else (some true)
end
def impl_IsZeckendorf.f (k : Nat) (l0 : List Int) : Option (Bool) := if (l0.length : Int) > 40 then (impl_IsZeckendorf.j0 k l0 true) else (if (l0.length : Int) > 0 then (if 0 < (l0.length : Int) then (impl_IsZeckendorf.j0 k l0 ((rd l0 0) != 1)) else (none)) else (impl_IsZeckendorf.j0 k l0 false))
theorem impl_IsZeckendorf.mono_l : ∀ k, (∀ y0 y1, LeO (impl_IsZeckendorf.j0 k y0 y1) (impl_IsZeckendorf.j0 (k + 1) y0 y1)) ∧ (∀ y0 y1 y2 y3, LeO (impl_IsZeckendorf.l0 k y0 y1 y2 y3) (impl_IsZeckendorf.l0 (k + 1) y0 y1 y2 y3))
 | 0 => ⟨fun _ _ r h => by simp [impl_IsZeckendorf.j0] at h, fun _ _ _ _ r h => by simp [impl_IsZeckendorf.l0] at h⟩
 | k + 1 => by
  obtain ⟨ih0, ih1⟩ := impl_IsZeckendorf.mono_l k
  refine ⟨?_, ?_⟩
  ·intro y0 y1
   unfold impl_IsZeckendorf.j0
   repeat' first
   | (with_reducible exact ih0 _ _)
   | (with_reducible exact ih1 _ _ _ _)
   | (with_reducible exact LeO.refl _)
   | (with_reducible exact LeO.none _)
   | (with_reducible refine LeO.ite ?_ ?_)
   | (with_reducible refine LeO.bind ?_ (fun _ => ?_))
   | exact ih0 _ _
   | exact ih1 _ _ _ _
   | exact LeO.none _
   | refine LeO.ite ?_ ?_
   | refine LeO.bind ?_ (fun _ => ?_)
  ·intro y0 y1 y2 y3
   unfold impl_IsZeckendorf.l0
   repeat' first
   | (with_reducible exact ih0 _ _)
   | (with_reducible exact ih1 _ _ _ _)
   | (with_reducible exact LeO.refl _)
   | (with_reducible exact LeO.none _)
   | (with_reducible refine LeO.ite ?_ ?_)
   | (with_reducible refine LeO.bind ?_ (fun _ => ?_))
   | exact ih0 _ _
   | exact ih1 _ _ _ _
   | exact LeO.none _
   | refine LeO.ite ?_ ?_
   | refine LeO.bind ?_ (fun _ => ?_)
theorem impl_IsZeckendorf.mono : ∀ a0 k, LeO (impl_IsZeckendorf.f k a0) (impl_IsZeckendorf.f (k + 1) a0) := by
 intro a0 k
 obtain ⟨ih0, ih1⟩ := impl_IsZeckendorf.mono_l k
 unfold impl_IsZeckendorf.f
 repeat' first
   | (with_reducible exact ih0 _ _)
   | (with_reducible exact ih1 _ _ _ _)
   | (with_reducible exact LeO.refl _)
   | (with_reducible exact LeO.none _)
   | (with_reducible refine LeO.ite ?_ ?_)
   | (with_reducible refine LeO.bind ?_ (fun _ => ?_))
   | exact ih0 _ _
   | exact ih1 _ _ _ _
   | exact LeO.none _
   | refine LeO.ite ?_ ?_
   | refine LeO.bind ?_ (fun _ => ?_)
set_option maxHeartbeats 8000000 in
set_option maxRecDepth 100000 in
theorem impl_IsZeckendorf.calls (k : Nat) (A0 : Option Addr) (c0 : Nat) (l0 : List Int) (r : Bool) (w : World) (hr0 : Kd.C (Kd.int .i64) w A0 l0.length l0) (hc0 : l0.length ≤ c0) (h : impl_IsZeckendorf.f k l0 = some r) :
  Calls Try.prog 38 #[.slice A0 l0.length c0] w fun e w' => e = .returned (.bool r) ∧ Drawn0 w w' := by
 have HR0 := Aside0.mk hr0
 have HC0 := Aside0.mk hc0
 clear hr0 hc0
 have H : (if (l0.length : Int) > 40 then (impl_IsZeckendorf.j0 k l0 true) else (if (l0.length : Int) > 0 then (if 0 < (l0.length : Int) then (impl_IsZeckendorf.j0 k l0 ((rd l0 0) != 1)) else (none)) else (impl_IsZeckendorf.j0 k l0 false))) = some r := h
 clear h
 have HC2 := Aside0.mk H
 clear H
 go_enter Try.func38, Try.ntmps38
 go_upto_region 1 with (fail)
 go_cut [18] (fun v18 wc => ∃ (kq : Nat) (x18_1 : Bool), v18 = .bool x18_1 ∧ Aside0 (impl_IsZeckendorf.j0 kq l0 x18_1 = some r) ∧ Aside0 (kq ≤ k) ∧ Drawn0 w wc)
 case first =>
  have H := HC2.out
  clear HC2
  by_cases c3 : (l0.length : Int) > 40
  ·rw [if_pos c3] at H
   have c3b0 : decide (40 < (l0.length : Int)) = true := decide_eq_true c3
   have c3b1 : decide (40 < l0.length) = true := decide_eq_true (by omega)
   clear c3
   (first | rw [c3b0] | (simp only [i64_w, i32_w]; rw [c3b0]) | skip)
   have H' := Aside0.mk H
   clear H
   go_wp2
   go_meet
   case rel => exact ⟨_, (true), (by first | rfl | (simp; done) | (simp [*]; done)), H', ⟨by first | omega | exact Nat.le_refl _⟩, by repeat (first | exact Drawn0.refl _ | apply Drawn0.step)⟩
  ·rw [if_neg c3] at H
   have c3b0 : decide (40 < (l0.length : Int)) = false := decide_eq_false c3
   have c3b1 : decide (40 < l0.length) = false := decide_eq_false (by omega)
   clear c3
   (first | rw [c3b0] | (simp only [i64_w, i32_w]; rw [c3b0]) | skip)
   by_cases c4 : (l0.length : Int) > 0
   ·rw [if_pos c4] at H
    have c4b0 : decide (0 < (l0.length : Int)) = true := decide_eq_true c4
    have c4b1 : decide (0 < l0.length) = true := decide_eq_true (by omega)
    clear c4
    by_cases c5 : 0 < (l0.length : Int)
    ·rw [if_pos c5] at H
     have c5b0 : decide (0 < (l0.length : Int)) = true := decide_eq_true c5
     have c5b1 : decide (0 < l0.length) = true := decide_eq_true (by omega)
     clear c5
     have H' := Aside0.mk H
     clear H
     have p135 : 0 ≤ (0 : Int) := (by omega)
     have q135 : 0 < (l0.length : Int) := of_decide_eq_true (by first | (with_reducible assumption) | assumption)
     obtain ⟨ad135, e135, hx135_0⟩ := Kd.at_int HR0.out 0 p135 q135
     cases e135
     have qi135 : (0 < l0.length) = True := eq_true (by omega)
     (try rw [show ((0 : Int)).toNat = 0 from rfl] at hx135_0)
     (try rw [Addr.add_zero'] at hx135_0)
     replace p135 := eq_true p135
     replace q135 := eq_true q135
     go_wp2
     go_meet
     case rel => exact ⟨_, (((rd l0 0) != 1)), (by first | rfl | (simp; done) | (simp [*]; done)), H', ⟨by first | omega | exact Nat.le_refl _⟩, by repeat (first | exact Drawn0.refl _ | apply Drawn0.step)⟩
    ·rw [if_neg c5] at H
     exact absurd H (by simp)
   ·rw [if_neg c4] at H
    have c4b0 : decide (0 < (l0.length : Int)) = false := decide_eq_false c4
    have c4b1 : decide (0 < l0.length) = false := decide_eq_false (by omega)
    clear c4
    have H' := Aside0.mk H
    clear H
    go_wp2
    go_meet
    case rel => exact ⟨_, (false), (by first | rfl | (simp; done) | (simp [*]; done)), H', ⟨by first | omega | exact Nat.le_refl _⟩, by repeat (first | exact Drawn0.refl _ | apply Drawn0.step)⟩
 case rest =>
  clear HC2
  try clear p1
  try clear q1
  try clear hx1
  try clear qi1
  try clear p2
  try clear c3
  try clear c3b0
  try clear c3b1
  try clear c4
  try clear c4b0
  try clear c4b1
  try clear c5
  try clear c5b0
  try clear c5b1
  try clear hx135_0
  try clear p135
  try clear q135
  obtain ⟨kq, x18_1, rfl, HA, HJ1, ⟨mc1, rfl⟩⟩ := hcut
  cases kq with
  | zero => exact absurd HA.out (by simp [impl_IsZeckendorf.j0])
  | succ kj1 =>
   have H := HA.out
   clear HA
   simp only [impl_IsZeckendorf.j0] at H
   by_cases c6 : x18_1 = true
   ·subst c6
    have H1 : (some false) = some r := by rw [if_pos rfl] at H; exact H
    clear H
    have H := H1
    clear H1
    obtain rfl := Option.some.inj H
    go_wp2
    go_ret
    exact ⟨by first | rfl | (simp; done) | (simp [*]; done), by repeat (first | exact Drawn0.refl _ | apply Drawn0.step)⟩
   ·replace c6 := Bool.eq_false_iff.mpr c6
    subst c6
    have H1 : (impl_IsZeckendorf.l0 kj1 l0 l0 (l0.length : Int) 0) = some r := by rw [if_neg (show ¬ (false = true) by decide)] at H; exact H
    clear H
    have H := H1
    clear H1
    have H' := Aside0.mk H
    clear H
    go_wp2
    go_loopg [21] kj1 (fun kq v21 w' => ∃ (x21_2 : Int), v21 = .int .i64 x21_2 ∧ Aside0 (impl_IsZeckendorf.l0 kq l0 l0 (l0.length : Int) x21_2 = some r) ∧ Aside0 (kq ≤ kj1) ∧ Drawn0 w w')
    case atStart => exact ⟨(0), (by first | rfl | (simp; done) | (simp [*]; done)), H', ⟨Nat.le_refl _⟩, by repeat (first | exact Drawn0.refl _ | apply Drawn0.step)⟩
    case round =>
     clear H'
     try clear c1
     try clear p1
     try clear q1
     try clear hx1
     try clear qi1
     try clear p2
     try clear c3
     try clear c3b0
     try clear c3b1
     try clear c4
     try clear c4b0
     try clear c4b1
     try clear c5
     try clear c5b0
     try clear c5b1
     try clear c6
     try clear hx135_0
     try clear p1
     try clear p135
     try clear p2
     try clear q1
     try clear q135
     obtain ⟨x21_2, rfl, HA, HK2, ⟨m2, rfl⟩⟩ := hrel
     cases gk with
     | zero => exact absurd HA.out (by simp [impl_IsZeckendorf.l0])
     | succ k2 =>
      have H := HA.out
      clear HA
      simp only [impl_IsZeckendorf.l0] at H
      by_cases c7 : x21_2 < (l0.length : Int)
      ·rw [if_pos c7] at H
       have c7b0 : decide (x21_2 < (l0.length : Int)) = true := decide_eq_true c7
       clear c7
       by_cases c8 : 0 ≤ x21_2
       ·rw [if_pos c8] at H
        have c8b0 : decide (0 ≤ x21_2) = true := decide_eq_true c8
        clear c8
        by_cases c9 : x21_2 < (l0.length : Int)
        ·rw [if_pos c9] at H
         have c9b0 : decide (x21_2 < (l0.length : Int)) = true := decide_eq_true c9
         clear c9
         by_cases c10 : (rd l0 x21_2) < 0
         ·rw [if_pos c10] at H
          have c10b0 : decide ((rd l0 x21_2) < 0) = true := decide_eq_true c10
          clear c10
          obtain rfl := Option.some.inj H
          have p136 : 0 ≤ (x21_2 : Int) := of_decide_eq_true (by first | (with_reducible assumption) | assumption)
          have q136 : x21_2 < (l0.length : Int) := of_decide_eq_true (by first | (with_reducible assumption) | assumption)
          obtain ⟨ad136, e136, hx136_0⟩ := Kd.at_int HR0.out x21_2 p136 q136
          cases e136
          replace p136 := eq_true p136
          replace q136 := eq_true q136
          go_wp2
          go_ret
          exact ⟨by first | rfl | (simp; done) | (simp [*]; done), by repeat (first | exact Drawn0.refl _ | apply Drawn0.step)⟩
         ·rw [if_neg c10] at H
          have c10b0 : decide ((rd l0 x21_2) < 0) = false := decide_eq_false c10
          clear c10
          by_cases c11 : (rd l0 x21_2) > 1
          ·rw [if_pos c11] at H
           have c11b0 : decide (1 < (rd l0 x21_2)) = true := decide_eq_true c11
           clear c11
           obtain rfl := Option.some.inj H
           have p136 : 0 ≤ (x21_2 : Int) := of_decide_eq_true (by first | (with_reducible assumption) | assumption)
           have q136 : x21_2 < (l0.length : Int) := of_decide_eq_true (by first | (with_reducible assumption) | assumption)
           obtain ⟨ad136, e136, hx136_0⟩ := Kd.at_int HR0.out x21_2 p136 q136
           cases e136
           replace p136 := eq_true p136
           replace q136 := eq_true q136
           go_wp2
           go_ret
           exact ⟨by first | rfl | (simp; done) | (simp [*]; done), by repeat (first | exact Drawn0.refl _ | apply Drawn0.step)⟩
          ·rw [if_neg c11] at H
           have c11b0 : decide (1 < (rd l0 x21_2)) = false := decide_eq_false c11
           clear c11
           by_cases c12 : x21_2 > 0
           ·rw [if_pos c12] at H
            have c12b0 : decide (0 < x21_2) = true := decide_eq_true c12
            clear c12
            by_cases c13 : (rd l0 x21_2) = 1
            ·rw [if_pos c13] at H
             have c13b0 : ((rd l0 x21_2) == 1) = true := beq_iff_eq.mpr c13
             have c13b1 : ((rd l0 x21_2) != 1) = false := bne_eq_false_iff_eq.mpr c13
             clear c13
             obtain ⟨ji14, hji14⟩ : ∃ j_ : Int, (wrap64 (x21_2 - 1)) = j_ := ⟨_, rfl⟩
             replace H : (if 0 ≤ (ji14) then (if (ji14) < (l0.length : Int) then (if (rd l0 (ji14)) = 1 then (some false) else (impl_IsZeckendorf.l0 k2 l0 l0 (l0.length : Int) (wrap64 (x21_2 + 1)))) else (none)) else (none)) = some r := by first | (rw [hji14] at H; exact H) | (simp only [hji14] at H ⊢; exact H)
             have hji14w : (IntKind.i64.wrap (x21_2 - 1)) = ji14 := (i64_w _).trans hji14
             by_cases c15 : 0 ≤ (ji14)
             ·rw [if_pos c15] at H
              have c15b0 : decide (0 ≤ (ji14)) = true := decide_eq_true c15
              clear c15
              by_cases c16 : (ji14) < (l0.length : Int)
              ·rw [if_pos c16] at H
               have c16b0 : decide ((ji14) < (l0.length : Int)) = true := decide_eq_true c16
               clear c16
               by_cases c17 : (rd l0 (ji14)) = 1
               ·rw [if_pos c17] at H
                have c17b0 : ((rd l0 (ji14)) == 1) = true := beq_iff_eq.mpr c17
                have c17b1 : ((rd l0 (ji14)) != 1) = false := bne_eq_false_iff_eq.mpr c17
                clear c17
                obtain rfl := Option.some.inj H
                have p136 : 0 ≤ (x21_2 : Int) := of_decide_eq_true (by first | (with_reducible assumption) | assumption)
                have q136 : x21_2 < (l0.length : Int) := of_decide_eq_true (by first | (with_reducible assumption) | assumption)
                obtain ⟨ad136, e136, hx136_0⟩ := Kd.at_int HR0.out x21_2 p136 q136
                cases e136
                replace p136 := eq_true p136
                replace q136 := eq_true q136
                have p137 : 0 ≤ ((ji14) : Int) := of_decide_eq_true (by first | (with_reducible assumption) | assumption)
                have q137 : (ji14) < (l0.length : Int) := of_decide_eq_true (by first | (with_reducible assumption) | assumption)
                obtain ⟨ad137, e137, hx137_0⟩ := Kd.at_int HR0.out (ji14) p137 q137
                obtain rfl : ad136 = ad137 := (by injection e137)
                replace p137 := eq_true p137
                replace q137 := eq_true q137
                go_wp2
                go_ret
                exact ⟨by first | rfl | (simp; done) | (simp only [← hji14] <;> (first | rfl | simp)) | (simp [*]; done), by repeat (first | exact Drawn0.refl _ | apply Drawn0.step)⟩
               ·rw [if_neg c17] at H
                have c17b0 : ((rd l0 (ji14)) == 1) = false := beq_eq_false_iff_ne.mpr c17
                have c17b1 : ((rd l0 (ji14)) != 1) = true := bne_iff_ne.mpr c17
                have H' := Aside0.mk H
                clear H
                have p136 : 0 ≤ (x21_2 : Int) := of_decide_eq_true (by first | (with_reducible assumption) | assumption)
                have q136 : x21_2 < (l0.length : Int) := of_decide_eq_true (by first | (with_reducible assumption) | assumption)
                obtain ⟨ad136, e136, hx136_0⟩ := Kd.at_int HR0.out x21_2 p136 q136
                cases e136
                replace p136 := eq_true p136
                replace q136 := eq_true q136
                have p137 : 0 ≤ ((ji14) : Int) := of_decide_eq_true (by first | (with_reducible assumption) | assumption)
                have q137 : (ji14) < (l0.length : Int) := of_decide_eq_true (by first | (with_reducible assumption) | assumption)
                obtain ⟨ad137, e137, hx137_0⟩ := Kd.at_int HR0.out (ji14) p137 q137
                obtain rfl : ad136 = ad137 := (by injection e137)
                replace p137 := eq_true p137
                replace q137 := eq_true q137
                go_wp2
                (try subst hji14)
                go_roundg k2
                case measure => have := HJ1.out; have := HK2.out; omega
                case rel => exact ⟨(wrap64 (x21_2 + 1)), (by first | rfl | (simp; done) | (simp [*]; done)), H', ⟨by have := HJ1.out; have := HK2.out; omega⟩, by repeat (first | exact Drawn0.refl _ | apply Drawn0.step)⟩
              ·rw [if_neg c16] at H
               exact absurd H (by simp)
             ·rw [if_neg c15] at H
              exact absurd H (by simp)
            ·rw [if_neg c13] at H
             have c13b0 : ((rd l0 x21_2) == 1) = false := beq_eq_false_iff_ne.mpr c13
             have c13b1 : ((rd l0 x21_2) != 1) = true := bne_iff_ne.mpr c13
             have H' := Aside0.mk H
             clear H
             have p136 : 0 ≤ (x21_2 : Int) := of_decide_eq_true (by first | (with_reducible assumption) | assumption)
             have q136 : x21_2 < (l0.length : Int) := of_decide_eq_true (by first | (with_reducible assumption) | assumption)
             obtain ⟨ad136, e136, hx136_0⟩ := Kd.at_int HR0.out x21_2 p136 q136
             cases e136
             replace p136 := eq_true p136
             replace q136 := eq_true q136
             go_wp2
             go_roundg k2
             case measure => have := HJ1.out; have := HK2.out; omega
             case rel => exact ⟨(wrap64 (x21_2 + 1)), (by first | rfl | (simp; done) | (simp [*]; done)), H', ⟨by have := HJ1.out; have := HK2.out; omega⟩, by repeat (first | exact Drawn0.refl _ | apply Drawn0.step)⟩
           ·rw [if_neg c12] at H
            have c12b0 : decide (0 < x21_2) = false := decide_eq_false c12
            clear c12
            have H' := Aside0.mk H
            clear H
            have p136 : 0 ≤ (x21_2 : Int) := of_decide_eq_true (by first | (with_reducible assumption) | assumption)
            have q136 : x21_2 < (l0.length : Int) := of_decide_eq_true (by first | (with_reducible assumption) | assumption)
            obtain ⟨ad136, e136, hx136_0⟩ := Kd.at_int HR0.out x21_2 p136 q136
            cases e136
            replace p136 := eq_true p136
            replace q136 := eq_true q136
            go_wp2
            go_roundg k2
            case measure => have := HJ1.out; have := HK2.out; omega
            case rel => exact ⟨(wrap64 (x21_2 + 1)), (by first | rfl | (simp; done) | (simp [*]; done)), H', ⟨by have := HJ1.out; have := HK2.out; omega⟩, by repeat (first | exact Drawn0.refl _ | apply Drawn0.step)⟩
        ·rw [if_neg c9] at H
         exact absurd H (by simp)
       ·rw [if_neg c8] at H
        exact absurd H (by simp)
      ·rw [if_neg c7] at H
       have c7b0 : decide (x21_2 < (l0.length : Int)) = false := decide_eq_false c7
       clear c7
       obtain rfl := Option.some.inj H
       go_wp2
       go_ret
       exact ⟨by first | rfl | (simp; done) | (simp [*]; done), by repeat (first | exact Drawn0.refl _ | apply Drawn0.step)⟩

/-! ### impl_fibonacci: function 67 -/
def fibL : List Int := [1, 2, 3, 5, 8, 13, 21, 34, 55, 89, 144, 233, 377, 610, 987, 1597, 2584, 4181, 6765, 10946, 17711, 28657, 46368, 75025, 121393, 196418, 317811, 514229, 832040, 1346269, 2178309, 3524578, 5702887, 9227465, 14930352, 24157817, 39088169, 63245986, 102334155, 165580141, 267914296]
def fibK (k : Nat) : Array Value := ((fibL.take k ++ List.replicate (41 - k) 0).map (Value.int .i64)).toArray
def impl_fibonacci.l0 : Nat → List Int → Int → Option (List Int)
 | 0, _, _ => none
 | k + 1, x1, x2 => if x2 ≤ 40 then (if 0 ≤ (wrap64 (x2 - 1)) then (if (wrap64 (x2 - 1)) < (x1.length : Int) then (if 0 ≤ (wrap64 (x2 - 2)) then (if (wrap64 (x2 - 2)) < (x1.length : Int) then (if 0 ≤ x2 then (if x2 < (x1.length : Int) then (impl_fibonacci.l0 k (x1.set (x2 : Int).toNat (wrap64 ((rd x1 (wrap64 (x2 - 1))) + (rd x1 (wrap64 (x2 - 2)))))) (wrap64 (x2 + 1))) else (none)) else (none)) else (none)) else (none)) else (none)) else (none)) else (some x1)
def impl_fibonacci.f (k : Nat)  : Option (List Int) := impl_fibonacci.l0 k (([1, 2, 0, 0, 0, 0, 0, 0, 0, 0, 0, 0, 0, 0, 0, 0, 0, 0, 0, 0, 0, 0, 0, 0, 0, 0, 0, 0, 0, 0, 0, 0, 0, 0, 0, 0, 0, 0, 0, 0, 0] : List Int)) 2
theorem impl_fibonacci.mono_l : ∀ k, (∀ y0 y1, LeO (impl_fibonacci.l0 k y0 y1) (impl_fibonacci.l0 (k + 1) y0 y1))
 | 0 => fun _ _ r h => by simp [impl_fibonacci.l0] at h
 | k + 1 => by
  have ih0 := impl_fibonacci.mono_l k
  ·intro y0 y1
   unfold impl_fibonacci.l0
   repeat' first
   | (with_reducible exact ih0 _ _)
   | (with_reducible exact LeO.refl _)
   | (with_reducible exact LeO.none _)
   | (with_reducible refine LeO.ite ?_ ?_)
   | (with_reducible refine LeO.bind ?_ (fun _ => ?_))
   | exact ih0 _ _
   | exact LeO.none _
   | refine LeO.ite ?_ ?_
   | refine LeO.bind ?_ (fun _ => ?_)
theorem impl_fibonacci.mono : ∀ k, LeO (impl_fibonacci.f k ) (impl_fibonacci.f (k + 1) ) := by
 intro  k
 have ih0 := impl_fibonacci.mono_l k
 unfold impl_fibonacci.f
 repeat' first
   | (with_reducible exact ih0 _ _)
   | (with_reducible exact LeO.refl _)
   | (with_reducible exact LeO.none _)
   | (with_reducible refine LeO.ite ?_ ?_)
   | (with_reducible refine LeO.bind ?_ (fun _ => ?_))
   | exact ih0 _ _
   | exact LeO.none _
   | refine LeO.ite ?_ ?_
   | refine LeO.bind ?_ (fun _ => ?_)
def impl_fibonacci.T5 : Bool × List (List Nat × List Nat) := (true, [([], []), ([], []), ([1], [1]), ([2], [2]), ([3], [3]), ([], []), ([5], [5]), ([6], [6]), ([7], [7]), ([4, 8], [4, 8]), ([0, 0, 1, 2, 3, 4, 5, 6, 7, 8, 9], [0]), ([10, 9, 0, 1, 2, 3, 4, 5, 6, 7, 8, 9], [9, 10])])
def impl_fibonacci.B5 : List Nat := [0, 0, 2, 6, 14, 0, 32, 96, 224, 510, 1023, 2047]
theorem impl_fibonacci.tab5 : rtab .any (opsOf Try.f67 5) = impl_fibonacci.T5 := by kernel_rfl
theorem impl_fibonacci.bits5 : waitsOk impl_fibonacci.T5.2 impl_fibonacci.B5 = true := by kernel_rfl
theorem hand_reps {w : World} {base : Nat} {ok : Nat → Prop} {l : List Int} {cs : List Value} (h : Reps ((Kd.int .i64).M w base ok) 1 l cs) : cs = l.map (Value.int .i64) := by
 obtain ⟨hl, hp⟩ := h
 apply List.ext_getElem (by simpa using hl)
 intro j h1 h2
 have hj : j < l.length := by simpa using h2
 have h3 := hp j l[j] (List.getElem?_eq_getElem hj)
 have h4 : (cs.drop (j * 1)).take 1 = [Value.int .i64 l[j]] := h3
 have h5 := congrArg (fun z => z[0]?) h4
 simp only [Nat.mul_one, List.getElem?_take, List.getElem?_drop] at h5
 simp [List.getElem?_eq_getElem h1] at h5
 simpa using h5
theorem hand_made {w : World} {base : Nat} {ok : Nat → Prop} (l : List Int) : Reps ((Kd.int .i64).M w base ok) 1 l (l.map (Value.int .i64)) := by
 refine ⟨by simp, fun j p hp => ?_⟩
 show ((l.map (Value.int .i64)).drop (j * 1)).take 1 = [Value.int .i64 p]
 obtain ⟨hj, rfl⟩ := List.getElem?_eq_some_iff.1 hp
 apply List.ext_getElem?
 intro i
 cases i with
 | zero => simp [List.getElem?_eq_getElem hj]
 | succ i => simp; omega
theorem hand_row {w : World} {e base : Nat} {ok : Nat → Prop} {v : Value} {l : List Int} (hk : ∀ k, v.ownBlock = some k → ok k) (h : w.ownsRow base e 1 v l.length (l.map (Value.int .i64))) : Kd.R (Kd.int .i64) e w base ok v l := ⟨hk, _, h, hand_made l⟩
theorem hand_own {w : World} {e base : Nat} {ok : Nat → Prop} {v : Value} {l : List Int} (h : Kd.R (Kd.int .i64) e w base ok v l) : w.ownsRow base e 1 v l.length (l.map (Value.int .i64)) := by
 obtain ⟨_, cs, ho, hr⟩ := h
 rw [hand_reps hr] at ho
 exact ho
section
variable {P : Program} {ops : Array Oper} {rest : List Oper} {o : Oper} {a : Act} {Q : Exit → Act → World → Prop}
theorem val_event {W : World} (hgd : o.guard = none) {N : Tmp} (_hd : o.dst = some N) (v : Value)
  (hrun : (execOp a.eval o).run P W = .ok (.value v) W) (h : wpList P ops Q rest (a.put o.dst v) W) : wpList P ops Q (o :: rest) a W := Kd.event_run hgd hrun h
theorem index_event {W : World} (hgd : o.guard = none) {N : Tmp} (hd : o.dst = some N) {t : TypeId} {x i : Operand} (ho : o.op = .index t x i) {vx vi v : Value} (hx : a.eval x = vx) (hi : a.eval i = vi)
  (hr : (Instr.index t vx vi).run P W = .ok v W) (h : wpList P ops Q rest (a.put o.dst v) W) : wpList P ops Q (o :: rest) a W := by
 refine val_event hgd hd v ?_ h
 unfold execOp
 simp only [ho, hx, hi, Sem.run_bind, hr, Result.andThen_ok, Sem.run_pure]
theorem store_row_event {W : World} (hgd : o.guard = none) {ty : TypeId} {p : Tmp} {v : Operand} (ho : o.op = .store ty (.tmp p) v) (hN : o.dst = none) (g : Nat) (cs : Array Value) (hx : a.eval (.tmp p) = .pointer (some ⟨g, 0, none⟩)) (hv : a.eval v = .agg cs)
  {t : TypeId} {old : Array Value} (hg : W.heap[g]? = some (.cells old t (0, 0))) (hi : (P.info? ty).map (·.size) = some cs.size) (hsz : old.size = cs.size) (h1 : cs.all (·.oneCell') = true)
  (h : ∀ w', w' = W.setRow g cs → wpList P ops Q rest a w') : wpList P ops Q (o :: rest) a W := by
 refine store_event (w1 := W.setRow g cs) hgd ho hN ?_ h
 unfold execOp
 simp only [ho, hx, hv, Instr.storeAt, Instr.sureAddr, Sem.run_bind, Sem.run_pure, Result.andThen_ok, run_storeVar_row W g t ty old cs hg hi hsz h1]
end
theorem fibK_size (k : Nat) (hk : k ≤ 41) : (fibK k).size = 41 := by
 have : fibL.length = 41 := rfl
 simp [fibK, List.length_take]; omega
theorem fibK_one (k : Nat) : (fibK k).all (·.oneCell') = true := by
 rw [Array.all_eq_true_iff_forall_mem]
 intro v hv
 simp only [fibK, List.mem_toArray, List.mem_map] at hv
 obtain ⟨x, _, rfl⟩ := hv
 rfl
theorem fib_get (k j : Nat) (hj : j < 41) : (fibK k)[j]? = some (.int .i64 (if j < k then fibL.getD j 0 else 0)) := by
 have hl : fibL.length = 41 := rfl
 simp only [fibK, List.getElem?_toArray, List.getElem?_map]
 by_cases h : j < k
 ·rw [List.getElem?_append_left (by simp; omega), List.getElem?_take_of_lt h, if_pos h]
  simp [List.getD_eq_getElem?_getD, List.getElem?_eq_getElem (show j < fibL.length by omega)]
 ·rw [List.getElem?_append_right (by simp; omega), List.getElem?_replicate, if_neg h, if_pos (by simp; omega)]
  rfl
theorem fib_cell {w : World} {g k : Nat} (h : w.heap[g]? = some (.cells (fibK k) 56 (0, 0))) (j : Nat) (hj : j < 41) : w.cell? ⟨g, j, none⟩ = some (.int .i64 (if j < k then fibL.getD j 0 else 0)) := by
 rw [cell_of_row w g j _ _ _ h, fib_get k j hj]
theorem fib_info (k : Nat) (hk : k ≤ 41) : (Try.prog.info? 56).map (·.size) = some (fibK k).size := by rw [fibK_size k hk]; kernel_rfl
theorem fib_info2 : (Try.prog.info? 56).map (·.size) = some (fibK 2).size := fib_info 2 (by omega)
theorem fib_same : (fibK 0).size = (fibK 2).size := by rw [fibK_size 2 (by omega), fibK_size 0 (by omega)]
theorem fib_row {w : World} {g base : Nat} {l : List Int} {cs : Array Value} (h : w.heap[g]? = some (.cells cs 56 (0, 0))) (hb : base ≤ g) (hc : cs = (l.map (Value.int .i64)).toArray) (hl : l.length = 41) : Kd.R (Kd.int .i64) 56 w base (fun _ => True) (.slice (some ⟨g, 0, none⟩) l.length 41) l :=
 hand_row (fun _ _ => trivial) ⟨by simp, .inr ⟨g, 41, cs, rfl, hb, h, by omega, by simp [maxLen], by rw [hc]; simp [hl], by rw [hc]; simp [List.take_of_length_le]⟩⟩
theorem fib_unrow {w : World} {g base : Nat} {l : List Int} (h : Kd.R (Kd.int .i64) 56 w base (fun _ => True) (.slice (some ⟨g, 0, none⟩) l.length 41) l) (hl : l.length = 41) : w.heap[g]? = some (.cells (l.map (Value.int .i64)).toArray 56 (0, 0)) := by
 rcases (hand_own h).2 with ⟨h0, _⟩ | ⟨g2, cap, cur, hv, hg, hh, hn, hcap, hsz, htake⟩
 ·cases h0
 ·cases hv
  rw [hh]
  have : cur.toList = l.map (Value.int .i64) := by
   rw [← htake, List.take_of_length_le (by simp; omega)]
  rw [← this]
set_option maxHeartbeats 8000000 in
set_option maxRecDepth 100000 in
theorem impl_fibonacci.calls (k : Nat) (r : List Int) (w : World) (h : impl_fibonacci.f k = some r) :
  Calls Try.prog 67 #[] w fun e w' => e = .returned (.agg (r.map (Value.int .i64)).toArray) ∧ r.length = 41 ∧ Below w.heap.size w w' := by
 have H : impl_fibonacci.l0 k ([1, 2, 0, 0, 0, 0, 0, 0, 0, 0, 0, 0, 0, 0, 0, 0, 0, 0, 0, 0, 0, 0, 0, 0, 0, 0, 0, 0, 0, 0, 0, 0, 0, 0, 0, 0, 0, 0, 0, 0, 0] : List Int) 2 = some r := h
 clear h
 obtain ⟨y119, hy119⟩ : ∃ y_ : List Int, y_ = ([1, 2, 0, 0, 0, 0, 0, 0, 0, 0, 0, 0, 0, 0, 0, 0, 0, 0, 0, 0, 0, 0, 0, 0, 0, 0, 0, 0, 0, 0, 0, 0, 0, 0, 0, 0, 0, 0, 0, 0, 0] : List Int) := ⟨_, rfl⟩
 rw [← hy119] at H
 have hyl : y119.length = 41 := by rw [hy119]; rfl
 have hyc : fibK 2 = (y119.map (Value.int .i64)).toArray := by rw [hy119]; rfl
 have Ny := Aside0.mk hyl
 have Nc := Aside0.mk hyc
 clear hy119 hyl hyc
 have H' := Aside0.mk H
 clear H
 have HB := Aside0.mk (Below.refl w.heap.size w)
 go_enter Try.func67, Try.ntmps67
 go_wp2_with (first
  | ((with_reducible refine gate_dst (N := 0) rfl ?_); refine box_event ?hg (N := 0) ?hd (cs := fibK 0) (t := 56) ?hr ?_; (case hd => rfl); (case hg => rfl); (case hr => first | (go_simp; done) | (go_simp; rfl)); intro g0 hg0 w1 hbox0 hb0; have n0_ := Aside0.mk (below_step (by repeat (first | (with_reducible first | exact HB.out | apply below_alloc | apply pw_below_drewN | apply below_drew1) | exact HB.out)) hb0); have G0 := Aside0.mk (show w.heap.size ≤ g0 by rw [hg0]; exact below_size (by repeat (first | (with_reducible first | exact HB.out | apply below_alloc | apply pw_below_drewN | apply below_drew1) | exact HB.out))); have BK0 := Aside0.mk hbox0; clear HB; have HB := n0_; clear n0_ hb0 hbox0 hg0)
  | ((with_reducible refine gate_dst (N := 3) rfl ?_); refine val_event ?hg (N := 3) ?hd (.agg (fibK 2)) ?hr ?_; (case hd => rfl); (case hg => rfl); (case hr => first | (go_simp; done) | (go_simp; rfl)))
  | ((with_reducible refine gate_dst (N := 1) rfl ?_); refine box_event ?hg (N := 1) ?hd (cs := fibK 0) (t := 56) ?hr ?_; (case hd => rfl); (case hg => rfl); (case hr => first | (go_simp; done) | (go_simp; rfl)); intro g1 hg1 w2 hbox1 hb1; have n1_ := Aside0.mk (below_step (by repeat (first | (with_reducible first | exact HB.out | apply below_alloc | apply pw_below_drewN | apply below_drew1) | exact HB.out)) hb1); have G1 := Aside0.mk (show w.heap.size ≤ g1 by rw [hg1]; exact below_size (by repeat (first | (with_reducible first | exact HB.out | apply below_alloc | apply pw_below_drewN | apply below_drew1) | exact HB.out))); have n2_ := Aside0.mk (blk_below (by (with_reducible repeat (first | refine blk_drewN ?_ _ | refine blk_drew ?_ | refine blk_alloc ?_ _)); exact BK0.out) hb1); have BK1 := Aside0.mk hbox1; have GN := Aside0.mk (show g0 ≠ g1 by have h_ := (Array.getElem?_eq_some_iff.1 BK0.out).1; rw [hg1]; first | omega | (simp; omega)); clear HB BK0; have HB := n1_; have BK0 := n2_; clear n1_ n2_ hb1 hbox1 hg1)
  | ((with_reducible refine gate_store (t := 56) (p := 1) rfl ?_); go_loud (have e1 := BK1.out); go_loud (have e2 := GN.out); go_loud (have e3 := BK0.out); go_loud (refine store_row_event (ty := 56) (p := 1) rfl rfl rfl g1 (fibK 2) rfl rfl e1 fib_info2 fib_same (fibK_one 2) ?_); intro w3 hw3; go_loud (have n1_ := Aside0.mk (show w3.heap[g1]? = some (.cells (fibK 2) 56 (0, 0)) by rw [hw3]; exact setRow_heap _ _ _ _ _ _ BK1.out)); go_loud (have n2_ := Aside0.mk (show w3.heap[g0]? = some (.cells (fibK 0) 56 (0, 0)) by rw [hw3, setRow_other _ _ _ _ GN.out]; exact BK0.out)); go_loud (have n3_ := Aside0.mk (show Below w.heap.size w w3 by rw [hw3]; exact below_setRow (by repeat (first | (with_reducible first | exact HB.out | apply below_alloc | apply pw_below_drewN | apply below_drew1) | exact HB.out)) G1.out _)); clear HB BK0 BK1; have HB := n3_; have BK0 := n2_; have BK1 := n1_; clear n1_ n2_ n3_ hw3))
 have HO1 := Aside0.mk (fib_row (w := _) (by (with_reducible repeat (first | refine blk_drewN ?_ _ | refine blk_drew ?_ | refine blk_alloc ?_ _)); exact BK1.out) G1.out Nc.out Ny.out)
 go_loopg [2] k (fun kq v2 w' => ∃ (x1_1 : List Int) (x2_1 : Int), v2 = .int .i64 x2_1 ∧ Aside0 (impl_fibonacci.l0 kq x1_1 x2_1 = some r) ∧ Aside0 (kq ≤ k) ∧ Aside0 (x1_1.length = 41) ∧ Aside0 (Kd.R (Kd.int .i64) 56 w' w.heap.size (fun _ => True) (.slice (some ⟨g1, 0, none⟩) x1_1.length 41) x1_1) ∧ Aside0 (w'.heap[g0]? = some (.cells (fibK 0) 56 (0, 0))) ∧ Aside0 (Below w.heap.size w w'))
 case atStart => exact ⟨y119, 2, (by first | rfl | (simp; done) | (simp [*]; done)), H', ⟨Nat.le_refl _⟩, Ny, ⟨by (with_reducible repeat (first | apply Kd.R_alloc | apply Kd.R_drewN | apply Kd.R_drew)); exact HO1.out⟩, ⟨by (with_reducible repeat (first | refine blk_drewN ?_ _ | refine blk_drew ?_ | refine blk_alloc ?_ _)); exact BK0.out⟩, ⟨by repeat (first | (with_reducible first | exact HB.out | apply below_alloc | apply pw_below_drewN | apply below_drew1) | exact HB.out)⟩⟩
 case round =>
  clear H' BK0 BK1 HB HO1
  obtain ⟨x1_1, x2_1, rfl, HA, HK1, HLEN, HO_1, BK0, HB⟩ := hrel
  cases gk with
  | zero => exact absurd HA.out (by simp [impl_fibonacci.l0])
  | succ k1 =>
   have H := HA.out
   clear HA
   simp only [impl_fibonacci.l0] at H
   by_cases c3 : x2_1 ≤ 40
   ·rw [if_pos c3] at H
    have c3b0 : decide (x2_1 ≤ 40) = true := decide_eq_true c3
    clear c3
    obtain ⟨ji4, hji4⟩ : ∃ j_ : Int, (wrap64 (x2_1 - 1)) = j_ := ⟨_, rfl⟩
    replace H : (if 0 ≤ (ji4) then (if (ji4) < (x1_1.length : Int) then (if 0 ≤ (wrap64 (x2_1 - 2)) then (if (wrap64 (x2_1 - 2)) < (x1_1.length : Int) then (if 0 ≤ x2_1 then (if x2_1 < (x1_1.length : Int) then (impl_fibonacci.l0 k1 (x1_1.set (x2_1 : Int).toNat (wrap64 ((rd x1_1 (ji4)) + (rd x1_1 (wrap64 (x2_1 - 2)))))) (wrap64 (x2_1 + 1))) else (none)) else (none)) else (none)) else (none)) else (none)) else (none)) = some r := by first | (rw [hji4] at H; exact H) | (simp only [hji4] at H ⊢; exact H)
    have hji4w : (IntKind.i64.wrap (x2_1 - 1)) = ji4 := (i64_w _).trans hji4
    by_cases c5 : 0 ≤ (ji4)
    ·rw [if_pos c5] at H
     have c5b0 : decide (0 ≤ (ji4)) = true := decide_eq_true c5
     clear c5
     by_cases c6 : (ji4) < (x1_1.length : Int)
     ·rw [if_pos c6] at H
      have c6b0 : decide ((ji4) < (x1_1.length : Int)) = true := decide_eq_true c6
      clear c6
      obtain ⟨ji7, hji7⟩ : ∃ j_ : Int, (wrap64 (x2_1 - 2)) = j_ := ⟨_, rfl⟩
      replace H : (if 0 ≤ (ji7) then (if (ji7) < (x1_1.length : Int) then (if 0 ≤ x2_1 then (if x2_1 < (x1_1.length : Int) then (impl_fibonacci.l0 k1 (x1_1.set (x2_1 : Int).toNat (wrap64 ((rd x1_1 (ji4)) + (rd x1_1 (ji7))))) (wrap64 (x2_1 + 1))) else (none)) else (none)) else (none)) else (none)) = some r := by first | (rw [hji7] at H; exact H) | (simp only [hji7] at H ⊢; exact H)
      have hji7w : (IntKind.i64.wrap (x2_1 - 2)) = ji7 := (i64_w _).trans hji7
      by_cases c8 : 0 ≤ (ji7)
      ·rw [if_pos c8] at H
       have c8b0 : decide (0 ≤ (ji7)) = true := decide_eq_true c8
       clear c8
       by_cases c9 : (ji7) < (x1_1.length : Int)
       ·rw [if_pos c9] at H
        have c9b0 : decide ((ji7) < (x1_1.length : Int)) = true := decide_eq_true c9
        clear c9
        by_cases c10 : 0 ≤ x2_1
        ·rw [if_pos c10] at H
         have c10b0 : decide (0 ≤ x2_1) = true := decide_eq_true c10
         clear c10
         by_cases c11 : x2_1 < (x1_1.length : Int)
         ·rw [if_pos c11] at H
          have c11b0 : decide (x2_1 < (x1_1.length : Int)) = true := decide_eq_true c11
          clear c11
          obtain ⟨y124, hy124⟩ : ∃ y_ : List Int, y_ = (x1_1.set (x2_1 : Int).toNat (wrap64 ((rd x1_1 (ji4)) + (rd x1_1 (ji7))))) := ⟨_, rfl⟩
          replace H : (impl_fibonacci.l0 k1 y124 (wrap64 (x2_1 + 1))) = some r := by first | (rw [hy124]; with_reducible exact H) | (have H2_ := (Option.bind_some _ _).symm.trans H; rw [hy124]; with_reducible exact H2_) | (have H2_ := (Option.bind_some _ _).symm.trans H; with_reducible exact H2_) | with_reducible exact H | (rw [hy124]; exact H) | exact H
          have Ny124 := Aside0.mk hy124
          clear hy124
          have H' := Aside0.mk H
          clear H
          try go_wp2
          have n0_ := Aside0.mk (Kd.R_drew HO_1.out)
          have n1_ := Aside0.mk (below_drew1 HB.out)
          have nB_ := Aside0.mk (blk_drew BK0.out)
          clear BK0
          have BK0 := nB_
          clear nB_
          clear HO_1
          clear HB
          have HO_1 := n0_
          have HB := n1_
          clear n0_ n1_
          have p122 : 0 ≤ ((ji4) : Int) := of_decide_eq_true (by first | (with_reducible assumption) | assumption)
          have q122 : (ji4) < (x1_1.length : Int) := of_decide_eq_true (by first | (with_reducible assumption) | assumption)
          have hlen41 := HLEN.out
          have b41_1 : (ji4 < 41) = True := eq_true (by have := of_decide_eq_true c6b0; omega)
          have b41_2 : (ji7 < 41) = True := eq_true (by have := of_decide_eq_true c9b0; omega)
          have b41_3 : (x2_1 < 41) = True := eq_true (by have := of_decide_eq_true c11b0; omega)
          obtain ⟨ad122, e122, hx122_0⟩ := Kd.at_int (Kd.R_reads' HO_1.out).2.2 (ji4) p122 q122
          cases e122
          replace p122 := eq_true p122
          replace q122 := eq_true q122
          have p123 : 0 ≤ ((ji7) : Int) := of_decide_eq_true (by first | (with_reducible assumption) | assumption)
          have q123 : (ji7) < (x1_1.length : Int) := of_decide_eq_true (by first | (with_reducible assumption) | assumption)
          obtain ⟨ad123, e123, hx123_0⟩ := Kd.at_int (Kd.R_reads' HO_1.out).2.2 (ji7) p123 q123
          cases e123
          replace p123 := eq_true p123
          replace q123 := eq_true q123
          have p12 : 0 ≤ (x2_1 : Int) := of_decide_eq_true (by first | (with_reducible assumption) | assumption)
          have q12 : (x2_1 : Int) < ((x1_1.length : Int) : Int) := of_decide_eq_true (by first | (with_reducible assumption) | assumption)
          obtain ⟨go12, co12, eo12, gb12, gl12, cl12, HG12⟩ := Kd.R_form HO_1.out (by omega)
          (first | cases eo12 | (injection eo12 with ea_ en_ ec_; (first | subst ea_ | (injection ea_ with ea_; subst ea_)); subst ec_; clear en_))
          have GB12 := Aside0.mk gb12
          have GG12 := Aside0.mk HG12
          clear gb12 gl12 HG12
          (first | simp only [add_plain] at hx122_0 | skip)
          (first | simp only [add_plain] at hx123_0 | skip)
          obtain ⟨hx12_0, hf12_0⟩ := Kd.R_celln 0 HO_1.out (x2_1 : Int) p12 q12
          replace p12 := eq_true p12
          replace q12 := eq_true q12
          have HP15 := Kd.R_putn HO_1.out (x2_1 : Int) (wrap64 ((rd x1_1 (ji4)) + (rd x1_1 (ji7))))
          rw [← Ny124.out] at HP15
          have HQ15 := Aside0.mk HP15
          clear HP15
          refine start_ (n := 12) (S := fun w' => w'.cell? ⟨g1, ((ji4)).toNat, none⟩ = some (.int .i64 (rd x1_1 (ji4))) ∧ w'.cell? ⟨g1, ((ji7)).toNat, none⟩ = some (.int .i64 (rd x1_1 (ji7)))) (ds := [11]) #[false, false, false, false, false, false, false, false, false, false, false, false] (by kernel_rfl) rfl rfl ⟨hx122_0, hx123_0⟩ (fun hHeld => ?_); refine with_tabW impl_fibonacci.tab5 impl_fibonacci.bits5 (fun HT_ HW_ => ?_)
          generalize wr.drew = w13 at HO_1 HB BK0 GG12 HQ15 hf12_0 hx122_0 hx123_0 hx12_0 hHeld ⊢
          refine pure_ (i := 0) (N := some 8) (v := ?_) (a' := ?_) #[true, false, false, false, false, false, false, false, false, false, false, false] rfl rfl (any_of HT_.out (by kernel_rfl)) (fun _ _ _ h => h) (Or.inl ⟨by rfl, ?_⟩) ?_ ?_
          rotate_left
          ·intro w'
           go_simp
           with_reducible rfl
          rotate_left
          ·simp only [Act.put, List.setIfInBounds_toArray, List.set_cons_zero, List.set_cons_succ, i64_w, i32_w]
           rfl
          refine pure_ (i := 1) (N := some 9) (v := ?_) (a' := ?_) #[true, true, false, false, false, false, false, false, false, false, false, false] rfl rfl (any_of HT_.out (by kernel_rfl)) (fun _ _ _ h => h) (Or.inl ⟨by rfl, ?_⟩) ?_ ?_
          rotate_left
          ·intro w'
           go_simp
           with_reducible rfl
          rotate_left
          ·simp only [Act.put, List.setIfInBounds_toArray, List.set_cons_zero, List.set_cons_succ, i64_w, i32_w]
           rfl
          refine pure_ (i := 2) (N := some 10) (v := ?_) (a' := ?_) #[true, true, true, false, false, false, false, false, false, false, false, false] rfl rfl (any_of HT_.out (by kernel_rfl)) (fun _ _ _ h => h) (Or.inl ⟨by rfl, ?_⟩) ?_ ?_
          rotate_left
          ·intro w'
           go_simp
           with_reducible rfl
          rotate_left
          ·simp only [Act.put, List.setIfInBounds_toArray, List.set_cons_zero, List.set_cons_succ, i64_w, i32_w]
           rfl
          refine pure_ (i := 3) (N := some 11) (v := ?_) (a' := ?_) #[true, true, true, true, false, false, false, false, false, false, false, false] rfl rfl (any_of HT_.out (by kernel_rfl)) (fun _ _ _ h => h) (Or.inl ⟨by rfl, ?_⟩) ?_ ?_
          rotate_left
          ·intro w'
           go_simp
           with_reducible rfl
          rotate_left
          ·simp only [Act.put, List.setIfInBounds_toArray, List.set_cons_zero, List.set_cons_succ, i64_w, i32_w]
           rfl
          refine pure_ (i := 5) (N := some 13) (v := ?_) (a' := ?_) #[true, true, true, true, false, true, false, false, false, false, false, false] rfl rfl (any_of HT_.out (by kernel_rfl)) (fun _ _ _ h => h) (Or.inl ⟨by rfl, ?_⟩) ?_ ?_
          rotate_left
          ·intro w'
           go_simp
           with_reducible rfl
          rotate_left
          ·simp only [Act.put, List.setIfInBounds_toArray, List.set_cons_zero, List.set_cons_succ, i64_w, i32_w]
           rfl
          refine pure_ (i := 6) (N := some 14) (v := ?_) (a' := ?_) #[true, true, true, true, false, true, true, false, false, false, false, false] rfl rfl (any_of HT_.out (by kernel_rfl)) (fun _ _ _ h => h) (Or.inl ⟨by rfl, ?_⟩) ?_ ?_
          rotate_left
          ·intro w'
           go_simp
           with_reducible rfl
          rotate_left
          ·simp only [Act.put, List.setIfInBounds_toArray, List.set_cons_zero, List.set_cons_succ, i64_w, i32_w]
           rfl
          refine pure_ (i := 7) (N := some 15) (v := ?_) (a' := ?_) #[true, true, true, true, false, true, true, true, false, false, false, false] rfl rfl (any_of HT_.out (by kernel_rfl)) (fun _ _ _ h => h) (Or.inl ⟨by rfl, ?_⟩) ?_ ?_
          rotate_left
          ·intro w'
           go_simp
           with_reducible rfl
          rotate_left
          ·simp only [Act.put, List.setIfInBounds_toArray, List.set_cons_zero, List.set_cons_succ, i64_w, i32_w]
           rfl
          refine take_ (i := 4) (N := some 12) (v := ?_) (a' := ?_) #[true, true, true, true, true, true, true, true, false, false, false, false] rfl rfl (take_ofW HT_.out HW_.out (by kernel_rfl)) (fun _ _ _ h => h) (Or.inl ⟨by rfl, ?_⟩) hHeld ?_ ?_
          rotate_left
          ·rintro w' ⟨s0, s1⟩
           go_simp
           with_reducible rfl
          rotate_left
          ·simp only [Act.put, List.setIfInBounds_toArray, List.set_cons_zero, List.set_cons_succ, i64_w, i32_w]
           rfl
          refine take_ (i := 8) (N := some 16) (v := ?_) (a' := ?_) #[true, true, true, true, true, true, true, true, true, false, false, false] rfl rfl (take_ofW HT_.out HW_.out (by kernel_rfl)) (fun _ _ _ h => h) (Or.inl ⟨by rfl, ?_⟩) hHeld ?_ ?_
          rotate_left
          ·rintro w' ⟨s0, s1⟩
           go_simp
           with_reducible rfl
          rotate_left
          ·simp only [Act.put, List.setIfInBounds_toArray, List.set_cons_zero, List.set_cons_succ, i64_w, i32_w]
           rfl
          refine pure_ (i := 9) (N := some 17) (v := ?_) (a' := ?_) #[true, true, true, true, true, true, true, true, true, true, false, false] rfl rfl (any_of HT_.out (by kernel_rfl)) (fun _ _ _ h => h) (Or.inl ⟨by rfl, ?_⟩) ?_ ?_
          rotate_left
          ·intro w'
           go_simp
           with_reducible rfl
          rotate_left
          ·simp only [Act.put, List.setIfInBounds_toArray, List.set_cons_zero, List.set_cons_succ, i64_w, i32_w]
           rfl
          refine pure_ (i := 10) (N := some 18) (v := ?_) (a' := ?_) #[true, true, true, true, true, true, true, true, true, true, true, false] rfl rfl (any_of HT_.out (by kernel_rfl)) (fun _ _ _ h => h) (Or.inl ⟨by rfl, ?_⟩) ?_ ?_
          rotate_left
          ·intro w'
           go_simp
           with_reducible rfl
          rotate_left
          ·simp only [Act.put, List.setIfInBounds_toArray, List.set_cons_zero, List.set_cons_succ, i64_w, i32_w]
           rfl
          refine last_ (i := 11) (N := none) #[true, true, true, true, true, true, true, true, true, true, true, true] rfl rfl (one_of HT_.out (by kernel_rfl)) (by decide) (fun K hK => ?_)
          refine skip_ (w1 := ?_) (by rfl) rfl ?_ ?_
          rotate_left
          ·go_simp
           rfl
          refine hK.out _ _ ?_
          clear hK K
          refine done_ (done_of HT_.out (by kernel_rfl)) ?_
          try go_wp2
          (try subst hji4)
          (try subst hji7)
          go_roundg k1
          case measure => have := HK1.out; omega
          case rel =>
           have hy_ : y124.length = x1_1.length := by rw [Ny124.out]; simp
           exact ⟨(y124), (wrap64 (x2_1 + 1)), (by first | rfl | (simp; done) | (simp [*]; done)), H', ⟨by have := HK1.out; omega⟩, ⟨hy_.trans HLEN.out⟩, ⟨by (with_reducible repeat (first | apply Kd.R_alloc | apply Kd.R_drewN | apply Kd.R_drew)); rw [hy_]; exact HQ15.out⟩, ⟨by (with_reducible repeat (first | refine blk_drewN ?_ _ | refine blk_drew ?_ | refine blk_alloc ?_ _)); exact (Below.heap_setCell _ _ _ _ GN.out).trans BK0.out⟩, ⟨by repeat (first | (with_reducible first | exact HB.out | apply below_alloc | apply pw_below_drewN | apply below_drew1 | refine below_set ?_ GB12.out) | exact HB.out)⟩⟩
         ·rw [if_neg c11] at H
          exact absurd H (by simp)
        ·rw [if_neg c10] at H
         exact absurd H (by simp)
       ·rw [if_neg c9] at H
        exact absurd H (by simp)
      ·rw [if_neg c8] at H
       exact absurd H (by simp)
     ·rw [if_neg c6] at H
      exact absurd H (by simp)
    ·rw [if_neg c5] at H
     exact absurd H (by simp)
   ·rw [if_neg c3] at H
    have c3b0 : decide (x2_1 ≤ 40) = false := decide_eq_false c3
    clear c3
    obtain rfl := Option.some.inj H
    have e1 := fib_unrow HO_1.out HLEN.out
    have e0 := BK0.out
    have hsz : ((x1_1.map (Value.int .i64)).toArray).size = 41 := by simp [HLEN.out]
    have hi : (Try.prog.info? 56).map (·.size) = some ((x1_1.map (Value.int .i64)).toArray).size := by rw [hsz]; kernel_rfl
    have hsame : (fibK 0).size = ((x1_1.map (Value.int .i64)).toArray).size := by rw [hsz, fibK_size 0 (by omega)]
    have hone : ((x1_1.map (Value.int .i64)).toArray).all (·.oneCell') = true := by
     rw [Array.all_eq_true_iff_forall_mem]
     intro v hv
     simp only [List.mem_toArray, List.mem_map] at hv
     obtain ⟨x, _, rfl⟩ := hv
     rfl
    go_wp2_with (first
     | ((with_reducible refine gate_dst (N := 19) rfl ?_); refine wpList_load_row rfl 56 (.tmp 1) rfl g1 rfl 56 _ (0, 0) _ ?m1 Try.underlying56 rfl hi ?_; (case m1 => (with_reducible repeat (first | refine blk_drewN ?_ _ | refine blk_drew ?_ | refine blk_alloc ?_ _)); exact e1))
     | ((with_reducible refine gate_store (t := 56) (p := 0) rfl ?_); refine store_row_event (ty := 56) (p := 0) rfl rfl rfl g0 _ rfl rfl (old := fibK 0) (t := 56) ?m2 hi hsame hone ?_; (case m2 => (with_reducible repeat (first | refine blk_drewN ?_ _ | refine blk_drew ?_ | refine blk_alloc ?_ _)); exact e0); intro w9 hw9; have nb9 := Aside0.mk (show w9.heap[g0]? = some (.cells (x1_1.map (Value.int .i64)).toArray 56 (0, 0)) by rw [hw9]; exact setRow_heap _ _ _ _ _ _ (by (with_reducible repeat (first | refine blk_drewN ?_ _ | refine blk_drew ?_ | refine blk_alloc ?_ _)); exact e0)); have nB9 := Aside0.mk (show Below w.heap.size w w9 by rw [hw9]; exact below_setRow (by repeat (first | (with_reducible first | exact HB.out | apply below_alloc | apply pw_below_drewN | apply below_drew1) | exact HB.out)) G0.out _); clear HB; have HB := nB9; clear nB9 hw9))
    refine bodyPost_ret (results_cell_row rfl _ _ g0 56 _ (0, 0) _ rfl nb9.out Try.underlying56 rfl hi) rfl ?_
    exact ⟨rfl, HLEN.out, by repeat (first | (with_reducible first | exact HB.out | apply below_alloc | apply pw_below_drewN | apply below_drew1) | exact HB.out)⟩
theorem fibRun : impl_fibonacci.f 50 = some ([1, 2, 3, 5, 8, 13, 21, 34, 55, 89, 144, 233, 377, 610, 987, 1597, 2584, 4181, 6765, 10946, 17711, 28657, 46368, 75025, 121393, 196418, 317811, 514229, 832040, 1346269, 2178309, 3524578, 5702887, 9227465, 14930352, 24157817, 39088169, 63245986, 102334155, 165580141, 267914296] : List Int) := by decide +kernel
set_option maxRecDepth 100000 in
theorem fib_at (l : List Int) (i : Int) (hl : l.length = 41) (h0 : 0 ≤ i) (h1 : i < 41) (w : World) : (Instr.index 56 (.agg (l.map (Value.int .i64)).toArray) (.int .i64 i)).run Try.prog w = .ok (.int .i64 (rd l i)) w := by
 have hx : ((l.map (Value.int .i64)).toArray)[i.toNat]? = some (.int .i64 (rd l i)) := by
  obtain ⟨n, rfl⟩ := Int.eq_ofNat_of_zero_le h0
  have hn : n < l.length := by omega
  simp [rd, List.getElem?_eq_getElem hn, List.getD_eq_getElem?_getD]
 unfold Instr.index
 rw [show asIntOf (.int .i64 i) = pure (IntKind.i64, i) from rfl]
 simp only [Sem.run_bind, Sem.run_pure, Result.andThen_ok, run_underlying Try.underlying56, if_pos (And.intro h0 (show i < ((41 : Nat) : Int) by omega))]
 have hz : (sizeOf 3).run Try.prog w = .ok 1 w := Try.sizeOf3 w
 simp only [hz, Result.andThen_ok, Nat.mul_one]
 have ha : (isAgg 3).run Try.prog w = .ok false w := Try.isAgg3 w
 unfold part
 simp only [Sem.run_bind, ha, Result.andThen_ok, Bool.false_eq_true, if_false, hx, Sem.run_pure]
theorem fibOne (l : List Int) : ((l.map (Value.int .i64)).toArray).all (·.oneCell') = true := by
 rw [Array.all_eq_true_iff_forall_mem]
 intro v hv
 simp only [List.mem_toArray, List.mem_map] at hv
 obtain ⟨x, _, rfl⟩ := hv
 rfl
theorem fibInfo (l : List Int) (h : l.length = 41) : (Try.prog.info? 56).map (·.size) = some ((l.map (Value.int .i64)).toArray).size := by
 rw [show ((l.map (Value.int .i64)).toArray).size = 41 by simp [h]]; kernel_rfl
theorem fibSame (l : List Int) (h : l.length = 41) : (fibK 0).size = ((l.map (Value.int .i64)).toArray).size := by
 rw [show ((l.map (Value.int .i64)).toArray).size = 41 by simp [h], fibK_size 0 (by omega)]
theorem fib_apart {w : World} {g base n : Nat} {l : List Int} {u : Value} (h : Kd.R (Kd.int .i64) 56 w base (fun _ => True) (.slice (some ⟨g, 0, none⟩) n 41) l) (hu : ∀ k, u.ownBlock = some k → k < g) : Kd.R (Kd.int .i64) 56 w base (fun k_ => some k_ ≠ u.ownBlock) (.slice (some ⟨g, 0, none⟩) n 41) l :=
 Kd.R_reok rfl h (fun k hk e => by
  have hk' : g = k := by simpa [Value.ownBlock] using hk
  subst hk'
  exact absurd (hu g e.symm) (by omega))
theorem fib_keep {W wS : World} {g e base : Nat} {cs : Array Value} {v : Value} {l : List Int} (hw : wS = W.setRow g cs) (h : Kd.R (Kd.int .i64) e W base (fun k_ => k_ < g) v l) : Kd.R (Kd.int .i64) e wS base (fun k_ => k_ < g) v l := by
 subst hw
 exact Kd.R_move h (fun k hk => setRow_other _ _ _ _ (by omega))
theorem fib_lay {W wS : World} {g : Nat} {cs : Array Value} (hw : wS = W.setRow g cs) (h : W.heap[g]? = some (.cells (fibK 0) 56 (0, 0))) : wS.heap[g]? = some (.cells cs 56 (0, 0)) := by
 subst hw
 exact setRow_heap _ _ _ _ _ _ h
theorem fib_below {W wS w : World} {b g : Nat} {cs : Array Value} (hw : wS = W.setRow g cs) (h : Below b w W) (hg : b ≤ g) : Below b w wS := by
 subst hw
 exact below_setRow h hg _

end Go.Proofs.Ytdcakddfibnllaa.PFnZeckendorf
