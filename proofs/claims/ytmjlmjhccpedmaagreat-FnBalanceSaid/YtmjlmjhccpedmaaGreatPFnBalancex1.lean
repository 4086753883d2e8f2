/- Walks of the functions that the law reaches. -/
import Derived.Test.YtmjlmjhccpedmaaGreatPFnBalancex0
namespace Go.Proofs.YtmjlmjhccpedmaaGreat.PFnBalance
open Go.RowKit Go.Proofs.YtmjlmjhccpedmaaGreatW.PrintWords Go.Proofs.YtmjlmjhccpedmaaGreatW.PrintLast Go.Proofs.YtmjlmjhccpedmaaGreatW.PrintMore
attribute [local go_sem] max2_int min2_int max_two min_two max_three min_three max_four min_four
set_option linter.unusedVariables false
set_option maxHeartbeats 8000000
set_option maxRecDepth 100000
set_option linter.unusedSimpArgs false

def cmp_Or_int.l0 : Nat → Int → List Int → Int → Int → Option (Int)
 | 0, _, _, _, _ => none
 | k + 1, x3, x6, x7, x8 => if x8 < x7 then (if 0 ≤ x8 then (if x8 < (x6.length : Int) then (if (rd x6 x8) = x3 then (cmp_Or_int.l0 k x3 x6 x7 (wrap64 (x8 + 1))) else (some (rd x6 x8))) else (none)) else (none)) else (some x3)
def cmp_Or_int.f (k : Nat) (l0 : List Int) : Option (Int) := cmp_Or_int.l0 k 0 l0 (l0.length : Int) 0
theorem cmp_Or_int.calls (k : Nat) (A0 : Option Addr) (c0 : Nat) (l0 : List Int) (r : Int) (w : World) (hr0 : Kd.C (Kd.int .i64) w A0 l0.length l0) (hc0 : l0.length ≤ c0) (h : cmp_Or_int.f k l0 = some r) :
  Calls Tryz.prog 56 #[.slice A0 l0.length c0] w fun e w' => e = .returned (.int .i64 r) ∧ Drawn0 w w' := by
 have HR0 := A_ hr0; clear hr0 hc0; unfold cmp_Or_int.f at h; have H := h; clear h
 have H' := A_ H
 clear H; go_enter Tryz.func56, Tryz.ntmps56
 go_wp2
 go_loopg [8] k (fun kq v8 w' => ∃ (x8_1 : Int), v8 = .int .i64 x8_1 ∧ Aside0 (cmp_Or_int.l0 kq 0 l0 (l0.length : Int) x8_1 = some r) ∧ Aside0 (kq ≤ k) ∧ Drawn0 w w')
 case atStart => exact ⟨(0), (by rfl), H', ⟨Nat.le_refl _⟩, by repeat (first | exact Drawn0.refl _ | apply Drawn0.step)⟩
 case round =>
  clear H'; obtain ⟨x8_1, rfl, HA, HK1, ⟨m1, rfl⟩⟩ := hrel
  cases gk with
  | zero => exact absurd HA.out (by simp [cmp_Or_int.l0])
  | succ k1 =>
   have H := HA.out; clear HA; simp only [cmp_Or_int.l0] at H
   by_cases c2 : x8_1 < (l0.length : Int)
   ·rw [if_pos c2] at H; have c2b0 := decide_eq_true c2; clear c2
    by_cases c3 : 0 ≤ x8_1
    ·rw [if_pos c3] at H; have c3b0 := decide_eq_true c3; clear c3
     by_cases c4 : x8_1 < (l0.length : Int)
     ·rw [if_pos c4] at H; have c4b0 := decide_eq_true c4; clear c4
      by_cases c5 : (rd l0 x8_1) = 0
      ·rw [if_pos c5] at H
       have c5b1 : ((rd l0 x8_1) != 0) = false := bne_eq_false_iff_eq.mpr c5
       clear c5
       have H' := A_ H
       clear H
       have p101 : 0 ≤ (x8_1 : Int) := od_ (by assumption)
       have q101 : x8_1 < (l0.length : Int) := od_ (by assumption)
       obtain ⟨ad101, e101, hx101_0⟩ := Kd.at_int HR0.out x8_1 p101 q101
       cases e101
       replace p101 := eq_true p101; replace q101 := eq_true q101
       go_wp2
       go_roundg k1
       case measure => have := HK1.out; omega
       case rel => exact ⟨(wrap64 (x8_1 + 1)), (by rfl), H', ⟨by have := HK1.out; omega⟩, by repeat (first | exact Drawn0.refl _ | apply Drawn0.step)⟩
      rw [if_neg c5] at H
      have c5b1 : ((rd l0 x8_1) != 0) = true := bne_iff_ne.mpr c5
      obtain rfl := Option.some.inj H
      have p101 : 0 ≤ (x8_1 : Int) := od_ (by assumption)
      have q101 : x8_1 < (l0.length : Int) := od_ (by assumption)
      obtain ⟨ad101, e101, hx101_0⟩ := Kd.at_int HR0.out x8_1 p101 q101
      cases e101
      replace p101 := eq_true p101; replace q101 := eq_true q101
      go_wp2
      go_ret
      exact ⟨by rfl, by repeat (first | exact Drawn0.refl _ | apply Drawn0.step)⟩
     rw [if_neg c4] at H
     cases H
    rw [if_neg c3] at H
    cases H
   rw [if_neg c2] at H; have c2b0 := decide_eq_false c2; clear c2; obtain rfl := Option.some.inj H
   go_wp2
   go_ret
   exact ⟨by rfl, by repeat (first | exact Drawn0.refl _ | apply Drawn0.step)⟩

def cmp_isNaN_int.f (a0 : Int) : Option (Bool) := some (a0 != a0)
theorem cmp_isNaN_int.calls (a0 : Int) (r : Bool) (w : World) (h : cmp_isNaN_int.f a0 = some r) :
  Calls Tryz.prog 69 #[.int .i64 a0] w fun e w' => e = .returned (.bool r) ∧ Drawn0 w w' := by
 unfold cmp_isNaN_int.f at h; have H := h; clear h; obtain rfl := Option.some.inj H; go_enter Tryz.func69, Tryz.ntmps69
 go_wp2
 go_ret
 exact ⟨by rfl, by repeat (first | exact Drawn0.refl _ | apply Drawn0.step)⟩

def cmp_Compare_int.f (a0 : Int) (a1 : Int) : Option (Int) := (cmp_isNaN_int.f a0).bind fun t102 => ((cmp_isNaN_int.f a1).bind fun t103 => (if t102 = true then (if t103 = true then (some 0) else (some (-1))) else (if t103 = true then (some 1) else (if a0 < a1 then (some (-1)) else (if a0 > a1 then (some 1) else (some 0))))))
theorem cmp_Compare_int.calls (a0 : Int) (a1 : Int) (r : Int) (w : World) (h : cmp_Compare_int.f a0 a1 = some r) :
  Calls Tryz.prog 57 #[.int .i64 a0, .int .i64 a1] w fun e w' => e = .returned (.int .i64 r) ∧ Drawn0 w w' := by
 unfold cmp_Compare_int.f at h; have H := h; clear h; replace H := bA_ H; obtain ⟨t102, A3, H⟩ := H; replace H := bA_ H; obtain ⟨t103, A4, H⟩ := H
 by_cases c5 : t102 = true
 ·subst c5; rw [if_pos rfl] at H
  by_cases c6 : t103 = true
  ·subst c6; rw [if_pos rfl] at H; obtain rfl := Option.some.inj H; go_enter Tryz.func57, Tryz.ntmps57
   go_wp2_with (first | ((with_reducible refine gc_ 69 rfl ?_); refine cD_ E69 8 rfl rfl rfl (cmp_isNaN_int.calls a0 true _ A3.out) (by (try simp only [mA, mB, mC]); first | done | rfl | (simp only [List.length_drop, List.length_take]; rfl)) fun nd => ?_) | ((with_reducible refine gc_ 69 rfl ?_); refine cD_ E69 10 rfl rfl rfl (cmp_isNaN_int.calls a1 true _ A4.out) (by simp only [mA, mB, mC]; rfl) fun nd => ?_))
   go_ret
   exact ⟨by rfl, by repeat (first | exact Drawn0.refl _ | apply Drawn0.step)⟩
  replace c6 := Bool.eq_false_iff.mpr c6; subst c6; rw [if_neg nf_] at H; obtain rfl := Option.some.inj H; go_enter Tryz.func57, Tryz.ntmps57
  go_wp2_with (first | ((with_reducible refine gc_ 69 rfl ?_); refine cD_ E69 8 rfl rfl rfl (cmp_isNaN_int.calls a0 true _ A3.out) (by (try simp only [mA, mB, mC]); first | done | rfl | (simp only [List.length_drop, List.length_take]; rfl)) fun nd => ?_) | ((with_reducible refine gc_ 69 rfl ?_); refine cD_ E69 10 rfl rfl rfl (cmp_isNaN_int.calls a1 false _ A4.out) (by simp only [mA, mB, mC]; rfl) fun nd => ?_))
  go_ret
  exact ⟨by rfl, by repeat (first | exact Drawn0.refl _ | apply Drawn0.step)⟩
 replace c5 := Bool.eq_false_iff.mpr c5; subst c5; rw [if_neg nf_] at H
 by_cases c7 : t103 = true
 ·subst c7; rw [if_pos rfl] at H; obtain rfl := Option.some.inj H; go_enter Tryz.func57, Tryz.ntmps57
  go_wp2_with (first | ((with_reducible refine gc_ 69 rfl ?_); refine cD_ E69 8 rfl rfl rfl (cmp_isNaN_int.calls a0 false _ A3.out) (by (try simp only [mA, mB, mC]); first | done | rfl | (simp only [List.length_drop, List.length_take]; rfl)) fun nd => ?_) | ((with_reducible refine gc_ 69 rfl ?_); refine cD_ E69 10 rfl rfl rfl (cmp_isNaN_int.calls a1 true _ A4.out) (by simp only [mA, mB, mC]; rfl) fun nd => ?_))
  go_ret
  exact ⟨by rfl, by repeat (first | exact Drawn0.refl _ | apply Drawn0.step)⟩
 replace c7 := Bool.eq_false_iff.mpr c7; subst c7; rw [if_neg nf_] at H
 by_cases c8 : a0 < a1
 ·rw [if_pos c8] at H; have c8b0 := decide_eq_true c8; clear c8; obtain rfl := Option.some.inj H; go_enter Tryz.func57, Tryz.ntmps57
  go_wp2_with (first | ((with_reducible refine gc_ 69 rfl ?_); refine cD_ E69 8 rfl rfl rfl (cmp_isNaN_int.calls a0 false _ A3.out) (by (try simp only [mA, mB, mC]); first | done | rfl | (simp only [List.length_drop, List.length_take]; rfl)) fun nd => ?_) | ((with_reducible refine gc_ 69 rfl ?_); refine cD_ E69 10 rfl rfl rfl (cmp_isNaN_int.calls a1 false _ A4.out) (by simp only [mA, mB, mC]; rfl) fun nd => ?_))
  go_ret
  exact ⟨by rfl, by repeat (first | exact Drawn0.refl _ | apply Drawn0.step)⟩
 rw [if_neg c8] at H; have c8b0 := decide_eq_false c8; clear c8
 by_cases c9 : a0 > a1
 ·rw [if_pos c9] at H
  have c9b0 : decide (a1 < a0) = true := decide_eq_true c9
  clear c9; obtain rfl := Option.some.inj H; go_enter Tryz.func57, Tryz.ntmps57
  go_wp2_with (first | ((with_reducible refine gc_ 69 rfl ?_); refine cD_ E69 8 rfl rfl rfl (cmp_isNaN_int.calls a0 false _ A3.out) (by (try simp only [mA, mB, mC]); first | done | rfl | (simp only [List.length_drop, List.length_take]; rfl)) fun nd => ?_) | ((with_reducible refine gc_ 69 rfl ?_); refine cD_ E69 10 rfl rfl rfl (cmp_isNaN_int.calls a1 false _ A4.out) (by simp only [mA, mB, mC]; rfl) fun nd => ?_))
  go_ret
  exact ⟨by rfl, by repeat (first | exact Drawn0.refl _ | apply Drawn0.step)⟩
 rw [if_neg c9] at H
 have c9b0 : decide (a1 < a0) = false := decide_eq_false c9
 clear c9; obtain rfl := Option.some.inj H; go_enter Tryz.func57, Tryz.ntmps57
 go_wp2_with (first | ((with_reducible refine gc_ 69 rfl ?_); refine cD_ E69 8 rfl rfl rfl (cmp_isNaN_int.calls a0 false _ A3.out) (by (try simp only [mA, mB, mC]); first | done | rfl | (simp only [List.length_drop, List.length_take]; rfl)) fun nd => ?_) | ((with_reducible refine gc_ 69 rfl ?_); refine cD_ E69 10 rfl rfl rfl (cmp_isNaN_int.calls a1 false _ A4.out) (by simp only [mA, mB, mC]; rfl) fun nd => ?_))
 go_ret
 exact ⟨by rfl, by repeat (first | exact Drawn0.refl _ | apply Drawn0.step)⟩

def slices_Compare_int_int.l0 : Nat → List Int → List Int → List Int → Int → Int → Option (Int)
 | 0, _, _, _, _, _ => none
 | k + 1, x0, x1, x9, x10, x11 => if x11 < x10 then (if 0 ≤ x11 then (if x11 < (x9.length : Int) then (if x11 ≥ (x1.length : Int) then (some 1) else (if x11 < (x1.length : Int) then ((cmp_Compare_int.f (rd x9 x11) (rd x1 x11)).bind fun t106 => (if t106 = 0 then (slices_Compare_int_int.l0 k x0 x1 x9 x10 (wrap64 (x11 + 1))) else (some t106))) else (none))) else (none)) else (none)) else (if (x0.length : Int) < (x1.length : Int) then (some (-1)) else (some 0))
def slices_Compare_int_int.f (k : Nat) (l0 : List Int) (l1 : List Int) : Option (Int) := slices_Compare_int_int.l0 k l0 l1 l0 (l0.length : Int) 0
theorem slices_Compare_int_int.calls (k : Nat) (A0 : Option Addr) (c0 : Nat) (l0 : List Int) (A1 : Option Addr) (c1 : Nat) (l1 : List Int) (r : Int) (w : World) (hr0 : Kd.C (Kd.int .i64) w A0 l0.length l0) (hc0 : l0.length ≤ c0) (hr1 : Kd.C (Kd.int .i64) w A1 l1.length l1) (hc1 : l1.length ≤ c1) (h : slices_Compare_int_int.f k l0 l1 = some r) :
  Calls Tryz.prog 58 #[.slice A0 l0.length c0, .slice A1 l1.length c1] w fun e w' => e = .returned (.int .i64 r) ∧ Drawn0 w w' := by
 have HR0 := A_ hr0; clear hr0 hc0; have HR1 := A_ hr1; clear hr1 hc1; unfold slices_Compare_int_int.f at h; have H := h; clear h
 have H' := A_ H
 clear H; go_enter Tryz.func58, Tryz.ntmps58
 go_wp2
 go_loopg [11] k (fun kq v11 w' => ∃ (x11_1 : Int), v11 = .int .i64 x11_1 ∧ Aside0 (slices_Compare_int_int.l0 kq l0 l1 l0 (l0.length : Int) x11_1 = some r) ∧ Aside0 (kq ≤ k) ∧ Drawn0 w w')
 case atStart => exact ⟨(0), (by rfl), H', ⟨Nat.le_refl _⟩, by repeat (first | exact Drawn0.refl _ | apply Drawn0.step)⟩
 case round =>
  clear H'; obtain ⟨x11_1, rfl, HA, HK1, ⟨m1, rfl⟩⟩ := hrel
  cases gk with
  | zero => exact absurd HA.out (by simp [slices_Compare_int_int.l0])
  | succ k1 =>
   have H := HA.out; clear HA; simp only [slices_Compare_int_int.l0] at H
   by_cases c3 : x11_1 < (l0.length : Int)
   ·rw [if_pos c3] at H; have c3b0 := decide_eq_true c3; clear c3
    by_cases c4 : 0 ≤ x11_1
    ·rw [if_pos c4] at H; have c4b0 := decide_eq_true c4; clear c4
     by_cases c5 : x11_1 < (l0.length : Int)
     ·rw [if_pos c5] at H; have c5b0 := decide_eq_true c5; clear c5
      by_cases c6 : x11_1 ≥ (l1.length : Int)
      ·rw [if_pos c6] at H
       have c6b0 : decide ((l1.length : Int) ≤ x11_1) = true := decide_eq_true c6
       clear c6; obtain rfl := Option.some.inj H
       have p104 : 0 ≤ (x11_1 : Int) := od_ (by assumption)
       have q104 : x11_1 < (l0.length : Int) := od_ (by assumption)
       obtain ⟨ad104, e104, hx104_0⟩ := Kd.at_int HR0.out x11_1 p104 q104
       cases e104
       replace p104 := eq_true p104; replace q104 := eq_true q104
       go_wp2
       go_ret
       exact ⟨by rfl, by repeat (first | exact Drawn0.refl _ | apply Drawn0.step)⟩
      rw [if_neg c6] at H
      have c6b0 : decide ((l1.length : Int) ≤ x11_1) = false := decide_eq_false c6
      clear c6
      by_cases c7 : x11_1 < (l1.length : Int)
      ·rw [if_pos c7] at H; have c7b0 := decide_eq_true c7; clear c7; replace H := bA_ H; obtain ⟨t106, A8, H⟩ := H
       by_cases c9 : t106 = 0
       ·rw [if_pos c9] at H
        have c9b1 : (t106 != 0) = false := bne_eq_false_iff_eq.mpr c9
        clear c9
        have H' := A_ H
        clear H
        have p104 : 0 ≤ (x11_1 : Int) := od_ (by assumption)
        have q104 : x11_1 < (l0.length : Int) := od_ (by assumption)
        obtain ⟨ad104, e104, hx104_0⟩ := Kd.at_int HR0.out x11_1 p104 q104
        cases e104
        replace p104 := eq_true p104; replace q104 := eq_true q104
        have p105 : 0 ≤ (x11_1 : Int) := od_ (by assumption)
        have q105 : x11_1 < (l1.length : Int) := od_ (by assumption)
        obtain ⟨ad105, e105, hx105_0⟩ := Kd.at_int HR1.out x11_1 p105 q105
        cases e105
        replace p105 := eq_true p105; replace q105 := eq_true q105
        go_wp2_with (first | ((with_reducible refine gc_ 57 rfl ?_); refine cD_ E57 26 rfl rfl rfl (cmp_Compare_int.calls (rd l0 x11_1) (rd l1 x11_1) t106 _ A8.out) (by simp only [mA, mB, mC]; rfl) fun nd => ?_))
        go_roundg k1
        case measure => have := HK1.out; omega
        case rel => exact ⟨(wrap64 (x11_1 + 1)), (by rfl), H', ⟨by have := HK1.out; omega⟩, by repeat (first | exact Drawn0.refl _ | apply Drawn0.step)⟩
       rw [if_neg c9] at H
       have c9b1 : (t106 != 0) = true := bne_iff_ne.mpr c9
       obtain rfl := Option.some.inj H
       have p104 : 0 ≤ (x11_1 : Int) := od_ (by assumption)
       have q104 : x11_1 < (l0.length : Int) := od_ (by assumption)
       obtain ⟨ad104, e104, hx104_0⟩ := Kd.at_int HR0.out x11_1 p104 q104
       cases e104
       replace p104 := eq_true p104; replace q104 := eq_true q104
       have p105 : 0 ≤ (x11_1 : Int) := od_ (by assumption)
       have q105 : x11_1 < (l1.length : Int) := od_ (by assumption)
       obtain ⟨ad105, e105, hx105_0⟩ := Kd.at_int HR1.out x11_1 p105 q105
       cases e105
       replace p105 := eq_true p105; replace q105 := eq_true q105
       go_wp2_with (first | ((with_reducible refine gc_ 57 rfl ?_); refine cD_ E57 26 rfl rfl rfl (cmp_Compare_int.calls (rd l0 x11_1) (rd l1 x11_1) t106 _ A8.out) (by simp only [mA, mB, mC]; rfl) fun nd => ?_))
       go_ret
       exact ⟨by rfl, by repeat (first | exact Drawn0.refl _ | apply Drawn0.step)⟩
      rw [if_neg c7] at H
      cases H
     rw [if_neg c5] at H
     cases H
    rw [if_neg c4] at H
    cases H
   rw [if_neg c3] at H; have c3b0 := decide_eq_false c3; clear c3
   by_cases c10 : (l0.length : Int) < (l1.length : Int)
   ·rw [if_pos c10] at H
    have c10b1 : decide (l0.length < l1.length) = true := decide_eq_true (Int.ofNat_lt.mp c10)
    clear c10; obtain rfl := Option.some.inj H
    go_wp2
    go_ret
    exact ⟨by rfl, by repeat (first | exact Drawn0.refl _ | apply Drawn0.step)⟩
   rw [if_neg c10] at H
   have c10b1 : decide (l0.length < l1.length) = false := decide_eq_false (fun h => c10 (Int.ofNat_lt.mpr h))
   clear c10; obtain rfl := Option.some.inj H
   go_wp2
   go_ret
   exact ⟨by rfl, by repeat (first | exact Drawn0.refl _ | apply Drawn0.step)⟩

def laws_big.f (l0 : List Int) : Option (Bool) := some (decide ((l0.length : Int) > 1048576))
theorem laws_big.calls (A0 : Option Addr) (c0 : Nat) (l0 : List Int) (r : Bool) (w : World) (hr0 : Kd.C (Kd.int .u8) w A0 l0.length l0) (hc0 : l0.length ≤ c0) (h : laws_big.f l0 = some r) :
  Calls Tryz.prog 4 #[.slice A0 l0.length c0] w fun e w' => e = .returned (.bool r) ∧ Drawn0 w w' := by
 clear hr0 hc0; unfold laws_big.f at h; have H := h; clear h; obtain rfl := Option.some.inj H; go_enter Tryz.func4, Tryz.ntmps4
 go_wp2
 go_ret
 exact ⟨by rfl, by repeat (first | exact Drawn0.refl _ | apply Drawn0.step)⟩

def spec_l1In.f (a0 : Int) (a1 : Int) (a2 : Int) : Option (Bool) := if a0 ≥ a1 then (some (decide (a0 ≤ a2))) else (some false)
theorem spec_l1In.calls (a0 : Int) (a1 : Int) (a2 : Int) (r : Bool) (w : World) (h : spec_l1In.f a0 a1 a2 = some r) :
  Calls Tryz.prog 36 #[.int .i64 a0, .int .i64 a1, .int .i64 a2] w fun e w' => e = .returned (.bool r) ∧ Drawn0 w w' := by
 unfold spec_l1In.f at h; have H := h; clear h
 by_cases c4 : a0 ≥ a1
 ·rw [if_pos c4] at H
  have c4b0 : decide (a1 ≤ a0) = true := decide_eq_true c4
  clear c4; obtain rfl := Option.some.inj H; go_enter Tryz.func36, Tryz.ntmps36
  go_wp2
  go_ret
  exact ⟨by rfl, by repeat (first | exact Drawn0.refl _ | apply Drawn0.step)⟩
 rw [if_neg c4] at H
 have c4b0 : decide (a1 ≤ a0) = false := decide_eq_false c4
 clear c4; obtain rfl := Option.some.inj H; go_enter Tryz.func36, Tryz.ntmps36
 go_wp2
 go_ret
 exact ⟨by rfl, by repeat (first | exact Drawn0.refl _ | apply Drawn0.step)⟩

def spec_FibonacciNumber.l0 : Nat → Int → Int → Int → Int → Option (Int)
 | 0, _, _, _, _ => none
 | k + 1, x0, x3, x4, x5 => if x5 < x0 then (spec_FibonacciNumber.l0 k x0 x4 (wrap64 (x3 + x4)) (wrap64 (x5 + 1))) else (some x3)
def spec_FibonacciNumber.f (k : Nat) (a0 : Int) : Option (Int) := (spec_l1In.f a0 0 40).bind fun t107 => (if t107 = true then (spec_FibonacciNumber.l0 k a0 1 2 0) else (some 0))
theorem spec_FibonacciNumber.calls (k : Nat) (a0 : Int) (r : Int) (w : World) (h : spec_FibonacciNumber.f k a0 = some r) :
  Calls Tryz.prog 48 #[.int .i64 a0] w fun e w' => e = .returned (.int .i64 r) ∧ Drawn0 w w' := by
 unfold spec_FibonacciNumber.f at h; have H := h; clear h; replace H := bA_ H; obtain ⟨t107, A2, H⟩ := H
 by_cases c3 : t107 = true
 ·subst c3; rw [if_pos rfl] at H
  have H' := A_ H
  clear H; go_enter Tryz.func48, Tryz.ntmps48
  go_wp2_with (first | ((with_reducible refine gc_ 36 rfl ?_); refine cD_ E36 8 rfl rfl rfl (spec_l1In.calls a0 0 40 true _ A2.out) (by simp only [mA, mB, mC]; rfl) fun nd => ?_))
  go_loopg [3, 4, 5] k (fun kq v3 v4 v5 w' => ∃ (x3_1 : Int) (x4_1 : Int) (x5_1 : Int), v3 = .int .i64 x3_1 ∧ v4 = .int .i64 x4_1 ∧ v5 = .int .i64 x5_1 ∧ Aside0 (spec_FibonacciNumber.l0 kq a0 x3_1 x4_1 x5_1 = some r) ∧ Aside0 (kq ≤ k) ∧ Drawn0 w w')
  case atStart => exact ⟨(1), (2), (0), (by rfl), (by rfl), (by rfl), H', ⟨Nat.le_refl _⟩, by repeat (first | exact Drawn0.refl _ | apply Drawn0.step)⟩
  case round =>
   clear H'; obtain ⟨x3_1, x4_1, x5_1, rfl, rfl, rfl, HA, HK1, ⟨m1, rfl⟩⟩ := hrel
   cases gk with
   | zero => exact absurd HA.out (by simp [spec_FibonacciNumber.l0])
   | succ k1 =>
    have H := HA.out; clear HA; simp only [spec_FibonacciNumber.l0] at H
    by_cases c4 : x5_1 < a0
    ·rw [if_pos c4] at H; have c4b0 := decide_eq_true c4; clear c4
     have H' := A_ H
     clear H
     go_wp2
     go_roundg k1
     case measure => have := HK1.out; omega
     case rel => exact ⟨(x4_1), (wrap64 (x3_1 + x4_1)), (wrap64 (x5_1 + 1)), (by rfl), (by rfl), (by rfl), H', ⟨by have := HK1.out; omega⟩, by repeat (first | exact Drawn0.refl _ | apply Drawn0.step)⟩
    rw [if_neg c4] at H; have c4b0 := decide_eq_false c4; clear c4; obtain rfl := Option.some.inj H
    go_wp2
    go_ret
    exact ⟨by rfl, by repeat (first | exact Drawn0.refl _ | apply Drawn0.step)⟩
 replace c3 := Bool.eq_false_iff.mpr c3; subst c3; rw [if_neg nf_] at H; obtain rfl := Option.some.inj H; go_enter Tryz.func48, Tryz.ntmps48
 go_wp2_with (first | ((with_reducible refine gc_ 36 rfl ?_); refine cD_ E36 8 rfl rfl rfl (spec_l1In.calls a0 0 40 false _ A2.out) (by simp only [mA, mB, mC]; rfl) fun nd => ?_))
 go_ret
 exact ⟨by rfl, by repeat (first | exact Drawn0.refl _ | apply Drawn0.step)⟩

mutual
def spec_ZeckendorfOf.j0 : Nat → Int → List Int → Bool → Option (List Int)
 | 0, _, _, _ => none
 | k + 1, x0, x3, x12 => if x12 = true then (some x3) else (spec_ZeckendorfOf.l0 k x0 x3 39)
def spec_ZeckendorfOf.l0 : Nat → Int → List Int → Int → Option (List Int)
 | 0, _, _, _ => none
 | k + 1, x0, x3, x4 => if x4 ≥ 0 then ((spec_FibonacciNumber.f k x4).bind fun t112 => (if x0 ≥ t112 then ((spec_FibonacciNumber.f k x4).bind fun t113 => (if x3.length < 17592186044416 then (spec_ZeckendorfOf.l0 k (wrap64 (x0 - t113)) (x3 ++ [1]) (wrap64 (x4 - 1))) else (none))) else (if (x3.length : Int) > 0 then (if x3.length < 17592186044416 then (spec_ZeckendorfOf.l0 k x0 (x3 ++ [0]) (wrap64 (x4 - 1))) else (none)) else (spec_ZeckendorfOf.l0 k x0 x3 (wrap64 (x4 - 1)))))) else (some x3)
end
def spec_ZeckendorfOf.f (k : Nat) (a0 : Int) : Option (List Int) := (some (([] : List Int) : List Int)).bind fun y108 => (if a0 < 0 then (spec_ZeckendorfOf.j0 k a0 y108 true) else ((spec_FibonacciNumber.f k 40).bind fun t111 => (spec_ZeckendorfOf.j0 k a0 y108 (decide (a0 ≥ t111)))))
theorem spec_ZeckendorfOf.calls (k : Nat) (a0 : Int) (r : List Int) (w : World) (h : spec_ZeckendorfOf.f k a0 = some r) :
  Calls Tryz.prog 49 #[.int .i64 a0] w fun e w' => ∃ v0_ : Value, e = .returned (v0_) ∧ Kd.R (Kd.int .i64) 3 w' w.heap.size (fun _ => True) v0_ r ∧ Below w.heap.size w w' := by
 have HB := A_ (Below.refl w.heap.size w); unfold spec_ZeckendorfOf.f at h; have H := h; clear h; obtain ⟨y108, hy108⟩ := ex_ ((([] : List Int)) : List Int); replace H : (if a0 < 0 then (spec_ZeckendorfOf.j0 k a0 y108 true) else ((spec_FibonacciNumber.f k 40).bind fun t111 => (spec_ZeckendorfOf.j0 k a0 y108 (decide (a0 ≥ t111))))) = some r := by (have H2_ := (Option.bind_some _ _).symm.trans H; rw [hy108]; with_reducible exact H2_)
 have Ny108 := A_ hy108; clear hy108; have HC2 := A_ H; clear H; go_enter Tryz.func49, Tryz.ntmps49
 go_upto_region 2 with (first | ((with_reducible refine gd_ 5 rfl ?_); refine RL_ 5 3 [] [] rfl rfl (by go_simp; done) rfl rfl ?_; rintro v109 w3 ho4 hb - -; (rw [← Ny108.out] at ho4); have HO110 := A_ (Kd.R_lower ho4 (below_size HB.out)); replace HB := bs_ HB hb; clear hb ho4))
 (try simp only [Act.put, mD, mE, mF])
 go_cut [12] (fun v12 wc => ∃ (kq : Nat) (x12_1 : Bool), v12 = .bool x12_1 ∧ Aside0 (spec_ZeckendorfOf.j0 kq a0 y108 x12_1 = some r) ∧ Aside0 (kq ≤ k) ∧ Aside0 (Kd.R (Kd.int .i64) 3 wc w.heap.size (fun _ => True) v109 y108) ∧ Aside0 (Below w.heap.size w wc))
 case first =>
  have H := HC2.out; clear HC2
  by_cases c5 : a0 < 0
  ·rw [if_pos c5] at H; have c5b0 := decide_eq_true c5; clear c5
   (skip)
   have H' := A_ H
   clear H
   go_wp2
   go_meet
   case rel => exact ⟨_, (true), (by rfl), H', ⟨by omega⟩, ⟨HO110.out⟩, ⟨HB.out⟩⟩
  rw [if_neg c5] at H; have c5b0 := decide_eq_false c5; clear c5
  (skip)
  replace H := bA_ H; obtain ⟨t111, A6, H⟩ := H
  have H' := A_ H
  clear H
  go_wp2_with (first | (go_at_call 48; (with_reducible refine (spec_FibonacciNumber.calls k 40 t111 _ A6.out).mono ?_); rintro e w' ⟨rfl, ⟨nd, rfl⟩⟩))
  go_meet
  case rel => exact ⟨_, (decide (a0 ≥ t111)), (by rfl), H', ⟨by omega⟩, ⟨by (with_reducible repeat (first | apply Kd.R_alloc | apply Kd.R_drewN | apply Kd.R_drew)); exact HO110.out⟩, ⟨by repeat (first | (with_reducible first | exact HB.out | apply below_alloc | apply pw_below_drewN | apply below_drew1) | exact HB.out)⟩⟩
 case rest =>
  clear HC2; obtain ⟨kq, x12_1, rfl, HA, HJ1, HO_3, HB⟩ := hcut
  cases kq with
  | zero => exact absurd HA.out (by simp [spec_ZeckendorfOf.j0])
  | succ kj1 =>
   have H := HA.out; clear HA; simp only [spec_ZeckendorfOf.j0] at H
   by_cases c7 : x12_1 = true
   ·subst c7; rw [if_pos rfl] at H; obtain rfl := Option.some.inj H
    go_wp2
    go_ret
    exact ⟨_, by rfl, HO_3.out, HB.out⟩
   replace c7 := Bool.eq_false_iff.mpr c7; subst c7; rw [if_neg nf_] at H
   have H' := A_ H
   clear H
   go_wp2
   go_loopg [0, 3, 4] kj1 (fun kq v0 v3 v4 w' => ∃ (x0_2 : Int) (x3_2 : List Int) (x4_2 : Int), v0 = .int .i64 x0_2 ∧ v4 = .int .i64 x4_2 ∧ Aside0 (spec_ZeckendorfOf.l0 kq x0_2 x3_2 x4_2 = some r) ∧ Aside0 (kq ≤ kj1) ∧ Aside0 (Kd.R (Kd.int .i64) 3 w' w.heap.size (fun _ => True) v3 x3_2) ∧ Aside0 (Below w.heap.size w w'))
   case atStart => exact ⟨(a0), (y108), (39), (by rfl), (by rfl), H', ⟨Nat.le_refl _⟩, ⟨HO_3.out⟩, ⟨HB.out⟩⟩
   case round =>
    clear H'; obtain ⟨x0_2, x3_2, x4_2, rfl, rfl, HA, HK2, HO_3, HB⟩ := hrel
    cases gk with
    | zero => exact absurd HA.out (by simp [spec_ZeckendorfOf.l0])
    | succ k2 =>
     have H := HA.out; clear HA; simp only [spec_ZeckendorfOf.l0] at H
     by_cases c8 : x4_2 ≥ 0
     ·rw [if_pos c8] at H
      have c8b0 : decide (0 ≤ x4_2) = true := decide_eq_true c8
      clear c8; replace H := bA_ H; obtain ⟨t112, A9, H⟩ := H
      by_cases c10 : x0_2 ≥ t112
      ·rw [if_pos c10] at H
       have c10b0 : decide (t112 ≤ x0_2) = true := decide_eq_true c10
       clear c10; replace H := bA_ H; obtain ⟨t113, A11, H⟩ := H
       by_cases c12 : x3_2.length < 17592186044416
       ·rw [if_pos c12] at H; have LMc12 := A_ c12; clear c12; obtain ⟨y114, hy114⟩ := ex_ ((x3_2 ++ [1]) : List Int); replace H : (spec_ZeckendorfOf.l0 k2 (wrap64 (x0_2 - t113)) y114 (wrap64 (x4_2 - 1))) = some r := by (rw [hy114]; with_reducible exact H)
        have Ny114 := A_ hy114; clear hy114
        have H' := A_ H
        clear H
        go_wp2_with (first | ((with_reducible refine gc_ 48 rfl ?_); refine cD_ E48 20 rfl rfl rfl (spec_FibonacciNumber.calls k2 x4_2 t112 _ A9.out) (by simp only [mA, mB, mC]; rfl) fun nd => ?_) | ((with_reducible refine gc_ 48 rfl ?_); refine cD_ E48 24 rfl rfl rfl (spec_FibonacciNumber.calls k2 x4_2 t113 _ A11.out) (by simp only [mA, mB, mC]; rfl) fun nd => ?_) | ((with_reducible refine gate_builtin (b := .append) (xs := #[.tmp 26, .tmp 27]) rfl ?_); at_builtin; refine Kd.R_append (Kd.int .i64) (w0 := w) w.heap.size rfl (.tmp 26) (.tmp 27) 24 3 (.int .i64 0) 8 rfl Tryz.underlying24 info3 rfl (by decide) (by omega) u3 x3_2 1 [.int .i64 1] (fun _ => True) (fun _ => False) rfl rfl ?aP (fun _ hk => hk.elim) ?aF ?aO ?aB ?aS ?aL ?_; (case aP => exact rfl); (case aB => exact (by repeat (first | (with_reducible first | exact HB.out | apply below_alloc | apply pw_below_drewN | apply below_drew1) | exact HB.out))); (case aF => exact (fun _ _ => trivial)); (case aO => exact (by (with_reducible repeat (first | apply Kd.R_alloc | apply Kd.R_drewN | apply Kd.R_drew)); exact HO_3.out)); (case aS => exact (below_size (by repeat (first | (with_reducible first | exact HB.out | apply below_alloc | apply pw_below_drewN | apply below_drew1) | exact HB.out)))); (case aL => have := LMc12.out; omega); intro v115 w13 ho hb hg hat; rw [← Ny114.out] at ho; replace HB := A_ (hb); have HO116 := A_ (ho); clear HO_3; clear ho hb hg hat))
        go_roundg k2
        case measure => have := HJ1.out; have := HK2.out; omega
        case rel => exact ⟨(wrap64 (x0_2 - t113)), (y114), (wrap64 (x4_2 - 1)), (by rfl), (by rfl), H', ⟨by have := HJ1.out; have := HK2.out; omega⟩, ⟨HO116.out⟩, ⟨HB.out⟩⟩
       rw [if_neg c12] at H
       cases H
      rw [if_neg c10] at H
      have c10b0 : decide (t112 ≤ x0_2) = false := decide_eq_false c10
      clear c10
      by_cases c14 : (x3_2.length : Int) > 0
      ·rw [if_pos c14] at H
       have c14b0 : decide (0 < (x3_2.length : Int)) = true := decide_eq_true c14
       have c14b1 : decide (0 < x3_2.length) = true := decide_eq_true (by omega)
       clear c14
       by_cases c15 : x3_2.length < 17592186044416
       ·rw [if_pos c15] at H; have LMc15 := A_ c15; clear c15; obtain ⟨y117, hy117⟩ := ex_ ((x3_2 ++ [0]) : List Int); replace H : (spec_ZeckendorfOf.l0 k2 x0_2 y117 (wrap64 (x4_2 - 1))) = some r := by (rw [hy117]; with_reducible exact H)
        have Ny117 := A_ hy117; clear hy117
        have H' := A_ H
        clear H
        go_wp2_with (first | ((with_reducible refine gc_ 48 rfl ?_); refine cD_ E48 20 rfl rfl rfl (spec_FibonacciNumber.calls k2 x4_2 t112 _ A9.out) (by simp only [mA, mB, mC]; rfl) fun nd => ?_; obtain ⟨Ao16, co16, eo16⟩ := Kd.R_slice HO_3.out; subst eo16) | ((with_reducible refine gate_builtin (b := .append) (xs := #[.tmp 32, .tmp 33]) rfl ?_); at_builtin; refine Kd.R_append (Kd.int .i64) (w0 := w) w.heap.size rfl (.tmp 32) (.tmp 33) 24 3 (.int .i64 0) 8 rfl Tryz.underlying24 info3 rfl (by decide) (by omega) (.slice Ao16 x3_2.length co16) x3_2 0 [.int .i64 0] (fun _ => True) (fun _ => False) rfl rfl ?aP (fun _ hk => hk.elim) ?aF ?aO ?aB ?aS ?aL ?_; (case aP => exact rfl); (case aB => exact (by repeat (first | (with_reducible first | exact HB.out | apply below_alloc | apply pw_below_drewN | apply below_drew1) | exact HB.out))); (case aF => exact (fun _ _ => trivial)); (case aO => exact (by (with_reducible repeat (first | apply Kd.R_alloc | apply Kd.R_drewN | apply Kd.R_drew)); exact HO_3.out)); (case aS => exact (below_size (by repeat (first | (with_reducible first | exact HB.out | apply below_alloc | apply pw_below_drewN | apply below_drew1) | exact HB.out)))); (case aL => have := LMc15.out; omega); intro v118 w17 ho hb hg hat; rw [← Ny117.out] at ho; replace HB := A_ (hb); have HO119 := A_ (ho); clear HO_3; clear ho hb hg hat))
        go_roundg k2
        case measure => have := HJ1.out; have := HK2.out; omega
        case rel => exact ⟨(x0_2), (y117), (wrap64 (x4_2 - 1)), (by rfl), (by rfl), H', ⟨by have := HJ1.out; have := HK2.out; omega⟩, ⟨HO119.out⟩, ⟨HB.out⟩⟩
       rw [if_neg c15] at H
       cases H
      rw [if_neg c14] at H
      have c14b1 : decide (0 < x3_2.length) = false := decide_eq_false (by omega)
      clear c14
      have H' := A_ H
      clear H
      go_wp2_with (first | ((with_reducible refine gc_ 48 rfl ?_); refine cD_ E48 20 rfl rfl rfl (spec_FibonacciNumber.calls k2 x4_2 t112 _ A9.out) (by simp only [mA, mB, mC]; rfl) fun nd => ?_; obtain ⟨Ao18, co18, eo18⟩ := Kd.R_slice HO_3.out; subst eo18))
      go_roundg k2
      case measure => have := HJ1.out; have := HK2.out; omega
      case rel => exact ⟨(x0_2), (x3_2), (wrap64 (x4_2 - 1)), (by rfl), (by rfl), H', ⟨by have := HJ1.out; have := HK2.out; omega⟩, ⟨by (with_reducible repeat (first | apply Kd.R_alloc | apply Kd.R_drewN | apply Kd.R_drew)); exact HO_3.out⟩, ⟨by repeat (first | (with_reducible first | exact HB.out | apply below_alloc | apply pw_below_drewN | apply below_drew1) | exact HB.out)⟩⟩
     rw [if_neg c8] at H
     have c8b0 : decide (0 ≤ x4_2) = false := decide_eq_false c8
     clear c8; obtain rfl := Option.some.inj H
     go_wp2
     go_ret
     exact ⟨_, by rfl, HO_3.out, HB.out⟩
def spec_FibonacciLetter.j0 : Nat → Int → Bool → Option (Int)
 | 0, _, _ => none
 | k + 1, x0, x10 => if x10 = true then (some (-1)) else ((spec_ZeckendorfOf.f k x0).bind fun t121 => (if (t121.length : Int) > 0 then (if 0 ≤ (wrap64 ((t121.length : Int) - 1)) then (if (wrap64 ((t121.length : Int) - 1)) < (t121.length : Int) then (if (rd t121 (wrap64 ((t121.length : Int) - 1))) = 1 then (some 1) else (some 0)) else (none)) else (none)) else (some 0)))
def spec_FibonacciLetter.f (k : Nat) (a0 : Int) : Option (Int) := if a0 < 0 then (spec_FibonacciLetter.j0 k a0 true) else ((spec_FibonacciNumber.f k 40).bind fun t120 => (spec_FibonacciLetter.j0 k a0 (decide (a0 ≥ t120))))
theorem spec_FibonacciLetter.calls (k : Nat) (a0 : Int) (r : Int) (w : World) (h : spec_FibonacciLetter.f k a0 = some r) :
  Calls Tryz.prog 38 #[.int .i64 a0] w fun e w' => e = .returned (.int .i64 r) ∧ Below w.heap.size w w' := by
 have HB := A_ (Below.refl w.heap.size w); unfold spec_FibonacciLetter.f at h; have H := h; clear h; have HC2 := A_ H; clear H; go_enter Tryz.func38, Tryz.ntmps38
 go_upto_region 1 with (fail)
 go_cut [10] (fun v10 wc => ∃ (kq : Nat) (x10_1 : Bool), v10 = .bool x10_1 ∧ Aside0 (spec_FibonacciLetter.j0 kq a0 x10_1 = some r) ∧ Aside0 (kq ≤ k) ∧ Aside0 (Below w.heap.size w wc))
 case first =>
  have H := HC2.out; clear HC2
  by_cases c3 : a0 < 0
  ·rw [if_pos c3] at H; have c3b0 := decide_eq_true c3; clear c3
   (skip)
   have H' := A_ H
   clear H
   go_wp2
   go_meet
   case rel => exact ⟨_, (true), (by rfl), H', ⟨by omega⟩, ⟨HB.out⟩⟩
  rw [if_neg c3] at H; have c3b0 := decide_eq_false c3; clear c3
  (skip)
  replace H := bA_ H; obtain ⟨t120, A4, H⟩ := H
  have H' := A_ H
  clear H
  go_wp2_with (first | (go_at_call 48; (with_reducible refine (spec_FibonacciNumber.calls k 40 t120 _ A4.out).mono ?_); rintro e w' ⟨rfl, ⟨nd, rfl⟩⟩))
  go_meet
  case rel => exact ⟨_, (decide (a0 ≥ t120)), (by rfl), H', ⟨by omega⟩, ⟨by repeat (first | (with_reducible first | exact HB.out | apply below_alloc | apply pw_below_drewN | apply below_drew1) | exact HB.out)⟩⟩
 case rest =>
  clear HC2; obtain ⟨kq, x10_1, rfl, HA, HJ1, HB⟩ := hcut
  cases kq with
  | zero => exact absurd HA.out (by simp [spec_FibonacciLetter.j0])
  | succ kj1 =>
   have H := HA.out; clear HA; simp only [spec_FibonacciLetter.j0] at H
   by_cases c5 : x10_1 = true
   ·subst c5; rw [if_pos rfl] at H; obtain rfl := Option.some.inj H
    go_wp2
    go_ret
    exact ⟨by rfl, HB.out⟩
   replace c5 := Bool.eq_false_iff.mpr c5; subst c5; rw [if_neg nf_] at H; replace H := bA_ H; obtain ⟨t121, A6, H⟩ := H
   by_cases c7 : (t121.length : Int) > 0
   ·rw [if_pos c7] at H
    have c7b1 : decide (0 < t121.length) = true := decide_eq_true (by omega)
    clear c7; obtain ⟨ji8, hji8⟩ : ∃ j_ : Int, (wrap64 ((t121.length : Int) - 1)) = j_ := ⟨_, rfl⟩; replace H : (if 0 ≤ (ji8) then (if (ji8) < (t121.length : Int) then (if (rd t121 (ji8)) = 1 then (some 1) else (some 0)) else (none)) else (none)) = some r := by first | (rw [hji8] at H; exact H) | (simp only [hji8] at H ⊢; exact H)
    (try rw [hji8] at A6)
    have hji8w : (IntKind.i64.wrap ((t121.length : Int) - 1)) = ji8 := (i64_w _).trans hji8
    by_cases c9 : 0 ≤ (ji8)
    ·rw [if_pos c9] at H; have c9b0 := decide_eq_true c9; clear c9
     by_cases c10 : (ji8) < (t121.length : Int)
     ·rw [if_pos c10] at H; have c10b0 := decide_eq_true c10; clear c10
      by_cases c11 : (rd t121 (ji8)) = 1
      ·rw [if_pos c11] at H
       have c11b0 : ((rd t121 (ji8)) == 1) = true := beq_iff_eq.mpr c11
       clear c11; obtain rfl := Option.some.inj H
       go_wp2_with (first | ((with_reducible refine gc_ 49 rfl ?_); refine cL_ E49 12 rfl rfl rfl (spec_ZeckendorfOf.calls kj1 a0 t121 _ A6.out) (by simp only [mA, mB, mC]; rfl) ?_; rintro e w12 ⟨v122, rfl, ho0, hb⟩; refine ⟨_, rfl, ?_⟩; have HO123 := A_ (Kd.R_lower ho0 (below_size HB.out)); replace HB := bs_ HB hb; clear hb ho0; obtain ⟨Ao13, co13, eo13⟩ := Kd.R_slice HO123.out; subst eo13; have p124 : 0 ≤ ((ji8) : Int) := od_ (by assumption); have q124 : (ji8) < (t121.length : Int) := od_ (by assumption); obtain ⟨ad124, e124, hx124_0⟩ := Kd.at_int (Kd.R_reads' HO123.out).2.2 (ji8) p124 q124; cases e124; replace p124 := eq_true p124; replace q124 := eq_true q124))
       go_ret
       exact ⟨by first | rfl | (simp [errW_none, errW_some] <;> rfl) | (simp only [← hji8]; first | rfl | (simp [errW_none, errW_some] <;> rfl)) | (simp [*, errW_none, errW_some] <;> rfl), HB.out⟩
      rw [if_neg c11] at H
      have c11b0 : ((rd t121 (ji8)) == 1) = false := beq_eq_false_iff_ne.mpr c11
      obtain rfl := Option.some.inj H
      go_wp2_with (first | ((with_reducible refine gc_ 49 rfl ?_); refine cL_ E49 12 rfl rfl rfl (spec_ZeckendorfOf.calls kj1 a0 t121 _ A6.out) (by simp only [mA, mB, mC]; rfl) ?_; rintro e w14 ⟨v122, rfl, ho0, hb⟩; refine ⟨_, rfl, ?_⟩; have HO123 := A_ (Kd.R_lower ho0 (below_size HB.out)); replace HB := bs_ HB hb; clear hb ho0; obtain ⟨Ao15, co15, eo15⟩ := Kd.R_slice HO123.out; subst eo15; have p124 : 0 ≤ ((ji8) : Int) := od_ (by assumption); have q124 : (ji8) < (t121.length : Int) := od_ (by assumption); obtain ⟨ad124, e124, hx124_0⟩ := Kd.at_int (Kd.R_reads' HO123.out).2.2 (ji8) p124 q124; cases e124; replace p124 := eq_true p124; replace q124 := eq_true q124))
      go_ret
      exact ⟨by first | rfl | (simp [errW_none, errW_some] <;> rfl) | (simp only [← hji8]; first | rfl | (simp [errW_none, errW_some] <;> rfl)) | (simp [*, errW_none, errW_some] <;> rfl), HB.out⟩
     rw [if_neg c10] at H
     cases H
    rw [if_neg c9] at H
    cases H
   rw [if_neg c7] at H
   have c7b1 : decide (0 < t121.length) = false := decide_eq_false (by omega)
   clear c7; obtain rfl := Option.some.inj H
   go_wp2_with (first | ((with_reducible refine gc_ 49 rfl ?_); refine cL_ E49 12 rfl rfl rfl (spec_ZeckendorfOf.calls kj1 a0 t121 _ A6.out) (by simp only [mA, mB, mC]; rfl) ?_; rintro e w16 ⟨v122, rfl, ho0, hb⟩; refine ⟨_, rfl, ?_⟩; have HO123 := A_ (Kd.R_lower ho0 (below_size HB.out)); replace HB := bs_ HB hb; clear hb ho0; obtain ⟨Ao17, co17, eo17⟩ := Kd.R_slice HO123.out; subst eo17))
   go_ret
   exact ⟨by rfl, HB.out⟩

def spec_FibonacciPrefix.l0 : Nat → Int → List Int → Int → Option (List Int)
 | 0, _, _, _ => none
 | k + 1, x0, x3, x4 => if x4 < x0 then (if x0 ≤ 256 then ((spec_FibonacciLetter.f k x4).bind fun t128 => (if x3.length < 17592186044416 then (spec_FibonacciPrefix.l0 k x0 (x3 ++ [t128]) (wrap64 (x4 + 1))) else (none))) else (some x3)) else (some x3)
def spec_FibonacciPrefix.f (k : Nat) (a0 : Int) : Option (List Int) := spec_FibonacciPrefix.l0 k a0 (([] : List Int)) 0
theorem spec_FibonacciPrefix.calls (k : Nat) (a0 : Int) (r : List Int) (w : World) (h : spec_FibonacciPrefix.f k a0 = some r) :
  Calls Tryz.prog 17 #[.int .i64 a0] w fun e w' => ∃ v0_ : Value, e = .returned (v0_) ∧ Kd.R (Kd.int .i64) 3 w' w.heap.size (fun _ => True) v0_ r ∧ Below w.heap.size w w' := by
 have HB := A_ (Below.refl w.heap.size w); unfold spec_FibonacciPrefix.f at h; have H := h; clear h; obtain ⟨y125, hy125⟩ := ex_ ((([] : List Int)) : List Int); replace H : (spec_FibonacciPrefix.l0 k a0 y125 0) = some r := by (rw [hy125]; with_reducible exact H)
 have Ny125 := A_ hy125; clear hy125
 have H' := A_ H
 clear H; go_enter Tryz.func17, Tryz.ntmps17
 go_wp2_with (first | ((with_reducible refine gd_ 5 rfl ?_); refine RL_ 5 3 [] [] rfl rfl (by go_simp; done) rfl rfl ?_; rintro v126 w2 ho3 hb - -; (rw [← Ny125.out] at ho3); have HO127 := A_ (Kd.R_lower ho3 (below_size HB.out)); replace HB := bs_ HB hb; clear hb ho3))
 go_loopg [3, 4] k (fun kq v3 v4 w' => ∃ (x3_1 : List Int) (x4_1 : Int), v4 = .int .i64 x4_1 ∧ Aside0 (spec_FibonacciPrefix.l0 kq a0 x3_1 x4_1 = some r) ∧ Aside0 (kq ≤ k) ∧ Aside0 (Kd.R (Kd.int .i64) 3 w' w.heap.size (fun _ => True) v3 x3_1) ∧ Aside0 (Below w.heap.size w w'))
 case atStart => exact ⟨(y125), (0), (by rfl), H', ⟨Nat.le_refl _⟩, ⟨HO127.out⟩, ⟨HB.out⟩⟩
 case round =>
  clear H'; obtain ⟨x3_1, x4_1, rfl, HA, HK1, HO_3, HB⟩ := hrel
  cases gk with
  | zero => exact absurd HA.out (by simp [spec_FibonacciPrefix.l0])
  | succ k1 =>
   have H := HA.out; clear HA; simp only [spec_FibonacciPrefix.l0] at H
   by_cases c4 : x4_1 < a0
   ·rw [if_pos c4] at H; have c4b0 := decide_eq_true c4; clear c4
    by_cases c5 : a0 ≤ 256
    ·rw [if_pos c5] at H; have c5b0 := decide_eq_true c5; clear c5; replace H := bA_ H; obtain ⟨t128, A6, H⟩ := H
     by_cases c7 : x3_1.length < 17592186044416
     ·rw [if_pos c7] at H; have LMc7 := A_ c7; clear c7; obtain ⟨y129, hy129⟩ := ex_ ((x3_1 ++ [t128]) : List Int); replace H : (spec_FibonacciPrefix.l0 k1 a0 y129 (wrap64 (x4_1 + 1))) = some r := by (rw [hy129]; with_reducible exact H)
      have Ny129 := A_ hy129; clear hy129
      have H' := A_ H
      clear H
      go_wp2_with (first | ((with_reducible refine gc_ 38 rfl ?_); refine cL_ E38 17 rfl rfl rfl (spec_FibonacciLetter.calls k1 x4_1 t128 _ A6.out) (by simp only [mA, mB, mC]; rfl) ?_; rintro e w8 ⟨rfl, hb⟩; refine ⟨_, rfl, ?_⟩; replace HO_3 := A_ (Kd.R_below HO_3.out hb); replace HB := bs_ HB hb; clear hb; (try clear hi)) | ((with_reducible refine gate_builtin (b := .append) (xs := #[.tmp 15, .tmp 18]) rfl ?_); at_builtin; refine Kd.R_append (Kd.int .i64) (w0 := w) w.heap.size rfl (.tmp 15) (.tmp 18) 24 3 (.int .i64 0) 8 rfl Tryz.underlying24 info3 rfl (by decide) (by omega) u3 x3_1 t128 [.int .i64 t128] (fun _ => True) (fun _ => False) rfl rfl ?aP (fun _ hk => hk.elim) ?aF ?aO ?aB ?aS ?aL ?_; (case aP => exact rfl); (case aB => exact HB.out); (case aF => exact (fun _ _ => trivial)); (case aO => exact HO_3.out); (case aS => exact (below_size HB.out)); (case aL => have := LMc7.out; omega); intro v130 w9 ho hb hg hat; rw [← Ny129.out] at ho; replace HB := A_ (hb); have HO131 := A_ (ho); clear HO_3; clear ho hb hg hat))
      go_roundg k1
      case measure => have := HK1.out; omega
      case rel => exact ⟨(y129), (wrap64 (x4_1 + 1)), (by rfl), H', ⟨by have := HK1.out; omega⟩, ⟨HO131.out⟩, ⟨HB.out⟩⟩
     rw [if_neg c7] at H
     cases H
    rw [if_neg c5] at H; have c5b0 := decide_eq_false c5; clear c5; obtain rfl := Option.some.inj H
    go_wp2
    go_ret
    exact ⟨_, by rfl, HO_3.out, HB.out⟩
   rw [if_neg c4] at H; have c4b0 := decide_eq_false c4; clear c4; obtain rfl := Option.some.inj H
   go_wp2
   go_ret
   exact ⟨_, by rfl, HO_3.out, HB.out⟩

def IsS57 (w0 W : World) (g : Nat) (f0 : List Int) (f1 : Int) (f2 : Int) : Prop := ∃ A0 c0, W.heap[g]? = some (.cells #[.slice A0 f0.length c0, .int .i64 f1, .int .i64 f2] 57 (0, 0)) ∧ w0.heap.size ≤ g ∧ Kd.C (Kd.int .u8) w0 A0 f0.length f0
theorem IsS57.grown {w0 W : World} {g : Nat} {f0 : List Int} {f1 : Int} {f2 : Int} {W1 : World} {row : Option Nat} (h : IsS57 w0 W g f0 f1 f2) (hw : W.grownBy W1 row) (hne : some g ≠ row) : IsS57 w0 W1 g f0 f1 f2 := by
 obtain ⟨A0, c0, hb, hg, hr0⟩ := h; exact ⟨A0, c0, blk_grown hb hw hne, hg, hr0⟩
theorem IsS57.fresh {w0 W : World} {g : Nat} {f0 : List Int} {f1 : Int} {f2 : Int} (h : IsS57 w0 W g f0 f1 f2) : ∀ k, W.heap.size ≤ k → k ≠ g := by
 obtain ⟨A0, c0, hb, hg, hr0⟩ := h; exact Kd.freshB hb
theorem IsS57.below {w0 W : World} {g : Nat} {f0 : List Int} {f1 : Int} {f2 : Int} {W1 : World} (h : IsS57 w0 W g f0 f1 f2) (hw : Below W.heap.size W W1) : IsS57 w0 W1 g f0 f1 f2 := h.grown (grown_of_below hw none) (by simp)
theorem IsS57.drewN {w0 W : World} {g : Nat} {f0 : List Int} {f1 : Int} {f2 : Int} (h : IsS57 w0 W g f0 f1 f2) (m : Nat) : IsS57 w0 (W.drewN m) g f0 f1 f2 := h
theorem IsS57.drew {w0 W : World} {g : Nat} {f0 : List Int} {f1 : Int} {f2 : Int} (h : IsS57 w0 W g f0 f1 f2) : IsS57 w0 W.drew g f0 f1 f2 := h
theorem IsS57.apart {w0 W : World} {g : Nat} {f0 : List Int} {f1 : Int} {f2 : Int} {α : Type} {d : Kd α} {e : Nat} {base : Nat} {ok : Nat → Prop} {v : Value} {xs : List α} (h : IsS57 w0 W g f0 f1 f2) (ho : d.R e W base ok v xs) (ht : ∀ q, q ∈ e :: d.E → q ≠ 57) : d.R e W base (fun k => ok k ∧ k ≠ g) v xs := by
 obtain ⟨A0, c0, hb, hg, hr0⟩ := h; exact Kd.R_types ho hb ht
theorem IsS57.own_ne {w0 W : World} {g : Nat} {f0 : List Int} {f1 : Int} {f2 : Int} {α : Type} {d : Kd α} {e : Nat} {base : Nat} {ok : Nat → Prop} {v : Value} {xs : List α} (h : IsS57 w0 W g f0 f1 f2) (ho : d.R e W base ok v xs) (ht : e ≠ 57) : some g ≠ v.ownBlock := by
 obtain ⟨A0, c0, hb, hg, hr0⟩ := h; exact Kd.R_ne ho hb ht
theorem IsS57.apartS {w0 W : World} {g : Nat} {f0 : List Int} {f1 : Int} {f2 : Int} {α : Type} {d : Kd α} {e : Nat} {base : Nat} {ok : Nat → Prop} {v : Value} {xs : List α} (h : IsS57 w0 W g f0 f1 f2) (ho : d.S e W base ok v xs) (ht : ∀ q, q ∈ e :: d.E → q ≠ 57) : d.S e W base (fun k => ok k ∧ k ≠ g) v xs := by
 obtain ⟨A0, c0, hb, hg, hr0⟩ := h; exact Kd.S_types ho hb ht
theorem IsS57.own_neS {w0 W : World} {g : Nat} {f0 : List Int} {f1 : Int} {f2 : Int} {α : Type} {d : Kd α} {e : Nat} {base : Nat} {ok : Nat → Prop} {v : Value} {xs : List α} (h : IsS57 w0 W g f0 f1 f2) (ho : d.S e W base ok v xs) (ht : e ≠ 57) : some g ≠ v.ownBlock := by
 obtain ⟨A0, c0, hb, hg, hr0⟩ := h; exact Kd.S_ne ho hb ht
theorem IsS57.lt {w0 W : World} {g : Nat} {f0 : List Int} {f1 : Int} {f2 : Int} (h : IsS57 w0 W g f0 f1 f2) : g < W.heap.size := by
 obtain ⟨A0, c0, hb, hg, hr0⟩ := h; exact blk_lt hb
theorem IsS57.ge {w0 W : World} {g : Nat} {f0 : List Int} {f1 : Int} {f2 : Int} (h : IsS57 w0 W g f0 f1 f2) : w0.heap.size ≤ g := by
 obtain ⟨A0, c0, hb, hg, hr0⟩ := h; exact hg
theorem IsS57.far {w0 W : World} {g : Nat} {f0 : List Int} {f1 : Int} {f2 : Int} {p : Addr} (h : IsS57 w0 W g f0 f1 f2) (hne : g ≠ p.block) (u : Value) : IsS57 w0 (W.setCell p u) g f0 f1 f2 := by
 obtain ⟨A0, c0, hb, hg, hr0⟩ := h; exact ⟨A0, c0, blk_far hb hne u, hg, hr0⟩
theorem cellS57_0 {W : World} {g : Nat} {A0 : Option Addr} {c0 : Nat} {f0 : List Int} {f1 : Int} {f2 : Int} (h : W.heap[g]? = some (.cells #[.slice A0 f0.length c0, .int .i64 f1, .int .i64 f2] 57 (0, 0))) : W.cell? ⟨g, 0, none⟩ = some (.slice A0 f0.length c0) := (blk_cell h 0).trans rfl
theorem cellS57_1 {W : World} {g : Nat} {A0 : Option Addr} {c0 : Nat} {f0 : List Int} {f1 : Int} {f2 : Int} (h : W.heap[g]? = some (.cells #[.slice A0 f0.length c0, .int .i64 f1, .int .i64 f2] 57 (0, 0))) : W.cell? ⟨g, 1, none⟩ = some (.int .i64 f1) := (blk_cell h 1).trans rfl
theorem IsS57.set_1 {w0 W : World} {g : Nat} {f0 : List Int} {f1 : Int} {f2 : Int} (h : IsS57 w0 W g f0 f1 f2) (x : Int) : IsS57 w0 (W.setCell ⟨g, 1, none⟩ (.int .i64 x)) g f0 x f2 := by
 obtain ⟨A0, c0, hb, hg, hr0⟩ := h; exact ⟨A0, c0, by simpa using blk_set hb 1 (.int .i64 x), hg, hr0⟩
theorem cellS57_2 {W : World} {g : Nat} {A0 : Option Addr} {c0 : Nat} {f0 : List Int} {f1 : Int} {f2 : Int} (h : W.heap[g]? = some (.cells #[.slice A0 f0.length c0, .int .i64 f1, .int .i64 f2] 57 (0, 0))) : W.cell? ⟨g, 2, none⟩ = some (.int .i64 f2) := (blk_cell h 2).trans rfl
theorem IsS57.set_2 {w0 W : World} {g : Nat} {f0 : List Int} {f1 : Int} {f2 : Int} (h : IsS57 w0 W g f0 f1 f2) (x : Int) : IsS57 w0 (W.setCell ⟨g, 2, none⟩ (.int .i64 x)) g f0 f1 x := by
 obtain ⟨A0, c0, hb, hg, hr0⟩ := h; exact ⟨A0, c0, by simpa using blk_set hb 2 (.int .i64 x), hg, hr0⟩
def spec_l1Byte.f (s0_0 : List Int) (s0_1 : Int) (s0_2 : Int) : Option (Int × Int × Int) := if s0_1 < (s0_0.length : Int) then (if 0 ≤ s0_1 then (some (Go.bits .and .i64 (wrap64 ((Go.bits .and .i64 (Go.bits .xor .i64 ((wrap64 ((wrap64 (s0_2 * 6364136223846793005)) + 1442695040888963407)) / 8589934592) ((wrap64 ((wrap64 (s0_2 * 6364136223846793005)) + 1442695040888963407)) / 35184372088832)) 255) + (wrap64 (rd s0_0 s0_1)))) 255, wrap64 (s0_1 + 1), wrap64 ((wrap64 (s0_2 * 6364136223846793005)) + 1442695040888963407))) else (none)) else (some (Go.bits .and .i64 (Go.bits .xor .i64 ((wrap64 ((wrap64 (s0_2 * 6364136223846793005)) + 1442695040888963407)) / 8589934592) ((wrap64 ((wrap64 (s0_2 * 6364136223846793005)) + 1442695040888963407)) / 35184372088832)) 255, s0_1, wrap64 ((wrap64 (s0_2 * 6364136223846793005)) + 1442695040888963407)))
theorem spec_l1Byte.calls (g : Nat) (s0_0 : List Int) (s0_1 : Int) (s0_2 : Int) (r1 : Int) (r2 : Int) (r3 : Int) (w0 w : World) (hI : IsS57 w0 w g s0_0 s0_1 s0_2) (hB : Below w0.heap.size w0 w) (h : spec_l1Byte.f s0_0 s0_1 s0_2 = some (r1, r2, r3)) :
  Calls Tryz.prog 47 #[.pointer (some ⟨g, 0, none⟩)] w fun e w' => e = .returned (.int .i64 r1) ∧ IsS57 w0 w' g s0_0 r2 r3 ∧ Below w0.heap.size w0 w' ∧ KeepBut w w' g none := by
 have HI0 := A_ hI; have HK := A_ (KeepBut.refl w g none); clear hI; have HB := A_ hB; clear hB; unfold spec_l1Byte.f at h; have H := h; clear h
 by_cases c2 : s0_1 < (s0_0.length : Int)
 ·rw [if_pos c2] at H; have c2b0 := decide_eq_true c2; clear c2
  by_cases c3 : 0 ≤ s0_1
  ·rw [if_pos c3] at H; have c3b0 := decide_eq_true c3; clear c3; simp only [Option.some.injEq, Prod.mk.injEq] at H; obtain ⟨rfl, rfl, rfl⟩ := H; obtain ⟨ASz4_0, cSz4_0, HGz4, hgz4, HSz4_0⟩ := HI0.out; have hcz4_0 := cellS57_0 HGz4; have hcz4_1 := cellS57_1 HGz4; have hcz4_2 := cellS57_2 HGz4; have hfz4_1 := blk_frozen HGz4 1; have hfz4_2 := blk_frozen HGz4 2; clear HGz4 hgz4
   have p132 : 0 ≤ (s0_1 : Int) := od_ (by assumption)
   have q132 : s0_1 < (s0_0.length : Int) := od_ (by assumption)
   obtain ⟨ad132, e132, hx132_0⟩ := Kd.at_int HSz4_0 s0_1 p132 q132
   cases e132
   have hn132_0 : ad132.block ≠ g := Nat.ne_of_lt (Nat.lt_of_lt_of_le (by have := World.block_lt_of_cell? _ _ hx132_0; first | rwa [add_block] at this | exact this) (IsS57.ge HI0.out))
   replace hx132_0 := pw_cell_below HB.out hx132_0; replace hx132_0 := (cell_far (p := ⟨g, 2, none⟩) (by first | (rw [add_block]; exact hn132_0) | (show (Addr.add _ _).block ≠ _; rw [add_block]; exact hn132_0) | exact hn132_0) (.int .i64 (wrap64 ((wrap64 (s0_2 * 6364136223846793005)) + 1442695040888963407)))).trans hx132_0
   (try have hy132_0 := fun (n_ : Nat) => (show (((w.drewN n_).setCell ⟨g, 2, none⟩ (.int .i64 (wrap64 ((wrap64 (s0_2 * 6364136223846793005)) + 1442695040888963407))))).cell? _ = some _ from hx132_0))
   clear hn132_0; replace p132 := eq_true p132; replace q132 := eq_true q132; go_enter Tryz.func47, Tryz.ntmps47
   go_wp2
   repeat (go_quiet (fail); try go_wp2)
   go_ret
   exact ⟨by rfl, by repeat (first | (with_reducible first | exact HI0.out | apply IsS57.alloc | apply IsS57.drewN | apply IsS57.drew | apply IsS57.set_1 | apply IsS57.set_2) | exact HI0.out), by repeat (first | (with_reducible first | exact HB.out | apply below_alloc | apply pw_below_drewN | apply below_drew1 | refine below_set ?_ (IsS57.ge HI0.out)) | exact HB.out), by repeat (first | (with_reducible first | exact HK.out | apply KeepBut.set_ | apply keep_drewN | apply keep_drew | apply keep_alloc) | exact HK.out)⟩
  rw [if_neg c3] at H
  cases H
 rw [if_neg c2] at H; have c2b0 := decide_eq_false c2; clear c2; simp only [Option.some.injEq, Prod.mk.injEq] at H; obtain ⟨rfl, rfl, rfl⟩ := H; obtain ⟨ASz5_0, cSz5_0, HGz5, hgz5, HSz5_0⟩ := HI0.out; have hcz5_0 := cellS57_0 HGz5; have hcz5_1 := cellS57_1 HGz5; have hcz5_2 := cellS57_2 HGz5; have hfz5_2 := blk_frozen HGz5 2; clear HGz5 hgz5; go_enter Tryz.func47, Tryz.ntmps47
 go_wp2
 repeat (go_quiet (fail); try go_wp2)
 go_ret
 exact ⟨by rfl, by repeat (first | (with_reducible first | exact HI0.out | apply IsS57.alloc | apply IsS57.drewN | apply IsS57.drew | apply IsS57.set_1 | apply IsS57.set_2) | exact HI0.out), by repeat (first | (with_reducible first | exact HB.out | apply below_alloc | apply pw_below_drewN | apply below_drew1 | refine below_set ?_ (IsS57.ge HI0.out)) | exact HB.out), by repeat (first | (with_reducible first | exact HK.out | apply KeepBut.set_ | apply keep_drewN | apply keep_drew | apply keep_alloc) | exact HK.out)⟩

def spec_l1Below.f (s0_0 : List Int) (s0_1 : Int) (s0_2 : Int) (a1 : Int) : Option (Int × Int × Int) := if a1 ≤ 0 then (some (0, s0_1, s0_2)) else (if a1 ≤ 256 then ((spec_l1Byte.f s0_0 s0_1 s0_2).bind fun bt133 => (if a1 = 0 then (none) else (some (Int.tmod bt133.1 a1, bt133.2.1, bt133.2.2)))) else ((spec_l1Byte.f s0_0 s0_1 s0_2).bind fun bt136 => ((spec_l1Byte.f s0_0 bt136.2.1 bt136.2.2).bind fun bt139 => ((spec_l1Byte.f s0_0 bt139.2.1 bt139.2.2).bind fun bt142 => ((spec_l1Byte.f s0_0 bt142.2.1 bt142.2.2).bind fun bt145 => (if a1 = 0 then (none) else (some (Int.tmod (wrap64 ((wrap64 ((wrap64 ((wrap64 (bt136.1 * 16777216)) + (wrap64 (bt139.1 * 65536)))) + (wrap64 (bt142.1 * 256)))) + bt145.1)) a1, bt145.2.1, bt145.2.2))))))))
theorem spec_l1Below.calls (g : Nat) (s0_0 : List Int) (s0_1 : Int) (s0_2 : Int) (a1 : Int) (r1 : Int) (r2 : Int) (r3 : Int) (w0 w : World) (hI : IsS57 w0 w g s0_0 s0_1 s0_2) (hB : Below w0.heap.size w0 w) (h : spec_l1Below.f s0_0 s0_1 s0_2 a1 = some (r1, r2, r3)) :
  Calls Tryz.prog 33 #[.pointer (some ⟨g, 0, none⟩), .int .i64 a1] w fun e w' => e = .returned (.int .i64 r1) ∧ IsS57 w0 w' g s0_0 r2 r3 ∧ Below w0.heap.size w0 w' ∧ KeepBut w w' g none := by
 have HI0 := A_ hI; have HK := A_ (KeepBut.refl w g none); clear hI; have HB := A_ hB; clear hB; unfold spec_l1Below.f at h; have H := h; clear h
 by_cases c3 : a1 ≤ 0
 ·rw [if_pos c3] at H; have c3b0 := decide_eq_true c3; clear c3; simp only [Option.some.injEq, Prod.mk.injEq] at H; obtain ⟨rfl, rfl, rfl⟩ := H; go_enter Tryz.func33, Tryz.ntmps33
  go_wp2
  go_ret
  exact ⟨by rfl, HI0.out, HB.out, HK.out⟩
 rw [if_neg c3] at H; have c3b0 := decide_eq_false c3; clear c3
 by_cases c4 : a1 ≤ 256
 ·rw [if_pos c4] at H; have c4b0 := decide_eq_true c4; clear c4; replace H := bA_ H; obtain ⟨⟨t133, t134, t135⟩, A5, H⟩ := H; dsimp only at H
  by_cases c6 : a1 = 0
  ·rw [if_pos c6] at H
   cases H
  rw [if_neg c6] at H
  simp only [Option.some.injEq, Prod.mk.injEq] at H; obtain ⟨rfl, rfl, rfl⟩ := H; go_enter Tryz.func33, Tryz.ntmps33
  go_wp2_with (first | ((with_reducible refine gc_ 47 rfl ?_); refine cL_ E47 14 rfl rfl rfl (spec_l1Byte.calls g s0_0 s0_1 s0_2 t133 t134 t135 w0 _ HI0.out HB.out A5.out) (by simp only [mA, mB, mC]; rfl) ?_; rintro e w7 ⟨rfl, hi, hb, hk⟩; refine ⟨_, rfl, ?_⟩; replace HK := kt_ HK hk; replace HB := A_ (hb); replace HI0 := A_ (hi); clear hb hk; (try clear hi)))
  go_ret
  exact ⟨by rfl, HI0.out, HB.out, HK.out⟩
 rw [if_neg c4] at H; have c4b0 := decide_eq_false c4; clear c4; replace H := bA_ H; obtain ⟨⟨t136, t137, t138⟩, A8, H⟩ := H; dsimp only at H; replace H := bA_ H; obtain ⟨⟨t139, t140, t141⟩, A9, H⟩ := H; dsimp only at H; replace H := bA_ H; obtain ⟨⟨t142, t143, t144⟩, A10, H⟩ := H; dsimp only at H; replace H := bA_ H; obtain ⟨⟨t145, t146, t147⟩, A11, H⟩ := H; dsimp only at H
 by_cases c12 : a1 = 0
 ·rw [if_pos c12] at H
  cases H
 rw [if_neg c12] at H
 simp only [Option.some.injEq, Prod.mk.injEq] at H; obtain ⟨rfl, rfl, rfl⟩ := H; go_enter Tryz.func33, Tryz.ntmps33
 go_wp2_with (first | ((with_reducible refine gc_ 47 rfl ?_); refine cL_ E47 18 rfl rfl rfl (spec_l1Byte.calls g s0_0 s0_1 s0_2 t136 t137 t138 w0 _ HI0.out HB.out A8.out) (by simp only [mA, mB, mC]; rfl) ?_; rintro e w13 ⟨rfl, hi, hb, hk⟩; refine ⟨_, rfl, ?_⟩; replace HK := kt_ HK hk; replace HB := A_ (hb); replace HI0 := A_ (hi); clear hb hk; (try clear hi)) | ((with_reducible refine gc_ 47 rfl ?_); refine cL_ E47 20 rfl rfl rfl (spec_l1Byte.calls g s0_0 t137 t138 t139 t140 t141 w0 _ HI0.out HB.out A9.out) (by simp only [mA, mB, mC]; rfl) ?_; rintro e w14 ⟨rfl, hi, hb, hk⟩; refine ⟨_, rfl, ?_⟩; replace HK := kt_ HK hk; replace HB := A_ (hb); replace HI0 := A_ (hi); clear hb hk; (try clear hi)) | ((with_reducible refine gc_ 47 rfl ?_); refine cL_ E47 22 rfl rfl rfl (spec_l1Byte.calls g s0_0 t140 t141 t142 t143 t144 w0 _ HI0.out HB.out A10.out) (by simp only [mA, mB, mC]; rfl) ?_; rintro e w15 ⟨rfl, hi, hb, hk⟩; refine ⟨_, rfl, ?_⟩; replace HK := kt_ HK hk; replace HB := A_ (hb); replace HI0 := A_ (hi); clear hb hk; (try clear hi)) | ((with_reducible refine gc_ 47 rfl ?_); refine cL_ E47 24 rfl rfl rfl (spec_l1Byte.calls g s0_0 t143 t144 t145 t146 t147 w0 _ HI0.out HB.out A11.out) (by simp only [mA, mB, mC]; rfl) ?_; rintro e w16 ⟨rfl, hi, hb, hk⟩; refine ⟨_, rfl, ?_⟩; replace HK := kt_ HK hk; replace HB := A_ (hb); replace HI0 := A_ (hi); clear hb hk; (try clear hi)))
 go_ret
 exact ⟨by rfl, HI0.out, HB.out, HK.out⟩
mutual
def spec_MechanicalWord.j0 : Nat → Int → Int → Int → Int → Bool → Option (List Int × Bool)
 | 0, _, _, _, _, _ => none
 | k + 1, x0, x1, x2, x3, x32 => if x32 = true then (some ((([] : List Int)), false)) else (spec_MechanicalWord.l0 k x0 x1 x2 x3 (([] : List Int)) 0)
def spec_MechanicalWord.l0 : Nat → Int → Int → Int → Int → List Int → Int → Option (List Int × Bool)
 | 0, _, _, _, _, _, _ => none
 | k + 1, x0, x1, x2, x3, x10, x11 => if x11 < x3 then (if x1 = 0 then (none) else (if x10.length < 17592186044416 then (spec_MechanicalWord.l0 k x0 x1 x2 x3 (x10 ++ [wrap64 ((wrap64 (Int.tdiv (wrap64 ((wrap64 ((wrap64 (x11 + 1)) * x0)) + x2)) x1)) - (wrap64 (Int.tdiv (wrap64 ((wrap64 (x11 * x0)) + x2)) x1)))]) (wrap64 (x11 + 1))) else (none))) else (some (x10, true))
end
def spec_MechanicalWord.f (k : Nat) (a0 : Int) (a1 : Int) (a2 : Int) (a3 : Int) : Option (List Int × Bool) := (spec_l1In.f a1 1 1000).bind fun t148 => (if t148 = true then ((spec_l1In.f a0 0 a1).bind fun t149 => (if t149 = true then ((spec_l1In.f a2 0 (wrap64 (a1 - 1))).bind fun t150 => (if t150 = true then ((spec_l1In.f a3 0 256).bind fun t151 => (spec_MechanicalWord.j0 k a0 a1 a2 a3 (!t151))) else (spec_MechanicalWord.j0 k a0 a1 a2 a3 true))) else (spec_MechanicalWord.j0 k a0 a1 a2 a3 true))) else (spec_MechanicalWord.j0 k a0 a1 a2 a3 true))
def spec_MechanicalWord.T7 : Bool × List (List Nat × List Nat) := (true, [([], []), ([], []), ([1], [1]), ([], []), ([2, 3], [2, 3]), ([], []), ([4, 5], [4, 5]), ([], []), ([6, 7], [6, 7]), ([], []), ([], []), ([9, 10], [9, 10]), ([], []), ([11, 12], [11, 12]), ([], []), ([13, 14], [13, 14]), ([8, 15], [8, 15]), ([16], [16]), ([0, 17], [0, 17]), ([18, 18, 0, 1, 2, 3, 4, 5, 6, 7, 8, 9, 10, 11, 12, 13, 14, 15, 16, 17, 18], [0, 18])])
def spec_MechanicalWord.B7 : List Nat := [0, 0, 2, 0, 14, 0, 62, 0, 254, 0, 0, 1536, 0, 7680, 0, 32256, 65534, 131070, 262143, 524287]
theorem spec_MechanicalWord.tab7 : rtab .any (opsOf Tryz.f44 7) = spec_MechanicalWord.T7 := by kernel_rfl
theorem spec_MechanicalWord.bits7 : waitsOk spec_MechanicalWord.T7.2 spec_MechanicalWord.B7 = true := by kernel_rfl
theorem spec_MechanicalWord.calls (k : Nat) (a0 : Int) (a1 : Int) (a2 : Int) (a3 : Int) (r1 : List Int) (r2 : Bool) (w : World) (h : spec_MechanicalWord.f k a0 a1 a2 a3 = some (r1, r2)) :
  Calls Tryz.prog 44 #[.int .i64 a0, .int .i64 a1, .int .i64 a2, .int .i64 a3] w fun e w' => ∃ v0_ : Value, e = .returned (.tuple #[v0_, .bool r2]) ∧ Kd.R (Kd.int .i64) 3 w' w.heap.size (fun _ => True) v0_ r1 ∧ Below w.heap.size w w' := by
 have HB := A_ (Below.refl w.heap.size w); unfold spec_MechanicalWord.f at h; have H := h; clear h; have HC5 := A_ H; clear H; go_enter Tryz.func44, Tryz.ntmps44
 go_upto_region 1 with (fail)
 go_cut [32] (fun v32 wc => ∃ (kq : Nat) (x32_4 : Bool), v32 = .bool x32_4 ∧ Aside0 (spec_MechanicalWord.j0 kq a0 a1 a2 a3 x32_4 = some (r1, r2)) ∧ Aside0 (kq ≤ k) ∧ Aside0 (Below w.heap.size w wc))
 case first =>
  have H := HC5.out; clear HC5; replace H := bA_ H; obtain ⟨t148, A6, H⟩ := H
  by_cases c7 : t148 = true
  ·subst c7; rw [if_pos rfl] at H; replace H := bA_ H; obtain ⟨t149, A8, H⟩ := H
   by_cases c9 : t149 = true
   ·subst c9; rw [if_pos rfl] at H; replace H := bA_ H; obtain ⟨t150, A10, H⟩ := H
    by_cases c11 : t150 = true
    ·subst c11; rw [if_pos rfl] at H; replace H := bA_ H; obtain ⟨t151, A12, H⟩ := H
     have H' := A_ H
     clear H
     go_wp2_with (first | ((with_reducible refine gc_ 36 rfl ?_); refine cD_ E36 13 rfl rfl rfl (spec_l1In.calls a1 1 1000 true _ A6.out) (by (try simp only [mA, mB, mC]); first | done | rfl | (simp only [List.length_drop, List.length_take]; rfl)) fun nd => ?_) | (go_at_call 36; (with_reducible refine (spec_l1In.calls a0 0 a1 true _ A8.out).mono ?_); rintro e w' ⟨rfl, ⟨nd, rfl⟩⟩) | (go_at_call 36; (with_reducible refine (spec_l1In.calls a2 0 (wrap64 (a1 - 1)) true _ A10.out).mono ?_); rintro e w' ⟨rfl, ⟨nd, rfl⟩⟩) | (go_at_call 36; (with_reducible refine (spec_l1In.calls a3 0 256 t151 _ A12.out).mono ?_); rintro e w' ⟨rfl, ⟨nd, rfl⟩⟩))
     go_meet
     case rel => exact ⟨_, (!t151), (by rfl), H', ⟨by omega⟩, ⟨by repeat (first | (with_reducible first | exact HB.out | apply below_alloc | apply pw_below_drewN | apply below_drew1) | exact HB.out)⟩⟩
    replace c11 := Bool.eq_false_iff.mpr c11; subst c11; rw [if_neg nf_] at H
    have H' := A_ H
    clear H
    go_wp2_with (first | ((with_reducible refine gc_ 36 rfl ?_); refine cD_ E36 13 rfl rfl rfl (spec_l1In.calls a1 1 1000 true _ A6.out) (by (try simp only [mA, mB, mC]); first | done | rfl | (simp only [List.length_drop, List.length_take]; rfl)) fun nd => ?_) | (go_at_call 36; (with_reducible refine (spec_l1In.calls a0 0 a1 true _ A8.out).mono ?_); rintro e w' ⟨rfl, ⟨nd, rfl⟩⟩) | (go_at_call 36; (with_reducible refine (spec_l1In.calls a2 0 (wrap64 (a1 - 1)) false _ A10.out).mono ?_); rintro e w' ⟨rfl, ⟨nd, rfl⟩⟩))
    go_meet
    case rel => exact ⟨_, (true), (by rfl), H', ⟨by omega⟩, ⟨by repeat (first | (with_reducible first | exact HB.out | apply below_alloc | apply pw_below_drewN | apply below_drew1) | exact HB.out)⟩⟩
   replace c9 := Bool.eq_false_iff.mpr c9; subst c9; rw [if_neg nf_] at H
   have H' := A_ H
   clear H
   go_wp2_with (first | ((with_reducible refine gc_ 36 rfl ?_); refine cD_ E36 13 rfl rfl rfl (spec_l1In.calls a1 1 1000 true _ A6.out) (by (try simp only [mA, mB, mC]); first | done | rfl | (simp only [List.length_drop, List.length_take]; rfl)) fun nd => ?_) | (go_at_call 36; (with_reducible refine (spec_l1In.calls a0 0 a1 false _ A8.out).mono ?_); rintro e w' ⟨rfl, ⟨nd, rfl⟩⟩))
   go_meet
   case rel => exact ⟨_, (true), (by rfl), H', ⟨by omega⟩, ⟨by repeat (first | (with_reducible first | exact HB.out | apply below_alloc | apply pw_below_drewN | apply below_drew1) | exact HB.out)⟩⟩
  replace c7 := Bool.eq_false_iff.mpr c7; subst c7; rw [if_neg nf_] at H
  have H' := A_ H
  clear H
  go_wp2_with (first | ((with_reducible refine gc_ 36 rfl ?_); refine cD_ E36 13 rfl rfl rfl (spec_l1In.calls a1 1 1000 false _ A6.out) (by simp only [mA, mB, mC]; rfl) fun nd => ?_))
  go_meet
  case rel => exact ⟨_, (true), (by rfl), H', ⟨by omega⟩, ⟨by repeat (first | (with_reducible first | exact HB.out | apply below_alloc | apply pw_below_drewN | apply below_drew1) | exact HB.out)⟩⟩
 case rest =>
  clear HC5; obtain ⟨kq, x32_4, rfl, HA, HJ4, HB⟩ := hcut
  cases kq with
  | zero => exact absurd HA.out (by simp [spec_MechanicalWord.j0])
  | succ kj4 =>
   have H := HA.out; clear HA; simp only [spec_MechanicalWord.j0] at H
   by_cases c13 : x32_4 = true
   ·subst c13; rw [if_pos rfl] at H; obtain ⟨y152, hy152⟩ := ex_ ((([] : List Int)) : List Int); replace H : (some (y152, false)) = some (r1, r2) := by (rw [hy152]; with_reducible exact H)
    have Ny152 := A_ hy152; clear hy152; simp only [Option.some.injEq, Prod.mk.injEq] at H; obtain ⟨rfl, rfl⟩ := H
    go_wp2_with (first | ((with_reducible refine gd_ 33 rfl ?_); refine RL_ 33 3 [] [] rfl rfl (by go_simp; done) rfl rfl ?_; rintro v153 w14 ho15 hb - -; (rw [← Ny152.out] at ho15); have HO154 := A_ (Kd.R_lower ho15 (below_size HB.out)); replace HB := bs_ HB hb; clear hb ho15))
    go_ret2
    exact ⟨_, by rfl, HO154.out, HB.out⟩
   replace c13 := Bool.eq_false_iff.mpr c13; subst c13; rw [if_neg nf_] at H; obtain ⟨y155, hy155⟩ := ex_ ((([] : List Int)) : List Int); replace H : (spec_MechanicalWord.l0 kj4 a0 a1 a2 a3 y155 0) = some (r1, r2) := by (rw [hy155]; with_reducible exact H)
   have Ny155 := A_ hy155; clear hy155
   have H' := A_ H
   clear H
   go_wp2_with (first | ((with_reducible refine gd_ 34 rfl ?_); refine RL_ 34 3 [] [] rfl rfl (by go_simp; done) rfl rfl ?_; rintro v156 w16 ho17 hb - -; (rw [← Ny155.out] at ho17); have HO157 := A_ (Kd.R_lower ho17 (below_size HB.out)); replace HB := bs_ HB hb; clear hb ho17))
   go_loopg [10, 11] kj4 (fun kq v10 v11 w' => ∃ (x10_2 : List Int) (x11_2 : Int), v11 = .int .i64 x11_2 ∧ Aside0 (spec_MechanicalWord.l0 kq a0 a1 a2 a3 x10_2 x11_2 = some (r1, r2)) ∧ Aside0 (kq ≤ kj4) ∧ Aside0 (Kd.R (Kd.int .i64) 3 w' w.heap.size (fun _ => True) v10 x10_2) ∧ Aside0 (Below w.heap.size w w'))
   case atStart => exact ⟨(y155), (0), (by rfl), H', ⟨Nat.le_refl _⟩, ⟨HO157.out⟩, ⟨HB.out⟩⟩
   case round =>
    clear H'; obtain ⟨x10_2, x11_2, rfl, HA, HK2, HO_10, HB⟩ := hrel
    cases gk with
    | zero => exact absurd HA.out (by simp [spec_MechanicalWord.l0])
    | succ k2 =>
     have H := HA.out; clear HA; simp only [spec_MechanicalWord.l0] at H
     by_cases c18 : x11_2 < a3
     ·rw [if_pos c18] at H; have c18b0 := decide_eq_true c18; clear c18
      by_cases c19 : a1 = 0
      ·rw [if_pos c19] at H
       cases H
      rw [if_neg c19] at H
      have c19b0 : (a1 == 0) = false := beq_eq_false_iff_ne.mpr c19
      have c19b1 : (a1 != 0) = true := bne_iff_ne.mpr c19
      by_cases c20 : x10_2.length < 17592186044416
      ·rw [if_pos c20] at H; have LMc20 := A_ c20; clear c20; obtain ⟨y158, hy158⟩ := ex_ ((x10_2 ++ [wrap64 ((wrap64 (Int.tdiv (wrap64 ((wrap64 ((wrap64 (x11_2 + 1)) * a0)) + a2)) a1)) - (wrap64 (Int.tdiv (wrap64 ((wrap64 (x11_2 * a0)) + a2)) a1)))]) : List Int); replace H : (spec_MechanicalWord.l0 k2 a0 a1 a2 a3 y158 (wrap64 (x11_2 + 1))) = some (r1, r2) := by (rw [hy158]; with_reducible exact H)
       have Ny158 := A_ hy158; clear hy158
       have H' := A_ H
       clear H
       try go_wp2
       have n0_ := A_ (Kd.R_drew HO_10.out); have n1_ := A_ (below_drew1 HB.out); clear HO_10 HB; have HO_10 := n0_; have HB := n1_; clear n0_ n1_; refine start_ (n := 20) (S := fun w' => True) (ds := []) (mk_ 20 0) (by kernel_rfl) rfl rfl trivial (fun hHeld => ?_); refine with_tabW spec_MechanicalWord.tab7 spec_MechanicalWord.bits7 (fun HT_ HW_ => ?_)
       generalize wr.drew = w21 at HO_10 HB hHeld ⊢
       refine pv_ 0 40 (mk_ 20 1) rfl rfl HT_.out (by kernel_rfl) (fun _ _ _ h => h) (by rfl) (by intro w'; go_simp; with_reducible rfl) (by simp only [Act.put, mD, mE, mF, i64_w, i32_w]; rfl) ?_; refine pv_ 1 41 (mk_ 20 3) rfl rfl HT_.out (by kernel_rfl) (fun _ _ _ h => h) (by rfl) (by intro w'; go_simp; with_reducible rfl) (by simp only [Act.put, mD, mE, mF, i64_w, i32_w]; rfl) ?_; refine pv_ 2 42 (mk_ 20 7) rfl rfl HT_.out (by kernel_rfl) (fun _ _ _ h => h) (by rfl) (by intro w'; go_simp; with_reducible rfl) (by simp only [Act.put, mD, mE, mF, i64_w, i32_w]; rfl) ?_; refine pv_ 3 43 (mk_ 20 15) rfl rfl HT_.out (by kernel_rfl) (fun _ _ _ h => h) (by rfl) (by intro w'; go_simp; with_reducible rfl) (by simp only [Act.put, mD, mE, mF, i64_w, i32_w]; rfl) ?_; refine pv_ 4 44 (mk_ 20 31) rfl rfl HT_.out (by kernel_rfl) (fun _ _ _ h => h) (by rfl) (by intro w'; go_simp; with_reducible rfl) (by simp only [Act.put, mD, mE, mF, i64_w, i32_w]; rfl) ?_; refine pv_ 5 45 (mk_ 20 63) rfl rfl HT_.out (by kernel_rfl) (fun _ _ _ h => h) (by rfl) (by intro w'; go_simp; with_reducible rfl) (by simp only [Act.put, mD, mE, mF, i64_w, i32_w]; rfl) ?_; refine pv_ 6 46 (mk_ 20 127) rfl rfl HT_.out (by kernel_rfl) (fun _ _ _ h => h) (by rfl) (by intro w'; go_simp; with_reducible rfl) (by simp only [Act.put, mD, mE, mF, i64_w, i32_w]; rfl) ?_; refine pv_ 7 47 (mk_ 20 255) rfl rfl HT_.out (by kernel_rfl) (fun _ _ _ h => h) (by rfl) (by intro w'; go_simp; with_reducible rfl) (by simp only [Act.put, mD, mE, mF, i64_w, i32_w]; rfl) ?_; refine pv_ 8 48 (mk_ 20 511) rfl rfl HT_.out (by kernel_rfl) (fun _ _ _ h => h) (by rfl) (by intro w'; go_simp; with_reducible rfl) (by simp only [Act.put, mD, mE, mF, i64_w, i32_w]; rfl) ?_; refine pv_ 9 49 (mk_ 20 1023) rfl rfl HT_.out (by kernel_rfl) (fun _ _ _ h => h) (by rfl) (by intro w'; go_simp; with_reducible rfl) (by simp only [Act.put, mD, mE, mF, i64_w, i32_w]; rfl) ?_; refine pv_ 10 50 (mk_ 20 2047) rfl rfl HT_.out (by kernel_rfl) (fun _ _ _ h => h) (by rfl) (by intro w'; go_simp; with_reducible rfl) (by simp only [Act.put, mD, mE, mF, i64_w, i32_w]; rfl) ?_; refine pv_ 11 51 (mk_ 20 4095) rfl rfl HT_.out (by kernel_rfl) (fun _ _ _ h => h) (by rfl) (by intro w'; go_simp; with_reducible rfl) (by simp only [Act.put, mD, mE, mF, i64_w, i32_w]; rfl) ?_; refine pv_ 12 52 (mk_ 20 8191) rfl rfl HT_.out (by kernel_rfl) (fun _ _ _ h => h) (by rfl) (by intro w'; go_simp; with_reducible rfl) (by simp only [Act.put, mD, mE, mF, i64_w, i32_w]; rfl) ?_; refine pv_ 13 53 (mk_ 20 16383) rfl rfl HT_.out (by kernel_rfl) (fun _ _ _ h => h) (by rfl) (by intro w'; go_simp; with_reducible rfl) (by simp only [Act.put, mD, mE, mF, i64_w, i32_w]; rfl) ?_; refine pv_ 14 54 (mk_ 20 32767) rfl rfl HT_.out (by kernel_rfl) (fun _ _ _ h => h) (by rfl) (by intro w'; go_simp; with_reducible rfl) (by simp only [Act.put, mD, mE, mF, i64_w, i32_w]; rfl) ?_; refine pv_ 15 55 (mk_ 20 65535) rfl rfl HT_.out (by kernel_rfl) (fun _ _ _ h => h) (by rfl) (by intro w'; go_simp; with_reducible rfl) (by simp only [Act.put, mD, mE, mF, i64_w, i32_w]; rfl) ?_; refine pv_ 16 56 (mk_ 20 131071) rfl rfl HT_.out (by kernel_rfl) (fun _ _ _ h => h) (by rfl) (by intro w'; go_simp; with_reducible rfl) (by simp only [Act.put, mD, mE, mF, i64_w, i32_w]; rfl) ?_; refine one_ (i := 17) (N := some 57) (mk_ 20 262143) rfl rfl (one_of HT_.out (by kernel_rfl)) (by decide) (fun K hK => ?_); refine value_ (w1 := ?_) (v := ?_) (by rfl) rfl ?_ ?_; rotate_left 2
       ·go_simp
        constructor
        ·rfl
        rfl
       refine hK.out _ _ trivial (fun hHeld => ?_); clear hK K; refine norm_ (by show Act.put _ (some 57) _ = _; simp only [Act.put, mD, mE, mF, i64_w, i32_w]; rfl) ?_; refine one_ (i := 18) (N := some 58) (mk_ 20 524287) rfl rfl (one_of HT_.out (by kernel_rfl)) (by decide) (fun K hK => ?_); refine Kd.R_append_step (Kd.int .i64) (w0 := w) w.heap.size (by rfl) (.tmp 40) (.tmp 57) 24 3 (.int .i64 0) 8 rfl Tryz.underlying24 info3 rfl (by decide) (by omega) u10 x10_2 (wrap64 ((wrap64 (Int.tdiv (wrap64 ((wrap64 ((wrap64 (x11_2 + 1)) * a0)) + a2)) a1)) - (wrap64 (Int.tdiv (wrap64 ((wrap64 (x11_2 * a0)) + a2)) a1)))) [.int .i64 (wrap64 ((wrap64 (Int.tdiv (wrap64 ((wrap64 ((wrap64 (x11_2 + 1)) * a0)) + a2)) a1)) - (wrap64 (Int.tdiv (wrap64 ((wrap64 (x11_2 * a0)) + a2)) a1))))] (fun _ => True) (fun _ => False) rfl rfl ?aP (fun _ hk => hk.elim) ?aF ?aO ?aB ?aS ?aL ?_
       (case aP => exact rfl)
       (case aB => exact HB.out)
       (case aF => exact (fun _ _ => trivial))
       (case aO => exact HO_10.out)
       (case aS => exact (below_size HB.out))
       (case aL => have := LMc20.out; omega)
       intro v159 w22 ho hb hg hat; rw [← Ny158.out] at ho; have n0_ := A_ (hb); have n1_ := A_ (ho); clear HB HO_10; have HB := n0_; have HO160 := n1_; clear n0_ n1_ ho hb hg hat; refine hK.out _ _ trivial (fun hHeld => ?_); clear hK K; refine norm_ (by show Act.put _ (some 58) _ = _; simp only [Act.put, mD, mE, mF, i64_w, i32_w]; rfl) ?_; refine pv_ 19 10 (mk_ 20 1048575) rfl rfl HT_.out (by kernel_rfl) (fun _ _ _ h => h) (by rfl) (by intro w'; go_simp; with_reducible rfl) (by simp only [Act.put, mD, mE, mF, i64_w, i32_w]; rfl) ?_; refine done_ (done_of HT_.out (by kernel_rfl)) ?_
       try go_wp2
       go_roundg k2
       case measure => have := HJ4.out; have := HK2.out; omega
       case rel => exact ⟨(y158), (wrap64 (x11_2 + 1)), (by rfl), H', ⟨by have := HJ4.out; have := HK2.out; omega⟩, ⟨HO160.out⟩, ⟨HB.out⟩⟩
      rw [if_neg c20] at H
      cases H
     rw [if_neg c18] at H; have c18b0 := decide_eq_false c18; clear c18; simp only [Option.some.injEq, Prod.mk.injEq] at H; obtain ⟨rfl, rfl⟩ := H
     go_wp2
     go_ret2
     exact ⟨_, by rfl, HO_10.out, HB.out⟩

def spec_l1Once.f (s0_0 : List Int) (s0_1 : Int) (s0_2 : Int) (a1 : Int) : Option (Bool × Int × Int) := (spec_l1Below.f s0_0 s0_1 s0_2 a1).bind fun bt161 => (some ((bt161.1 == 0), bt161.2.1, bt161.2.2))
theorem spec_l1Once.calls (g : Nat) (s0_0 : List Int) (s0_1 : Int) (s0_2 : Int) (a1 : Int) (r1 : Bool) (r2 : Int) (r3 : Int) (w0 w : World) (hI : IsS57 w0 w g s0_0 s0_1 s0_2) (hB : Below w0.heap.size w0 w) (h : spec_l1Once.f s0_0 s0_1 s0_2 a1 = some (r1, r2, r3)) :
  Calls Tryz.prog 64 #[.pointer (some ⟨g, 0, none⟩), .int .i64 a1] w fun e w' => e = .returned (.bool r1) ∧ IsS57 w0 w' g s0_0 r2 r3 ∧ Below w0.heap.size w0 w' ∧ KeepBut w w' g none := by
 have HI0 := A_ hI; have HK := A_ (KeepBut.refl w g none); clear hI; have HB := A_ hB; clear hB; unfold spec_l1Once.f at h; have H := h; clear h; replace H := bA_ H; obtain ⟨⟨t161, t162, t163⟩, A3, H⟩ := H; dsimp only at H; simp only [Option.some.injEq, Prod.mk.injEq] at H; obtain ⟨rfl, rfl, rfl⟩ := H; go_enter Tryz.func64, Tryz.ntmps64
 go_wp2_with (first | ((with_reducible refine gc_ 33 rfl ?_); refine cL_ E33 7 rfl rfl rfl (spec_l1Below.calls g s0_0 s0_1 s0_2 a1 t161 t162 t163 w0 _ HI0.out HB.out A3.out) (by simp only [mA, mB, mC]; rfl) ?_; rintro e w4 ⟨rfl, hi, hb, hk⟩; refine ⟨_, rfl, ?_⟩; replace HK := kt_ HK hk; replace HB := A_ (hb); replace HI0 := A_ (hi); clear hb hk; (try clear hi)))
 go_ret
 exact ⟨by rfl, HI0.out, HB.out, HK.out⟩

def spec_NamedSequence.f (a0 : ByteArray) : Option (Int × (List (List Int)) × List Int × Bool) := if a0.toList = ([116, 104, 117, 101] : List UInt8) then (some (2, (([(([0, 1] : List Int)), (([1, 0] : List Int))] : List (List Int))), (([0, 1] : List Int)), true)) else (if a0.toList = ([114, 117, 100, 105, 110] : List UInt8) then (some (2, (([(([0, 1] : List Int)), (([0, 2] : List Int)), (([3, 1] : List Int)), (([3, 2] : List Int))] : List (List Int))), (([0, 0, 1, 1] : List Int)), true)) else (if a0.toList = ([112, 101, 114, 105, 111, 100] : List UInt8) then (some (2, (([(([0, 1] : List Int)), (([2, 3] : List Int)), (([0, 1] : List Int)), (([2, 3] : List Int))] : List (List Int))), (([0, 0, 1, 1] : List Int)), true)) else (if a0.toList = ([112, 111, 119, 101, 114, 115] : List UInt8) then (some (2, (([(([0, 1] : List Int)), (([1, 2] : List Int)), (([2, 2] : List Int))] : List (List Int))), (([0, 1, 0] : List Int)), true)) else (if a0.toList = ([99, 97, 110, 116, 111, 114] : List UInt8) then (some (3, (([(([0, 1, 0] : List Int)), (([1, 1, 1] : List Int))] : List (List Int))), (([1, 0] : List Int)), true)) else (if a0.toList = ([109, 111, 100] : List UInt8) then (some (2, (([(([0, 1] : List Int)), (([2, 0] : List Int)), (([1, 2] : List Int))] : List (List Int))), (([0, 1, 2] : List Int)), true)) else (some (0, ([] : List (List Int)), ([] : List Int), false)))))))
theorem spec_NamedSequence.calls (a0 : ByteArray) (r1 : Int) (r2 : List (List Int)) (r3 : List Int) (r4 : Bool) (w : World) (h : spec_NamedSequence.f a0 = some (r1, r2, r3, r4)) :
  Calls Tryz.prog 87 #[.string a0] w fun e w' => ∃ v1_ v2_ : Value, e = .returned (.tuple #[.agg #[.int .i64 r1, v1_, v2_], .bool r4]) ∧ Kd.N (Kd.slice 3 (Kd.int .i64)) 24 w' w.heap.size (fun k_ => (w.heap.size ≤ k_) ∧ some k_ ≠ (v2_ : Value).ownBlock) v1_ r2 ∧ Kd.R (Kd.int .i64) 3 w' w.heap.size (fun k_ => (w.heap.size ≤ k_)) v2_ r3 ∧ Below w.heap.size w w' := by
 have HB := A_ (Below.refl w.heap.size w); unfold spec_NamedSequence.f at h; have H := h; clear h
 by_cases c2 : a0.toList = ([116, 104, 117, 101] : List UInt8)
 ·rw [if_pos c2] at H
  have c2b0 : (a0.toList == ([116, 104, 117, 101] : List UInt8)) = true := beq_iff_eq.mpr c2
  clear c2; obtain ⟨y165, hy165⟩ := ex_ ((([0, 1] : List Int)) : List Int); replace H : (some (2, (([y165, (([1, 0] : List Int))] : List (List Int))), (([0, 1] : List Int)), true)) = some (r1, r2, r3, r4) := by (rw [hy165]; with_reducible exact H)
  have Ny165 := A_ hy165; clear hy165; obtain ⟨y168, hy168⟩ := ex_ ((([1, 0] : List Int)) : List Int); replace H : (some (2, (([y165, y168] : List (List Int))), (([0, 1] : List Int)), true)) = some (r1, r2, r3, r4) := by (rw [hy168]; with_reducible exact H)
  have Ny168 := A_ hy168; clear hy168; obtain ⟨y171, hy171⟩ := ex_ ((([y165, y168] : List (List Int))) : List (List Int)); replace H : (some (2, y171, (([0, 1] : List Int)), true)) = some (r1, r2, r3, r4) := by (rw [hy171]; with_reducible exact H)
  have Ny171 := A_ hy171; clear hy171; obtain ⟨y174, hy174⟩ := ex_ ((([0, 1] : List Int)) : List Int); replace H : (some (2, y171, y174, true)) = some (r1, r2, r3, r4) := by (rw [hy174]; with_reducible exact H)
  have Ny174 := A_ hy174; clear hy174; simp only [Option.some.injEq, Prod.mk.injEq] at H; obtain ⟨rfl, rfl, rfl, rfl⟩ := H; go_enter Tryz.func87, Tryz.ntmps87
  go_wp2_with (first | ((with_reducible refine gate_dst (N := 2) rfl ?_); refine box_event ?hg (N := 2) ?hd (cs := #[.int .i64 0, .slice none 0 0, .slice none 0 0]) (t := 76) ?hr ?_; (case hd | hg => rfl); (case hr => go_simp; done); intro gb164 hg w3 hbox hb; have BK164 := A_ (hbox); have GE164 := A_ (lg_ (below_size HB.out) hg); replace HB := bs_ HB hb; clear hb hbox hg) | ((with_reducible refine gd_ 7 rfl ?_); refine RL_ 7 3 [0, 1] [.int .i64 0, .int .i64 1] rfl rfl (by go_simp; done) rfl rfl ?_; rintro v166 w4 ho5 hb - -; (rw [← Ny165.out] at ho5); have HO167 := A_ (Kd.R_lower (Kd.R_newM (M := fun k_ => (w.heap.size ≤ k_)) ho5 (below_size HB.out) (fun k_ h_ => h_)) (below_size HB.out)); replace BK164 := bb_ BK164 hb; replace HB := bs_ HB hb; clear hb ho5) | ((with_reducible refine gd_ 8 rfl ?_); refine RL_ 8 3 [1, 0] [.int .i64 1, .int .i64 0] rfl rfl (by go_simp; done) rfl rfl ?_; rintro v169 w6 ho7 hb - -; (rw [← Ny168.out] at ho7); have HO170 := A_ (Kd.R_lower (Kd.R_new' (Kd.R_newM (M := fun k_ => (w.heap.size ≤ k_)) ho7 (below_size HB.out) (fun k_ h_ => h_)) (Kd.R_lt HO167.out)) (below_size HB.out)); replace HO167 := A_ (Kd.R_elder' HO167.out (Kd.R_base ho7) hb); replace BK164 := bb_ BK164 hb; replace HB := bs_ HB hb; clear hb ho7; obtain ⟨Ao8, co8, eo8⟩ := Kd.R_slice HO167.out; subst eo8; obtain ⟨Ao9, co9, eo9⟩ := Kd.R_slice HO170.out; subst eo9) | ((with_reducible refine gate_dst (N := 9) rfl ?_); refine Kd.N_lit (Kd.slice 3 (Kd.int .i64)) _ 24 ?hg (N' := 9) ?hd (xs := ([y165, y168] : List (List Int))) (inner := [.slice Ao8 y165.length co8, .slice Ao9 y168.length co9]) (ok := (fun k_ => (w.heap.size ≤ k_) ∧ k_ ≠ gb164)) (okp := (fun k_ => (w.heap.size ≤ k_) ∧ k_ ≠ gb164)) ?hr ?hp (fun _ hk => hk) ((show ∀ k_, w6.heap.size ≤ k_ → (fun k_ => (w.heap.size ≤ k_) ∧ k_ ≠ gb164) k_ from fun k_ hk => ⟨(Nat.le_trans (below_size HB.out) hk), Kd.freshB BK164.out k_ hk⟩) _ (Nat.le_refl _)) (Below.refl _ _) (Nat.le_refl _) (by simp) ?_; (case hd | hg => rfl); (case hr => go_simp; done); (case hp => exact (Reps.one (show Kd.FK (Kd.slice 3 (Kd.int .i64)) _ _ y165 [.slice Ao8 y165.length co8] from (Kd.FK_slice_mk (Kd.R_reads' (Kd.R_mono (ok' := (fun k_ => (w.heap.size ≤ k_) ∧ k_ ≠ gb164)) (Kd.R_types (HO167.out) BK164.out (by decide)) (fun k_ hk => ⟨hk.1.1.1, hk.2⟩))).2.1 (Kd.R_F (Kd.R_mono (ok' := (fun k_ => (w.heap.size ≤ k_) ∧ k_ ≠ gb164)) (Kd.R_types (HO167.out) BK164.out (by decide)) (fun k_ hk => ⟨hk.1.1.1, hk.2⟩))))) (Reps.one (show Kd.FK (Kd.slice 3 (Kd.int .i64)) _ _ y168 [.slice Ao9 y168.length co9] from (Kd.FK_slice_mk (Kd.R_reads' (Kd.R_mono (ok' := (fun k_ => (w.heap.size ≤ k_) ∧ k_ ≠ gb164)) (Kd.R_types (HO170.out) BK164.out (by decide)) (fun k_ hk => ⟨hk.1.1.1, hk.2⟩))).2.1 (Kd.R_F (Kd.R_mono (ok' := (fun k_ => (w.heap.size ≤ k_) ∧ k_ ≠ gb164)) (Kd.R_types (HO170.out) BK164.out (by decide)) (fun k_ hk => ⟨hk.1.1.1, hk.2⟩))))) (Reps.none _ _)))); rintro v172 w10 ho11 hb - -; (rw [← Ny171.out] at ho11); have HO173 := A_ (Kd.N_lower ho11 (below_size HB.out)); replace BK164 := bb_ BK164 hb; replace HB := bs_ HB hb; clear HO167 HO170; clear hb ho11) | ((with_reducible refine gd_ 10 rfl ?_); refine RL_ 10 3 [0, 1] [.int .i64 0, .int .i64 1] rfl rfl (by go_simp; done) rfl rfl ?_; rintro v175 w12 ho13 hb - -; (rw [← Ny174.out] at ho13); replace HO173 := A_ (Kd.N_elder' HO173.out (Kd.R_base ho13) hb); have HO176 := A_ (Kd.R_lower (Kd.R_newM (M := fun k_ => (w.heap.size ≤ k_)) ho13 (below_size HB.out) (fun k_ h_ => h_)) (below_size HB.out)); replace BK164 := bb_ BK164 hb; replace HB := bs_ HB hb; clear hb ho13; obtain ⟨Ao14, co14, eo14⟩ := Kd.R_slice HO176.out; subst eo14; obtain ⟨Ao15, co15, eo15⟩ := Kd.N_slice HO173.out; subst eo15; have hcz16_0 := bz0 BK164.out; have hcz16_1 := bz1 BK164.out; have hcz16_2 := bz2 BK164.out; have hfz16_0 := blk_frozen BK164.out 0; have hfz16_1 := blk_frozen BK164.out 1; have hfz16_2 := blk_frozen BK164.out 2))
  refine bodyPost_ret (results_ct rfl _ _ gb164 76 #[.int .i64 2, .slice Ao15 y171.length co15, .slice Ao14 y174.length co14] (0, 0) _ rfl (by refine blk_put (cs := #[.int .i64 2, .slice Ao15 y171.length co15, .slice none 0 0]) ?_ 2 _ rfl; refine blk_put (cs := #[.int .i64 2, .slice none 0 0, .slice none 0 0]) ?_ 1 _ rfl; refine blk_put (cs := #[.int .i64 0, .slice none 0 0, .slice none 0 0]) ?_ 0 _ rfl; exact BK164.out) Tryz.underlying76 rfl (by kernel_rfl)) rfl ?_; exact ⟨_, _, by rfl, by exact Kd.N_mono (Kd.N_far (p := ⟨gb164, 2, none⟩) (Kd.N_far (p := ⟨gb164, 1, none⟩) (Kd.N_far (p := ⟨gb164, 0, none⟩) (Kd.N_mono HO173.out (fun k_ hk => (⟨hk, hk.1.2⟩ : _ ∧ k_ ≠ gb164))) (fun _ hk => hk.2) (.int .i64 2)) (fun _ hk => hk.2) (.slice Ao15 y171.length co15)) (fun _ hk => hk.2) (.slice Ao14 y174.length co14)) (fun _ hk => ⟨hk.1.1.1, hk.1.2⟩), by exact Kd.R_mono (Kd.R_far (p := ⟨gb164, 2, none⟩) (Kd.R_far (p := ⟨gb164, 1, none⟩) (Kd.R_far (p := ⟨gb164, 0, none⟩) (Kd.R_types HO176.out BK164.out (by decide)) (fun _ hk => hk.2) (.int .i64 2)) (fun _ hk => hk.2) (.slice Ao15 y171.length co15)) (fun _ hk => hk.2) (.slice Ao14 y174.length co14)) (fun _ hk => hk.1.1), by repeat (first | (with_reducible first | exact HB.out | apply below_alloc | apply pw_below_drewN | apply below_drew1 | refine below_set ?_ GE164.out) | exact HB.out)⟩
 rw [if_neg c2] at H
 have c2b0 : (a0.toList == ([116, 104, 117, 101] : List UInt8)) = false := beq_eq_false_iff_ne.mpr c2
 have c2b1 : (a0.toList != ([116, 104, 117, 101] : List UInt8)) = true := bne_iff_ne.mpr c2
 by_cases c17 : a0.toList = ([114, 117, 100, 105, 110] : List UInt8)
 ·rw [if_pos c17] at H
  have c17b0 : (a0.toList == ([114, 117, 100, 105, 110] : List UInt8)) = true := beq_iff_eq.mpr c17
  clear c17; obtain ⟨y177, hy177⟩ := ex_ ((([0, 1] : List Int)) : List Int); replace H : (some (2, (([y177, (([0, 2] : List Int)), (([3, 1] : List Int)), (([3, 2] : List Int))] : List (List Int))), (([0, 0, 1, 1] : List Int)), true)) = some (r1, r2, r3, r4) := by (rw [hy177]; with_reducible exact H)
  have Ny177 := A_ hy177; clear hy177; obtain ⟨y180, hy180⟩ := ex_ ((([0, 2] : List Int)) : List Int); replace H : (some (2, (([y177, y180, (([3, 1] : List Int)), (([3, 2] : List Int))] : List (List Int))), (([0, 0, 1, 1] : List Int)), true)) = some (r1, r2, r3, r4) := by (rw [hy180]; with_reducible exact H)
  have Ny180 := A_ hy180; clear hy180; obtain ⟨y183, hy183⟩ := ex_ ((([3, 1] : List Int)) : List Int); replace H : (some (2, (([y177, y180, y183, (([3, 2] : List Int))] : List (List Int))), (([0, 0, 1, 1] : List Int)), true)) = some (r1, r2, r3, r4) := by (rw [hy183]; with_reducible exact H)
  have Ny183 := A_ hy183; clear hy183; obtain ⟨y186, hy186⟩ := ex_ ((([3, 2] : List Int)) : List Int); replace H : (some (2, (([y177, y180, y183, y186] : List (List Int))), (([0, 0, 1, 1] : List Int)), true)) = some (r1, r2, r3, r4) := by (rw [hy186]; with_reducible exact H)
  have Ny186 := A_ hy186; clear hy186; obtain ⟨y189, hy189⟩ := ex_ ((([y177, y180, y183, y186] : List (List Int))) : List (List Int)); replace H : (some (2, y189, (([0, 0, 1, 1] : List Int)), true)) = some (r1, r2, r3, r4) := by (rw [hy189]; with_reducible exact H)
  have Ny189 := A_ hy189; clear hy189; obtain ⟨y192, hy192⟩ := ex_ ((([0, 0, 1, 1] : List Int)) : List Int); replace H : (some (2, y189, y192, true)) = some (r1, r2, r3, r4) := by (rw [hy192]; with_reducible exact H)
  have Ny192 := A_ hy192; clear hy192; simp only [Option.some.injEq, Prod.mk.injEq] at H; obtain ⟨rfl, rfl, rfl, rfl⟩ := H; go_enter Tryz.func87, Tryz.ntmps87
  go_wp2_with (first | ((with_reducible refine gate_dst (N := 2) rfl ?_); refine box_event ?hg (N := 2) ?hd (cs := #[.int .i64 0, .slice none 0 0, .slice none 0 0]) (t := 76) ?hr ?_; (case hd | hg => rfl); (case hr => go_simp; done); intro gb164 hg w18 hbox hb; have BK164 := A_ (hbox); have GE164 := A_ (lg_ (below_size HB.out) hg); replace HB := bs_ HB hb; clear hb hbox hg) | ((with_reducible refine gd_ 14 rfl ?_); refine RL_ 14 3 [0, 1] [.int .i64 0, .int .i64 1] rfl rfl (by go_simp; done) rfl rfl ?_; rintro v178 w19 ho20 hb - -; (rw [← Ny177.out] at ho20); have HO179 := A_ (Kd.R_lower (Kd.R_newM (M := fun k_ => (w.heap.size ≤ k_)) ho20 (below_size HB.out) (fun k_ h_ => h_)) (below_size HB.out)); replace BK164 := bb_ BK164 hb; replace HB := bs_ HB hb; clear hb ho20) | ((with_reducible refine gd_ 15 rfl ?_); refine RL_ 15 3 [0, 2] [.int .i64 0, .int .i64 2] rfl rfl (by go_simp; done) rfl rfl ?_; rintro v181 w21 ho22 hb - -; (rw [← Ny180.out] at ho22); have HO182 := A_ (Kd.R_lower (Kd.R_new' (Kd.R_newM (M := fun k_ => (w.heap.size ≤ k_)) ho22 (below_size HB.out) (fun k_ h_ => h_)) (Kd.R_lt HO179.out)) (below_size HB.out)); replace HO179 := A_ (Kd.R_elder' HO179.out (Kd.R_base ho22) hb); replace BK164 := bb_ BK164 hb; replace HB := bs_ HB hb; clear hb ho22) | ((with_reducible refine gd_ 16 rfl ?_); refine RL_ 16 3 [3, 1] [.int .i64 3, .int .i64 1] rfl rfl (by go_simp; done) rfl rfl ?_; rintro v184 w23 ho24 hb - -; (rw [← Ny183.out] at ho24); have HO185 := A_ (Kd.R_lower (Kd.R_new' (Kd.R_new' (Kd.R_newM (M := fun k_ => (w.heap.size ≤ k_)) ho24 (below_size HB.out) (fun k_ h_ => h_)) (Kd.R_lt HO179.out)) (Kd.R_lt HO182.out)) (below_size HB.out)); replace HO179 := A_ (Kd.R_elder' HO179.out (Kd.R_base ho24) hb); replace HO182 := A_ (Kd.R_elder' HO182.out (Kd.R_base ho24) hb); replace BK164 := bb_ BK164 hb; replace HB := bs_ HB hb; clear hb ho24) | ((with_reducible refine gd_ 17 rfl ?_); refine RL_ 17 3 [3, 2] [.int .i64 3, .int .i64 2] rfl rfl (by go_simp; done) rfl rfl ?_; rintro v187 w25 ho26 hb - -; (rw [← Ny186.out] at ho26); have HO188 := A_ (Kd.R_lower (Kd.R_new' (Kd.R_new' (Kd.R_new' (Kd.R_newM (M := fun k_ => (w.heap.size ≤ k_)) ho26 (below_size HB.out) (fun k_ h_ => h_)) (Kd.R_lt HO179.out)) (Kd.R_lt HO182.out)) (Kd.R_lt HO185.out)) (below_size HB.out)); replace HO179 := A_ (Kd.R_elder' HO179.out (Kd.R_base ho26) hb); replace HO182 := A_ (Kd.R_elder' HO182.out (Kd.R_base ho26) hb); replace HO185 := A_ (Kd.R_elder' HO185.out (Kd.R_base ho26) hb); replace BK164 := bb_ BK164 hb; replace HB := bs_ HB hb; clear hb ho26; obtain ⟨Ao27, co27, eo27⟩ := Kd.R_slice HO179.out; subst eo27; obtain ⟨Ao28, co28, eo28⟩ := Kd.R_slice HO182.out; subst eo28; obtain ⟨Ao29, co29, eo29⟩ := Kd.R_slice HO185.out; subst eo29; obtain ⟨Ao30, co30, eo30⟩ := Kd.R_slice HO188.out; subst eo30) | ((with_reducible refine gate_dst (N := 18) rfl ?_); refine Kd.N_lit (Kd.slice 3 (Kd.int .i64)) _ 24 ?hg (N' := 18) ?hd (xs := ([y177, y180, y183, y186] : List (List Int))) (inner := [.slice Ao27 y177.length co27, .slice Ao28 y180.length co28, .slice Ao29 y183.length co29, .slice Ao30 y186.length co30]) (ok := (fun k_ => (w.heap.size ≤ k_) ∧ k_ ≠ gb164)) (okp := (fun k_ => (w.heap.size ≤ k_) ∧ k_ ≠ gb164)) ?hr ?hp (fun _ hk => hk) ((show ∀ k_, w25.heap.size ≤ k_ → (fun k_ => (w.heap.size ≤ k_) ∧ k_ ≠ gb164) k_ from fun k_ hk => ⟨(Nat.le_trans (below_size HB.out) hk), Kd.freshB BK164.out k_ hk⟩) _ (Nat.le_refl _)) (Below.refl _ _) (Nat.le_refl _) (by simp) ?_; (case hd | hg => rfl); (case hr => go_simp; done); (case hp => exact (Reps.one (show Kd.FK (Kd.slice 3 (Kd.int .i64)) _ _ y177 [.slice Ao27 y177.length co27] from (Kd.FK_slice_mk (Kd.R_reads' (Kd.R_mono (ok' := (fun k_ => (w.heap.size ≤ k_) ∧ k_ ≠ gb164)) (Kd.R_types (HO179.out) BK164.out (by decide)) (fun k_ hk => ⟨hk.1.1.1.1.1, hk.2⟩))).2.1 (Kd.R_F (Kd.R_mono (ok' := (fun k_ => (w.heap.size ≤ k_) ∧ k_ ≠ gb164)) (Kd.R_types (HO179.out) BK164.out (by decide)) (fun k_ hk => ⟨hk.1.1.1.1.1, hk.2⟩))))) (Reps.one (show Kd.FK (Kd.slice 3 (Kd.int .i64)) _ _ y180 [.slice Ao28 y180.length co28] from (Kd.FK_slice_mk (Kd.R_reads' (Kd.R_mono (ok' := (fun k_ => (w.heap.size ≤ k_) ∧ k_ ≠ gb164)) (Kd.R_types (HO182.out) BK164.out (by decide)) (fun k_ hk => ⟨hk.1.1.1.1.1, hk.2⟩))).2.1 (Kd.R_F (Kd.R_mono (ok' := (fun k_ => (w.heap.size ≤ k_) ∧ k_ ≠ gb164)) (Kd.R_types (HO182.out) BK164.out (by decide)) (fun k_ hk => ⟨hk.1.1.1.1.1, hk.2⟩))))) (Reps.one (show Kd.FK (Kd.slice 3 (Kd.int .i64)) _ _ y183 [.slice Ao29 y183.length co29] from (Kd.FK_slice_mk (Kd.R_reads' (Kd.R_mono (ok' := (fun k_ => (w.heap.size ≤ k_) ∧ k_ ≠ gb164)) (Kd.R_types (HO185.out) BK164.out (by decide)) (fun k_ hk => ⟨hk.1.1.1.1.1, hk.2⟩))).2.1 (Kd.R_F (Kd.R_mono (ok' := (fun k_ => (w.heap.size ≤ k_) ∧ k_ ≠ gb164)) (Kd.R_types (HO185.out) BK164.out (by decide)) (fun k_ hk => ⟨hk.1.1.1.1.1, hk.2⟩))))) (Reps.one (show Kd.FK (Kd.slice 3 (Kd.int .i64)) _ _ y186 [.slice Ao30 y186.length co30] from (Kd.FK_slice_mk (Kd.R_reads' (Kd.R_mono (ok' := (fun k_ => (w.heap.size ≤ k_) ∧ k_ ≠ gb164)) (Kd.R_types (HO188.out) BK164.out (by decide)) (fun k_ hk => ⟨hk.1.1.1.1.1, hk.2⟩))).2.1 (Kd.R_F (Kd.R_mono (ok' := (fun k_ => (w.heap.size ≤ k_) ∧ k_ ≠ gb164)) (Kd.R_types (HO188.out) BK164.out (by decide)) (fun k_ hk => ⟨hk.1.1.1.1.1, hk.2⟩))))) (Reps.none _ _)))))); rintro v190 w31 ho32 hb - -; (rw [← Ny189.out] at ho32); have HO191 := A_ (Kd.N_lower ho32 (below_size HB.out)); replace BK164 := bb_ BK164 hb; replace HB := bs_ HB hb; clear HO179 HO182 HO185 HO188; clear hb ho32) | ((with_reducible refine gd_ 19 rfl ?_); refine RL_ 19 3 [0, 0, 1, 1] [.int .i64 0, .int .i64 0, .int .i64 1, .int .i64 1] rfl rfl (by go_simp; done) rfl rfl ?_; rintro v193 w33 ho34 hb - -; (rw [← Ny192.out] at ho34); replace HO191 := A_ (Kd.N_elder' HO191.out (Kd.R_base ho34) hb); have HO194 := A_ (Kd.R_lower (Kd.R_newM (M := fun k_ => (w.heap.size ≤ k_)) ho34 (below_size HB.out) (fun k_ h_ => h_)) (below_size HB.out)); replace BK164 := bb_ BK164 hb; replace HB := bs_ HB hb; clear hb ho34; obtain ⟨Ao35, co35, eo35⟩ := Kd.R_slice HO194.out; subst eo35; obtain ⟨Ao36, co36, eo36⟩ := Kd.N_slice HO191.out; subst eo36; have hcz37_0 := bz0 BK164.out; have hcz37_1 := bz1 BK164.out; have hcz37_2 := bz2 BK164.out; have hfz37_0 := blk_frozen BK164.out 0; have hfz37_1 := blk_frozen BK164.out 1; have hfz37_2 := blk_frozen BK164.out 2))
  refine bodyPost_ret (results_ct rfl _ _ gb164 76 #[.int .i64 2, .slice Ao36 y189.length co36, .slice Ao35 y192.length co35] (0, 0) _ rfl (by refine blk_put (cs := #[.int .i64 2, .slice Ao36 y189.length co36, .slice none 0 0]) ?_ 2 _ rfl; refine blk_put (cs := #[.int .i64 2, .slice none 0 0, .slice none 0 0]) ?_ 1 _ rfl; refine blk_put (cs := #[.int .i64 0, .slice none 0 0, .slice none 0 0]) ?_ 0 _ rfl; exact BK164.out) Tryz.underlying76 rfl (by kernel_rfl)) rfl ?_; exact ⟨_, _, by rfl, by exact Kd.N_mono (Kd.N_far (p := ⟨gb164, 2, none⟩) (Kd.N_far (p := ⟨gb164, 1, none⟩) (Kd.N_far (p := ⟨gb164, 0, none⟩) (Kd.N_mono HO191.out (fun k_ hk => (⟨hk, hk.1.2⟩ : _ ∧ k_ ≠ gb164))) (fun _ hk => hk.2) (.int .i64 2)) (fun _ hk => hk.2) (.slice Ao36 y189.length co36)) (fun _ hk => hk.2) (.slice Ao35 y192.length co35)) (fun _ hk => ⟨hk.1.1.1, hk.1.2⟩), by exact Kd.R_mono (Kd.R_far (p := ⟨gb164, 2, none⟩) (Kd.R_far (p := ⟨gb164, 1, none⟩) (Kd.R_far (p := ⟨gb164, 0, none⟩) (Kd.R_types HO194.out BK164.out (by decide)) (fun _ hk => hk.2) (.int .i64 2)) (fun _ hk => hk.2) (.slice Ao36 y189.length co36)) (fun _ hk => hk.2) (.slice Ao35 y192.length co35)) (fun _ hk => hk.1.1), by repeat (first | (with_reducible first | exact HB.out | apply below_alloc | apply pw_below_drewN | apply below_drew1 | refine below_set ?_ GE164.out) | exact HB.out)⟩
 rw [if_neg c17] at H
 have c17b0 : (a0.toList == ([114, 117, 100, 105, 110] : List UInt8)) = false := beq_eq_false_iff_ne.mpr c17
 have c17b1 : (a0.toList != ([114, 117, 100, 105, 110] : List UInt8)) = true := bne_iff_ne.mpr c17
 by_cases c38 : a0.toList = ([112, 101, 114, 105, 111, 100] : List UInt8)
 ·rw [if_pos c38] at H
  have c38b0 : (a0.toList == ([112, 101, 114, 105, 111, 100] : List UInt8)) = true := beq_iff_eq.mpr c38
  clear c38; obtain ⟨y195, hy195⟩ := ex_ ((([0, 1] : List Int)) : List Int); replace H : (some (2, (([y195, (([2, 3] : List Int)), (([0, 1] : List Int)), (([2, 3] : List Int))] : List (List Int))), (([0, 0, 1, 1] : List Int)), true)) = some (r1, r2, r3, r4) := by (rw [hy195]; with_reducible exact H)
  have Ny195 := A_ hy195; clear hy195; obtain ⟨y198, hy198⟩ := ex_ ((([2, 3] : List Int)) : List Int); replace H : (some (2, (([y195, y198, (([0, 1] : List Int)), (([2, 3] : List Int))] : List (List Int))), (([0, 0, 1, 1] : List Int)), true)) = some (r1, r2, r3, r4) := by (rw [hy198]; with_reducible exact H)
  have Ny198 := A_ hy198; clear hy198; obtain ⟨y201, hy201⟩ := ex_ ((([0, 1] : List Int)) : List Int); replace H : (some (2, (([y195, y198, y201, (([2, 3] : List Int))] : List (List Int))), (([0, 0, 1, 1] : List Int)), true)) = some (r1, r2, r3, r4) := by (rw [hy201]; with_reducible exact H)
  have Ny201 := A_ hy201; clear hy201; obtain ⟨y204, hy204⟩ := ex_ ((([2, 3] : List Int)) : List Int); replace H : (some (2, (([y195, y198, y201, y204] : List (List Int))), (([0, 0, 1, 1] : List Int)), true)) = some (r1, r2, r3, r4) := by (rw [hy204]; with_reducible exact H)
  have Ny204 := A_ hy204; clear hy204; obtain ⟨y207, hy207⟩ := ex_ ((([y195, y198, y201, y204] : List (List Int))) : List (List Int)); replace H : (some (2, y207, (([0, 0, 1, 1] : List Int)), true)) = some (r1, r2, r3, r4) := by (rw [hy207]; with_reducible exact H)
  have Ny207 := A_ hy207; clear hy207; obtain ⟨y210, hy210⟩ := ex_ ((([0, 0, 1, 1] : List Int)) : List Int); replace H : (some (2, y207, y210, true)) = some (r1, r2, r3, r4) := by (rw [hy210]; with_reducible exact H)
  have Ny210 := A_ hy210; clear hy210; simp only [Option.some.injEq, Prod.mk.injEq] at H; obtain ⟨rfl, rfl, rfl, rfl⟩ := H; go_enter Tryz.func87, Tryz.ntmps87
  go_wp2_with (first | ((with_reducible refine gate_dst (N := 2) rfl ?_); refine box_event ?hg (N := 2) ?hd (cs := #[.int .i64 0, .slice none 0 0, .slice none 0 0]) (t := 76) ?hr ?_; (case hd | hg => rfl); (case hr => go_simp; done); intro gb164 hg w39 hbox hb; have BK164 := A_ (hbox); have GE164 := A_ (lg_ (below_size HB.out) hg); replace HB := bs_ HB hb; clear hb hbox hg) | ((with_reducible refine gd_ 23 rfl ?_); refine RL_ 23 3 [0, 1] [.int .i64 0, .int .i64 1] rfl rfl (by go_simp; done) rfl rfl ?_; rintro v196 w40 ho41 hb - -; (rw [← Ny195.out] at ho41); have HO197 := A_ (Kd.R_lower (Kd.R_newM (M := fun k_ => (w.heap.size ≤ k_)) ho41 (below_size HB.out) (fun k_ h_ => h_)) (below_size HB.out)); replace BK164 := bb_ BK164 hb; replace HB := bs_ HB hb; clear hb ho41) | ((with_reducible refine gd_ 24 rfl ?_); refine RL_ 24 3 [2, 3] [.int .i64 2, .int .i64 3] rfl rfl (by go_simp; done) rfl rfl ?_; rintro v199 w42 ho43 hb - -; (rw [← Ny198.out] at ho43); have HO200 := A_ (Kd.R_lower (Kd.R_new' (Kd.R_newM (M := fun k_ => (w.heap.size ≤ k_)) ho43 (below_size HB.out) (fun k_ h_ => h_)) (Kd.R_lt HO197.out)) (below_size HB.out)); replace HO197 := A_ (Kd.R_elder' HO197.out (Kd.R_base ho43) hb); replace BK164 := bb_ BK164 hb; replace HB := bs_ HB hb; clear hb ho43) | ((with_reducible refine gd_ 25 rfl ?_); refine RL_ 25 3 [0, 1] [.int .i64 0, .int .i64 1] rfl rfl (by go_simp; done) rfl rfl ?_; rintro v202 w44 ho45 hb - -; (rw [← Ny201.out] at ho45); have HO203 := A_ (Kd.R_lower (Kd.R_new' (Kd.R_new' (Kd.R_newM (M := fun k_ => (w.heap.size ≤ k_)) ho45 (below_size HB.out) (fun k_ h_ => h_)) (Kd.R_lt HO197.out)) (Kd.R_lt HO200.out)) (below_size HB.out)); replace HO197 := A_ (Kd.R_elder' HO197.out (Kd.R_base ho45) hb); replace HO200 := A_ (Kd.R_elder' HO200.out (Kd.R_base ho45) hb); replace BK164 := bb_ BK164 hb; replace HB := bs_ HB hb; clear hb ho45) | ((with_reducible refine gd_ 26 rfl ?_); refine RL_ 26 3 [2, 3] [.int .i64 2, .int .i64 3] rfl rfl (by go_simp; done) rfl rfl ?_; rintro v205 w46 ho47 hb - -; (rw [← Ny204.out] at ho47); have HO206 := A_ (Kd.R_lower (Kd.R_new' (Kd.R_new' (Kd.R_new' (Kd.R_newM (M := fun k_ => (w.heap.size ≤ k_)) ho47 (below_size HB.out) (fun k_ h_ => h_)) (Kd.R_lt HO197.out)) (Kd.R_lt HO200.out)) (Kd.R_lt HO203.out)) (below_size HB.out)); replace HO197 := A_ (Kd.R_elder' HO197.out (Kd.R_base ho47) hb); replace HO200 := A_ (Kd.R_elder' HO200.out (Kd.R_base ho47) hb); replace HO203 := A_ (Kd.R_elder' HO203.out (Kd.R_base ho47) hb); replace BK164 := bb_ BK164 hb; replace HB := bs_ HB hb; clear hb ho47; obtain ⟨Ao48, co48, eo48⟩ := Kd.R_slice HO197.out; subst eo48; obtain ⟨Ao49, co49, eo49⟩ := Kd.R_slice HO200.out; subst eo49; obtain ⟨Ao50, co50, eo50⟩ := Kd.R_slice HO203.out; subst eo50; obtain ⟨Ao51, co51, eo51⟩ := Kd.R_slice HO206.out; subst eo51) | ((with_reducible refine gate_dst (N := 27) rfl ?_); refine Kd.N_lit (Kd.slice 3 (Kd.int .i64)) _ 24 ?hg (N' := 27) ?hd (xs := ([y195, y198, y201, y204] : List (List Int))) (inner := [.slice Ao48 y195.length co48, .slice Ao49 y198.length co49, .slice Ao50 y201.length co50, .slice Ao51 y204.length co51]) (ok := (fun k_ => (w.heap.size ≤ k_) ∧ k_ ≠ gb164)) (okp := (fun k_ => (w.heap.size ≤ k_) ∧ k_ ≠ gb164)) ?hr ?hp (fun _ hk => hk) ((show ∀ k_, w46.heap.size ≤ k_ → (fun k_ => (w.heap.size ≤ k_) ∧ k_ ≠ gb164) k_ from fun k_ hk => ⟨(Nat.le_trans (below_size HB.out) hk), Kd.freshB BK164.out k_ hk⟩) _ (Nat.le_refl _)) (Below.refl _ _) (Nat.le_refl _) (by simp) ?_; (case hd | hg => rfl); (case hr => go_simp; done); (case hp => exact (Reps.one (show Kd.FK (Kd.slice 3 (Kd.int .i64)) _ _ y195 [.slice Ao48 y195.length co48] from (Kd.FK_slice_mk (Kd.R_reads' (Kd.R_mono (ok' := (fun k_ => (w.heap.size ≤ k_) ∧ k_ ≠ gb164)) (Kd.R_types (HO197.out) BK164.out (by decide)) (fun k_ hk => ⟨hk.1.1.1.1.1, hk.2⟩))).2.1 (Kd.R_F (Kd.R_mono (ok' := (fun k_ => (w.heap.size ≤ k_) ∧ k_ ≠ gb164)) (Kd.R_types (HO197.out) BK164.out (by decide)) (fun k_ hk => ⟨hk.1.1.1.1.1, hk.2⟩))))) (Reps.one (show Kd.FK (Kd.slice 3 (Kd.int .i64)) _ _ y198 [.slice Ao49 y198.length co49] from (Kd.FK_slice_mk (Kd.R_reads' (Kd.R_mono (ok' := (fun k_ => (w.heap.size ≤ k_) ∧ k_ ≠ gb164)) (Kd.R_types (HO200.out) BK164.out (by decide)) (fun k_ hk => ⟨hk.1.1.1.1.1, hk.2⟩))).2.1 (Kd.R_F (Kd.R_mono (ok' := (fun k_ => (w.heap.size ≤ k_) ∧ k_ ≠ gb164)) (Kd.R_types (HO200.out) BK164.out (by decide)) (fun k_ hk => ⟨hk.1.1.1.1.1, hk.2⟩))))) (Reps.one (show Kd.FK (Kd.slice 3 (Kd.int .i64)) _ _ y201 [.slice Ao50 y201.length co50] from (Kd.FK_slice_mk (Kd.R_reads' (Kd.R_mono (ok' := (fun k_ => (w.heap.size ≤ k_) ∧ k_ ≠ gb164)) (Kd.R_types (HO203.out) BK164.out (by decide)) (fun k_ hk => ⟨hk.1.1.1.1.1, hk.2⟩))).2.1 (Kd.R_F (Kd.R_mono (ok' := (fun k_ => (w.heap.size ≤ k_) ∧ k_ ≠ gb164)) (Kd.R_types (HO203.out) BK164.out (by decide)) (fun k_ hk => ⟨hk.1.1.1.1.1, hk.2⟩))))) (Reps.one (show Kd.FK (Kd.slice 3 (Kd.int .i64)) _ _ y204 [.slice Ao51 y204.length co51] from (Kd.FK_slice_mk (Kd.R_reads' (Kd.R_mono (ok' := (fun k_ => (w.heap.size ≤ k_) ∧ k_ ≠ gb164)) (Kd.R_types (HO206.out) BK164.out (by decide)) (fun k_ hk => ⟨hk.1.1.1.1.1, hk.2⟩))).2.1 (Kd.R_F (Kd.R_mono (ok' := (fun k_ => (w.heap.size ≤ k_) ∧ k_ ≠ gb164)) (Kd.R_types (HO206.out) BK164.out (by decide)) (fun k_ hk => ⟨hk.1.1.1.1.1, hk.2⟩))))) (Reps.none _ _)))))); rintro v208 w52 ho53 hb - -; (rw [← Ny207.out] at ho53); have HO209 := A_ (Kd.N_lower ho53 (below_size HB.out)); replace BK164 := bb_ BK164 hb; replace HB := bs_ HB hb; clear HO197 HO200 HO203 HO206; clear hb ho53) | ((with_reducible refine gd_ 28 rfl ?_); refine RL_ 28 3 [0, 0, 1, 1] [.int .i64 0, .int .i64 0, .int .i64 1, .int .i64 1] rfl rfl (by go_simp; done) rfl rfl ?_; rintro v211 w54 ho55 hb - -; (rw [← Ny210.out] at ho55); replace HO209 := A_ (Kd.N_elder' HO209.out (Kd.R_base ho55) hb); have HO212 := A_ (Kd.R_lower (Kd.R_newM (M := fun k_ => (w.heap.size ≤ k_)) ho55 (below_size HB.out) (fun k_ h_ => h_)) (below_size HB.out)); replace BK164 := bb_ BK164 hb; replace HB := bs_ HB hb; clear hb ho55; obtain ⟨Ao56, co56, eo56⟩ := Kd.R_slice HO212.out; subst eo56; obtain ⟨Ao57, co57, eo57⟩ := Kd.N_slice HO209.out; subst eo57; have hcz58_0 := bz0 BK164.out; have hcz58_1 := bz1 BK164.out; have hcz58_2 := bz2 BK164.out; have hfz58_0 := blk_frozen BK164.out 0; have hfz58_1 := blk_frozen BK164.out 1; have hfz58_2 := blk_frozen BK164.out 2))
  refine bodyPost_ret (results_ct rfl _ _ gb164 76 #[.int .i64 2, .slice Ao57 y207.length co57, .slice Ao56 y210.length co56] (0, 0) _ rfl (by refine blk_put (cs := #[.int .i64 2, .slice Ao57 y207.length co57, .slice none 0 0]) ?_ 2 _ rfl; refine blk_put (cs := #[.int .i64 2, .slice none 0 0, .slice none 0 0]) ?_ 1 _ rfl; refine blk_put (cs := #[.int .i64 0, .slice none 0 0, .slice none 0 0]) ?_ 0 _ rfl; exact BK164.out) Tryz.underlying76 rfl (by kernel_rfl)) rfl ?_; exact ⟨_, _, by rfl, by exact Kd.N_mono (Kd.N_far (p := ⟨gb164, 2, none⟩) (Kd.N_far (p := ⟨gb164, 1, none⟩) (Kd.N_far (p := ⟨gb164, 0, none⟩) (Kd.N_mono HO209.out (fun k_ hk => (⟨hk, hk.1.2⟩ : _ ∧ k_ ≠ gb164))) (fun _ hk => hk.2) (.int .i64 2)) (fun _ hk => hk.2) (.slice Ao57 y207.length co57)) (fun _ hk => hk.2) (.slice Ao56 y210.length co56)) (fun _ hk => ⟨hk.1.1.1, hk.1.2⟩), by exact Kd.R_mono (Kd.R_far (p := ⟨gb164, 2, none⟩) (Kd.R_far (p := ⟨gb164, 1, none⟩) (Kd.R_far (p := ⟨gb164, 0, none⟩) (Kd.R_types HO212.out BK164.out (by decide)) (fun _ hk => hk.2) (.int .i64 2)) (fun _ hk => hk.2) (.slice Ao57 y207.length co57)) (fun _ hk => hk.2) (.slice Ao56 y210.length co56)) (fun _ hk => hk.1.1), by repeat (first | (with_reducible first | exact HB.out | apply below_alloc | apply pw_below_drewN | apply below_drew1 | refine below_set ?_ GE164.out) | exact HB.out)⟩
 rw [if_neg c38] at H
 have c38b0 : (a0.toList == ([112, 101, 114, 105, 111, 100] : List UInt8)) = false := beq_eq_false_iff_ne.mpr c38
 have c38b1 : (a0.toList != ([112, 101, 114, 105, 111, 100] : List UInt8)) = true := bne_iff_ne.mpr c38
 by_cases c59 : a0.toList = ([112, 111, 119, 101, 114, 115] : List UInt8)
 ·rw [if_pos c59] at H
  have c59b0 : (a0.toList == ([112, 111, 119, 101, 114, 115] : List UInt8)) = true := beq_iff_eq.mpr c59
  clear c59; obtain ⟨y213, hy213⟩ := ex_ ((([0, 1] : List Int)) : List Int); replace H : (some (2, (([y213, (([1, 2] : List Int)), (([2, 2] : List Int))] : List (List Int))), (([0, 1, 0] : List Int)), true)) = some (r1, r2, r3, r4) := by (rw [hy213]; with_reducible exact H)
  have Ny213 := A_ hy213; clear hy213; obtain ⟨y216, hy216⟩ := ex_ ((([1, 2] : List Int)) : List Int); replace H : (some (2, (([y213, y216, (([2, 2] : List Int))] : List (List Int))), (([0, 1, 0] : List Int)), true)) = some (r1, r2, r3, r4) := by (rw [hy216]; with_reducible exact H)
  have Ny216 := A_ hy216; clear hy216; obtain ⟨y219, hy219⟩ := ex_ ((([2, 2] : List Int)) : List Int); replace H : (some (2, (([y213, y216, y219] : List (List Int))), (([0, 1, 0] : List Int)), true)) = some (r1, r2, r3, r4) := by (rw [hy219]; with_reducible exact H)
  have Ny219 := A_ hy219; clear hy219; obtain ⟨y222, hy222⟩ := ex_ ((([y213, y216, y219] : List (List Int))) : List (List Int)); replace H : (some (2, y222, (([0, 1, 0] : List Int)), true)) = some (r1, r2, r3, r4) := by (rw [hy222]; with_reducible exact H)
  have Ny222 := A_ hy222; clear hy222; obtain ⟨y225, hy225⟩ := ex_ ((([0, 1, 0] : List Int)) : List Int); replace H : (some (2, y222, y225, true)) = some (r1, r2, r3, r4) := by (rw [hy225]; with_reducible exact H)
  have Ny225 := A_ hy225; clear hy225; simp only [Option.some.injEq, Prod.mk.injEq] at H; obtain ⟨rfl, rfl, rfl, rfl⟩ := H; go_enter Tryz.func87, Tryz.ntmps87
  go_wp2_with (first | ((with_reducible refine gate_dst (N := 2) rfl ?_); refine box_event ?hg (N := 2) ?hd (cs := #[.int .i64 0, .slice none 0 0, .slice none 0 0]) (t := 76) ?hr ?_; (case hd | hg => rfl); (case hr => go_simp; done); intro gb164 hg w60 hbox hb; have BK164 := A_ (hbox); have GE164 := A_ (lg_ (below_size HB.out) hg); replace HB := bs_ HB hb; clear hb hbox hg) | ((with_reducible refine gd_ 32 rfl ?_); refine RL_ 32 3 [0, 1] [.int .i64 0, .int .i64 1] rfl rfl (by go_simp; done) rfl rfl ?_; rintro v214 w61 ho62 hb - -; (rw [← Ny213.out] at ho62); have HO215 := A_ (Kd.R_lower (Kd.R_newM (M := fun k_ => (w.heap.size ≤ k_)) ho62 (below_size HB.out) (fun k_ h_ => h_)) (below_size HB.out)); replace BK164 := bb_ BK164 hb; replace HB := bs_ HB hb; clear hb ho62) | ((with_reducible refine gd_ 33 rfl ?_); refine RL_ 33 3 [1, 2] [.int .i64 1, .int .i64 2] rfl rfl (by go_simp; done) rfl rfl ?_; rintro v217 w63 ho64 hb - -; (rw [← Ny216.out] at ho64); have HO218 := A_ (Kd.R_lower (Kd.R_new' (Kd.R_newM (M := fun k_ => (w.heap.size ≤ k_)) ho64 (below_size HB.out) (fun k_ h_ => h_)) (Kd.R_lt HO215.out)) (below_size HB.out)); replace HO215 := A_ (Kd.R_elder' HO215.out (Kd.R_base ho64) hb); replace BK164 := bb_ BK164 hb; replace HB := bs_ HB hb; clear hb ho64) | ((with_reducible refine gd_ 34 rfl ?_); refine RL_ 34 3 [2, 2] [.int .i64 2, .int .i64 2] rfl rfl (by go_simp; done) rfl rfl ?_; rintro v220 w65 ho66 hb - -; (rw [← Ny219.out] at ho66); have HO221 := A_ (Kd.R_lower (Kd.R_new' (Kd.R_new' (Kd.R_newM (M := fun k_ => (w.heap.size ≤ k_)) ho66 (below_size HB.out) (fun k_ h_ => h_)) (Kd.R_lt HO215.out)) (Kd.R_lt HO218.out)) (below_size HB.out)); replace HO215 := A_ (Kd.R_elder' HO215.out (Kd.R_base ho66) hb); replace HO218 := A_ (Kd.R_elder' HO218.out (Kd.R_base ho66) hb); replace BK164 := bb_ BK164 hb; replace HB := bs_ HB hb; clear hb ho66; obtain ⟨Ao67, co67, eo67⟩ := Kd.R_slice HO215.out; subst eo67; obtain ⟨Ao68, co68, eo68⟩ := Kd.R_slice HO218.out; subst eo68; obtain ⟨Ao69, co69, eo69⟩ := Kd.R_slice HO221.out; subst eo69) | ((with_reducible refine gate_dst (N := 35) rfl ?_); refine Kd.N_lit (Kd.slice 3 (Kd.int .i64)) _ 24 ?hg (N' := 35) ?hd (xs := ([y213, y216, y219] : List (List Int))) (inner := [.slice Ao67 y213.length co67, .slice Ao68 y216.length co68, .slice Ao69 y219.length co69]) (ok := (fun k_ => (w.heap.size ≤ k_) ∧ k_ ≠ gb164)) (okp := (fun k_ => (w.heap.size ≤ k_) ∧ k_ ≠ gb164)) ?hr ?hp (fun _ hk => hk) ((show ∀ k_, w65.heap.size ≤ k_ → (fun k_ => (w.heap.size ≤ k_) ∧ k_ ≠ gb164) k_ from fun k_ hk => ⟨(Nat.le_trans (below_size HB.out) hk), Kd.freshB BK164.out k_ hk⟩) _ (Nat.le_refl _)) (Below.refl _ _) (Nat.le_refl _) (by simp) ?_; (case hd | hg => rfl); (case hr => go_simp; done); (case hp => exact (Reps.one (show Kd.FK (Kd.slice 3 (Kd.int .i64)) _ _ y213 [.slice Ao67 y213.length co67] from (Kd.FK_slice_mk (Kd.R_reads' (Kd.R_mono (ok' := (fun k_ => (w.heap.size ≤ k_) ∧ k_ ≠ gb164)) (Kd.R_types (HO215.out) BK164.out (by decide)) (fun k_ hk => ⟨hk.1.1.1.1, hk.2⟩))).2.1 (Kd.R_F (Kd.R_mono (ok' := (fun k_ => (w.heap.size ≤ k_) ∧ k_ ≠ gb164)) (Kd.R_types (HO215.out) BK164.out (by decide)) (fun k_ hk => ⟨hk.1.1.1.1, hk.2⟩))))) (Reps.one (show Kd.FK (Kd.slice 3 (Kd.int .i64)) _ _ y216 [.slice Ao68 y216.length co68] from (Kd.FK_slice_mk (Kd.R_reads' (Kd.R_mono (ok' := (fun k_ => (w.heap.size ≤ k_) ∧ k_ ≠ gb164)) (Kd.R_types (HO218.out) BK164.out (by decide)) (fun k_ hk => ⟨hk.1.1.1.1, hk.2⟩))).2.1 (Kd.R_F (Kd.R_mono (ok' := (fun k_ => (w.heap.size ≤ k_) ∧ k_ ≠ gb164)) (Kd.R_types (HO218.out) BK164.out (by decide)) (fun k_ hk => ⟨hk.1.1.1.1, hk.2⟩))))) (Reps.one (show Kd.FK (Kd.slice 3 (Kd.int .i64)) _ _ y219 [.slice Ao69 y219.length co69] from (Kd.FK_slice_mk (Kd.R_reads' (Kd.R_mono (ok' := (fun k_ => (w.heap.size ≤ k_) ∧ k_ ≠ gb164)) (Kd.R_types (HO221.out) BK164.out (by decide)) (fun k_ hk => ⟨hk.1.1.1.1, hk.2⟩))).2.1 (Kd.R_F (Kd.R_mono (ok' := (fun k_ => (w.heap.size ≤ k_) ∧ k_ ≠ gb164)) (Kd.R_types (HO221.out) BK164.out (by decide)) (fun k_ hk => ⟨hk.1.1.1.1, hk.2⟩))))) (Reps.none _ _))))); rintro v223 w70 ho71 hb - -; (rw [← Ny222.out] at ho71); have HO224 := A_ (Kd.N_lower ho71 (below_size HB.out)); replace BK164 := bb_ BK164 hb; replace HB := bs_ HB hb; clear HO215 HO218 HO221; clear hb ho71) | ((with_reducible refine gd_ 36 rfl ?_); refine RL_ 36 3 [0, 1, 0] [.int .i64 0, .int .i64 1, .int .i64 0] rfl rfl (by go_simp; done) rfl rfl ?_; rintro v226 w72 ho73 hb - -; (rw [← Ny225.out] at ho73); replace HO224 := A_ (Kd.N_elder' HO224.out (Kd.R_base ho73) hb); have HO227 := A_ (Kd.R_lower (Kd.R_newM (M := fun k_ => (w.heap.size ≤ k_)) ho73 (below_size HB.out) (fun k_ h_ => h_)) (below_size HB.out)); replace BK164 := bb_ BK164 hb; replace HB := bs_ HB hb; clear hb ho73; obtain ⟨Ao74, co74, eo74⟩ := Kd.R_slice HO227.out; subst eo74; obtain ⟨Ao75, co75, eo75⟩ := Kd.N_slice HO224.out; subst eo75; have hcz76_0 := bz0 BK164.out; have hcz76_1 := bz1 BK164.out; have hcz76_2 := bz2 BK164.out; have hfz76_0 := blk_frozen BK164.out 0; have hfz76_1 := blk_frozen BK164.out 1; have hfz76_2 := blk_frozen BK164.out 2))
  refine bodyPost_ret (results_ct rfl _ _ gb164 76 #[.int .i64 2, .slice Ao75 y222.length co75, .slice Ao74 y225.length co74] (0, 0) _ rfl (by refine blk_put (cs := #[.int .i64 2, .slice Ao75 y222.length co75, .slice none 0 0]) ?_ 2 _ rfl; refine blk_put (cs := #[.int .i64 2, .slice none 0 0, .slice none 0 0]) ?_ 1 _ rfl; refine blk_put (cs := #[.int .i64 0, .slice none 0 0, .slice none 0 0]) ?_ 0 _ rfl; exact BK164.out) Tryz.underlying76 rfl (by kernel_rfl)) rfl ?_; exact ⟨_, _, by rfl, by exact Kd.N_mono (Kd.N_far (p := ⟨gb164, 2, none⟩) (Kd.N_far (p := ⟨gb164, 1, none⟩) (Kd.N_far (p := ⟨gb164, 0, none⟩) (Kd.N_mono HO224.out (fun k_ hk => (⟨hk, hk.1.2⟩ : _ ∧ k_ ≠ gb164))) (fun _ hk => hk.2) (.int .i64 2)) (fun _ hk => hk.2) (.slice Ao75 y222.length co75)) (fun _ hk => hk.2) (.slice Ao74 y225.length co74)) (fun _ hk => ⟨hk.1.1.1, hk.1.2⟩), by exact Kd.R_mono (Kd.R_far (p := ⟨gb164, 2, none⟩) (Kd.R_far (p := ⟨gb164, 1, none⟩) (Kd.R_far (p := ⟨gb164, 0, none⟩) (Kd.R_types HO227.out BK164.out (by decide)) (fun _ hk => hk.2) (.int .i64 2)) (fun _ hk => hk.2) (.slice Ao75 y222.length co75)) (fun _ hk => hk.2) (.slice Ao74 y225.length co74)) (fun _ hk => hk.1.1), by repeat (first | (with_reducible first | exact HB.out | apply below_alloc | apply pw_below_drewN | apply below_drew1 | refine below_set ?_ GE164.out) | exact HB.out)⟩
 rw [if_neg c59] at H
 have c59b0 : (a0.toList == ([112, 111, 119, 101, 114, 115] : List UInt8)) = false := beq_eq_false_iff_ne.mpr c59
 have c59b1 : (a0.toList != ([112, 111, 119, 101, 114, 115] : List UInt8)) = true := bne_iff_ne.mpr c59
 by_cases c77 : a0.toList = ([99, 97, 110, 116, 111, 114] : List UInt8)
 ·rw [if_pos c77] at H
  have c77b0 : (a0.toList == ([99, 97, 110, 116, 111, 114] : List UInt8)) = true := beq_iff_eq.mpr c77
  clear c77; obtain ⟨y228, hy228⟩ := ex_ ((([0, 1, 0] : List Int)) : List Int); replace H : (some (3, (([y228, (([1, 1, 1] : List Int))] : List (List Int))), (([1, 0] : List Int)), true)) = some (r1, r2, r3, r4) := by (rw [hy228]; with_reducible exact H)
  have Ny228 := A_ hy228; clear hy228; obtain ⟨y231, hy231⟩ := ex_ ((([1, 1, 1] : List Int)) : List Int); replace H : (some (3, (([y228, y231] : List (List Int))), (([1, 0] : List Int)), true)) = some (r1, r2, r3, r4) := by (rw [hy231]; with_reducible exact H)
  have Ny231 := A_ hy231; clear hy231; obtain ⟨y234, hy234⟩ := ex_ ((([y228, y231] : List (List Int))) : List (List Int)); replace H : (some (3, y234, (([1, 0] : List Int)), true)) = some (r1, r2, r3, r4) := by (rw [hy234]; with_reducible exact H)
  have Ny234 := A_ hy234; clear hy234; obtain ⟨y237, hy237⟩ := ex_ ((([1, 0] : List Int)) : List Int); replace H : (some (3, y234, y237, true)) = some (r1, r2, r3, r4) := by (rw [hy237]; with_reducible exact H)
  have Ny237 := A_ hy237; clear hy237; simp only [Option.some.injEq, Prod.mk.injEq] at H; obtain ⟨rfl, rfl, rfl, rfl⟩ := H; go_enter Tryz.func87, Tryz.ntmps87
  go_wp2_with (first | ((with_reducible refine gate_dst (N := 2) rfl ?_); refine box_event ?hg (N := 2) ?hd (cs := #[.int .i64 0, .slice none 0 0, .slice none 0 0]) (t := 76) ?hr ?_; (case hd | hg => rfl); (case hr => go_simp; done); intro gb164 hg w78 hbox hb; have BK164 := A_ (hbox); have GE164 := A_ (lg_ (below_size HB.out) hg); replace HB := bs_ HB hb; clear hb hbox hg) | ((with_reducible refine gd_ 40 rfl ?_); refine RL_ 40 3 [0, 1, 0] [.int .i64 0, .int .i64 1, .int .i64 0] rfl rfl (by go_simp; done) rfl rfl ?_; rintro v229 w79 ho80 hb - -; (rw [← Ny228.out] at ho80); have HO230 := A_ (Kd.R_lower (Kd.R_newM (M := fun k_ => (w.heap.size ≤ k_)) ho80 (below_size HB.out) (fun k_ h_ => h_)) (below_size HB.out)); replace BK164 := bb_ BK164 hb; replace HB := bs_ HB hb; clear hb ho80) | ((with_reducible refine gd_ 41 rfl ?_); refine RL_ 41 3 [1, 1, 1] [.int .i64 1, .int .i64 1, .int .i64 1] rfl rfl (by go_simp; done) rfl rfl ?_; rintro v232 w81 ho82 hb - -; (rw [← Ny231.out] at ho82); have HO233 := A_ (Kd.R_lower (Kd.R_new' (Kd.R_newM (M := fun k_ => (w.heap.size ≤ k_)) ho82 (below_size HB.out) (fun k_ h_ => h_)) (Kd.R_lt HO230.out)) (below_size HB.out)); replace HO230 := A_ (Kd.R_elder' HO230.out (Kd.R_base ho82) hb); replace BK164 := bb_ BK164 hb; replace HB := bs_ HB hb; clear hb ho82; obtain ⟨Ao83, co83, eo83⟩ := Kd.R_slice HO230.out; subst eo83; obtain ⟨Ao84, co84, eo84⟩ := Kd.R_slice HO233.out; subst eo84) | ((with_reducible refine gate_dst (N := 42) rfl ?_); refine Kd.N_lit (Kd.slice 3 (Kd.int .i64)) _ 24 ?hg (N' := 42) ?hd (xs := ([y228, y231] : List (List Int))) (inner := [.slice Ao83 y228.length co83, .slice Ao84 y231.length co84]) (ok := (fun k_ => (w.heap.size ≤ k_) ∧ k_ ≠ gb164)) (okp := (fun k_ => (w.heap.size ≤ k_) ∧ k_ ≠ gb164)) ?hr ?hp (fun _ hk => hk) ((show ∀ k_, w81.heap.size ≤ k_ → (fun k_ => (w.heap.size ≤ k_) ∧ k_ ≠ gb164) k_ from fun k_ hk => ⟨(Nat.le_trans (below_size HB.out) hk), Kd.freshB BK164.out k_ hk⟩) _ (Nat.le_refl _)) (Below.refl _ _) (Nat.le_refl _) (by simp) ?_; (case hd | hg => rfl); (case hr => go_simp; done); (case hp => exact (Reps.one (show Kd.FK (Kd.slice 3 (Kd.int .i64)) _ _ y228 [.slice Ao83 y228.length co83] from (Kd.FK_slice_mk (Kd.R_reads' (Kd.R_mono (ok' := (fun k_ => (w.heap.size ≤ k_) ∧ k_ ≠ gb164)) (Kd.R_types (HO230.out) BK164.out (by decide)) (fun k_ hk => ⟨hk.1.1.1, hk.2⟩))).2.1 (Kd.R_F (Kd.R_mono (ok' := (fun k_ => (w.heap.size ≤ k_) ∧ k_ ≠ gb164)) (Kd.R_types (HO230.out) BK164.out (by decide)) (fun k_ hk => ⟨hk.1.1.1, hk.2⟩))))) (Reps.one (show Kd.FK (Kd.slice 3 (Kd.int .i64)) _ _ y231 [.slice Ao84 y231.length co84] from (Kd.FK_slice_mk (Kd.R_reads' (Kd.R_mono (ok' := (fun k_ => (w.heap.size ≤ k_) ∧ k_ ≠ gb164)) (Kd.R_types (HO233.out) BK164.out (by decide)) (fun k_ hk => ⟨hk.1.1.1, hk.2⟩))).2.1 (Kd.R_F (Kd.R_mono (ok' := (fun k_ => (w.heap.size ≤ k_) ∧ k_ ≠ gb164)) (Kd.R_types (HO233.out) BK164.out (by decide)) (fun k_ hk => ⟨hk.1.1.1, hk.2⟩))))) (Reps.none _ _)))); rintro v235 w85 ho86 hb - -; (rw [← Ny234.out] at ho86); have HO236 := A_ (Kd.N_lower ho86 (below_size HB.out)); replace BK164 := bb_ BK164 hb; replace HB := bs_ HB hb; clear HO230 HO233; clear hb ho86) | ((with_reducible refine gd_ 43 rfl ?_); refine RL_ 43 3 [1, 0] [.int .i64 1, .int .i64 0] rfl rfl (by go_simp; done) rfl rfl ?_; rintro v238 w87 ho88 hb - -; (rw [← Ny237.out] at ho88); replace HO236 := A_ (Kd.N_elder' HO236.out (Kd.R_base ho88) hb); have HO239 := A_ (Kd.R_lower (Kd.R_newM (M := fun k_ => (w.heap.size ≤ k_)) ho88 (below_size HB.out) (fun k_ h_ => h_)) (below_size HB.out)); replace BK164 := bb_ BK164 hb; replace HB := bs_ HB hb; clear hb ho88; obtain ⟨Ao89, co89, eo89⟩ := Kd.R_slice HO239.out; subst eo89; obtain ⟨Ao90, co90, eo90⟩ := Kd.N_slice HO236.out; subst eo90; have hcz91_0 := bz0 BK164.out; have hcz91_1 := bz1 BK164.out; have hcz91_2 := bz2 BK164.out; have hfz91_0 := blk_frozen BK164.out 0; have hfz91_1 := blk_frozen BK164.out 1; have hfz91_2 := blk_frozen BK164.out 2))
  refine bodyPost_ret (results_ct rfl _ _ gb164 76 #[.int .i64 3, .slice Ao90 y234.length co90, .slice Ao89 y237.length co89] (0, 0) _ rfl (by refine blk_put (cs := #[.int .i64 3, .slice Ao90 y234.length co90, .slice none 0 0]) ?_ 2 _ rfl; refine blk_put (cs := #[.int .i64 3, .slice none 0 0, .slice none 0 0]) ?_ 1 _ rfl; refine blk_put (cs := #[.int .i64 0, .slice none 0 0, .slice none 0 0]) ?_ 0 _ rfl; exact BK164.out) Tryz.underlying76 rfl (by kernel_rfl)) rfl ?_; exact ⟨_, _, by rfl, by exact Kd.N_mono (Kd.N_far (p := ⟨gb164, 2, none⟩) (Kd.N_far (p := ⟨gb164, 1, none⟩) (Kd.N_far (p := ⟨gb164, 0, none⟩) (Kd.N_mono HO236.out (fun k_ hk => (⟨hk, hk.1.2⟩ : _ ∧ k_ ≠ gb164))) (fun _ hk => hk.2) (.int .i64 3)) (fun _ hk => hk.2) (.slice Ao90 y234.length co90)) (fun _ hk => hk.2) (.slice Ao89 y237.length co89)) (fun _ hk => ⟨hk.1.1.1, hk.1.2⟩), by exact Kd.R_mono (Kd.R_far (p := ⟨gb164, 2, none⟩) (Kd.R_far (p := ⟨gb164, 1, none⟩) (Kd.R_far (p := ⟨gb164, 0, none⟩) (Kd.R_types HO239.out BK164.out (by decide)) (fun _ hk => hk.2) (.int .i64 3)) (fun _ hk => hk.2) (.slice Ao90 y234.length co90)) (fun _ hk => hk.2) (.slice Ao89 y237.length co89)) (fun _ hk => hk.1.1), by repeat (first | (with_reducible first | exact HB.out | apply below_alloc | apply pw_below_drewN | apply below_drew1 | refine below_set ?_ GE164.out) | exact HB.out)⟩
 rw [if_neg c77] at H
 have c77b0 : (a0.toList == ([99, 97, 110, 116, 111, 114] : List UInt8)) = false := beq_eq_false_iff_ne.mpr c77
 have c77b1 : (a0.toList != ([99, 97, 110, 116, 111, 114] : List UInt8)) = true := bne_iff_ne.mpr c77
 by_cases c92 : a0.toList = ([109, 111, 100] : List UInt8)
 ·rw [if_pos c92] at H
  have c92b0 : (a0.toList == ([109, 111, 100] : List UInt8)) = true := beq_iff_eq.mpr c92
  clear c92; obtain ⟨y240, hy240⟩ := ex_ ((([0, 1] : List Int)) : List Int); replace H : (some (2, (([y240, (([2, 0] : List Int)), (([1, 2] : List Int))] : List (List Int))), (([0, 1, 2] : List Int)), true)) = some (r1, r2, r3, r4) := by (rw [hy240]; with_reducible exact H)
  have Ny240 := A_ hy240; clear hy240; obtain ⟨y243, hy243⟩ := ex_ ((([2, 0] : List Int)) : List Int); replace H : (some (2, (([y240, y243, (([1, 2] : List Int))] : List (List Int))), (([0, 1, 2] : List Int)), true)) = some (r1, r2, r3, r4) := by (rw [hy243]; with_reducible exact H)
  have Ny243 := A_ hy243; clear hy243; obtain ⟨y246, hy246⟩ := ex_ ((([1, 2] : List Int)) : List Int); replace H : (some (2, (([y240, y243, y246] : List (List Int))), (([0, 1, 2] : List Int)), true)) = some (r1, r2, r3, r4) := by (rw [hy246]; with_reducible exact H)
  have Ny246 := A_ hy246; clear hy246; obtain ⟨y249, hy249⟩ := ex_ ((([y240, y243, y246] : List (List Int))) : List (List Int)); replace H : (some (2, y249, (([0, 1, 2] : List Int)), true)) = some (r1, r2, r3, r4) := by (rw [hy249]; with_reducible exact H)
  have Ny249 := A_ hy249; clear hy249; obtain ⟨y252, hy252⟩ := ex_ ((([0, 1, 2] : List Int)) : List Int); replace H : (some (2, y249, y252, true)) = some (r1, r2, r3, r4) := by (rw [hy252]; with_reducible exact H)
  have Ny252 := A_ hy252; clear hy252; simp only [Option.some.injEq, Prod.mk.injEq] at H; obtain ⟨rfl, rfl, rfl, rfl⟩ := H; go_enter Tryz.func87, Tryz.ntmps87
  go_wp2_with (first | ((with_reducible refine gate_dst (N := 2) rfl ?_); refine box_event ?hg (N := 2) ?hd (cs := #[.int .i64 0, .slice none 0 0, .slice none 0 0]) (t := 76) ?hr ?_; (case hd | hg => rfl); (case hr => go_simp; done); intro gb164 hg w93 hbox hb; have BK164 := A_ (hbox); have GE164 := A_ (lg_ (below_size HB.out) hg); replace HB := bs_ HB hb; clear hb hbox hg) | ((with_reducible refine gd_ 47 rfl ?_); refine RL_ 47 3 [0, 1] [.int .i64 0, .int .i64 1] rfl rfl (by go_simp; done) rfl rfl ?_; rintro v241 w94 ho95 hb - -; (rw [← Ny240.out] at ho95); have HO242 := A_ (Kd.R_lower (Kd.R_newM (M := fun k_ => (w.heap.size ≤ k_)) ho95 (below_size HB.out) (fun k_ h_ => h_)) (below_size HB.out)); replace BK164 := bb_ BK164 hb; replace HB := bs_ HB hb; clear hb ho95) | ((with_reducible refine gd_ 48 rfl ?_); refine RL_ 48 3 [2, 0] [.int .i64 2, .int .i64 0] rfl rfl (by go_simp; done) rfl rfl ?_; rintro v244 w96 ho97 hb - -; (rw [← Ny243.out] at ho97); have HO245 := A_ (Kd.R_lower (Kd.R_new' (Kd.R_newM (M := fun k_ => (w.heap.size ≤ k_)) ho97 (below_size HB.out) (fun k_ h_ => h_)) (Kd.R_lt HO242.out)) (below_size HB.out)); replace HO242 := A_ (Kd.R_elder' HO242.out (Kd.R_base ho97) hb); replace BK164 := bb_ BK164 hb; replace HB := bs_ HB hb; clear hb ho97) | ((with_reducible refine gd_ 49 rfl ?_); refine RL_ 49 3 [1, 2] [.int .i64 1, .int .i64 2] rfl rfl (by go_simp; done) rfl rfl ?_; rintro v247 w98 ho99 hb - -; (rw [← Ny246.out] at ho99); have HO248 := A_ (Kd.R_lower (Kd.R_new' (Kd.R_new' (Kd.R_newM (M := fun k_ => (w.heap.size ≤ k_)) ho99 (below_size HB.out) (fun k_ h_ => h_)) (Kd.R_lt HO242.out)) (Kd.R_lt HO245.out)) (below_size HB.out)); replace HO242 := A_ (Kd.R_elder' HO242.out (Kd.R_base ho99) hb); replace HO245 := A_ (Kd.R_elder' HO245.out (Kd.R_base ho99) hb); replace BK164 := bb_ BK164 hb; replace HB := bs_ HB hb; clear hb ho99; obtain ⟨Ao100, co100, eo100⟩ := Kd.R_slice HO242.out; subst eo100; obtain ⟨Ao101, co101, eo101⟩ := Kd.R_slice HO245.out; subst eo101; obtain ⟨Ao102, co102, eo102⟩ := Kd.R_slice HO248.out; subst eo102) | ((with_reducible refine gate_dst (N := 50) rfl ?_); refine Kd.N_lit (Kd.slice 3 (Kd.int .i64)) _ 24 ?hg (N' := 50) ?hd (xs := ([y240, y243, y246] : List (List Int))) (inner := [.slice Ao100 y240.length co100, .slice Ao101 y243.length co101, .slice Ao102 y246.length co102]) (ok := (fun k_ => (w.heap.size ≤ k_) ∧ k_ ≠ gb164)) (okp := (fun k_ => (w.heap.size ≤ k_) ∧ k_ ≠ gb164)) ?hr ?hp (fun _ hk => hk) ((show ∀ k_, w98.heap.size ≤ k_ → (fun k_ => (w.heap.size ≤ k_) ∧ k_ ≠ gb164) k_ from fun k_ hk => ⟨(Nat.le_trans (below_size HB.out) hk), Kd.freshB BK164.out k_ hk⟩) _ (Nat.le_refl _)) (Below.refl _ _) (Nat.le_refl _) (by simp) ?_; (case hd | hg => rfl); (case hr => go_simp; done); (case hp => exact (Reps.one (show Kd.FK (Kd.slice 3 (Kd.int .i64)) _ _ y240 [.slice Ao100 y240.length co100] from (Kd.FK_slice_mk (Kd.R_reads' (Kd.R_mono (ok' := (fun k_ => (w.heap.size ≤ k_) ∧ k_ ≠ gb164)) (Kd.R_types (HO242.out) BK164.out (by decide)) (fun k_ hk => ⟨hk.1.1.1.1, hk.2⟩))).2.1 (Kd.R_F (Kd.R_mono (ok' := (fun k_ => (w.heap.size ≤ k_) ∧ k_ ≠ gb164)) (Kd.R_types (HO242.out) BK164.out (by decide)) (fun k_ hk => ⟨hk.1.1.1.1, hk.2⟩))))) (Reps.one (show Kd.FK (Kd.slice 3 (Kd.int .i64)) _ _ y243 [.slice Ao101 y243.length co101] from (Kd.FK_slice_mk (Kd.R_reads' (Kd.R_mono (ok' := (fun k_ => (w.heap.size ≤ k_) ∧ k_ ≠ gb164)) (Kd.R_types (HO245.out) BK164.out (by decide)) (fun k_ hk => ⟨hk.1.1.1.1, hk.2⟩))).2.1 (Kd.R_F (Kd.R_mono (ok' := (fun k_ => (w.heap.size ≤ k_) ∧ k_ ≠ gb164)) (Kd.R_types (HO245.out) BK164.out (by decide)) (fun k_ hk => ⟨hk.1.1.1.1, hk.2⟩))))) (Reps.one (show Kd.FK (Kd.slice 3 (Kd.int .i64)) _ _ y246 [.slice Ao102 y246.length co102] from (Kd.FK_slice_mk (Kd.R_reads' (Kd.R_mono (ok' := (fun k_ => (w.heap.size ≤ k_) ∧ k_ ≠ gb164)) (Kd.R_types (HO248.out) BK164.out (by decide)) (fun k_ hk => ⟨hk.1.1.1.1, hk.2⟩))).2.1 (Kd.R_F (Kd.R_mono (ok' := (fun k_ => (w.heap.size ≤ k_) ∧ k_ ≠ gb164)) (Kd.R_types (HO248.out) BK164.out (by decide)) (fun k_ hk => ⟨hk.1.1.1.1, hk.2⟩))))) (Reps.none _ _))))); rintro v250 w103 ho104 hb - -; (rw [← Ny249.out] at ho104); have HO251 := A_ (Kd.N_lower ho104 (below_size HB.out)); replace BK164 := bb_ BK164 hb; replace HB := bs_ HB hb; clear HO242 HO245 HO248; clear hb ho104) | ((with_reducible refine gd_ 51 rfl ?_); refine RL_ 51 3 [0, 1, 2] [.int .i64 0, .int .i64 1, .int .i64 2] rfl rfl (by go_simp; done) rfl rfl ?_; rintro v253 w105 ho106 hb - -; (rw [← Ny252.out] at ho106); replace HO251 := A_ (Kd.N_elder' HO251.out (Kd.R_base ho106) hb); have HO254 := A_ (Kd.R_lower (Kd.R_newM (M := fun k_ => (w.heap.size ≤ k_)) ho106 (below_size HB.out) (fun k_ h_ => h_)) (below_size HB.out)); replace BK164 := bb_ BK164 hb; replace HB := bs_ HB hb; clear hb ho106; obtain ⟨Ao107, co107, eo107⟩ := Kd.R_slice HO254.out; subst eo107; obtain ⟨Ao108, co108, eo108⟩ := Kd.N_slice HO251.out; subst eo108; have hcz109_0 := bz0 BK164.out; have hcz109_1 := bz1 BK164.out; have hcz109_2 := bz2 BK164.out; have hfz109_0 := blk_frozen BK164.out 0; have hfz109_1 := blk_frozen BK164.out 1; have hfz109_2 := blk_frozen BK164.out 2))
  refine bodyPost_ret (results_ct rfl _ _ gb164 76 #[.int .i64 2, .slice Ao108 y249.length co108, .slice Ao107 y252.length co107] (0, 0) _ rfl (by refine blk_put (cs := #[.int .i64 2, .slice Ao108 y249.length co108, .slice none 0 0]) ?_ 2 _ rfl; refine blk_put (cs := #[.int .i64 2, .slice none 0 0, .slice none 0 0]) ?_ 1 _ rfl; refine blk_put (cs := #[.int .i64 0, .slice none 0 0, .slice none 0 0]) ?_ 0 _ rfl; exact BK164.out) Tryz.underlying76 rfl (by kernel_rfl)) rfl ?_; exact ⟨_, _, by rfl, by exact Kd.N_mono (Kd.N_far (p := ⟨gb164, 2, none⟩) (Kd.N_far (p := ⟨gb164, 1, none⟩) (Kd.N_far (p := ⟨gb164, 0, none⟩) (Kd.N_mono HO251.out (fun k_ hk => (⟨hk, hk.1.2⟩ : _ ∧ k_ ≠ gb164))) (fun _ hk => hk.2) (.int .i64 2)) (fun _ hk => hk.2) (.slice Ao108 y249.length co108)) (fun _ hk => hk.2) (.slice Ao107 y252.length co107)) (fun _ hk => ⟨hk.1.1.1, hk.1.2⟩), by exact Kd.R_mono (Kd.R_far (p := ⟨gb164, 2, none⟩) (Kd.R_far (p := ⟨gb164, 1, none⟩) (Kd.R_far (p := ⟨gb164, 0, none⟩) (Kd.R_types HO254.out BK164.out (by decide)) (fun _ hk => hk.2) (.int .i64 2)) (fun _ hk => hk.2) (.slice Ao108 y249.length co108)) (fun _ hk => hk.2) (.slice Ao107 y252.length co107)) (fun _ hk => hk.1.1), by repeat (first | (with_reducible first | exact HB.out | apply below_alloc | apply pw_below_drewN | apply below_drew1 | refine below_set ?_ GE164.out) | exact HB.out)⟩
 rw [if_neg c92] at H
 have c92b0 : (a0.toList == ([109, 111, 100] : List UInt8)) = false := beq_eq_false_iff_ne.mpr c92
 simp only [Option.some.injEq, Prod.mk.injEq] at H; obtain ⟨rfl, rfl, rfl, rfl⟩ := H; go_enter Tryz.func87, Tryz.ntmps87
 go_wp2_with (first | ((with_reducible refine gate_dst (N := 2) rfl ?_); refine box_event ?hg (N := 2) ?hd (cs := #[.int .i64 0, .slice none 0 0, .slice none 0 0]) (t := 76) ?hr ?_; (case hd | hg => rfl); (case hr => go_simp; done); intro gb164 hg w110 hbox hb; have BK164 := A_ (hbox); have GE164 := A_ (lg_ (below_size HB.out) hg); replace HB := bs_ HB hb; clear hb hbox hg; have hcz111_0 := bz0 BK164.out; have hcz111_1 := bz1 BK164.out; have hcz111_2 := bz2 BK164.out; have hfz111_0 := blk_frozen BK164.out 0; have hfz111_1 := blk_frozen BK164.out 1; have hfz111_2 := blk_frozen BK164.out 2))
 refine bodyPost_ret (results_ct rfl _ _ gb164 76 #[.int .i64 0, .slice none 0 0, .slice none 0 0] (0, 0) _ rfl (by refine blk_put (cs := #[.int .i64 0, .slice none 0 0, .slice none 0 0]) ?_ 2 _ rfl; refine blk_put (cs := #[.int .i64 0, .slice none 0 0, .slice none 0 0]) ?_ 1 _ rfl; refine blk_put (cs := #[.int .i64 0, .slice none 0 0, .slice none 0 0]) ?_ 0 _ rfl; exact BK164.out) Tryz.underlying76 rfl (by kernel_rfl)) rfl ?_; exact ⟨_, _, by rfl, by exact Kd.N_nil _ _ _ _ _, by exact Kd.R_nil _ _ _ _ _, by repeat (first | (with_reducible first | exact HB.out | apply below_alloc | apply pw_below_drewN | apply below_drew1 | refine below_set ?_ GE164.out) | exact HB.out)⟩

def spec_l1Pick.f (s0_0 : List Int) (s0_1 : Int) (s0_2 : Int) (l1 : List ByteArray) : Option (ByteArray × Int × Int) := (spec_l1Below.f s0_0 s0_1 s0_2 (l1.length : Int)).bind fun bt255 => (if 0 ≤ bt255.1 then (if bt255.1 < (l1.length : Int) then (some (rdOf ByteArray.empty l1 bt255.1, bt255.2.1, bt255.2.2)) else (none)) else (none))
theorem spec_l1Pick.calls (g : Nat) (s0_0 : List Int) (s0_1 : Int) (s0_2 : Int) (A1 : Option Addr) (c1 : Nat) (l1 : List ByteArray) (r1 : ByteArray) (r2 : Int) (r3 : Int) (w0 w : World) (hI : IsS57 w0 w g s0_0 s0_1 s0_2) (hB : Below w0.heap.size w0 w) (hr1 : Kd.C Kd.string w A1 l1.length l1) (hc1 : l1.length ≤ c1) (hf1 : ∀ ad, A1 = some ad → 0 < l1.length → ad.block ≠ g) (h : spec_l1Pick.f s0_0 s0_1 s0_2 l1 = some (r1, r2, r3)) :
  Calls Tryz.prog 88 #[.pointer (some ⟨g, 0, none⟩), .slice A1 l1.length c1] w fun e w' => e = .returned (.string r1) ∧ IsS57 w0 w' g s0_0 r2 r3 ∧ Below w0.heap.size w0 w' ∧ KeepBut w w' g none := by
 have HR1 := A_ hr1; clear hr1 hc1; have HI0 := A_ hI; have HK := A_ (KeepBut.refl w g none); clear hI; have HB := A_ hB; clear hB; unfold spec_l1Pick.f at h; have H := h; clear h; replace H := bA_ H; obtain ⟨⟨t255, t256, t257⟩, A3, H⟩ := H; dsimp only at H
 by_cases c4 : 0 ≤ t255
 ·rw [if_pos c4] at H; have c4b0 := decide_eq_true c4; clear c4
  by_cases c5 : t255 < (l1.length : Int)
  ·rw [if_pos c5] at H; have c5b0 := decide_eq_true c5; clear c5; simp only [Option.some.injEq, Prod.mk.injEq] at H; obtain ⟨rfl, rfl, rfl⟩ := H; go_enter Tryz.func88, Tryz.ntmps88
   go_wp2_with (first | ((with_reducible refine gc_ 33 rfl ?_); refine cL_ E33 9 rfl rfl rfl (spec_l1Below.calls g s0_0 s0_1 s0_2 (l1.length : Int) t255 t256 t257 w0 _ HI0.out HB.out A3.out) (by simp only [mA, mB, mC]; rfl) ?_; rintro e w6 ⟨rfl, hi, hb, hk⟩; refine ⟨_, rfl, ?_⟩; replace HK := kt_ HK hk; replace HB := A_ (hb); replace HI0 := A_ (hi); clear hb hk hi; have p258 : 0 ≤ (t255 : Int) := od_ (by assumption); have q258 : t255 < (l1.length : Int) := od_ (by assumption); obtain ⟨ad258, e258, hx258_0⟩ := Kd.at_string HR1.out t255 p258 q258; cases e258; replace hx258_0 := keep_cell HK.out hx258_0 (by first | (rw [add_block]; exact hf1 _ rfl (by omega)) | exact hf1 _ rfl (by omega) | exact hf1 ad258 rfl (by omega)); replace p258 := eq_true p258; replace q258 := eq_true q258))
   go_ret
   exact ⟨by rfl, HI0.out, HB.out, HK.out⟩
  rw [if_neg c5] at H
  cases H
 rw [if_neg c4] at H
 cases H
theorem l3_row {W : World} {base n cap : Nat} {ok : Nat → Prop} {A : Option Addr} {xs : List (List Int)} (h : Kd.S (Kd.slice 3 (Kd.int .i64)) 24 W base ok (.slice A n cap) xs) (h0 : 0 < xs.length) (h1 : 0 < (xs.getD 0 []).length) (x : Int) :
  ∃ g g0 m c0, A = some ⟨g, 0, none⟩ ∧ 0 < m ∧ W.cell? ⟨g, 0, none⟩ = some (.slice (some ⟨g0, 0, none⟩) m c0) ∧ (∃ u, W.cell? ⟨g0, 0, none⟩ = some u) ∧ W.frozen? ⟨g0, 0, none⟩ = false ∧ W.frozen? ⟨g, 0, none⟩ = false ∧ ok g0 ∧ base ≤ g0 ∧
   Kd.S (Kd.slice 3 (Kd.int .i64)) 24 (W.setCell ⟨g0, 0, none⟩ (.int .i64 x)) base ok (.slice A n cap) (xs.set 0 ((xs.getD 0 []).set 0 x)) ∧ W.grownBy (W.setCell ⟨g0, 0, none⟩ (.int .i64 x)) (some g0) := by
 obtain ⟨g, cap', he, _⟩ := Kd.S_form h h0
 injection he with hA hn hc
 subst hA; subst hn; subst hc; obtain ⟨_, _, _, _, hfr⟩ := Kd.R_elem (Kd.S_R h) [] 0 (by omega) (by omega); obtain ⟨oki, c, hcl, hM, hcc, hoki, hput⟩ := Kd.S_borrow h ([] : List Int) 0 (by omega) (by omega); obtain ⟨v, rfl, hR⟩ := hM; obtain ⟨g0, c0, rfl, hb, _⟩ := Kd.R_form hR h1; have hcell := Kd.R_cell (0 : Int) hR 0 (by omega) (by simpa using h1)
 have hg0 : oki g0 := hR.1 g0 (by simp [Value.ownBlock])
 obtain ⟨hp, hgr⟩ := Kd.R_put hR 0 x; refine ⟨g, g0, _, c0, rfl, h1, hcc 0 _ rfl, ⟨_, hcell.1⟩, hcell.2, hfr 0, (hoki g0 hg0).1, hb, ?_, hgr⟩; exact hput hgr (fun k hk => by injection hk with hk; subst hk; exact hg0) ⟨_, rfl, hp⟩
mutual
def spec_l3Random.l0 : Nat → Int → Int → Int → List Int → Int → Int → Int → List (List Int) → List Int → Option (Int × (List (List Int)) × List Int × Int × Int)
 | 0, _, _, _, _, _, _, _, _, _ => none
 | k + 1, x1, x2, x8, x1000, x1001, x1002, x261000, x261001, x261002 => if x8 < x2 then (spec_l3Random.l1 k x1 x2 x8 (([] : List Int)) 0 x1000 x1001 x1002 x261000 x261001 x261002) else ((spec_l1Once.f x1000 x1001 x1002 2).bind fun bt261 => (if bt261.1 = true then (if 0 < x261001.length then (if 0 < (x261001.getD 0 []).length then (some (x261000, x261001.set 0 ((x261001.getD 0 []).set 0 0), x261002, bt261.2.1, bt261.2.2)) else (none)) else (none)) else (some (x261000, x261001, x261002, bt261.2.1, bt261.2.2))))
def spec_l3Random.l1 : Nat → Int → Int → Int → List Int → Int → List Int → Int → Int → Int → List (List Int) → List Int → Option (Int × (List (List Int)) × List Int × Int × Int)
 | 0, _, _, _, _, _, _, _, _, _, _, _ => none
 | k + 1, x1, x2, x8, x9, x10, x1000, x1001, x1002, x261000, x261001, x261002 => if x10 < x1 then ((spec_l1Below.f x1000 x1001 x1002 x2).bind fun bt267 => (if x9.length < 17592186044416 then (spec_l3Random.l1 k x1 x2 x8 (x9 ++ [bt267.1]) (wrap64 (x10 + 1)) x1000 bt267.2.1 bt267.2.2 x261000 x261001 x261002) else (none))) else (if x261001.length < 5864062014805 then ((spec_l1Below.f x1000 x1001 x1002 2).bind fun bt276 => ((spec_l1Below.f x1000 bt276.2.1 bt276.2.2 (wrap64 (2 + bt276.1))).bind fun bt279 => (if x261002.length < 17592186044416 then (spec_l3Random.l0 k x1 x2 (wrap64 (x8 + 1)) x1000 bt279.2.1 bt279.2.2 x261000 (x261001 ++ [x9]) (x261002 ++ [bt279.1])) else (none)))) else (none))
end
def spec_l3Random.f (k : Nat) (s0_0 : List Int) (s0_1 : Int) (s0_2 : Int) (a1 : Int) (a2 : Int) : Option (Int × (List (List Int)) × List Int × Int × Int) := spec_l3Random.l0 k a1 a2 0 s0_0 s0_1 s0_2 a1 ([] : List (List Int)) ([] : List Int)
def spec_l3Random.T11 : Bool × List (List Nat × List Nat) := (true, [([], []), ([0], [0]), ([], []), ([], []), ([3], [3]), ([4], [4]), ([2, 5, 4], [2, 5]), ([6], [6]), ([1, 7, 6], [1, 7]), ([0, 1, 2, 3, 4, 5, 6, 7, 8], []), ([9, 8, 8, 0, 1, 2, 3, 4, 5, 6, 7, 8], [8, 9])])
def spec_l3Random.B11 : List Nat := [0, 1, 0, 0, 8, 24, 60, 124, 255, 511, 1023]
theorem spec_l3Random.tab11 : rtab .any (opsOf Tryz.f89 11) = spec_l3Random.T11 := by kernel_rfl
theorem spec_l3Random.bits11 : waitsOk spec_l3Random.T11.2 spec_l3Random.B11 = true := by kernel_rfl
theorem spec_l3Random.calls (k : Nat) (g : Nat) (s0_0 : List Int) (s0_1 : Int) (s0_2 : Int) (a1 : Int) (a2 : Int) (r1 : Int) (r2 : List (List Int)) (r3 : List Int) (r4 : Int) (r5 : Int) (w0 w : World) (hI : IsS57 w0 w g s0_0 s0_1 s0_2) (hB : Below w0.heap.size w0 w) (h : spec_l3Random.f k s0_0 s0_1 s0_2 a1 a2 = some (r1, r2, r3, r4, r5)) :
  Calls Tryz.prog 89 #[.pointer (some ⟨g, 0, none⟩), .int .i64 a1, .int .i64 a2] w fun e w' => ∃ v1_ v2_ : Value, e = .returned (.agg #[.int .i64 r1, v1_, v2_]) ∧ Kd.S (Kd.slice 3 (Kd.int .i64)) 24 w' w.heap.size (fun k_ => some k_ ≠ (v2_ : Value).ownBlock) v1_ r2 ∧ Kd.R (Kd.int .i64) 3 w' w.heap.size (fun _ => True) v2_ r3 ∧ IsS57 w0 w' g s0_0 r4 r5 ∧ Below w0.heap.size w0 w' ∧ KeepBut w w' g none := by
 have HI0 := A_ hI; have HK := A_ (KeepBut.refl w g none); have HL := A_ hB.size; clear hI; have HW0 := A_ hB.size; have HB := A_ hB; clear hB; unfold spec_l3Random.f at h; have H := h; clear h
 have H' := A_ H
 clear H; go_enter Tryz.func89, Tryz.ntmps89
 go_wp2_with (first | ((with_reducible refine gate_dst (N := 6) rfl ?_); refine box_event ?hg (N := 6) ?hd (cs := #[.int .i64 0, .slice none 0 0, .slice none 0 0]) (t := 76) ?hr ?_; (case hd | hg => rfl); (case hr => go_simp; done); intro gb259 hg w4 hbox hb; replace HB := bs_ HB hb; have BK259 := A_ (hbox); have GW259 := A_ (lg_ (keep_size HK.out) hg); have GE259 := A_ (Nat.le_trans HW0.out (lg_ (keep_size HK.out) hg)); replace HK := kb_ HK hb; have NB0_259 := A_ (ln_ (IsS57.lt HI0.out) hg); have NB259_0 := A_ (Ne.symm (ln_ (IsS57.lt HI0.out) hg)); replace HI0 := A_ (IsS57.below HI0.out hb); clear hb hbox hg) | ((with_reducible refine gate_dst (N := 7) rfl ?_); refine box_event ?hg (N := 7) ?hd (cs := #[.int .i64 0, .slice none 0 0, .slice none 0 0]) (t := 76) ?hr ?_; (case hd | hg => rfl); (case hr => go_simp; done); intro gb260 hg w5 hbox hb; replace HB := bs_ HB hb; have BK260 := A_ (hbox); have GW260 := A_ (lg_ (keep_size HK.out) hg); have GE260 := A_ (Nat.le_trans HW0.out (lg_ (keep_size HK.out) hg)); replace HK := kb_ HK hb; have NB259_260 := A_ ((by rw [hg]; exact Nat.ne_of_lt (blk_lt (g := gb259) (o := .cells #[.int .i64 0, .slice none 0 0, .slice none 0 0] 76 (0, 0)) BK259.out) : gb259 ≠ gb260)); have NB260_259 := A_ ((by rw [hg]; exact Nat.ne_of_gt (blk_lt (g := gb259) (o := .cells #[.int .i64 0, .slice none 0 0, .slice none 0 0] 76 (0, 0)) BK259.out) : gb260 ≠ gb259)); replace BK259 := bb_ BK259 hb; have NB0_260 := A_ (ln_ (IsS57.lt HI0.out) hg); have NB260_0 := A_ (Ne.symm (ln_ (IsS57.lt HI0.out) hg)); replace HI0 := A_ (IsS57.below HI0.out hb); clear hb hbox hg; have hcz8_0 := bz0 BK260.out; have hcz8_1 := bz1 BK260.out; have hcz8_2 := bz2 BK260.out; have hfz8_0 := blk_frozen BK260.out 0; have hfz8_1 := blk_frozen BK260.out 1; have hfz8_2 := blk_frozen BK260.out 2))
 go_loopg [8] k (fun kq v8 w' => ∃ (x8_1 : Int) (x1001_1 : Int) (x1002_1 : Int) (x261001_1 : List (List Int)) (x261002_1 : List Int) (u261001 : Value) (u261002 : Value), v8 = .int .i64 x8_1 ∧ Aside0 (spec_l3Random.l0 kq a1 a2 x8_1 s0_0 x1001_1 x1002_1 a1 x261001_1 x261002_1 = some (r1, r2, r3, r4, r5)) ∧ Aside0 (kq ≤ k) ∧ Aside0 (Kd.S (Kd.slice 3 (Kd.int .i64)) 24 w' w.heap.size (fun k_ => some k_ ≠ (u261002 : Value).ownBlock) u261001 x261001_1) ∧ Aside0 (Kd.R (Kd.int .i64) 3 w' w.heap.size (fun _ => True) u261002 x261002_1) ∧ Aside0 (w'.heap[gb259]? = some (.cells #[.int .i64 0, (.slice none 0 0), (.slice none 0 0)] 76 (0, 0))) ∧ Aside0 (w'.heap[gb260]? = some (.cells #[.int .i64 a1, u261001, u261002] 76 (0, 0))) ∧ Aside0 (IsS57 w0 w' g s0_0 x1001_1 x1002_1) ∧ Aside0 (KeepBut w w' g none) ∧ Aside0 (Below w0.heap.size w0 w'))
 case atStart => exact ⟨(0), (s0_1), (s0_2), (([] : List (List Int))), (([] : List Int)), (.slice none 0 0), (.slice none 0 0), (by rfl), H', ⟨Nat.le_refl _⟩, ⟨by exact Kd.S_nil _ _ _ _ _⟩, ⟨by exact Kd.R_nil _ _ _ _ _⟩, ⟨by refine blk_far ?_ NB259_260.out _; refine blk_far ?_ NB259_260.out _; refine blk_far ?_ NB259_260.out _; exact BK259.out⟩, ⟨by refine blk_put (cs := #[.int .i64 a1, .slice none 0 0, .slice none 0 0]) ?_ 2 _ rfl; refine blk_put (cs := #[.int .i64 a1, .slice none 0 0, .slice none 0 0]) ?_ 1 _ rfl; refine blk_put (cs := #[.int .i64 0, .slice none 0 0, .slice none 0 0]) ?_ 0 _ rfl; exact BK260.out⟩, ⟨by repeat (first | (with_reducible first | exact HI0.out | apply IsS57.alloc | apply IsS57.drewN | apply IsS57.drew | apply IsS57.set_1 | apply IsS57.set_2 | refine IsS57.far ?_ NB0_259.out _ | refine IsS57.far ?_ NB0_260.out _) | exact HI0.out)⟩, ⟨by repeat (first | (with_reducible first | exact HK.out | apply KeepBut.set_ | apply keep_drewN | apply keep_drew | apply keep_alloc | refine keep_far ?_ GW259.out _ | refine keep_far ?_ GW260.out _) | exact HK.out)⟩, ⟨by repeat (first | (with_reducible first | exact HB.out | apply below_alloc | apply pw_below_drewN | apply below_drew1 | refine below_set ?_ (IsS57.ge HI0.out) | refine below_set ?_ GE259.out | refine below_set ?_ GE260.out) | exact HB.out)⟩⟩
 case round =>
  clear H'
  try skip
  try skip
  try skip
  try skip
  try skip
  try skip
  obtain ⟨x8_1, x1001_1, x1002_1, x261001_1, x261002_1, u261001, u261002, rfl, HA, HK1, HO_261001, HO_261002, BK259, BK260, HI0, HK, HB⟩ := hrel
  cases gk with
  | zero => exact absurd HA.out (by simp [spec_l3Random.l0])
  | succ k1 =>
   have H := HA.out; clear HA; simp only [spec_l3Random.l0] at H
   by_cases c9 : x8_1 < a2
   ·rw [if_pos c9] at H; have c9b0 := decide_eq_true c9; clear c9; obtain ⟨y264, hy264⟩ := ex_ ((([] : List Int)) : List Int); replace H : (spec_l3Random.l1 k1 a1 a2 x8_1 y264 0 s0_0 x1001_1 x1002_1 a1 x261001_1 x261002_1) = some (r1, r2, r3, r4, r5) := by (rw [hy264]; with_reducible exact H)
    have Ny264 := A_ hy264; clear hy264
    have H' := A_ H
    clear H
    go_wp2_with (first | ((with_reducible refine gd_ 18 rfl ?_); refine RL_ 18 3 [] [] rfl rfl (by go_simp; done) rfl rfl ?_; rintro v265 w10 ho11 hb - -; (rw [← Ny264.out] at ho11); replace HO_261001 := A_ (Kd.S_elder' HO_261001.out (Kd.R_base ho11) hb); have HO266 := A_ (Kd.R_lower (Kd.R_new' ho11 (Kd.R_lt HO_261002.out)) (keep_size HK.out)); replace HO_261002 := A_ (Kd.R_elder' HO_261002.out (Kd.R_base ho11) hb); replace BK259 := bb_ BK259 hb; replace BK260 := bb_ BK260 hb; replace HI0 := A_ (IsS57.below HI0.out hb); replace HK := kb_ HK hb; replace HB := bs_ HB hb; clear hb ho11))
    go_loopg [9, 10] k1 (fun kq v9 v10 w' => ∃ (x9_2 : List Int) (x10_2 : Int) (x1001_2 : Int) (x1002_2 : Int), v10 = .int .i64 x10_2 ∧ Aside0 (spec_l3Random.l1 kq a1 a2 x8_1 x9_2 x10_2 s0_0 x1001_2 x1002_2 a1 x261001_1 x261002_1 = some (r1, r2, r3, r4, r5)) ∧ Aside0 (kq ≤ k1) ∧ Aside0 (Kd.R (Kd.int .i64) 3 w' w.heap.size (fun k_ => some k_ ≠ (u261002 : Value).ownBlock) v9 x9_2) ∧ Aside0 (Kd.S (Kd.slice 3 (Kd.int .i64)) 24 w' w.heap.size (fun k_ => some k_ ≠ (v9 : Value).ownBlock ∧ some k_ ≠ (u261002 : Value).ownBlock) u261001 x261001_1) ∧ Aside0 (Kd.R (Kd.int .i64) 3 w' w.heap.size (fun k_ => some k_ ≠ (v9 : Value).ownBlock) u261002 x261002_1) ∧ Aside0 (w'.heap[gb259]? = some (.cells #[.int .i64 0, (.slice none 0 0), (.slice none 0 0)] 76 (0, 0))) ∧ Aside0 (w'.heap[gb260]? = some (.cells #[.int .i64 a1, u261001, u261002] 76 (0, 0))) ∧ Aside0 (IsS57 w0 w' g s0_0 x1001_2 x1002_2) ∧ Aside0 (KeepBut w w' g none) ∧ Aside0 (Below w0.heap.size w0 w'))
    case atStart => exact ⟨(y264), (0), (x1001_1), (x1002_1), (by rfl), H', ⟨Nat.le_refl _⟩, ⟨by exact Kd.R_mono HO266.out (fun _ hk => hk.2)⟩, ⟨by exact Kd.S_mono HO_261001.out (fun _ hk => ⟨hk.2, hk.1⟩)⟩, ⟨by exact Kd.R_mono HO_261002.out (fun _ hk => hk.2)⟩, ⟨BK259.out⟩, ⟨BK260.out⟩, ⟨HI0.out⟩, ⟨HK.out⟩, ⟨HB.out⟩⟩
    case round =>
     clear H'
     try skip
     obtain ⟨x9_2, x10_2, x1001_2, x1002_2, rfl, HA, HK2, HO_9, HO_261001, HO_261002, BK259, BK260, HI0, HK, HB⟩ := hrel
     cases gk with
     | zero => exact absurd HA.out (by simp [spec_l3Random.l1])
     | succ k2 =>
      have H := HA.out; clear HA; simp only [spec_l3Random.l1] at H
      by_cases c12 : x10_2 < a1
      ·rw [if_pos c12] at H; have c12b0 := decide_eq_true c12; clear c12; replace H := bA_ H; obtain ⟨⟨t267, t268, t269⟩, A13, H⟩ := H; dsimp only at H
       by_cases c14 : x9_2.length < 17592186044416
       ·rw [if_pos c14] at H; have LMc14 := A_ c14; clear c14; obtain ⟨y270, hy270⟩ := ex_ ((x9_2 ++ [t267]) : List Int); replace H : (spec_l3Random.l1 k2 a1 a2 x8_1 y270 (wrap64 (x10_2 + 1)) s0_0 t268 t269 a1 x261001_1 x261002_1) = some (r1, r2, r3, r4, r5) := by (rw [hy270]; with_reducible exact H)
        have Ny270 := A_ hy270; clear hy270
        have H' := A_ H
        clear H
        go_wp2_with (first | ((with_reducible refine gc_ 33 rfl ?_); refine cL_ E33 27 rfl rfl rfl (spec_l1Below.calls g s0_0 x1001_2 x1002_2 a2 t267 t268 t269 w0 _ HI0.out HB.out A13.out) (by simp only [mA, mB, mC]; rfl) ?_; rintro e w15 ⟨rfl, hi, hb, hk⟩; refine ⟨_, rfl, ?_⟩; replace HO_9 := A_ (Kd.R_mono (Kd.R_keep (IsS57.apart HI0.out HO_9.out (by decide)) hk (fun _ h => h.2)) (fun _ h => h.1)); replace HO_261001 := A_ (Kd.S_mono (Kd.S_keep (IsS57.apartS HI0.out HO_261001.out (by decide)) hk (fun _ h => h.2)) (fun _ h => h.1)); replace HO_261002 := A_ (Kd.R_mono (Kd.R_keep (IsS57.apart HI0.out HO_261002.out (by decide)) hk (fun _ h => h.2)) (fun _ h => h.1)); replace BK259 := A_ (KeepBut.blk hk BK259.out NB259_0.out (by simp)); replace BK260 := A_ (KeepBut.blk hk BK260.out NB260_0.out (by simp)); replace HK := kt_ HK hk; replace HB := A_ (hb); replace HI0 := A_ (hi); clear hb hk; (try clear hi)) | ((with_reducible refine gate_builtin (b := .append) (xs := #[.tmp 24, .tmp 28]) rfl ?_); at_builtin; refine Kd.R_append (Kd.int .i64) w.heap.size rfl (.tmp 24) (.tmp 28) 24 3 (.int .i64 0) 8 rfl Tryz.underlying24 info3 rfl (by decide) (by omega) u9 x9_2 t267 [.int .i64 t267] (fun k_ => some k_ ≠ (u261002 : Value).ownBlock) (fun _ => False) rfl rfl ?aP (fun _ hk => hk.elim) ?aF ?aO (Below.refl _ _) ?aS ?aL ?_; (case aP => exact rfl); (case aF => exact (fun k_ hk => Kd.fresh' (Kd.R_lt HO_261002.out) k_ hk)); (case aO => exact HO_9.out); (case aS => exact (keep_size HK.out)); (case aL => have := LMc14.out; omega); intro v271 w16 ho hb hg hat; rw [← Ny270.out] at ho; replace HO_261001 := A_ (Kd.S_after (ok := (fun k_ => some k_ ≠ (u261002 : Value).ownBlock)) (by exact Kd.S_mono HO_261001.out (fun _ hk => ⟨hk.2, hk.1⟩)) hg hat); replace HO_261002 := A_ (Kd.R_after (ok := (fun _ => True)) (by exact Kd.R_mono HO_261002.out (fun _ hk => ⟨trivial, hk⟩)) hg hat); replace BK259 := A_ (blk_grown (g := gb259) (o := .cells #[.int .i64 0, .slice none 0 0, .slice none 0 0] 76 (0, 0)) BK259.out hg (Kd.R_ne HO_9.out BK259.out (by decide))); replace BK260 := A_ (blk_grown (g := gb260) (o := .cells #[.int .i64 a1, u261001, u261002] 76 (0, 0)) BK260.out hg (Kd.R_ne HO_9.out BK260.out (by decide))); replace HI0 := A_ (IsS57.grown HI0.out hg (IsS57.own_ne HI0.out HO_9.out (by decide))); replace HB := A_ (below_weaken HB.out HL.out hb); replace HK := A_ (KeepBut.trans HK.out (KeepBut.of_grown hg g) (Kd.R_base2 HO_9.out)); have HO272 := A_ (ho); clear HO_9; clear ho hb hg hat))
        go_roundg k2
        case measure => have := HK1.out; have := HK2.out; omega
        case rel => exact ⟨(y270), (wrap64 (x10_2 + 1)), (t268), (t269), (by rfl), H', ⟨by have := HK1.out; have := HK2.out; omega⟩, ⟨HO272.out⟩, ⟨by exact Kd.S_mono HO_261001.out (fun _ hk => ⟨hk.2, hk.1⟩)⟩, ⟨by exact Kd.R_mono HO_261002.out (fun _ hk => hk.2)⟩, ⟨BK259.out⟩, ⟨BK260.out⟩, ⟨HI0.out⟩, ⟨HK.out⟩, ⟨HB.out⟩⟩
       rw [if_neg c14] at H
       cases H
      rw [if_neg c12] at H; have c12b0 := decide_eq_false c12; clear c12
      by_cases c17 : x261001_1.length < 5864062014805
      ·rw [if_pos c17] at H; have LMc17 := A_ c17; clear c17; obtain ⟨y273, hy273⟩ := ex_ ((x261001_1 ++ [x9_2]) : List (List Int)); replace H : ((spec_l1Below.f s0_0 x1001_2 x1002_2 2).bind fun bt276 => ((spec_l1Below.f s0_0 bt276.2.1 bt276.2.2 (wrap64 (2 + bt276.1))).bind fun bt279 => (if x261002_1.length < 17592186044416 then (spec_l3Random.l0 k2 a1 a2 (wrap64 (x8_1 + 1)) s0_0 bt279.2.1 bt279.2.2 a1 y273 (x261002_1 ++ [bt279.1])) else (none)))) = some (r1, r2, r3, r4, r5) := by (rw [hy273]; with_reducible exact H)
       have Ny273 := A_ hy273; clear hy273; replace H := bA_ H; obtain ⟨⟨t276, t277, t278⟩, A18, H⟩ := H; dsimp only at H; replace H := bA_ H; obtain ⟨⟨t279, t280, t281⟩, A19, H⟩ := H; dsimp only at H
       by_cases c20 : x261002_1.length < 17592186044416
       ·rw [if_pos c20] at H; have LMc20 := A_ c20; clear c20; obtain ⟨y282, hy282⟩ := ex_ ((x261002_1 ++ [t279]) : List Int); replace H : (spec_l3Random.l0 k2 a1 a2 (wrap64 (x8_1 + 1)) s0_0 t280 t281 a1 y273 y282) = some (r1, r2, r3, r4, r5) := by (rw [hy282]; with_reducible exact H)
        have Ny282 := A_ hy282; clear hy282
        have H' := A_ H
        clear H; have hcz23_1 := bz1 BK260.out; obtain ⟨Ao25, co25, eo25⟩ := Kd.R_slice HO_9.out; subst eo25
        try go_wp2_with (first | ((with_reducible refine gate_builtin (b := .append) (xs := #[.tmp 31, .tmp 33]) rfl ?_); at_builtin; refine Kd.S_append (Kd.slice 3 (Kd.int .i64)) w.heap.size rfl (.tmp 31) (.tmp 33) 47 24 (.slice none 0 0) 24 rfl Tryz.underlying47 info24 rfl (by decide) (by omega) u261001 x261001_1 x9_2 [.slice Ao25 x9_2.length co25] (fun k_ => some k_ ≠ (u261002 : Value).ownBlock) (fun k_ => some k_ = (.slice Ao25 x9_2.length co25 : Value).ownBlock) rfl rfl ?aP (fun k_ hk_ => ((Kd.R_mono (ok' := fun k_ => ((fun k_ => some k_ ≠ (u261002 : Value).ownBlock)) k_ ∧ some k_ ≠ (u261001 : Value).ownBlock) (Kd.R_apart' (HO_9.out) (Kd.S_typed HO_261001.out) (by decide)) (fun k_ hk => ⟨hk.1, hk.2⟩))).1 k_ hk_.symm) ?aF ?aO (Below.refl _ _) ?aS ?aL ?_; (case aP => exact Kd.M_row (Kd.R_mono (Kd.R_tight rfl (Kd.R_mono (ok' := fun k_ => ((fun k_ => some k_ ≠ (u261002 : Value).ownBlock)) k_ ∧ some k_ ≠ (u261001 : Value).ownBlock) (Kd.R_apart' (HO_9.out) (Kd.S_typed HO_261001.out) (by decide)) (fun k_ hk => ⟨hk.1, hk.2⟩))) (fun _ h_ => h_))); (case aF => exact (fun k_ hk => Kd.fresh' (Kd.R_lt HO_261002.out) k_ hk)); (case aO => exact (by exact Kd.S_mono HO_261001.out (fun k_ hk => ⟨hk.2, fun e_ => hk.1 e_⟩))); (case aS => exact (keep_size HK.out)); (case aL => have := LMc17.out; omega); intro v274 w24 ho hb hg hat; rw [← Ny273.out] at ho; replace HO_261002 := A_ (Kd.R_over' HO_261002.out (Kd.S_typed HO_261001.out) (by decide) hg); replace BK259 := A_ (blk_grown (g := gb259) (o := .cells #[.int .i64 0, .slice none 0 0, .slice none 0 0] 76 (0, 0)) BK259.out hg (Kd.S_ne HO_261001.out BK259.out (by decide))); replace BK260 := A_ (blk_grown (g := gb260) (o := .cells #[.int .i64 a1, u261001, u261002] 76 (0, 0)) BK260.out hg (Kd.S_ne HO_261001.out BK260.out (by decide))); replace HI0 := A_ (IsS57.grown HI0.out hg (IsS57.own_neS HI0.out HO_261001.out (by decide))); replace HB := A_ (below_weaken HB.out HL.out hb); replace HK := A_ (KeepBut.trans HK.out (KeepBut.of_grown hg g) (Kd.S_base2 HO_261001.out)); have HO275 := A_ (ho); clear HO_261001 HO_9; clear ho hb hg hat; obtain ⟨Ao26, co26, eo26⟩ := Kd.S_slice HO275.out; subst eo26; have hcz27_1 := bz1 BK260.out; have hfz27_1 := blk_frozen BK260.out 1))
        generalize h_ : (w24.setCell ⟨gb260, 1, none⟩ (.slice Ao26 y273.length co26)) = w28
        replace HO_261002 : Aside0 (Kd.R (Kd.int .i64) 3 w28 w.heap.size (fun _ => True) u261002 x261002_1) := ⟨by rw [← h_]; exact Kd.R_mono (Kd.R_far (p := ⟨gb260, 1, none⟩) (Kd.R_types HO_261002.out BK260.out (by decide)) (fun _ hk => hk.2) (.slice Ao26 y273.length co26)) (fun _ hk => trivial)⟩; replace HO275 : Aside0 (Kd.S (Kd.slice 3 (Kd.int .i64)) 24 w28 w.heap.size (fun k_ => some k_ ≠ (u261002 : Value).ownBlock) (.slice Ao26 y273.length co26) y273) := ⟨by rw [← h_]; exact Kd.S_mono (Kd.S_far (p := ⟨gb260, 1, none⟩) (Kd.S_types HO275.out BK260.out (by decide)) (fun _ hk => hk.2) (.slice Ao26 y273.length co26)) (fun _ hk => hk.1)⟩; replace BK259 : Aside0 (w28.heap[gb259]? = some (.cells #[.int .i64 0, .slice none 0 0, .slice none 0 0] 76 (0, 0))) := ⟨by rw [← h_]; refine blk_far ?_ NB259_260.out _; exact BK259.out⟩; replace BK260 : Aside0 (w28.heap[gb260]? = some (.cells #[.int .i64 a1, .slice Ao26 y273.length co26, u261002] 76 (0, 0))) := ⟨by rw [← h_]; refine blk_put (cs := #[.int .i64 a1, u261001, u261002]) ?_ 1 _ rfl; exact BK260.out⟩; replace HK : Aside0 (KeepBut w w28 g none) := ⟨by rw [← h_]; repeat (first | (with_reducible first | exact HK.out | apply KeepBut.set_ | apply keep_drewN | apply keep_drew | apply keep_alloc | refine keep_far ?_ GW259.out _ | refine keep_far ?_ GW260.out _) | exact HK.out)⟩; replace HB : Aside0 (Below w0.heap.size w0 w28) := ⟨by rw [← h_]; repeat (first | (with_reducible first | exact HB.out | apply below_alloc | apply pw_below_drewN | apply below_drew1 | refine below_set ?_ (IsS57.ge HI0.out) | refine below_set ?_ GE259.out | refine below_set ?_ GE260.out) | exact HB.out)⟩; replace HI0 : Aside0 (IsS57 w0 w28 g s0_0 x1001_2 x1002_2) := ⟨by rw [← h_]; repeat (first | (with_reducible first | exact HI0.out | apply IsS57.alloc | apply IsS57.drewN | apply IsS57.drew | apply IsS57.set_1 | apply IsS57.set_2 | refine IsS57.far ?_ NB0_259.out _ | refine IsS57.far ?_ NB0_260.out _) | exact HI0.out)⟩; clear h_; have n0_ := A_ (Kd.R_drew HO_261002.out); have n1_ := A_ (Kd.S_drew HO275.out); have n2_ := A_ (blk_drew BK259.out); have n3_ := A_ (blk_drew BK260.out); have n4_ := A_ (IsS57.drew HI0.out); have n5_ := A_ (keep_drew HK.out); have n6_ := A_ (below_drew1 HB.out); clear HO_261002 HO275 BK259 BK260 HI0 HK HB; have HO_261002 := n0_; have HO275 := n1_; have BK259 := n2_; have BK260 := n3_; have HI0 := n4_; have HK := n5_; have HB := n6_; clear n0_ n1_ n2_ n3_ n4_ n5_ n6_; refine start_ (n := 11) (S := fun w' => w'.cell? ⟨gb260, 0, none⟩ = some (.int .i64 a1) ∧ w'.cell? ⟨gb260, 1, none⟩ = some (.slice Ao26 y273.length co26) ∧ w'.cell? ⟨gb260, 2, none⟩ = some (u261002)) (ds := [10]) (mk_ 11 0) (by kernel_rfl) rfl rfl ⟨(blk_cell BK260.out 0).trans rfl, (blk_cell BK260.out 1).trans rfl, (blk_cell BK260.out 2).trans rfl⟩ (fun hHeld => ?_); refine with_tabW spec_l3Random.tab11 spec_l3Random.bits11 (fun HT_ HW_ => ?_)
        generalize w28.drew = w29 at HO_261002 HO275 BK259 BK260 HI0 HK HB hHeld ⊢
        refine pv_ 0 36 (mk_ 11 1) rfl rfl HT_.out (by kernel_rfl) (fun _ _ _ h => h) (by rfl) (by intro w'; go_simp; with_reducible rfl) (by simp only [Act.put, mD, mE, mF, i64_w, i32_w]; rfl) ?_; refine pv_ 2 38 (mk_ 11 5) rfl rfl HT_.out (by kernel_rfl) (fun _ _ _ h => h) (by rfl) (by intro w'; go_simp; with_reducible rfl) (by simp only [Act.put, mD, mE, mF, i64_w, i32_w]; rfl) ?_; refine pv_ 3 39 (mk_ 11 13) rfl rfl HT_.out (by kernel_rfl) (fun _ _ _ h => h) (by rfl) (by intro w'; go_simp; with_reducible rfl) (by simp only [Act.put, mD, mE, mF, i64_w, i32_w]; rfl) ?_; refine take_ (i := 1) (N := some 37) (mk_ 11 15) rfl rfl (take_ofW HT_.out HW_.out (by kernel_rfl)) (fun _ _ _ h => h) (Or.inl ⟨by rfl, by rintro w' ⟨s0, s1, s2⟩; go_simp; with_reducible rfl⟩) hHeld (by simp only [Act.put, mD, mE, mF, i64_w, i32_w]; rfl) ?_; refine one_ (i := 4) (N := some 40) (mk_ 11 31) rfl rfl (one_of HT_.out (by kernel_rfl)) (by decide) (fun K hK => ?_); refine cS_ E33 rfl rfl rfl (spec_l1Below.calls g s0_0 x1001_2 x1002_2 2 t276 t277 t278 w0 _ HI0.out HB.out A18.out) (by simp only [mA, mB, mC]; rfl) ?_; rintro e w30 ⟨rfl, hi, hb, hk⟩; refine ⟨_, rfl, ?_⟩; have n0_ := A_ (Kd.R_mono (Kd.R_keep (IsS57.apart HI0.out HO_261002.out (by decide)) hk (fun _ h => h.2)) (fun _ h => h.1)); have n1_ := A_ (KeepBut.blk hk BK259.out NB259_0.out (by simp)); have n2_ := A_ (KeepBut.blk hk BK260.out NB260_0.out (by simp)); have n3_ := A_ (Kd.S_mono (Kd.S_keep (IsS57.apartS HI0.out HO275.out (by decide)) hk (fun _ h => h.2)) (fun _ h => h.1)); have n4_ := kt_ HK hk; have n5_ := A_ (hb); have n6_ := A_ (hi); clear HO_261002 BK259 BK260 HO275 HK HB HI0; have HO_261002 := n0_; have BK259 := n1_; have BK260 := n2_; have HO275 := n3_; have HK := n4_; have HB := n5_; have HI0 := n6_; clear n0_ n1_ n2_ n3_ n4_ n5_ n6_
        (try clear hb)
        (try clear hb2)
        (try clear hk)
        (try clear hi)
        refine hK.out _ _ ⟨(blk_cell BK260.out 0).trans rfl, (blk_cell BK260.out 1).trans rfl, (blk_cell BK260.out 2).trans rfl⟩ (fun hHeld => ?_); clear hK K; refine norm_ (by show Act.put _ (some 40) _ = _; simp only [Act.put, mD, mE, mF, i64_w, i32_w]; rfl) ?_; refine pv_ 5 41 (mk_ 11 63) rfl rfl HT_.out (by kernel_rfl) (fun _ _ _ h => h) (by rfl) (by intro w'; go_simp; with_reducible rfl) (by simp only [Act.put, mD, mE, mF, i64_w, i32_w]; rfl) ?_; refine one_ (i := 6) (N := some 42) (mk_ 11 127) rfl rfl (one_of HT_.out (by kernel_rfl)) (by decide) (fun K hK => ?_); refine cS_ E33 rfl rfl rfl (spec_l1Below.calls g s0_0 t277 t278 (wrap64 (2 + t276)) t279 t280 t281 w0 _ HI0.out HB.out A19.out) (by simp only [mA, mB, mC]; rfl) ?_; rintro e w31 ⟨rfl, hi, hb, hk⟩; refine ⟨_, rfl, ?_⟩; have n0_ := A_ (Kd.R_mono (Kd.R_keep (IsS57.apart HI0.out HO_261002.out (by decide)) hk (fun _ h => h.2)) (fun _ h => h.1)); have n1_ := A_ (KeepBut.blk hk BK259.out NB259_0.out (by simp)); have n2_ := A_ (KeepBut.blk hk BK260.out NB260_0.out (by simp)); have n3_ := A_ (Kd.S_mono (Kd.S_keep (IsS57.apartS HI0.out HO275.out (by decide)) hk (fun _ h => h.2)) (fun _ h => h.1)); have n4_ := kt_ HK hk; have n5_ := A_ (hb); have n6_ := A_ (hi); clear HO_261002 BK259 BK260 HO275 HK HB HI0; have HO_261002 := n0_; have BK259 := n1_; have BK260 := n2_; have HO275 := n3_; have HK := n4_; have HB := n5_; have HI0 := n6_; clear n0_ n1_ n2_ n3_ n4_ n5_ n6_
        (try clear hb)
        (try clear hb2)
        (try clear hk)
        (try clear hi)
        refine hK.out _ _ ⟨(blk_cell BK260.out 0).trans rfl, (blk_cell BK260.out 1).trans rfl, (blk_cell BK260.out 2).trans rfl⟩ (fun hHeld => ?_); clear hK K; refine norm_ (by show Act.put _ (some 42) _ = _; simp only [Act.put, mD, mE, mF, i64_w, i32_w]; rfl) ?_; refine one_ (i := 7) (N := some 43) (mk_ 11 255) rfl rfl (one_of HT_.out (by kernel_rfl)) (by decide) (fun K hK => ?_); refine value_ (w1 := ?_) (v := ?_) (by rfl) rfl ?_ ?_; rotate_left 2
        ·go_simp
         constructor
         ·rfl
         rfl
        refine hK.out _ _ ⟨(blk_cell (blk_alloc BK260.out _) 0).trans rfl, (blk_cell (blk_alloc BK260.out _) 1).trans rfl, (blk_cell (blk_alloc BK260.out _) 2).trans rfl⟩ (fun hHeld => ?_); clear hK K; refine norm_ (by show Act.put _ (some 43) _ = _; simp only [Act.put, mD, mE, mF, i64_w, i32_w]; rfl) ?_; refine one_ (i := 8) (N := some 44) (mk_ 11 511) rfl rfl (one_of HT_.out (by kernel_rfl)) (by decide) (fun K hK => ?_); refine Kd.R_append_step (Kd.int .i64) w.heap.size (by rfl) (.tmp 37) (.tmp 43) 24 3 (.int .i64 0) 8 rfl Tryz.underlying24 info3 rfl (by decide) (by omega) u261002 x261002_1 t279 [.int .i64 t279] (fun _ => True) (fun _ => False) rfl rfl ?aP (fun _ hk => hk.elim) ?aF ?aO (Below.refl _ _) ?aS ?aL ?_
        (case aP => exact rfl)
        (case aF => exact (fun _ _ => trivial))
        (case aO => exact HO_261002.out)
        (case aS => exact (keep_size HK.out))
        (case aL => have := LMc20.out; omega)
        intro v283 w32 ho hb hg hat; rw [← Ny282.out] at ho; have n0_ := A_ (blk_grown (g := gb259) (o := .cells #[.int .i64 0, .slice none 0 0, .slice none 0 0] 76 (0, 0)) BK259.out hg (Kd.R_ne HO_261002.out BK259.out (by decide))); have n1_ := A_ (blk_grown (g := gb260) (o := .cells #[.int .i64 a1, .slice Ao26 y273.length co26, u261002] 76 (0, 0)) BK260.out hg (Kd.R_ne HO_261002.out BK260.out (by decide))); have n2_ := A_ (IsS57.grown HI0.out hg (IsS57.own_ne HI0.out HO_261002.out (by decide))); have n3_ := A_ (Kd.S_after (ok := (fun _ => True)) (by exact Kd.S_mono HO275.out (fun _ hk => ⟨trivial, hk⟩)) hg hat); have n4_ := A_ (below_weaken HB.out HL.out hb); have n5_ := A_ (KeepBut.trans HK.out (KeepBut.of_grown hg g) (Kd.R_base2 HO_261002.out)); have n6_ := A_ (ho); clear BK259 BK260 HI0 HO275 HB HK HO_261002; have BK259 := n0_; have BK260 := n1_; have HI0 := n2_; have HO275 := n3_; have HB := n4_; have HK := n5_; have HO284 := n6_; clear n0_ n1_ n2_ n3_ n4_ n5_ n6_ ho hb hg hat; obtain ⟨Ao33, co33, eo33⟩ := Kd.R_slice HO284.out
        (first | subst eo33 | (injection eo33 with f1_ f2_ f3_; have f4_ := f1_.symm; have f5_ := f3_.symm; clear f1_ f2_ f3_; subst f4_; subst f5_))
        refine hK.out _ _ ⟨(blk_cell BK260.out 0).trans rfl, (blk_cell BK260.out 1).trans rfl, (blk_cell BK260.out 2).trans rfl⟩ (fun hHeld => ?_); clear hK K; refine norm_ (by show Act.put _ (some 44) _ = _; simp only [Act.put, mD, mE, mF, i64_w, i32_w]; rfl) ?_; refine pv_ 9 45 (mk_ 11 1023) rfl rfl HT_.out (by kernel_rfl) (fun _ _ _ h => h) (by rfl) (by intro w'; go_simp; with_reducible rfl) (by simp only [Act.put, mD, mE, mF, i64_w, i32_w]; rfl) ?_; refine last_ (i := 10) (N := none) (mk_ 11 2047) rfl rfl (one_of HT_.out (by kernel_rfl)) (by decide) (fun K hK => ?_)
        have hfs34 := blk_frozen BK260.out 2; refine skip_ (w1 := ?_) (by rfl) rfl ?_ ?_; rotate_left
        ·go_simp
         rfl
        refine hK.out _ _ ?_; clear hK K; refine done_ (done_of HT_.out (by kernel_rfl)) ?_
        try go_wp2
        go_roundg k2
        case measure => have := HK1.out; have := HK2.out; omega
        case rel => exact ⟨(wrap64 (x8_1 + 1)), (t280), (t281), (y273), (y282), (.slice Ao26 y273.length co26), (.slice Ao33 y282.length co33), (by rfl), H', ⟨by have := HK1.out; have := HK2.out; omega⟩, ⟨by exact Kd.S_mono (Kd.S_far (p := ⟨gb260, 2, none⟩) (Kd.S_types HO275.out BK260.out (by decide)) (fun _ hk => hk.2) (.slice Ao33 y282.length co33)) (fun _ hk => hk.1.2)⟩, ⟨by exact Kd.R_mono (Kd.R_far (p := ⟨gb260, 2, none⟩) (Kd.R_types HO284.out BK260.out (by decide)) (fun _ hk => hk.2) (.slice Ao33 y282.length co33)) (fun _ hk => trivial)⟩, ⟨by refine blk_far ?_ NB259_260.out _; exact BK259.out⟩, ⟨by refine blk_put (cs := #[.int .i64 a1, .slice Ao26 y273.length co26, u261002]) ?_ 2 _ rfl; exact BK260.out⟩, ⟨by repeat (first | (with_reducible first | exact HI0.out | apply IsS57.alloc | apply IsS57.drewN | apply IsS57.drew | apply IsS57.set_1 | apply IsS57.set_2 | refine IsS57.far ?_ NB0_259.out _ | refine IsS57.far ?_ NB0_260.out _) | exact HI0.out)⟩, ⟨by repeat (first | (with_reducible first | exact HK.out | apply KeepBut.set_ | apply keep_drewN | apply keep_drew | apply keep_alloc | refine keep_far ?_ GW259.out _ | refine keep_far ?_ GW260.out _) | exact HK.out)⟩, ⟨by repeat (first | (with_reducible first | exact HB.out | apply below_alloc | apply pw_below_drewN | apply below_drew1 | refine below_set ?_ (IsS57.ge HI0.out) | refine below_set ?_ GE259.out | refine below_set ?_ GE260.out) | exact HB.out)⟩⟩
       rw [if_neg c20] at H
       cases H
      rw [if_neg c17] at H
      cases H
   rw [if_neg c9] at H; have c9b0 := decide_eq_false c9; clear c9; replace H := bA_ H; obtain ⟨⟨t261, t262, t263⟩, A35, H⟩ := H; dsimp only at H
   by_cases c36 : t261 = true
   ·subst c36; rw [if_pos rfl] at H
    by_cases c60 : 0 < x261001_1.length
    case neg => rw [if_neg c60] at H; cases H
    rw [if_pos c60] at H
    by_cases c61 : 0 < (x261001_1.getD 0 []).length
    case neg => rw [if_neg c61] at H; cases H
    rw [if_pos c61] at H; simp only [Option.some.injEq, Prod.mk.injEq] at H; obtain ⟨rfl, rfl, rfl, rfl, rfl⟩ := H
    go_wp2_with (first | ((with_reducible refine gc_ 64 rfl ?_); refine cL_ E64 47 rfl rfl rfl (spec_l1Once.calls g s0_0 x1001_1 x1002_1 2 true t262 t263 w0 _ HI0.out HB.out A35.out) (by simp only [mA, mB, mC]; rfl) ?_; rintro e w37 ⟨rfl, hi, hb, hk⟩; refine ⟨_, rfl, ?_⟩; replace HO_261001 := A_ (Kd.S_mono (Kd.S_keep (IsS57.apartS HI0.out HO_261001.out (by decide)) hk (fun _ h => h.2)) (fun _ h => h.1)); replace HO_261002 := A_ (Kd.R_mono (Kd.R_keep (IsS57.apart HI0.out HO_261002.out (by decide)) hk (fun _ h => h.2)) (fun _ h => h.1)); replace BK259 := A_ (KeepBut.blk hk BK259.out NB259_0.out (by simp)); replace BK260 := A_ (KeepBut.blk hk BK260.out NB260_0.out (by simp)); replace HK := kt_ HK hk; replace HB := A_ (hb); replace HI0 := A_ (hi); clear hb hk hi; have hcz40_1 := bz1 BK260.out; have hcz40_2 := bz2 BK260.out; obtain ⟨Ao43, co43, eo43⟩ := Kd.S_slice HO_261001.out; subst eo43; obtain ⟨Ao44, co44, eo44⟩ := Kd.R_slice HO_261002.out; subst eo44; obtain ⟨gr, g0, mz, cz, eA, hmz, hcr, ⟨uz, hce⟩, hfe, hfr, hok0, hge0, hS, hgrown⟩ := l3_row (Kd.S_types (Kd.S_types (IsS57.apartS HI0.out HO_261001.out (by decide)) BK260.out (by decide)) BK259.out (by decide)) c60 c61 0; subst eA; have HCE := A_ hce; have HFE := A_ hfe; clear hce hfe) | ((with_reducible refine gate_store (t := 3) (p := 52) rfl ?_); refine store_event ?hg ?ho ?hN (t := 3) (p := 52) (v := ?vo) (w1 := ?w1) ?hr ?_; (case ho => rfl); (case hg => rfl); (case hN => rfl); (case hr => (have hce9 := HCE.out; have hfe9 := HFE.out; (go_simp; rfl))); intro w99 hw99; replace HO_261001 := A_ (show Kd.S (Kd.slice 3 (Kd.int .i64)) 24 w99 w.heap.size (fun k_ => some k_ ≠ (Value.slice Ao44 x261002_1.length co44).ownBlock) (.slice (some ⟨gr, 0, none⟩) x261001_1.length co43) (x261001_1.set 0 ((x261001_1.getD 0 []).set 0 0)) from by rw [hw99]; exact Kd.S_mono hS (fun _ h => h.1.1.1)); replace HO_261002 := A_ (show Kd.R (Kd.int .i64) 3 w99 w.heap.size (fun _ => True) (.slice Ao44 x261002_1.length co44) x261002_1 from by rw [hw99]; exact Kd.R_mono (Kd.R_grown (Kd.R_tight rfl HO_261002.out) hgrown (fun k hk he => hok0.1.1.1 (he.symm.trans hk))) (fun _ _ => trivial)); replace BK259 := A_ (show w99.heap[gb259]? = some (.cells #[.int .i64 0, (.slice none 0 0), (.slice none 0 0)] 76 (0, 0)) from by rw [hw99]; exact blk_far BK259.out (Ne.symm hok0.2) _); replace BK260 := A_ (show w99.heap[gb260]? = some (.cells #[.int .i64 a1, (.slice (some ⟨gr, 0, none⟩) x261001_1.length co43), (.slice Ao44 x261002_1.length co44)] 76 (0, 0)) from by rw [hw99]; exact blk_far BK260.out (Ne.symm hok0.1.2) _); replace HI0 := A_ (show IsS57 w0 w99 g s0_0 t262 t263 from by rw [hw99]; exact IsS57.far HI0.out (Ne.symm hok0.1.1.2) _); replace HK := A_ (show KeepBut w w99 g none from by rw [hw99]; exact keep_far HK.out hge0 _); replace HB := A_ (show Below w0.heap.size w0 w99 from by rw [hw99]; exact below_set HB.out (Nat.le_trans HW0.out hge0)); clear hw99 hcr hfr HCE HFE hS hgrown; have hcz40_0 := bz0 BK260.out; have hcz40_1 := bz1 BK260.out; have hcz40_2 := bz2 BK260.out; have hcz42_0 := bz0 BK259.out; have hcz42_1 := bz1 BK259.out; have hcz42_2 := bz2 BK259.out; have hfz42_0 := blk_frozen BK259.out 0; have hfz42_1 := blk_frozen BK259.out 1; have hfz42_2 := blk_frozen BK259.out 2))
    refine bodyPost_ret (results_cell_row rfl _ _ gb259 76 #[.int .i64 a1, .slice (some ⟨gr, 0, none⟩) x261001_1.length co43, .slice Ao44 x261002_1.length co44] (0, 0) _ rfl (by refine blk_put (cs := #[.int .i64 a1, .slice (some ⟨gr, 0, none⟩) x261001_1.length co43, .slice none 0 0]) ?_ 2 _ rfl; refine blk_put (cs := #[.int .i64 a1, .slice none 0 0, .slice none 0 0]) ?_ 1 _ rfl; refine blk_put (cs := #[.int .i64 0, .slice none 0 0, .slice none 0 0]) ?_ 0 _ rfl; exact BK259.out) Tryz.underlying76 rfl (by kernel_rfl)) rfl ?_; exact ⟨_, _, by rfl, by exact Kd.S_mono (Kd.S_far (p := ⟨gb259, 2, none⟩) (Kd.S_far (p := ⟨gb259, 1, none⟩) (Kd.S_far (p := ⟨gb259, 0, none⟩) (Kd.S_types HO_261001.out BK259.out (by decide)) (fun _ hk => hk.2) (.int .i64 a1)) (fun _ hk => hk.2) (.slice (some ⟨gr, 0, none⟩) x261001_1.length co43)) (fun _ hk => hk.2) (.slice Ao44 x261002_1.length co44)) (fun _ hk => hk.1), by exact Kd.R_mono (Kd.R_far (p := ⟨gb259, 2, none⟩) (Kd.R_far (p := ⟨gb259, 1, none⟩) (Kd.R_far (p := ⟨gb259, 0, none⟩) (Kd.R_types HO_261002.out BK259.out (by decide)) (fun _ hk => hk.2) (.int .i64 a1)) (fun _ hk => hk.2) (.slice (some ⟨gr, 0, none⟩) x261001_1.length co43)) (fun _ hk => hk.2) (.slice Ao44 x261002_1.length co44)) (fun _ hk => trivial), by repeat (first | (with_reducible first | exact HI0.out | apply IsS57.alloc | apply IsS57.drewN | apply IsS57.drew | apply IsS57.set_1 | apply IsS57.set_2 | refine IsS57.far ?_ NB0_259.out _ | refine IsS57.far ?_ NB0_260.out _) | exact HI0.out), by repeat (first | (with_reducible first | exact HB.out | apply below_alloc | apply pw_below_drewN | apply below_drew1 | refine below_set ?_ (IsS57.ge HI0.out) | refine below_set ?_ GE259.out | refine below_set ?_ GE260.out) | exact HB.out), by repeat (first | (with_reducible first | exact HK.out | apply KeepBut.set_ | apply keep_drewN | apply keep_drew | apply keep_alloc | refine keep_far ?_ GW259.out _ | refine keep_far ?_ GW260.out _) | exact HK.out)⟩
   replace c36 := Bool.eq_false_iff.mpr c36; subst c36; rw [if_neg nf_] at H; simp only [Option.some.injEq, Prod.mk.injEq] at H; obtain ⟨rfl, rfl, rfl, rfl, rfl⟩ := H
   go_wp2_with (first | ((with_reducible refine gc_ 64 rfl ?_); refine cL_ E64 47 rfl rfl rfl (spec_l1Once.calls g s0_0 x1001_1 x1002_1 2 false t262 t263 w0 _ HI0.out HB.out A35.out) (by simp only [mA, mB, mC]; rfl) ?_; rintro e w45 ⟨rfl, hi, hb, hk⟩; refine ⟨_, rfl, ?_⟩; replace HO_261001 := A_ (Kd.S_mono (Kd.S_keep (IsS57.apartS HI0.out HO_261001.out (by decide)) hk (fun _ h => h.2)) (fun _ h => h.1)); replace HO_261002 := A_ (Kd.R_mono (Kd.R_keep (IsS57.apart HI0.out HO_261002.out (by decide)) hk (fun _ h => h.2)) (fun _ h => h.1)); replace BK259 := A_ (KeepBut.blk hk BK259.out NB259_0.out (by simp)); replace BK260 := A_ (KeepBut.blk hk BK260.out NB260_0.out (by simp)); replace HK := kt_ HK hk; replace HB := A_ (hb); replace HI0 := A_ (hi); clear hb hk hi; have hcz48_0 := bz0 BK260.out; have hcz48_1 := bz1 BK260.out; have hcz48_2 := bz2 BK260.out; have hcz50_0 := bz0 BK259.out; have hcz50_1 := bz1 BK259.out; have hcz50_2 := bz2 BK259.out; have hfz50_0 := blk_frozen BK259.out 0; have hfz50_1 := blk_frozen BK259.out 1; have hfz50_2 := blk_frozen BK259.out 2; obtain ⟨Ao51, co51, eo51⟩ := Kd.S_slice HO_261001.out; subst eo51; obtain ⟨Ao52, co52, eo52⟩ := Kd.R_slice HO_261002.out; subst eo52))
   refine bodyPost_ret (results_cell_row rfl _ _ gb259 76 #[.int .i64 a1, .slice Ao51 x261001_1.length co51, .slice Ao52 x261002_1.length co52] (0, 0) _ rfl (by refine blk_put (cs := #[.int .i64 a1, .slice Ao51 x261001_1.length co51, .slice none 0 0]) ?_ 2 _ rfl; refine blk_put (cs := #[.int .i64 a1, .slice none 0 0, .slice none 0 0]) ?_ 1 _ rfl; refine blk_put (cs := #[.int .i64 0, .slice none 0 0, .slice none 0 0]) ?_ 0 _ rfl; exact BK259.out) Tryz.underlying76 rfl (by kernel_rfl)) rfl ?_; exact ⟨_, _, by rfl, by exact Kd.S_mono (Kd.S_far (p := ⟨gb259, 2, none⟩) (Kd.S_far (p := ⟨gb259, 1, none⟩) (Kd.S_far (p := ⟨gb259, 0, none⟩) (Kd.S_types HO_261001.out BK259.out (by decide)) (fun _ hk => hk.2) (.int .i64 a1)) (fun _ hk => hk.2) (.slice Ao51 x261001_1.length co51)) (fun _ hk => hk.2) (.slice Ao52 x261002_1.length co52)) (fun _ hk => hk.1), by exact Kd.R_mono (Kd.R_far (p := ⟨gb259, 2, none⟩) (Kd.R_far (p := ⟨gb259, 1, none⟩) (Kd.R_far (p := ⟨gb259, 0, none⟩) (Kd.R_types HO_261002.out BK259.out (by decide)) (fun _ hk => hk.2) (.int .i64 a1)) (fun _ hk => hk.2) (.slice Ao51 x261001_1.length co51)) (fun _ hk => hk.2) (.slice Ao52 x261002_1.length co52)) (fun _ hk => trivial), by repeat (first | (with_reducible first | exact HI0.out | apply IsS57.alloc | apply IsS57.drewN | apply IsS57.drew | apply IsS57.set_1 | apply IsS57.set_2 | refine IsS57.far ?_ NB0_259.out _ | refine IsS57.far ?_ NB0_260.out _) | exact HI0.out), by repeat (first | (with_reducible first | exact HB.out | apply below_alloc | apply pw_below_drewN | apply below_drew1 | refine below_set ?_ (IsS57.ge HI0.out) | refine below_set ?_ GE259.out | refine below_set ?_ GE260.out) | exact HB.out), by repeat (first | (with_reducible first | exact HK.out | apply KeepBut.set_ | apply keep_drewN | apply keep_drew | apply keep_alloc | refine keep_far ?_ GW259.out _ | refine keep_far ?_ GW260.out _) | exact HK.out)⟩

def spec_l3Draw.f (k : Nat) (s0_0 : List Int) (s0_1 : Int) (s0_2 : Int) : Option (Int × (List (List Int)) × List Int × Int × Int) := (spec_l1Once.f s0_0 s0_1 s0_2 3).bind fun bt286 => (if bt286.1 = true then ((spec_l1Pick.f s0_0 bt286.2.1 bt286.2.2 (([(⟨#[116, 104, 117, 101]⟩ : ByteArray), (⟨#[114, 117, 100, 105, 110]⟩ : ByteArray), (⟨#[112, 101, 114, 105, 111, 100]⟩ : ByteArray), (⟨#[112, 111, 119, 101, 114, 115]⟩ : ByteArray), (⟨#[99, 97, 110, 116, 111, 114]⟩ : ByteArray), (⟨#[109, 111, 100]⟩ : ByteArray)] : List ByteArray))).bind fun bt292 => ((spec_NamedSequence.f bt292.1).bind fun bt295 => (some (bt295.1, bt295.2.1, bt295.2.2.1, bt292.2.1, bt292.2.2)))) else ((spec_l1Below.f s0_0 bt286.2.1 bt286.2.2 2).bind fun bt304 => ((spec_l1Below.f s0_0 bt304.2.1 bt304.2.2 5).bind fun bt307 => ((spec_l3Random.f k s0_0 bt307.2.1 bt307.2.2 (wrap64 (2 + bt304.1)) (wrap64 (1 + bt307.1))).bind fun bt310 => (some (bt310.1, bt310.2.1, bt310.2.2.1, bt310.2.2.2.1, bt310.2.2.2.2))))))
theorem spec_l3Draw.calls (k : Nat) (g : Nat) (s0_0 : List Int) (s0_1 : Int) (s0_2 : Int) (r1 : Int) (r2 : List (List Int)) (r3 : List Int) (r4 : Int) (r5 : Int) (w0 w : World) (hI : IsS57 w0 w g s0_0 s0_1 s0_2) (hB : Below w0.heap.size w0 w) (h : spec_l3Draw.f k s0_0 s0_1 s0_2 = some (r1, r2, r3, r4, r5)) :
  Calls Tryz.prog 72 #[.pointer (some ⟨g, 0, none⟩)] w fun e w' => ∃ v1_ v2_ : Value, e = .returned (.agg #[.int .i64 r1, v1_, v2_]) ∧ Kd.N (Kd.slice 3 (Kd.int .i64)) 24 w' w.heap.size (fun k_ => (w.heap.size ≤ k_) ∧ some k_ ≠ (v2_ : Value).ownBlock) v1_ r2 ∧ Kd.R (Kd.int .i64) 3 w' w.heap.size (fun k_ => (w.heap.size ≤ k_)) v2_ r3 ∧ IsS57 w0 w' g s0_0 r4 r5 ∧ Below w0.heap.size w0 w' ∧ KeepBut w w' g none := by
 have HI0 := A_ hI; have HK := A_ (KeepBut.refl w g none); clear hI; have HW0 := A_ hB.size; have HB := A_ hB; clear hB; unfold spec_l3Draw.f at h; have H := h; clear h; replace H := bA_ H; obtain ⟨⟨t286, t287, t288⟩, A2, H⟩ := H; dsimp only at H
 by_cases c3 : t286 = true
 ·subst c3; rw [if_pos rfl] at H; obtain ⟨y289, hy289⟩ := ex_ ((([(⟨#[116, 104, 117, 101]⟩ : ByteArray), (⟨#[114, 117, 100, 105, 110]⟩ : ByteArray), (⟨#[112, 101, 114, 105, 111, 100]⟩ : ByteArray), (⟨#[112, 111, 119, 101, 114, 115]⟩ : ByteArray), (⟨#[99, 97, 110, 116, 111, 114]⟩ : ByteArray), (⟨#[109, 111, 100]⟩ : ByteArray)] : List ByteArray)) : List ByteArray); replace H : ((spec_l1Pick.f s0_0 t287 t288 y289).bind fun bt292 => ((spec_NamedSequence.f bt292.1).bind fun bt295 => (some (bt295.1, bt295.2.1, bt295.2.2.1, bt292.2.1, bt292.2.2)))) = some (r1, r2, r3, r4, r5) := by (rw [hy289]; with_reducible exact H)
  have Ny289 := A_ hy289; clear hy289; replace H := bA_ H; obtain ⟨⟨t292, t293, t294⟩, A4, H⟩ := H; dsimp only at H; replace H := bA_ H; obtain ⟨⟨t295, t296, t299, t302⟩, A5, H⟩ := H; dsimp only at H; simp only [Option.some.injEq, Prod.mk.injEq] at H; obtain ⟨rfl, rfl, rfl, rfl, rfl⟩ := H; go_enter Tryz.func72, Tryz.ntmps72
  go_wp2_with (first | ((with_reducible refine gate_dst (N := 2) rfl ?_); refine box_event ?hg (N := 2) ?hd (cs := #[.int .i64 0, .slice none 0 0, .slice none 0 0]) (t := 76) ?hr ?_; (case hd | hg => rfl); (case hr => go_simp; done); intro gb285 hg w6 hbox hb; replace HB := bs_ HB hb; have BK285 := A_ (hbox); have GW285 := A_ (lg_ (keep_size HK.out) hg); have GE285 := A_ (Nat.le_trans HW0.out (lg_ (keep_size HK.out) hg)); replace HK := kb_ HK hb; have NB0_285 := A_ (ln_ (IsS57.lt HI0.out) hg); have NB285_0 := A_ (Ne.symm (ln_ (IsS57.lt HI0.out) hg)); replace HI0 := A_ (IsS57.below HI0.out hb); clear hb hbox hg) | ((with_reducible refine gc_ 64 rfl ?_); refine cL_ E64 7 rfl rfl rfl (spec_l1Once.calls g s0_0 s0_1 s0_2 3 true t287 t288 w0 _ HI0.out HB.out A2.out) (by simp only [mA, mB, mC]; rfl) ?_; rintro e w7 ⟨rfl, hi, hb, hk⟩; refine ⟨_, rfl, ?_⟩; replace BK285 := A_ (KeepBut.blk hk BK285.out NB285_0.out (by simp)); replace HK := kt_ HK hk; replace HB := A_ (hb); replace HI0 := A_ (hi); clear hb hk; (try clear hi)) | ((with_reducible refine gate_dst (N := 10) rfl ?_); refine Kd.R_lit Kd.string _ 9 ?hg (N := 10) ?hd (xs := ([(⟨#[116, 104, 117, 101]⟩ : ByteArray), (⟨#[114, 117, 100, 105, 110]⟩ : ByteArray), (⟨#[112, 101, 114, 105, 111, 100]⟩ : ByteArray), (⟨#[112, 111, 119, 101, 114, 115]⟩ : ByteArray), (⟨#[99, 97, 110, 116, 111, 114]⟩ : ByteArray), (⟨#[109, 111, 100]⟩ : ByteArray)] : List ByteArray)) (inner := [.string (⟨#[116, 104, 117, 101]⟩ : ByteArray), .string (⟨#[114, 117, 100, 105, 110]⟩ : ByteArray), .string (⟨#[112, 101, 114, 105, 111, 100]⟩ : ByteArray), .string (⟨#[112, 111, 119, 101, 114, 115]⟩ : ByteArray), .string (⟨#[99, 97, 110, 116, 111, 114]⟩ : ByteArray), .string (⟨#[109, 111, 100]⟩ : ByteArray)]) (ok := fun _ => True) (okp := fun _ => True) ?hr ?hp (fun _ hk => hk) trivial (Below.refl _ _) (Nat.le_refl _) (by simp) ?_; (case hd | hg => rfl); (case hr => go_simp; done); (case hp => exact (Reps.one (show Kd.M Kd.string _ _ _ (⟨#[116, 104, 117, 101]⟩ : ByteArray) [.string (⟨#[116, 104, 117, 101]⟩ : ByteArray)] from rfl) (Reps.one (show Kd.M Kd.string _ _ _ (⟨#[114, 117, 100, 105, 110]⟩ : ByteArray) [.string (⟨#[114, 117, 100, 105, 110]⟩ : ByteArray)] from rfl) (Reps.one (show Kd.M Kd.string _ _ _ (⟨#[112, 101, 114, 105, 111, 100]⟩ : ByteArray) [.string (⟨#[112, 101, 114, 105, 111, 100]⟩ : ByteArray)] from rfl) (Reps.one (show Kd.M Kd.string _ _ _ (⟨#[112, 111, 119, 101, 114, 115]⟩ : ByteArray) [.string (⟨#[112, 111, 119, 101, 114, 115]⟩ : ByteArray)] from rfl) (Reps.one (show Kd.M Kd.string _ _ _ (⟨#[99, 97, 110, 116, 111, 114]⟩ : ByteArray) [.string (⟨#[99, 97, 110, 116, 111, 114]⟩ : ByteArray)] from rfl) (Reps.one (show Kd.M Kd.string _ _ _ (⟨#[109, 111, 100]⟩ : ByteArray) [.string (⟨#[109, 111, 100]⟩ : ByteArray)] from rfl) (Reps.none _ _)))))))); rintro v290 w8 ho9 hb - -; (rw [← Ny289.out] at ho9); have HO291 := A_ (Kd.R_lower (Kd.R_newM (M := fun k_ => (w.heap.size ≤ k_)) ho9 (keep_size HK.out) (fun k_ h_ => h_)) (keep_size HK.out)); replace HI0 := A_ (IsS57.below HI0.out hb); replace BK285 := bb_ BK285 hb; replace HK := kb_ HK hb; replace HB := bs_ HB hb; clear hb ho9; obtain ⟨Ao10, co10, eo10⟩ := Kd.R_slice HO291.out; subst eo10) | ((with_reducible refine gc_ 88 rfl ?_); refine cL_ E88 11 rfl rfl rfl (spec_l1Pick.calls g s0_0 t287 t288 _ _ y289 t292 t293 t294 w0 _ HI0.out HB.out ((Kd.R_reads' HO291.out).2.2) ((Kd.R_reads' HO291.out).2.1) (far_slice (IsS57.own_ne HI0.out HO291.out (by decide))) A4.out) (by simp only [mA, mB, mC]; rfl) ?_; rintro e w11 ⟨rfl, hi, hb, hk⟩; refine ⟨_, rfl, ?_⟩; replace BK285 := A_ (KeepBut.blk hk BK285.out NB285_0.out (by simp)); replace HO291 := A_ (Kd.R_mono (Kd.R_keep (IsS57.apart HI0.out HO291.out (by decide)) hk (fun _ h => h.2)) (fun _ h => h.1)); replace HK := kt_ HK hk; replace HB := A_ (hb); replace HI0 := A_ (hi); clear hb hk; (try clear hi)) | ((with_reducible refine gc_ 87 rfl ?_); refine cL_ E87 12 rfl rfl rfl (spec_NamedSequence.calls t292 t295 t296 t299 t302 _ A5.out) (by simp only [mA, mB, mC]; rfl) ?_; rintro e w12 ⟨v297, v300, rfl, ho0, ho1, hb⟩; refine ⟨_, rfl, ?_⟩; have HO298 := A_ (Kd.N_lower (Kd.N_mono (ok' := fun k_ => (w.heap.size ≤ k_) ∧ some k_ ≠ (v300 : Value).ownBlock ∧ some k_ ≠ (.slice Ao10 y289.length co10 : Value).ownBlock ∧ k_ ≠ gb285 ∧ k_ ≠ g) ho0 (fun k_ hk_ => ⟨(Nat.le_trans (keep_size HK.out) hk_.1), hk_.2, (Kd.fresh' (Kd.R_lt HO291.out) k_ hk_.1), (Kd.freshB BK285.out k_ hk_.1), (IsS57.fresh HI0.out k_ hk_.1)⟩)) (keep_size HK.out)); replace HO291 := A_ (Kd.R_below HO291.out hb); have HO301 := A_ (Kd.R_lower (Kd.R_newM (M := fun k_ => (w.heap.size ≤ k_)) (Kd.R_mono (ok' := fun k_ => True) ho1 (fun _ hk_ => trivial)) (keep_size HK.out) (fun k_ h_ => h_)) (keep_size HK.out)); replace HI0 := A_ (IsS57.below HI0.out hb); replace BK285 := bb_ BK285 hb; replace HK := kb_ HK hb; replace HB := bs_ HB hb; clear hb ho0; (try clear ho1)) | ((with_reducible refine gate_dst (N := 3) rfl ?_); refine box_event ?hg (N := 3) ?hd (cs := #[.int .i64 0, .slice none 0 0, .slice none 0 0]) (t := 76) ?hr ?_; (case hd | hg => rfl); (case hr => go_simp; done); intro gb303 hg w13 hbox hb; replace HO291 := A_ (Kd.R_below HO291.out hb); replace HO298 := A_ (Kd.N_below (Kd.N_elderB HO298.out gb303 (Nat.le_of_eq hg.symm)) hb); replace HO301 := A_ (Kd.R_below HO301.out hb); replace HB := bs_ HB hb; have BK303 := A_ (hbox); have GW303 := A_ (lg_ (keep_size HK.out) hg); have GE303 := A_ (Nat.le_trans HW0.out (lg_ (keep_size HK.out) hg)); replace HK := kb_ HK hb; have NB285_303 := A_ ((by rw [hg]; exact Nat.ne_of_lt (blk_lt (g := gb285) (o := .cells #[.int .i64 0, .slice none 0 0, .slice none 0 0] 76 (0, 0)) BK285.out) : gb285 ≠ gb303)); have NB303_285 := A_ ((by rw [hg]; exact Nat.ne_of_gt (blk_lt (g := gb285) (o := .cells #[.int .i64 0, .slice none 0 0, .slice none 0 0] 76 (0, 0)) BK285.out) : gb303 ≠ gb285)); replace BK285 := bb_ BK285 hb; have NB0_303 := A_ (ln_ (IsS57.lt HI0.out) hg); have NB303_0 := A_ (Ne.symm (ln_ (IsS57.lt HI0.out) hg)); replace HI0 := A_ (IsS57.below HI0.out hb); clear hb hbox hg; have hnc14 := NB285_303.out; have hnb15 := NB303_0.out; have hnc15 := NB0_303.out; have hcz16_0 := bz0 BK303.out; have hcz16_1 := bz1 BK303.out; have hcz16_2 := bz2 BK303.out; have hfz16_0 := blk_frozen BK303.out 0; have hfz16_1 := blk_frozen BK303.out 1; have hfz16_2 := blk_frozen BK303.out 2; obtain ⟨Ao17, co17, eo17⟩ := Kd.N_slice HO298.out; subst eo17; obtain ⟨Ao18, co18, eo18⟩ := Kd.R_slice HO301.out; subst eo18; have hnb19 := NB285_0.out; have hnc19 := NB0_285.out; have hcz20_0 := bz0 BK285.out; have hcz20_1 := bz1 BK285.out; have hcz20_2 := bz2 BK285.out; have hfz20_0 := blk_frozen BK285.out 0; have hfz20_1 := blk_frozen BK285.out 1; have hfz20_2 := blk_frozen BK285.out 2))
  refine bodyPost_ret (results_cell_row rfl _ _ gb285 76 #[.int .i64 t295, .slice Ao17 t296.length co17, .slice Ao18 t299.length co18] (0, 0) _ rfl (by refine blk_put (cs := #[.int .i64 t295, .slice Ao17 t296.length co17, .slice none 0 0]) ?_ 2 _ rfl; refine blk_put (cs := #[.int .i64 t295, .slice none 0 0, .slice none 0 0]) ?_ 1 _ rfl; refine blk_put (cs := #[.int .i64 0, .slice none 0 0, .slice none 0 0]) ?_ 0 _ rfl; refine blk_far ?_ NB285_303.out _; refine blk_far ?_ NB285_303.out _; refine blk_far ?_ NB285_303.out _; exact BK285.out) Tryz.underlying76 rfl (by kernel_rfl)) rfl ?_; exact ⟨_, _, by rfl, by exact Kd.N_mono (Kd.N_far (p := ⟨gb285, 2, none⟩) (Kd.N_far (p := ⟨gb285, 1, none⟩) (Kd.N_far (p := ⟨gb285, 0, none⟩) (Kd.N_far (p := ⟨gb303, 2, none⟩) (Kd.N_far (p := ⟨gb303, 1, none⟩) (Kd.N_far (p := ⟨gb303, 0, none⟩) (Kd.N_mono (Kd.N_mono HO298.out (fun k_ hk => (⟨hk, hk.2⟩ : _ ∧ k_ ≠ gb303))) (fun k_ hk => (⟨hk, hk.1.1.2.2.2.1⟩ : _ ∧ k_ ≠ gb285))) (fun _ hk => hk.1.2) (.int .i64 t295)) (fun _ hk => hk.1.2) (.slice Ao17 t296.length co17)) (fun _ hk => hk.1.2) (.slice Ao18 t299.length co18)) (fun _ hk => hk.2) (.int .i64 t295)) (fun _ hk => hk.2) (.slice Ao17 t296.length co17)) (fun _ hk => hk.2) (.slice Ao18 t299.length co18)) (fun _ hk => ⟨hk.1.1.1.1, hk.1.1.1.2.1⟩), by exact Kd.R_mono (Kd.R_far (p := ⟨gb285, 2, none⟩) (Kd.R_far (p := ⟨gb285, 1, none⟩) (Kd.R_far (p := ⟨gb285, 0, none⟩) (Kd.R_far (p := ⟨gb303, 2, none⟩) (Kd.R_far (p := ⟨gb303, 1, none⟩) (Kd.R_far (p := ⟨gb303, 0, none⟩) (Kd.R_types (Kd.R_types HO301.out BK303.out (by decide)) BK285.out (by decide)) (fun _ hk => hk.1.2) (.int .i64 t295)) (fun _ hk => hk.1.2) (.slice Ao17 t296.length co17)) (fun _ hk => hk.1.2) (.slice Ao18 t299.length co18)) (fun _ hk => hk.2) (.int .i64 t295)) (fun _ hk => hk.2) (.slice Ao17 t296.length co17)) (fun _ hk => hk.2) (.slice Ao18 t299.length co18)) (fun _ hk => hk.1.1.1), by repeat (first | (with_reducible first | exact HI0.out | apply IsS57.alloc | apply IsS57.drewN | apply IsS57.drew | apply IsS57.set_1 | apply IsS57.set_2 | refine IsS57.far ?_ NB0_285.out _ | refine IsS57.far ?_ NB0_303.out _) | exact HI0.out), by repeat (first | (with_reducible first | exact HB.out | apply below_alloc | apply pw_below_drewN | apply below_drew1 | refine below_set ?_ (IsS57.ge HI0.out) | refine below_set ?_ GE285.out | refine below_set ?_ GE303.out) | exact HB.out), by repeat (first | (with_reducible first | exact HK.out | apply KeepBut.set_ | apply keep_drewN | apply keep_drew | apply keep_alloc | refine keep_far ?_ GW285.out _ | refine keep_far ?_ GW303.out _) | exact HK.out)⟩
 replace c3 := Bool.eq_false_iff.mpr c3; subst c3; rw [if_neg nf_] at H; replace H := bA_ H; obtain ⟨⟨t304, t305, t306⟩, A21, H⟩ := H; dsimp only at H; replace H := bA_ H; obtain ⟨⟨t307, t308, t309⟩, A22, H⟩ := H; dsimp only at H; replace H := bA_ H; obtain ⟨⟨t310, t311, t314, t317, t318⟩, A23, H⟩ := H; dsimp only at H; simp only [Option.some.injEq, Prod.mk.injEq] at H; obtain ⟨rfl, rfl, rfl, rfl, rfl⟩ := H; go_enter Tryz.func72, Tryz.ntmps72
 go_wp2_with (first | ((with_reducible refine gate_dst (N := 2) rfl ?_); refine box_event ?hg (N := 2) ?hd (cs := #[.int .i64 0, .slice none 0 0, .slice none 0 0]) (t := 76) ?hr ?_; (case hd | hg => rfl); (case hr => go_simp; done); intro gb285 hg w24 hbox hb; replace HB := bs_ HB hb; have BK285 := A_ (hbox); have GW285 := A_ (lg_ (keep_size HK.out) hg); have GE285 := A_ (Nat.le_trans HW0.out (lg_ (keep_size HK.out) hg)); replace HK := kb_ HK hb; have NB0_285 := A_ (ln_ (IsS57.lt HI0.out) hg); have NB285_0 := A_ (Ne.symm (ln_ (IsS57.lt HI0.out) hg)); replace HI0 := A_ (IsS57.below HI0.out hb); clear hb hbox hg) | ((with_reducible refine gc_ 64 rfl ?_); refine cL_ E64 7 rfl rfl rfl (spec_l1Once.calls g s0_0 s0_1 s0_2 3 false t287 t288 w0 _ HI0.out HB.out A2.out) (by simp only [mA, mB, mC]; rfl) ?_; rintro e w25 ⟨rfl, hi, hb, hk⟩; refine ⟨_, rfl, ?_⟩; replace BK285 := A_ (KeepBut.blk hk BK285.out NB285_0.out (by simp)); replace HK := kt_ HK hk; replace HB := A_ (hb); replace HI0 := A_ (hi); clear hb hk; (try clear hi)) | ((with_reducible refine gc_ 33 rfl ?_); refine cL_ E33 17 rfl rfl rfl (spec_l1Below.calls g s0_0 t287 t288 2 t304 t305 t306 w0 _ HI0.out HB.out A21.out) (by (try simp only [mA, mB, mC]); first | done | rfl | (simp only [List.length_drop, List.length_take]; rfl)) ?_; rintro e w26 ⟨rfl, hi, hb, hk⟩; refine ⟨_, rfl, ?_⟩; replace BK285 := A_ (KeepBut.blk hk BK285.out NB285_0.out (by simp)); replace HK := kt_ HK hk; replace HB := A_ (hb); replace HI0 := A_ (hi); clear hb hk; (try clear hi)) | ((with_reducible refine gc_ 33 rfl ?_); refine cL_ E33 22 rfl rfl rfl (spec_l1Below.calls g s0_0 t305 t306 5 t307 t308 t309 w0 _ HI0.out HB.out A22.out) (by simp only [mA, mB, mC]; rfl) ?_; rintro e w27 ⟨rfl, hi, hb, hk⟩; refine ⟨_, rfl, ?_⟩; replace BK285 := A_ (KeepBut.blk hk BK285.out NB285_0.out (by simp)); replace HK := kt_ HK hk; replace HB := A_ (hb); replace HI0 := A_ (hi); clear hb hk; (try clear hi)) | ((with_reducible refine gc_ 89 rfl ?_); refine cL_ E89 24 rfl rfl rfl (spec_l3Random.calls k g s0_0 t308 t309 (wrap64 (2 + t304)) (wrap64 (1 + t307)) t310 t311 t314 t317 t318 w0 _ HI0.out HB.out A23.out) (by simp only [mA, mB, mC]; rfl) ?_; rintro e w28 ⟨v312, v315, rfl, ho0, ho1, hi, hb, hk⟩; refine ⟨_, rfl, ?_⟩; have HO313 := A_ (Kd.N_lower (Kd.N_mono (ok' := fun k_ => (w.heap.size ≤ k_) ∧ some k_ ≠ (v315 : Value).ownBlock ∧ k_ ≠ gb285 ∧ k_ ≠ g) (Kd.S_N (Kd.S_bound ho0)) (fun k_ hk_ => ⟨(Nat.le_trans (keep_size HK.out) hk_.2.1), hk_.1, (Kd.freshB BK285.out k_ hk_.2.1), (IsS57.fresh HI0.out k_ hk_.2.1)⟩)) (keep_size HK.out)); replace BK285 := A_ (KeepBut.blk hk BK285.out NB285_0.out (by simp)); have HO316 := A_ (Kd.R_lower (Kd.R_newM (M := fun k_ => (w.heap.size ≤ k_)) ho1 (keep_size HK.out) (fun k_ h_ => h_)) (keep_size HK.out)); replace HK := kt_ HK hk; replace HB := A_ (hb); replace HI0 := A_ (hi); clear hb hk hi ho0 ho1; have hcz30_0 := bz0 BK285.out; have hcz30_1 := bz1 BK285.out; have hcz30_2 := bz2 BK285.out; have hfz30_0 := blk_frozen BK285.out 0; have hfz30_1 := blk_frozen BK285.out 1; have hfz30_2 := blk_frozen BK285.out 2; obtain ⟨Ao31, co31, eo31⟩ := Kd.N_slice HO313.out; subst eo31; obtain ⟨Ao32, co32, eo32⟩ := Kd.R_slice HO316.out; subst eo32))
 refine bodyPost_ret (results_cell_row rfl _ _ gb285 76 #[.int .i64 t310, .slice Ao31 t311.length co31, .slice Ao32 t314.length co32] (0, 0) _ rfl (by refine blk_put (cs := #[.int .i64 t310, .slice Ao31 t311.length co31, .slice none 0 0]) ?_ 2 _ rfl; refine blk_put (cs := #[.int .i64 t310, .slice none 0 0, .slice none 0 0]) ?_ 1 _ rfl; refine blk_put (cs := #[.int .i64 0, .slice none 0 0, .slice none 0 0]) ?_ 0 _ rfl; exact BK285.out) Tryz.underlying76 rfl (by kernel_rfl)) rfl ?_; exact ⟨_, _, by rfl, by exact Kd.N_mono (Kd.N_far (p := ⟨gb285, 2, none⟩) (Kd.N_far (p := ⟨gb285, 1, none⟩) (Kd.N_far (p := ⟨gb285, 0, none⟩) (Kd.N_mono HO313.out (fun k_ hk => (⟨hk, hk.2.2.1⟩ : _ ∧ k_ ≠ gb285))) (fun _ hk => hk.2) (.int .i64 t310)) (fun _ hk => hk.2) (.slice Ao31 t311.length co31)) (fun _ hk => hk.2) (.slice Ao32 t314.length co32)) (fun _ hk => ⟨hk.1.1, hk.1.2.1⟩), by exact Kd.R_mono (Kd.R_far (p := ⟨gb285, 2, none⟩) (Kd.R_far (p := ⟨gb285, 1, none⟩) (Kd.R_far (p := ⟨gb285, 0, none⟩) (Kd.R_types HO316.out BK285.out (by decide)) (fun _ hk => hk.2) (.int .i64 t310)) (fun _ hk => hk.2) (.slice Ao31 t311.length co31)) (fun _ hk => hk.2) (.slice Ao32 t314.length co32)) (fun _ hk => hk.1.1), by repeat (first | (with_reducible first | exact HI0.out | apply IsS57.alloc | apply IsS57.drewN | apply IsS57.drew | apply IsS57.set_1 | apply IsS57.set_2 | refine IsS57.far ?_ NB0_285.out _) | exact HI0.out), by repeat (first | (with_reducible first | exact HB.out | apply below_alloc | apply pw_below_drewN | apply below_drew1 | refine below_set ?_ (IsS57.ge HI0.out) | refine below_set ?_ GE285.out) | exact HB.out), by repeat (first | (with_reducible first | exact HK.out | apply KeepBut.set_ | apply keep_drewN | apply keep_drew | apply keep_alloc | refine keep_far ?_ GW285.out _) | exact HK.out)⟩
end Go.Proofs.YtmjlmjhccpedmaaGreat.PFnBalance

