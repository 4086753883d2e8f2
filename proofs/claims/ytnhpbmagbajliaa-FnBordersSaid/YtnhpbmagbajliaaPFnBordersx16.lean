/- Walks of the functions that the law reaches. -/
import Derived.Test.YtnhpbmagbajliaaPFnBordersx12
import Derived.Test.YtnhpbmagbajliaaPFnBordersx14
namespace Go.Proofs.Ytnhpbmagbajliaa.PFnBorders
open Go.RowKit Go.Proofs.YtnhpbmagbajliaaW.PrintWords Go.Proofs.YtnhpbmagbajliaaW.PrintLast Go.Proofs.YtnhpbmagbajliaaW.PrintMore
attribute [local go_sem] max2_int min2_int max_two min_two max_three min_three max_four min_four
set_option linter.unusedVariables false
set_option maxHeartbeats 8000000
set_option maxRecDepth 100000
set_option linter.unusedSimpArgs false

def laws_sameWords.l0 : Nat → List (List Int) → List (List Int) → Int → Option (Bool)
 | 0, _, _, _ => none
 | k + 1, x0, x1, x5 => if x5 < (x0.length : Int) then (if 0 ≤ x5 then (if x5 < (x1.length : Int) then ((laws_sameInts.f k (rd_L2 x0 x5) (rd_L2 x1 x5)).bind fun t789 => (if t789 = true then (laws_sameWords.l0 k x0 x1 (wrap64 (x5 + 1))) else (some false))) else (none)) else (none)) else (some true)
def laws_sameWords.f (k : Nat) (l0 : List (List Int)) (l1 : List (List Int)) : Option (Bool) := if (l0.length : Int) = (l1.length : Int) then (laws_sameWords.l0 k l0 l1 0) else (some false)
theorem laws_sameWords.calls (k : Nat) (A0 : Option Addr) (c0 : Nat) (l0 : List (List Int)) (A1 : Option Addr) (c1 : Nat) (l1 : List (List Int)) (r : Bool) (w : World) (hr0 : Kd.C (Kd.slice 3 (Kd.int .i64)) w A0 l0.length l0) (hc0 : l0.length ≤ c0) (hr1 : Kd.C (Kd.slice 3 (Kd.int .i64)) w A1 l1.length l1) (hc1 : l1.length ≤ c1) (h : laws_sameWords.f k l0 l1 = some r) :
  Calls Try.prog 22 #[.slice A0 l0.length c0, .slice A1 l1.length c1] w fun e w' => e = .returned (.bool r) ∧ Drawn0 w w' := by
 have HR0 := A_ hr0; have HC0 := A_ hc0; clear hr0 hc0; have HR1 := A_ hr1; have HC1 := A_ hc1; clear hr1 hc1; unfold laws_sameWords.f at h; have H := h; clear h
 by_cases c3 : (l0.length : Int) = (l1.length : Int)
 ·rw [if_pos c3] at H
  have c3b0 : ((l0.length : Int) == (l1.length : Int)) = true := beq_iff_eq.mpr c3
  have c3b1 : ((l0.length : Int) != (l1.length : Int)) = false := bne_eq_false_iff_eq.mpr c3
  have c3b2 : (l0.length == l1.length) = true := by first | simpa using c3 | (simp at c3 ⊢; omega)
  clear c3
  have H' := A_ H
  clear H; go_enter Try.func22, Try.ntmps22
  go_wp2
  repeat (go_quiet (fail); try go_wp2)
  go_loopg [5] k (fun kq v5 w' => ∃ (x5_1 : Int), v5 = .int .i64 x5_1 ∧ Aside0 (laws_sameWords.l0 kq l0 l1 x5_1 = some r) ∧ Aside0 (kq ≤ k) ∧ Drawn0 w w')
  case atStart => exact ⟨(0), (by rfl), H', ⟨Nat.le_refl _⟩, by repeat (first | exact Drawn0.refl _ | apply Drawn0.step)⟩
  case round =>
   clear H'
   try clear c3b0
   try clear c3b1
   try clear c3b2
   obtain ⟨x5_1, rfl, HA, HK1, ⟨m1, rfl⟩⟩ := hrel
   cases gk with
   | zero => exact absurd HA.out (by simp [laws_sameWords.l0])
   | succ k1 =>
    have H := HA.out; clear HA; simp only [laws_sameWords.l0] at H
    by_cases c4 : x5_1 < (l0.length : Int)
    ·rw [if_pos c4] at H; have c4b0 := decide_eq_true c4; clear c4
     by_cases c5 : 0 ≤ x5_1
     ·rw [if_pos c5] at H; have c5b0 := decide_eq_true c5; clear c5
      by_cases c6 : x5_1 < (l1.length : Int)
      ·rw [if_pos c6] at H; have c6b0 := decide_eq_true c6; clear c6; replace H := bA_ H; obtain ⟨t789, A7, H⟩ := H
       by_cases c8 : t789 = true
       ·subst c8; rw [if_pos rfl] at H
        have H' := A_ H
        clear H
        have p787 : 0 ≤ (x5_1 : Int) := od_ (by assumption)
        have q787 : x5_1 < (l0.length : Int) := od_ (by assumption)
        obtain ⟨ad787, A787_0, c787_0, e787, hx787_0, hl787_0, hi787_0⟩ := at_L2 HR0.out x5_1 p787 q787
        cases e787
        have HR787_0 := A_ hi787_0; have HC787_0 := A_ hl787_0; clear hi787_0 hl787_0; replace p787 := eq_true p787; replace q787 := eq_true q787
        have p788 : 0 ≤ (x5_1 : Int) := od_ (by assumption)
        have q788 : x5_1 < (l1.length : Int) := od_ (by assumption)
        obtain ⟨ad788, A788_0, c788_0, e788, hx788_0, hl788_0, hi788_0⟩ := at_L2 HR1.out x5_1 p788 q788
        cases e788
        have HR788_0 := A_ hi788_0; have HC788_0 := A_ hl788_0; clear hi788_0 hl788_0; replace p788 := eq_true p788; replace q788 := eq_true q788
        go_wp2_with (first | (go_at_call 8; (with_reducible refine (laws_sameInts.calls k1 _ _ (rd_L2 l0 x5_1) _ _ (rd_L2 l1 x5_1) true _ ?side1 ?side2 ?side3 ?side4 A7.out).mono ?_); (case side1 => repeat (first | exact HR787_0.out | (with_reducible refine Kd.C_alloc ?_ _) | (with_reducible refine Kd.C_drewN ?_ _) | (with_reducible refine Kd.C_drew ?_))); (case side2 => exact HC787_0.out); (case side3 => repeat (first | exact HR788_0.out | (with_reducible refine Kd.C_alloc ?_ _) | (with_reducible refine Kd.C_drewN ?_ _) | (with_reducible refine Kd.C_drew ?_))); (case side4 => exact HC788_0.out); rintro e w' ⟨rfl, ⟨nd, rfl⟩⟩; skip))
        repeat (go_quiet (first | (go_at_call 8; (with_reducible refine (laws_sameInts.calls k1 _ _ (rd_L2 l0 x5_1) _ _ (rd_L2 l1 x5_1) true _ ?side1 ?side2 ?side3 ?side4 A7.out).mono ?_); (case side1 => repeat (first | exact HR787_0.out | (with_reducible refine Kd.C_alloc ?_ _) | (with_reducible refine Kd.C_drewN ?_ _) | (with_reducible refine Kd.C_drew ?_))); (case side2 => exact HC787_0.out); (case side3 => repeat (first | exact HR788_0.out | (with_reducible refine Kd.C_alloc ?_ _) | (with_reducible refine Kd.C_drewN ?_ _) | (with_reducible refine Kd.C_drew ?_))); (case side4 => exact HC788_0.out); rintro e w' ⟨rfl, ⟨nd, rfl⟩⟩; exact ⟨rfl, _, Eq.trans (World.drewN_drewN _ _ _) (congrArg (World.drewN _) (Nat.add_assoc _ _ _))⟩)); try go_wp2_with (first | (go_at_call 8; (with_reducible refine (laws_sameInts.calls k1 _ _ (rd_L2 l0 x5_1) _ _ (rd_L2 l1 x5_1) true _ ?side1 ?side2 ?side3 ?side4 A7.out).mono ?_); (case side1 => repeat (first | exact HR787_0.out | (with_reducible refine Kd.C_alloc ?_ _) | (with_reducible refine Kd.C_drewN ?_ _) | (with_reducible refine Kd.C_drew ?_))); (case side2 => exact HC787_0.out); (case side3 => repeat (first | exact HR788_0.out | (with_reducible refine Kd.C_alloc ?_ _) | (with_reducible refine Kd.C_drewN ?_ _) | (with_reducible refine Kd.C_drew ?_))); (case side4 => exact HC788_0.out); rintro e w' ⟨rfl, ⟨nd, rfl⟩⟩; skip)))
        go_roundg k1
        case measure => have := HK1.out; omega
        case rel => exact ⟨(wrap64 (x5_1 + 1)), (by rfl), H', ⟨by have := HK1.out; omega⟩, by repeat (first | exact Drawn0.refl _ | apply Drawn0.step)⟩
       replace c8 := Bool.eq_false_iff.mpr c8; subst c8; rw [if_neg nf_] at H; obtain rfl := Option.some.inj H
       have p787 : 0 ≤ (x5_1 : Int) := od_ (by assumption)
       have q787 : x5_1 < (l0.length : Int) := od_ (by assumption)
       obtain ⟨ad787, A787_0, c787_0, e787, hx787_0, hl787_0, hi787_0⟩ := at_L2 HR0.out x5_1 p787 q787
       cases e787
       have HR787_0 := A_ hi787_0; have HC787_0 := A_ hl787_0; clear hi787_0 hl787_0; replace p787 := eq_true p787; replace q787 := eq_true q787
       have p788 : 0 ≤ (x5_1 : Int) := od_ (by assumption)
       have q788 : x5_1 < (l1.length : Int) := od_ (by assumption)
       obtain ⟨ad788, A788_0, c788_0, e788, hx788_0, hl788_0, hi788_0⟩ := at_L2 HR1.out x5_1 p788 q788
       cases e788
       have HR788_0 := A_ hi788_0; have HC788_0 := A_ hl788_0; clear hi788_0 hl788_0; replace p788 := eq_true p788; replace q788 := eq_true q788
       go_wp2_with (first | (go_at_call 8; (with_reducible refine (laws_sameInts.calls k1 _ _ (rd_L2 l0 x5_1) _ _ (rd_L2 l1 x5_1) false _ ?side1 ?side2 ?side3 ?side4 A7.out).mono ?_); (case side1 => repeat (first | exact HR787_0.out | (with_reducible refine Kd.C_alloc ?_ _) | (with_reducible refine Kd.C_drewN ?_ _) | (with_reducible refine Kd.C_drew ?_))); (case side2 => exact HC787_0.out); (case side3 => repeat (first | exact HR788_0.out | (with_reducible refine Kd.C_alloc ?_ _) | (with_reducible refine Kd.C_drewN ?_ _) | (with_reducible refine Kd.C_drew ?_))); (case side4 => exact HC788_0.out); rintro e w' ⟨rfl, ⟨nd, rfl⟩⟩; skip))
       repeat (go_quiet (first | (go_at_call 8; (with_reducible refine (laws_sameInts.calls k1 _ _ (rd_L2 l0 x5_1) _ _ (rd_L2 l1 x5_1) false _ ?side1 ?side2 ?side3 ?side4 A7.out).mono ?_); (case side1 => repeat (first | exact HR787_0.out | (with_reducible refine Kd.C_alloc ?_ _) | (with_reducible refine Kd.C_drewN ?_ _) | (with_reducible refine Kd.C_drew ?_))); (case side2 => exact HC787_0.out); (case side3 => repeat (first | exact HR788_0.out | (with_reducible refine Kd.C_alloc ?_ _) | (with_reducible refine Kd.C_drewN ?_ _) | (with_reducible refine Kd.C_drew ?_))); (case side4 => exact HC788_0.out); rintro e w' ⟨rfl, ⟨nd, rfl⟩⟩; exact ⟨rfl, _, Eq.trans (World.drewN_drewN _ _ _) (congrArg (World.drewN _) (Nat.add_assoc _ _ _))⟩)); try go_wp2_with (first | (go_at_call 8; (with_reducible refine (laws_sameInts.calls k1 _ _ (rd_L2 l0 x5_1) _ _ (rd_L2 l1 x5_1) false _ ?side1 ?side2 ?side3 ?side4 A7.out).mono ?_); (case side1 => repeat (first | exact HR787_0.out | (with_reducible refine Kd.C_alloc ?_ _) | (with_reducible refine Kd.C_drewN ?_ _) | (with_reducible refine Kd.C_drew ?_))); (case side2 => exact HC787_0.out); (case side3 => repeat (first | exact HR788_0.out | (with_reducible refine Kd.C_alloc ?_ _) | (with_reducible refine Kd.C_drewN ?_ _) | (with_reducible refine Kd.C_drew ?_))); (case side4 => exact HC788_0.out); rintro e w' ⟨rfl, ⟨nd, rfl⟩⟩; skip)))
       go_ret
       exact ⟨by rfl, by repeat (first | exact Drawn0.refl _ | apply Drawn0.step)⟩
      rw [if_neg c6] at H
      cases H
     rw [if_neg c5] at H
     cases H
    rw [if_neg c4] at H; have c4b0 := decide_eq_false c4; clear c4; obtain rfl := Option.some.inj H
    go_wp2
    repeat (go_quiet (fail); try go_wp2)
    go_ret
    exact ⟨by rfl, by repeat (first | exact Drawn0.refl _ | apply Drawn0.step)⟩
 rw [if_neg c3] at H
 have c3b0 : ((l0.length : Int) == (l1.length : Int)) = false := beq_eq_false_iff_ne.mpr c3
 have c3b1 : ((l0.length : Int) != (l1.length : Int)) = true := bne_iff_ne.mpr c3
 have c3b2 : (l0.length == l1.length) = false := by first | simpa using c3 | (simp at c3 ⊢; omega)
 obtain rfl := Option.some.inj H; go_enter Try.func22, Try.ntmps22
 go_wp2
 repeat (go_quiet (fail); try go_wp2)
 go_ret
 exact ⟨by rfl, by repeat (first | exact Drawn0.refl _ | apply Drawn0.step)⟩

def spec_l3Same.l0 : Nat → List Int → List Int → Int → Option (Bool)
 | 0, _, _, _ => none
 | k + 1, x0, x1, x5 => if x5 < (x0.length : Int) then (if 0 ≤ x5 then (if x5 < (x1.length : Int) then (if (rd x0 x5) = (rd x1 x5) then (spec_l3Same.l0 k x0 x1 (wrap64 (x5 + 1))) else (some false)) else (none)) else (none)) else (some true)
def spec_l3Same.f (k : Nat) (l0 : List Int) (l1 : List Int) : Option (Bool) := if (l0.length : Int) = (l1.length : Int) then (spec_l3Same.l0 k l0 l1 0) else (some false)
theorem spec_l3Same.calls (k : Nat) (A0 : Option Addr) (c0 : Nat) (l0 : List Int) (A1 : Option Addr) (c1 : Nat) (l1 : List Int) (r : Bool) (w : World) (hr0 : Kd.C (Kd.int .i64) w A0 l0.length l0) (hc0 : l0.length ≤ c0) (hr1 : Kd.C (Kd.int .i64) w A1 l1.length l1) (hc1 : l1.length ≤ c1) (h : spec_l3Same.f k l0 l1 = some r) :
  Calls Try.prog 51 #[.slice A0 l0.length c0, .slice A1 l1.length c1] w fun e w' => e = .returned (.bool r) ∧ Drawn0 w w' := by
 have HR0 := A_ hr0; have HC0 := A_ hc0; clear hr0 hc0; have HR1 := A_ hr1; have HC1 := A_ hc1; clear hr1 hc1; unfold spec_l3Same.f at h; have H := h; clear h
 by_cases c3 : (l0.length : Int) = (l1.length : Int)
 ·rw [if_pos c3] at H
  have c3b0 : ((l0.length : Int) == (l1.length : Int)) = true := beq_iff_eq.mpr c3
  have c3b1 : ((l0.length : Int) != (l1.length : Int)) = false := bne_eq_false_iff_eq.mpr c3
  have c3b2 : (l0.length == l1.length) = true := by first | simpa using c3 | (simp at c3 ⊢; omega)
  clear c3
  have H' := A_ H
  clear H; go_enter Try.func51, Try.ntmps51
  go_wp2
  repeat (go_quiet (fail); try go_wp2)
  go_loopg [5] k (fun kq v5 w' => ∃ (x5_1 : Int), v5 = .int .i64 x5_1 ∧ Aside0 (spec_l3Same.l0 kq l0 l1 x5_1 = some r) ∧ Aside0 (kq ≤ k) ∧ Drawn0 w w')
  case atStart => exact ⟨(0), (by rfl), H', ⟨Nat.le_refl _⟩, by repeat (first | exact Drawn0.refl _ | apply Drawn0.step)⟩
  case round =>
   clear H'
   try clear c3b0
   try clear c3b1
   try clear c3b2
   obtain ⟨x5_1, rfl, HA, HK1, ⟨m1, rfl⟩⟩ := hrel
   cases gk with
   | zero => exact absurd HA.out (by simp [spec_l3Same.l0])
   | succ k1 =>
    have H := HA.out; clear HA; simp only [spec_l3Same.l0] at H
    by_cases c4 : x5_1 < (l0.length : Int)
    ·rw [if_pos c4] at H; have c4b0 := decide_eq_true c4; clear c4
     by_cases c5 : 0 ≤ x5_1
     ·rw [if_pos c5] at H; have c5b0 := decide_eq_true c5; clear c5
      by_cases c6 : x5_1 < (l1.length : Int)
      ·rw [if_pos c6] at H; have c6b0 := decide_eq_true c6; clear c6
       by_cases c7 : (rd l0 x5_1) = (rd l1 x5_1)
       ·rw [if_pos c7] at H
        have c7b0 : ((rd l0 x5_1) == (rd l1 x5_1)) = true := beq_iff_eq.mpr c7
        have c7b1 : ((rd l0 x5_1) != (rd l1 x5_1)) = false := bne_eq_false_iff_eq.mpr c7
        clear c7
        have H' := A_ H
        clear H
        have p790 : 0 ≤ (x5_1 : Int) := od_ (by assumption)
        have q790 : x5_1 < (l0.length : Int) := od_ (by assumption)
        obtain ⟨ad790, e790, hx790_0⟩ := Kd.at_int HR0.out x5_1 p790 q790
        cases e790
        replace p790 := eq_true p790; replace q790 := eq_true q790
        have p791 : 0 ≤ (x5_1 : Int) := od_ (by assumption)
        have q791 : x5_1 < (l1.length : Int) := od_ (by assumption)
        obtain ⟨ad791, e791, hx791_0⟩ := Kd.at_int HR1.out x5_1 p791 q791
        cases e791
        replace p791 := eq_true p791; replace q791 := eq_true q791
        go_wp2
        repeat (go_quiet (fail); try go_wp2)
        go_roundg k1
        case measure => have := HK1.out; omega
        case rel => exact ⟨(wrap64 (x5_1 + 1)), (by rfl), H', ⟨by have := HK1.out; omega⟩, by repeat (first | exact Drawn0.refl _ | apply Drawn0.step)⟩
       rw [if_neg c7] at H
       have c7b0 : ((rd l0 x5_1) == (rd l1 x5_1)) = false := beq_eq_false_iff_ne.mpr c7
       have c7b1 : ((rd l0 x5_1) != (rd l1 x5_1)) = true := bne_iff_ne.mpr c7
       obtain rfl := Option.some.inj H
       have p790 : 0 ≤ (x5_1 : Int) := od_ (by assumption)
       have q790 : x5_1 < (l0.length : Int) := od_ (by assumption)
       obtain ⟨ad790, e790, hx790_0⟩ := Kd.at_int HR0.out x5_1 p790 q790
       cases e790
       replace p790 := eq_true p790; replace q790 := eq_true q790
       have p791 : 0 ≤ (x5_1 : Int) := od_ (by assumption)
       have q791 : x5_1 < (l1.length : Int) := od_ (by assumption)
       obtain ⟨ad791, e791, hx791_0⟩ := Kd.at_int HR1.out x5_1 p791 q791
       cases e791
       replace p791 := eq_true p791; replace q791 := eq_true q791
       go_wp2
       repeat (go_quiet (fail); try go_wp2)
       go_ret
       exact ⟨by rfl, by repeat (first | exact Drawn0.refl _ | apply Drawn0.step)⟩
      rw [if_neg c6] at H
      cases H
     rw [if_neg c5] at H
     cases H
    rw [if_neg c4] at H; have c4b0 := decide_eq_false c4; clear c4; obtain rfl := Option.some.inj H
    go_wp2
    repeat (go_quiet (fail); try go_wp2)
    go_ret
    exact ⟨by rfl, by repeat (first | exact Drawn0.refl _ | apply Drawn0.step)⟩
 rw [if_neg c3] at H
 have c3b0 : ((l0.length : Int) == (l1.length : Int)) = false := beq_eq_false_iff_ne.mpr c3
 have c3b1 : ((l0.length : Int) != (l1.length : Int)) = true := bne_iff_ne.mpr c3
 have c3b2 : (l0.length == l1.length) = false := by first | simpa using c3 | (simp at c3 ⊢; omega)
 obtain rfl := Option.some.inj H; go_enter Try.func51, Try.ntmps51
 go_wp2
 repeat (go_quiet (fail); try go_wp2)
 go_ret
 exact ⟨by rfl, by repeat (first | exact Drawn0.refl _ | apply Drawn0.step)⟩

def spec_IsPalindrome.f (k : Nat) (l0 : List Int) : Option (Bool) := (spec_ReverseDigits.f k l0).bind fun t792 => ((spec_l3Same.f k l0 t792).bind fun t795 => (some t795))
theorem spec_IsPalindrome.calls (k : Nat) (A0 : Option Addr) (c0 : Nat) (l0 : List Int) (r : Bool) (w : World) (hr0 : Kd.C (Kd.int .i64) w A0 l0.length l0) (hc0 : l0.length ≤ c0) (h : spec_IsPalindrome.f k l0 = some r) :
  Calls Try.prog 30 #[.slice A0 l0.length c0] w fun e w' => e = .returned (.bool r) ∧ Below w.heap.size w w' := by
 have HR0 := A_ hr0; have HC0 := A_ hc0; clear hr0 hc0; have HB := A_ (Below.refl w.heap.size w); unfold spec_IsPalindrome.f at h; have H := h; clear h; replace H := bA_ H; obtain ⟨t792, A2, H⟩ := H; replace H := bA_ H; obtain ⟨t795, A3, H⟩ := H; obtain rfl := Option.some.inj H; go_enter Try.func30, Try.ntmps30
 go_wp2_with (first | ((with_reducible refine gc_ 39 rfl ?_); refine cL_ E39 5 rfl rfl rfl (spec_ReverseDigits.calls k _ _ l0 t792 _ (by repeat (first | exact HR0.out | (with_reducible refine Kd.C_alloc ?_ _) | (with_reducible refine Kd.C_drewN ?_ _) | (with_reducible refine Kd.C_drew ?_))) HC0.out A2.out) (by simp only [mA, mB, mC]; rfl) ?_; rintro e w4 ⟨v793, rfl, ho0, hb⟩; refine ⟨_, rfl, ?_⟩; have HO794 := A_ (Kd.R_lower ho0 (below_size HB.out)); replace HB := bs_ HB hb; clear hb ho0; obtain ⟨Ao5, co5, eo5⟩ := Kd.R_slice HO794.out; subst eo5) | ((with_reducible refine gc_ 51 rfl ?_); refine cD_ E51 6 rfl rfl rfl (spec_l3Same.calls k _ _ l0 _ _ t792 t795 _ (Kd.C_below HR0.out HB.out) HC0.out ((Kd.R_reads' HO794.out).2.2) ((Kd.R_reads' HO794.out).2.1) A3.out) (by simp only [mA, mB, mC]; rfl) fun nd => ?_))
 go_ret
 exact ⟨by rfl, by repeat (first | (with_reducible first | exact HB.out | apply below_alloc | apply pw_below_drewN | apply below_drew1) | exact HB.out)⟩

mutual
def spec_CompareWords.l0 : Nat → List Int → List Int → Int → Option (Int)
 | 0, _, _, _ => none
 | k + 1, x0, x1, x5 => if x5 < (x0.length : Int) then (spec_CompareWords.j1 k x0 x1 x5 (decide (x5 < (x1.length : Int)))) else (spec_CompareWords.j1 k x0 x1 x5 false)
def spec_CompareWords.j1 : Nat → List Int → List Int → Int → Bool → Option (Int)
 | 0, _, _, _, _ => none
 | k + 1, x0, x1, x5, x15 => if x15 = true then (if 0 ≤ x5 then (if x5 < (x0.length : Int) then (if x5 < (x1.length : Int) then (if (rd x0 x5) < (rd x1 x5) then (some (-1)) else (if (rd x0 x5) > (rd x1 x5) then (some 1) else (spec_CompareWords.l0 k x0 x1 (wrap64 (x5 + 1))))) else (none)) else (none)) else (none)) else (if (x0.length : Int) < (x1.length : Int) then (some (-1)) else (if (x0.length : Int) > (x1.length : Int) then (some 1) else (some 0)))
end
def spec_CompareWords.f (k : Nat) (l0 : List Int) (l1 : List Int) : Option (Int) := spec_CompareWords.l0 k l0 l1 0
theorem spec_CompareWords.calls (k : Nat) (A0 : Option Addr) (c0 : Nat) (l0 : List Int) (A1 : Option Addr) (c1 : Nat) (l1 : List Int) (r : Int) (w : World) (hr0 : Kd.C (Kd.int .i64) w A0 l0.length l0) (hc0 : l0.length ≤ c0) (hr1 : Kd.C (Kd.int .i64) w A1 l1.length l1) (hc1 : l1.length ≤ c1) (h : spec_CompareWords.f k l0 l1 = some r) :
  Calls Try.prog 61 #[.slice A0 l0.length c0, .slice A1 l1.length c1] w fun e w' => e = .returned (.int .i64 r) ∧ Drawn0 w w' := by
 have HR0 := A_ hr0; have HC0 := A_ hc0; clear hr0 hc0; have HR1 := A_ hr1; have HC1 := A_ hc1; clear hr1 hc1; unfold spec_CompareWords.f at h; have H := h; clear h
 have H' := A_ H
 clear H; go_enter Try.func61, Try.ntmps61
 go_wp2
 repeat (go_quiet (fail); try go_wp2)
 go_loopg [5] k (fun kq v5 w' => ∃ (x5_1 : Int), v5 = .int .i64 x5_1 ∧ Aside0 (spec_CompareWords.l0 kq l0 l1 x5_1 = some r) ∧ Aside0 (kq ≤ k) ∧ Drawn0 w w')
 case atStart => exact ⟨(0), (by rfl), H', ⟨Nat.le_refl _⟩, by repeat (first | exact Drawn0.refl _ | apply Drawn0.step)⟩
 case round =>
  clear H'; obtain ⟨x5_1, rfl, HA, HK1, ⟨m1, rfl⟩⟩ := hrel
  cases gk with
  | zero => exact absurd HA.out (by simp [spec_CompareWords.l0])
  | succ k1 =>
   have H := HA.out; clear HA; simp only [spec_CompareWords.l0] at H; have HC3 := A_ H; clear H
   go_upto_region 2 with (fail)
   repeat (go_quiet (fail); go_upto_region 2 with (fail))
   go_cut [15] (fun v15 wc => ∃ (kq : Nat) (x15_2 : Bool), v15 = .bool x15_2 ∧ Aside0 (spec_CompareWords.j1 kq l0 l1 x5_1 x15_2 = some r) ∧ Aside0 (kq ≤ k1) ∧ Drawn0 w wc)
   case first =>
    have H := HC3.out; clear HC3
    by_cases c4 : x5_1 < (l0.length : Int)
    ·rw [if_pos c4] at H; have c4b0 := decide_eq_true c4; clear c4
     (skip)
     have H' := A_ H
     clear H
     go_wp2
     repeat (go_quiet (fail); try go_wp2)
     go_meet
     case rel => exact ⟨_, (decide (x5_1 < (l1.length : Int))), (by rfl), H', ⟨by have := HK1.out; omega⟩, by repeat (first | exact Drawn0.refl _ | apply Drawn0.step)⟩
    rw [if_neg c4] at H; have c4b0 := decide_eq_false c4; clear c4
    (skip)
    have H' := A_ H
    clear H
    go_wp2
    repeat (go_quiet (fail); try go_wp2)
    go_meet
    case rel => exact ⟨_, (false), (by rfl), H', ⟨by have := HK1.out; omega⟩, by repeat (first | exact Drawn0.refl _ | apply Drawn0.step)⟩
   case rest =>
    clear HC3; obtain ⟨kq, x15_2, rfl, HA, HJ2, ⟨mc2, rfl⟩⟩ := hcut
    cases kq with
    | zero => exact absurd HA.out (by simp [spec_CompareWords.j1])
    | succ kj2 =>
     have H := HA.out; clear HA; simp only [spec_CompareWords.j1] at H
     by_cases c5 : x15_2 = true
     ·subst c5; rw [if_pos rfl] at H
      by_cases c6 : 0 ≤ x5_1
      ·rw [if_pos c6] at H; have c6b0 := decide_eq_true c6; clear c6
       by_cases c7 : x5_1 < (l0.length : Int)
       ·rw [if_pos c7] at H; have c7b0 := decide_eq_true c7; clear c7
        by_cases c8 : x5_1 < (l1.length : Int)
        ·rw [if_pos c8] at H; have c8b0 := decide_eq_true c8; clear c8
         by_cases c9 : (rd l0 x5_1) < (rd l1 x5_1)
         ·rw [if_pos c9] at H; have c9b0 := decide_eq_true c9; clear c9; obtain rfl := Option.some.inj H
          have p796 : 0 ≤ (x5_1 : Int) := od_ (by assumption)
          have q796 : x5_1 < (l0.length : Int) := od_ (by assumption)
          obtain ⟨ad796, e796, hx796_0⟩ := Kd.at_int HR0.out x5_1 p796 q796
          cases e796
          replace p796 := eq_true p796; replace q796 := eq_true q796
          have p797 : 0 ≤ (x5_1 : Int) := od_ (by assumption)
          have q797 : x5_1 < (l1.length : Int) := od_ (by assumption)
          obtain ⟨ad797, e797, hx797_0⟩ := Kd.at_int HR1.out x5_1 p797 q797
          cases e797
          replace p797 := eq_true p797; replace q797 := eq_true q797
          go_wp2
          repeat (go_quiet (fail); try go_wp2)
          go_ret
          exact ⟨by rfl, by repeat (first | exact Drawn0.refl _ | apply Drawn0.step)⟩
         rw [if_neg c9] at H; have c9b0 := decide_eq_false c9; clear c9
         by_cases c10 : (rd l0 x5_1) > (rd l1 x5_1)
         ·rw [if_pos c10] at H
          have c10b0 : decide ((rd l1 x5_1) < (rd l0 x5_1)) = true := decide_eq_true c10
          clear c10; obtain rfl := Option.some.inj H
          have p796 : 0 ≤ (x5_1 : Int) := od_ (by assumption)
          have q796 : x5_1 < (l0.length : Int) := od_ (by assumption)
          obtain ⟨ad796, e796, hx796_0⟩ := Kd.at_int HR0.out x5_1 p796 q796
          cases e796
          replace p796 := eq_true p796; replace q796 := eq_true q796
          have p797 : 0 ≤ (x5_1 : Int) := od_ (by assumption)
          have q797 : x5_1 < (l1.length : Int) := od_ (by assumption)
          obtain ⟨ad797, e797, hx797_0⟩ := Kd.at_int HR1.out x5_1 p797 q797
          cases e797
          replace p797 := eq_true p797; replace q797 := eq_true q797
          have p798 : 0 ≤ (x5_1 : Int) := od_ (by assumption)
          have q798 : x5_1 < (l0.length : Int) := od_ (by assumption)
          obtain ⟨ad798, e798, hx798_0⟩ := Kd.at_int HR0.out x5_1 p798 q798; obtain rfl : ad796 = ad798 := (by injection e798); replace p798 := eq_true p798; replace q798 := eq_true q798
          have p799 : 0 ≤ (x5_1 : Int) := od_ (by assumption)
          have q799 : x5_1 < (l1.length : Int) := od_ (by assumption)
          obtain ⟨ad799, e799, hx799_0⟩ := Kd.at_int HR1.out x5_1 p799 q799; obtain rfl : ad797 = ad799 := (by injection e799); replace p799 := eq_true p799; replace q799 := eq_true q799
          go_wp2
          repeat (go_quiet (fail); try go_wp2)
          go_ret
          exact ⟨by rfl, by repeat (first | exact Drawn0.refl _ | apply Drawn0.step)⟩
         rw [if_neg c10] at H
         have c10b0 : decide ((rd l1 x5_1) < (rd l0 x5_1)) = false := decide_eq_false c10
         clear c10
         have H' := A_ H
         clear H
         have p796 : 0 ≤ (x5_1 : Int) := od_ (by assumption)
         have q796 : x5_1 < (l0.length : Int) := od_ (by assumption)
         obtain ⟨ad796, e796, hx796_0⟩ := Kd.at_int HR0.out x5_1 p796 q796
         cases e796
         replace p796 := eq_true p796; replace q796 := eq_true q796
         have p797 : 0 ≤ (x5_1 : Int) := od_ (by assumption)
         have q797 : x5_1 < (l1.length : Int) := od_ (by assumption)
         obtain ⟨ad797, e797, hx797_0⟩ := Kd.at_int HR1.out x5_1 p797 q797
         cases e797
         replace p797 := eq_true p797; replace q797 := eq_true q797
         have p798 : 0 ≤ (x5_1 : Int) := od_ (by assumption)
         have q798 : x5_1 < (l0.length : Int) := od_ (by assumption)
         obtain ⟨ad798, e798, hx798_0⟩ := Kd.at_int HR0.out x5_1 p798 q798; obtain rfl : ad796 = ad798 := (by injection e798); replace p798 := eq_true p798; replace q798 := eq_true q798
         have p799 : 0 ≤ (x5_1 : Int) := od_ (by assumption)
         have q799 : x5_1 < (l1.length : Int) := od_ (by assumption)
         obtain ⟨ad799, e799, hx799_0⟩ := Kd.at_int HR1.out x5_1 p799 q799; obtain rfl : ad797 = ad799 := (by injection e799); replace p799 := eq_true p799; replace q799 := eq_true q799
         go_wp2
         repeat (go_quiet (fail); try go_wp2)
         go_roundg kj2
         case measure => have := HK1.out; have := HJ2.out; omega
         case rel => exact ⟨(wrap64 (x5_1 + 1)), (by rfl), H', ⟨by have := HK1.out; have := HJ2.out; omega⟩, by repeat (first | exact Drawn0.refl _ | apply Drawn0.step)⟩
        rw [if_neg c8] at H
        cases H
       rw [if_neg c7] at H
       cases H
      rw [if_neg c6] at H
      cases H
     replace c5 := Bool.eq_false_iff.mpr c5; subst c5; rw [if_neg nf_] at H
     by_cases c11 : (l0.length : Int) < (l1.length : Int)
     ·rw [if_pos c11] at H; have c11b0 := decide_eq_true c11
      have c11b1 : decide (l0.length < l1.length) = true := decide_eq_true (Int.ofNat_lt.mp c11)
      clear c11; obtain rfl := Option.some.inj H
      go_wp2
      repeat (go_quiet (fail); try go_wp2)
      go_ret
      exact ⟨by rfl, by repeat (first | exact Drawn0.refl _ | apply Drawn0.step)⟩
     rw [if_neg c11] at H; have c11b0 := decide_eq_false c11
     have c11b1 : decide (l0.length < l1.length) = false := decide_eq_false (fun h => c11 (Int.ofNat_lt.mpr h))
     clear c11
     by_cases c12 : (l0.length : Int) > (l1.length : Int)
     ·rw [if_pos c12] at H
      have c12b0 : decide ((l1.length : Int) < (l0.length : Int)) = true := decide_eq_true c12
      have c12b1 : decide (l1.length < l0.length) = true := decide_eq_true (Int.ofNat_lt.mp c12)
      clear c12; obtain rfl := Option.some.inj H
      go_wp2
      repeat (go_quiet (fail); try go_wp2)
      go_ret
      exact ⟨by rfl, by repeat (first | exact Drawn0.refl _ | apply Drawn0.step)⟩
     rw [if_neg c12] at H
     have c12b0 : decide ((l1.length : Int) < (l0.length : Int)) = false := decide_eq_false c12
     have c12b1 : decide (l1.length < l0.length) = false := decide_eq_false (fun h => c12 (Int.ofNat_lt.mpr h))
     clear c12; obtain rfl := Option.some.inj H
     go_wp2
     repeat (go_quiet (fail); try go_wp2)
     go_ret
     exact ⟨by rfl, by repeat (first | exact Drawn0.refl _ | apply Drawn0.step)⟩

end Go.Proofs.Ytnhpbmagbajliaa.PFnBorders

