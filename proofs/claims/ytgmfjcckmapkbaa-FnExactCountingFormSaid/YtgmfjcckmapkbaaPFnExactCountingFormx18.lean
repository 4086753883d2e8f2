/- Walks of the functions that the law reaches. -/
import Derived.Test.YtgmfjcckmapkbaaPFnExactCountingFormx0
namespace Go.Proofs.Ytgmfjcckmapkbaa.PFnExactCountingForm
open Go.RowKit Go.Proofs.YtgmfjcckmapkbaaW.PrintWords Go.Proofs.YtgmfjcckmapkbaaW.PrintLast Go.Proofs.YtgmfjcckmapkbaaW.PrintMore
attribute [local go_sem] max2_int min2_int max_two min_two max_three min_three max_four min_four
set_option linter.unusedVariables false
set_option maxHeartbeats 8000000
set_option maxRecDepth 100000
set_option linter.unusedSimpArgs false

def laws_eqIntS.l0 : Nat → List Int → List Int → Int → Option (Bool)
 | 0, _, _, _ => none
 | k + 1, x0, x1, x5 => if x5 < (x0.length : Int) then (if 0 ≤ x5 then (if x5 < (x1.length : Int) then (if (rd x0 x5) = (rd x1 x5) then (laws_eqIntS.l0 k x0 x1 (wrap64 (x5 + 1))) else (some false)) else (none)) else (none)) else (some true)
def laws_eqIntS.f (k : Nat) (l0 : List Int) (l1 : List Int) : Option (Bool) := if (l0.length : Int) = (l1.length : Int) then (laws_eqIntS.l0 k l0 l1 0) else (some false)
theorem laws_eqIntS.calls (k : Nat) (A0 : Option Addr) (c0 : Nat) (l0 : List Int) (A1 : Option Addr) (c1 : Nat) (l1 : List Int) (r : Bool) (w : World) (hr0 : Kd.C (Kd.int .i64) w A0 l0.length l0) (hc0 : l0.length ≤ c0) (hr1 : Kd.C (Kd.int .i64) w A1 l1.length l1) (hc1 : l1.length ≤ c1) (h : laws_eqIntS.f k l0 l1 = some r) :
  Calls Try.prog 29 #[.slice A0 l0.length c0, .slice A1 l1.length c1] w fun e w' => e = .returned (.bool r) ∧ Drawn0 w w' := by
 have HR0 := A_ hr0; have HC0 := A_ hc0; clear hr0 hc0; have HR1 := A_ hr1; have HC1 := A_ hc1; clear hr1 hc1; unfold laws_eqIntS.f at h; have H := h; clear h
 by_cases c3 : (l0.length : Int) = (l1.length : Int)
 ·rw [if_pos c3] at H
  have aQ : ((l0.length : Int) == (l1.length : Int)) = true := beq_iff_eq.mpr c3
  have bf : ((l0.length : Int) != (l1.length : Int)) = false := bne_eq_false_iff_eq.mpr c3
  have bm : (l0.length == l1.length) = true := by first | simpa using c3 | (simp at c3 ⊢; omega)
  clear c3
  have H' := A_ H
  clear H; go_enter Try.func29, Try.ntmps29
  go_wp2
  repeat (go_quiet (fail); try go_wp2)
  go_loopg [5] k (fun kq v5 w' => ∃ (aa : Int), v5 = .int .i64 aa ∧ Aside0 (laws_eqIntS.l0 kq l0 l1 aa = some r) ∧ Aside0 (kq ≤ k) ∧ Drawn0 w w')
  case atStart => exact ⟨(0), (by rfl), H', ⟨Nat.le_refl _⟩, by repeat (first | exact Drawn0.refl _ | apply Drawn0.step)⟩
  case round =>
   clear H'
   clear aQ bf bm
   obtain ⟨aa, rfl, HA, bV, ⟨m1, rfl⟩⟩ := hrel
   cases gk with
   | zero => exact nz_ HA.o
   | succ k1 =>
    have H := HA.o; clear HA; simp only [laws_eqIntS.l0] at H
    by_cases c4 : aa < (l0.length : Int)
    ·rw [if_pos c4] at H; have bS := decide_eq_true c4; clear c4
     by_cases c5 : 0 ≤ aa
     ·rw [if_pos c5] at H; have cQ := decide_eq_true c5; clear c5
      by_cases c6 : aa < (l1.length : Int)
      ·rw [if_pos c6] at H; have cS := decide_eq_true c6; clear c6
       by_cases c7 : (rd l0 aa) = (rd l1 aa)
       ·rw [if_pos c7] at H
        have dp : ((rd l0 aa) == (rd l1 aa)) = true := beq_iff_eq.mpr c7
        have dq : ((rd l0 aa) != (rd l1 aa)) = false := bne_eq_false_iff_eq.mpr c7
        clear c7
        have H' := A_ H
        clear H
        have bB : 0 ≤ (aa : Int) := oa_
        have bH : aa < (l0.length : Int) := oa_
        obtain ⟨cJ, cq, bZ⟩ := Kd.at_int HR0.o aa bB bH
        cases cq
        replace bB := eq_true bB; replace bH := eq_true bH
        have bC : 0 ≤ (aa : Int) := oa_
        have bI : aa < (l1.length : Int) := oa_
        obtain ⟨cK, cr, b0⟩ := Kd.at_int HR1.o aa bC bI
        cases cr
        replace bC := eq_true bC; replace bI := eq_true bI
        go_wp2
        repeat (go_quiet (fail); try go_wp2)
        go_roundg k1
        case measure => have := bV.o; omega
        case rel => exact ⟨(wrap64 (aa + 1)), (by rfl), H', ⟨by have := bV.o; omega⟩, by repeat (first | exact Drawn0.refl _ | apply Drawn0.step)⟩
       rw [if_neg c7] at H
       have dp : ((rd l0 aa) == (rd l1 aa)) = false := beq_eq_false_iff_ne.mpr c7
       have dq : ((rd l0 aa) != (rd l1 aa)) = true := bne_iff_ne.mpr c7
       obtain rfl := Option.some.inj H
       have bB : 0 ≤ (aa : Int) := oa_
       have bH : aa < (l0.length : Int) := oa_
       obtain ⟨cJ, cq, bZ⟩ := Kd.at_int HR0.o aa bB bH
       cases cq
       replace bB := eq_true bB; replace bH := eq_true bH
       have bC : 0 ≤ (aa : Int) := oa_
       have bI : aa < (l1.length : Int) := oa_
       obtain ⟨cK, cr, b0⟩ := Kd.at_int HR1.o aa bC bI
       cases cr
       replace bC := eq_true bC; replace bI := eq_true bI
       go_wp2
       repeat (go_quiet (fail); try go_wp2)
       go_ret
       exact ⟨by rfl, by repeat (first | exact Drawn0.refl _ | apply Drawn0.step)⟩
      rw [if_neg c6] at H
      cases H
     rw [if_neg c5] at H
     cases H
    rw [if_neg c4] at H; have bS := decide_eq_false c4; clear c4; obtain rfl := Option.some.inj H
    go_wp2
    repeat (go_quiet (fail); try go_wp2)
    go_ret
    exact ⟨by rfl, by repeat (first | exact Drawn0.refl _ | apply Drawn0.step)⟩
 rw [if_neg c3] at H
 have aQ : ((l0.length : Int) == (l1.length : Int)) = false := beq_eq_false_iff_ne.mpr c3
 have bf : ((l0.length : Int) != (l1.length : Int)) = true := bne_iff_ne.mpr c3
 have bm : (l0.length == l1.length) = false := by first | simpa using c3 | (simp at c3 ⊢; omega)
 obtain rfl := Option.some.inj H; go_enter Try.func29, Try.ntmps29
 go_wp2
 repeat (go_quiet (fail); try go_wp2)
 go_ret
 exact ⟨by rfl, by repeat (first | exact Drawn0.refl _ | apply Drawn0.step)⟩

def laws_eqIntSS.l0 : Nat → List (List Int) → List (List Int) → Int → Option (Bool)
 | 0, _, _, _ => none
 | k + 1, x0, x1, x5 => if x5 < (x0.length : Int) then (if 0 ≤ x5 then (if x5 < (x1.length : Int) then ((laws_eqIntS.f k (rd_L1 x0 x5) (rd_L1 x1 x5)).bind fun cA => (if cA = true then (laws_eqIntSS.l0 k x0 x1 (wrap64 (x5 + 1))) else (some false))) else (none)) else (none)) else (some true)
def laws_eqIntSS.f (k : Nat) (l0 : List (List Int)) (l1 : List (List Int)) : Option (Bool) := if (l0.length : Int) = (l1.length : Int) then (laws_eqIntSS.l0 k l0 l1 0) else (some false)
theorem laws_eqIntSS.calls (k : Nat) (A0 : Option Addr) (c0 : Nat) (l0 : List (List Int)) (A1 : Option Addr) (c1 : Nat) (l1 : List (List Int)) (r : Bool) (w : World) (hr0 : Kd.C (Kd.slice 3 (Kd.int .i64)) w A0 l0.length l0) (hc0 : l0.length ≤ c0) (hr1 : Kd.C (Kd.slice 3 (Kd.int .i64)) w A1 l1.length l1) (hc1 : l1.length ≤ c1) (h : laws_eqIntSS.f k l0 l1 = some r) :
  Calls Try.prog 31 #[.slice A0 l0.length c0, .slice A1 l1.length c1] w fun e w' => e = .returned (.bool r) ∧ Drawn0 w w' := by
 have HR0 := A_ hr0; have HC0 := A_ hc0; clear hr0 hc0; have HR1 := A_ hr1; have HC1 := A_ hc1; clear hr1 hc1; unfold laws_eqIntSS.f at h; have H := h; clear h
 by_cases c3 : (l0.length : Int) = (l1.length : Int)
 ·rw [if_pos c3] at H
  have aQ : ((l0.length : Int) == (l1.length : Int)) = true := beq_iff_eq.mpr c3
  have bf : ((l0.length : Int) != (l1.length : Int)) = false := bne_eq_false_iff_eq.mpr c3
  have bm : (l0.length == l1.length) = true := by first | simpa using c3 | (simp at c3 ⊢; omega)
  clear c3
  have H' := A_ H
  clear H; go_enter Try.func31, Try.ntmps31
  go_wp2
  repeat (go_quiet (fail); try go_wp2)
  go_loopg [5] k (fun kq v5 w' => ∃ (aa : Int), v5 = .int .i64 aa ∧ Aside0 (laws_eqIntSS.l0 kq l0 l1 aa = some r) ∧ Aside0 (kq ≤ k) ∧ Drawn0 w w')
  case atStart => exact ⟨(0), (by rfl), H', ⟨Nat.le_refl _⟩, by repeat (first | exact Drawn0.refl _ | apply Drawn0.step)⟩
  case round =>
   clear H'
   clear aQ bf bm
   obtain ⟨aa, rfl, HA, bV, ⟨m1, rfl⟩⟩ := hrel
   cases gk with
   | zero => exact nz_ HA.o
   | succ k1 =>
    have H := HA.o; clear HA; simp only [laws_eqIntSS.l0] at H
    by_cases c4 : aa < (l0.length : Int)
    ·rw [if_pos c4] at H; have bS := decide_eq_true c4; clear c4
     by_cases c5 : 0 ≤ aa
     ·rw [if_pos c5] at H; have cQ := decide_eq_true c5; clear c5
      by_cases c6 : aa < (l1.length : Int)
      ·rw [if_pos c6] at H; have cS := decide_eq_true c6; clear c6; replace H := bA_ H; obtain ⟨cA, A7, H⟩ := H
       by_cases c8 : cA = true
       ·subst c8; rw [if_pos rfl] at H
        have H' := A_ H
        clear H
        have bD : 0 ≤ (aa : Int) := oa_
        have bJ : aa < (l0.length : Int) := oa_
        obtain ⟨cL, cf, cj, cv, b1, aX, aT⟩ := at_L1 HR0.o aa bD bJ
        cases cv
        have aw := A_ aT; have aq := A_ aX; clear aT aX; replace bD := eq_true bD; replace bJ := eq_true bJ
        have bE : 0 ≤ (aa : Int) := oa_
        have bK : aa < (l1.length : Int) := oa_
        obtain ⟨cN, cg, ck, cw, b2, aY, aU⟩ := at_L1 HR1.o aa bE bK
        cases cw
        have ax := A_ aU; have ar := A_ aY; clear aU aY; replace bE := eq_true bE; replace bK := eq_true bK
        go_wp2_with (first | (go_at_call 29; (with_reducible refine (laws_eqIntS.calls k1 _ _ (rd_L1 l0 aa) _ _ (rd_L1 l1 aa) true _ ?side1 ?side2 ?side3 ?side4 A7.o).mono ?_); (case side1 => repeat (first | exact aw.o | (with_reducible refine Kd.C_alloc ?_ _) | (with_reducible refine Kd.C_drewN ?_ _) | (with_reducible refine Kd.C_drew ?_))); (case side2 => exact aq.o); (case side3 => repeat (first | exact ax.o | (with_reducible refine Kd.C_alloc ?_ _) | (with_reducible refine Kd.C_drewN ?_ _) | (with_reducible refine Kd.C_drew ?_))); (case side4 => exact ar.o); rintro e w' ⟨rfl, ⟨nd, rfl⟩⟩; skip))
        repeat (go_quiet (first | (go_at_call 29; (with_reducible refine (laws_eqIntS.calls k1 _ _ (rd_L1 l0 aa) _ _ (rd_L1 l1 aa) true _ ?side1 ?side2 ?side3 ?side4 A7.o).mono ?_); (case side1 => repeat (first | exact aw.o | (with_reducible refine Kd.C_alloc ?_ _) | (with_reducible refine Kd.C_drewN ?_ _) | (with_reducible refine Kd.C_drew ?_))); (case side2 => exact aq.o); (case side3 => repeat (first | exact ax.o | (with_reducible refine Kd.C_alloc ?_ _) | (with_reducible refine Kd.C_drewN ?_ _) | (with_reducible refine Kd.C_drew ?_))); (case side4 => exact ar.o); rintro e w' ⟨rfl, ⟨nd, rfl⟩⟩; exact ⟨rfl, _, Eq.trans (World.drewN_drewN _ _ _) (congrArg (World.drewN _) (Nat.add_assoc _ _ _))⟩)); try go_wp2_with (first | (go_at_call 29; (with_reducible refine (laws_eqIntS.calls k1 _ _ (rd_L1 l0 aa) _ _ (rd_L1 l1 aa) true _ ?side1 ?side2 ?side3 ?side4 A7.o).mono ?_); (case side1 => repeat (first | exact aw.o | (with_reducible refine Kd.C_alloc ?_ _) | (with_reducible refine Kd.C_drewN ?_ _) | (with_reducible refine Kd.C_drew ?_))); (case side2 => exact aq.o); (case side3 => repeat (first | exact ax.o | (with_reducible refine Kd.C_alloc ?_ _) | (with_reducible refine Kd.C_drewN ?_ _) | (with_reducible refine Kd.C_drew ?_))); (case side4 => exact ar.o); rintro e w' ⟨rfl, ⟨nd, rfl⟩⟩; skip)))
        go_roundg k1
        case measure => have := bV.o; omega
        case rel => exact ⟨(wrap64 (aa + 1)), (by rfl), H', ⟨by have := bV.o; omega⟩, by repeat (first | exact Drawn0.refl _ | apply Drawn0.step)⟩
       replace c8 := Bool.eq_false_iff.mpr c8; subst c8; rw [if_neg nf_] at H; obtain rfl := Option.some.inj H
       have bD : 0 ≤ (aa : Int) := oa_
       have bJ : aa < (l0.length : Int) := oa_
       obtain ⟨cL, cf, cj, cv, b1, aX, aT⟩ := at_L1 HR0.o aa bD bJ
       cases cv
       have aw := A_ aT; have aq := A_ aX; clear aT aX; replace bD := eq_true bD; replace bJ := eq_true bJ
       have bE : 0 ≤ (aa : Int) := oa_
       have bK : aa < (l1.length : Int) := oa_
       obtain ⟨cN, cg, ck, cw, b2, aY, aU⟩ := at_L1 HR1.o aa bE bK
       cases cw
       have ax := A_ aU; have ar := A_ aY; clear aU aY; replace bE := eq_true bE; replace bK := eq_true bK
       go_wp2_with (first | (go_at_call 29; (with_reducible refine (laws_eqIntS.calls k1 _ _ (rd_L1 l0 aa) _ _ (rd_L1 l1 aa) false _ ?side1 ?side2 ?side3 ?side4 A7.o).mono ?_); (case side1 => repeat (first | exact aw.o | (with_reducible refine Kd.C_alloc ?_ _) | (with_reducible refine Kd.C_drewN ?_ _) | (with_reducible refine Kd.C_drew ?_))); (case side2 => exact aq.o); (case side3 => repeat (first | exact ax.o | (with_reducible refine Kd.C_alloc ?_ _) | (with_reducible refine Kd.C_drewN ?_ _) | (with_reducible refine Kd.C_drew ?_))); (case side4 => exact ar.o); rintro e w' ⟨rfl, ⟨nd, rfl⟩⟩; skip))
       repeat (go_quiet (first | (go_at_call 29; (with_reducible refine (laws_eqIntS.calls k1 _ _ (rd_L1 l0 aa) _ _ (rd_L1 l1 aa) false _ ?side1 ?side2 ?side3 ?side4 A7.o).mono ?_); (case side1 => repeat (first | exact aw.o | (with_reducible refine Kd.C_alloc ?_ _) | (with_reducible refine Kd.C_drewN ?_ _) | (with_reducible refine Kd.C_drew ?_))); (case side2 => exact aq.o); (case side3 => repeat (first | exact ax.o | (with_reducible refine Kd.C_alloc ?_ _) | (with_reducible refine Kd.C_drewN ?_ _) | (with_reducible refine Kd.C_drew ?_))); (case side4 => exact ar.o); rintro e w' ⟨rfl, ⟨nd, rfl⟩⟩; exact ⟨rfl, _, Eq.trans (World.drewN_drewN _ _ _) (congrArg (World.drewN _) (Nat.add_assoc _ _ _))⟩)); try go_wp2_with (first | (go_at_call 29; (with_reducible refine (laws_eqIntS.calls k1 _ _ (rd_L1 l0 aa) _ _ (rd_L1 l1 aa) false _ ?side1 ?side2 ?side3 ?side4 A7.o).mono ?_); (case side1 => repeat (first | exact aw.o | (with_reducible refine Kd.C_alloc ?_ _) | (with_reducible refine Kd.C_drewN ?_ _) | (with_reducible refine Kd.C_drew ?_))); (case side2 => exact aq.o); (case side3 => repeat (first | exact ax.o | (with_reducible refine Kd.C_alloc ?_ _) | (with_reducible refine Kd.C_drewN ?_ _) | (with_reducible refine Kd.C_drew ?_))); (case side4 => exact ar.o); rintro e w' ⟨rfl, ⟨nd, rfl⟩⟩; skip)))
       go_ret
       exact ⟨by rfl, by repeat (first | exact Drawn0.refl _ | apply Drawn0.step)⟩
      rw [if_neg c6] at H
      cases H
     rw [if_neg c5] at H
     cases H
    rw [if_neg c4] at H; have bS := decide_eq_false c4; clear c4; obtain rfl := Option.some.inj H
    go_wp2
    repeat (go_quiet (fail); try go_wp2)
    go_ret
    exact ⟨by rfl, by repeat (first | exact Drawn0.refl _ | apply Drawn0.step)⟩
 rw [if_neg c3] at H
 have aQ : ((l0.length : Int) == (l1.length : Int)) = false := beq_eq_false_iff_ne.mpr c3
 have bf : ((l0.length : Int) != (l1.length : Int)) = true := bne_iff_ne.mpr c3
 have bm : (l0.length == l1.length) = false := by first | simpa using c3 | (simp at c3 ⊢; omega)
 obtain rfl := Option.some.inj H; go_enter Try.func31, Try.ntmps31
 go_wp2
 repeat (go_quiet (fail); try go_wp2)
 go_ret
 exact ⟨by rfl, by repeat (first | exact Drawn0.refl _ | apply Drawn0.step)⟩

def laws_eqIntSSS.l0 : Nat → List (List (List Int)) → List (List (List Int)) → Int → Option (Bool)
 | 0, _, _, _ => none
 | k + 1, x0, x1, x5 => if x5 < (x0.length : Int) then (if 0 ≤ x5 then (if x5 < (x1.length : Int) then ((laws_eqIntSS.f k (rd_L2 x0 x5) (rd_L2 x1 x5)).bind fun cB => (if cB = true then (laws_eqIntSSS.l0 k x0 x1 (wrap64 (x5 + 1))) else (some false))) else (none)) else (none)) else (some true)
def laws_eqIntSSS.f (k : Nat) (l0 : List (List (List Int))) (l1 : List (List (List Int))) : Option (Bool) := if (l0.length : Int) = (l1.length : Int) then (laws_eqIntSSS.l0 k l0 l1 0) else (some false)
theorem laws_eqIntSSS.calls (k : Nat) (A0 : Option Addr) (c0 : Nat) (l0 : List (List (List Int))) (A1 : Option Addr) (c1 : Nat) (l1 : List (List (List Int))) (r : Bool) (w : World) (hr0 : Kd.C (Kd.slice 23 (Kd.slice 3 (Kd.int .i64))) w A0 l0.length l0) (hc0 : l0.length ≤ c0) (hr1 : Kd.C (Kd.slice 23 (Kd.slice 3 (Kd.int .i64))) w A1 l1.length l1) (hc1 : l1.length ≤ c1) (h : laws_eqIntSSS.f k l0 l1 = some r) :
  Calls Try.prog 30 #[.slice A0 l0.length c0, .slice A1 l1.length c1] w fun e w' => e = .returned (.bool r) ∧ Drawn0 w w' := by
 have HR0 := A_ hr0; have HC0 := A_ hc0; clear hr0 hc0; have HR1 := A_ hr1; have HC1 := A_ hc1; clear hr1 hc1; unfold laws_eqIntSSS.f at h; have H := h; clear h
 by_cases c3 : (l0.length : Int) = (l1.length : Int)
 ·rw [if_pos c3] at H
  have aQ : ((l0.length : Int) == (l1.length : Int)) = true := beq_iff_eq.mpr c3
  have bf : ((l0.length : Int) != (l1.length : Int)) = false := bne_eq_false_iff_eq.mpr c3
  have bm : (l0.length == l1.length) = true := by first | simpa using c3 | (simp at c3 ⊢; omega)
  clear c3
  have H' := A_ H
  clear H; go_enter Try.func30, Try.ntmps30
  go_wp2
  repeat (go_quiet (fail); try go_wp2)
  go_loopg [5] k (fun kq v5 w' => ∃ (aa : Int), v5 = .int .i64 aa ∧ Aside0 (laws_eqIntSSS.l0 kq l0 l1 aa = some r) ∧ Aside0 (kq ≤ k) ∧ Drawn0 w w')
  case atStart => exact ⟨(0), (by rfl), H', ⟨Nat.le_refl _⟩, by repeat (first | exact Drawn0.refl _ | apply Drawn0.step)⟩
  case round =>
   clear H'
   clear aQ bf bm
   obtain ⟨aa, rfl, HA, bV, ⟨m1, rfl⟩⟩ := hrel
   cases gk with
   | zero => exact nz_ HA.o
   | succ k1 =>
    have H := HA.o; clear HA; simp only [laws_eqIntSSS.l0] at H
    by_cases c4 : aa < (l0.length : Int)
    ·rw [if_pos c4] at H; have bS := decide_eq_true c4; clear c4
     by_cases c5 : 0 ≤ aa
     ·rw [if_pos c5] at H; have cQ := decide_eq_true c5; clear c5
      by_cases c6 : aa < (l1.length : Int)
      ·rw [if_pos c6] at H; have cS := decide_eq_true c6; clear c6; replace H := bA_ H; obtain ⟨cB, A7, H⟩ := H
       by_cases c8 : cB = true
       ·subst c8; rw [if_pos rfl] at H
        have H' := A_ H
        clear H
        have bF : 0 ≤ (aa : Int) := oa_
        have bL : aa < (l0.length : Int) := oa_
        obtain ⟨cO, ch, cm, cx, b3, aZ, aV⟩ := at_L2 HR0.o aa bF bL
        cases cx
        have ay := A_ aV; have au := A_ aZ; clear aV aZ; replace bF := eq_true bF; replace bL := eq_true bL
        have bG : 0 ≤ (aa : Int) := oa_
        have bM : aa < (l1.length : Int) := oa_
        obtain ⟨cP, ci, co, cy, b4, a8, aW⟩ := at_L2 HR1.o aa bG bM
        cases cy
        have az := A_ aW; have av := A_ a8; clear aW a8; replace bG := eq_true bG; replace bM := eq_true bM
        go_wp2_with (first | (go_at_call 31; (with_reducible refine (laws_eqIntSS.calls k1 _ _ (rd_L2 l0 aa) _ _ (rd_L2 l1 aa) true _ ?side1 ?side2 ?side3 ?side4 A7.o).mono ?_); (case side1 => repeat (first | exact ay.o | (with_reducible refine Kd.C_alloc ?_ _) | (with_reducible refine Kd.C_drewN ?_ _) | (with_reducible refine Kd.C_drew ?_))); (case side2 => exact au.o); (case side3 => repeat (first | exact az.o | (with_reducible refine Kd.C_alloc ?_ _) | (with_reducible refine Kd.C_drewN ?_ _) | (with_reducible refine Kd.C_drew ?_))); (case side4 => exact av.o); rintro e w' ⟨rfl, ⟨nd, rfl⟩⟩; skip))
        repeat (go_quiet (first | (go_at_call 31; (with_reducible refine (laws_eqIntSS.calls k1 _ _ (rd_L2 l0 aa) _ _ (rd_L2 l1 aa) true _ ?side1 ?side2 ?side3 ?side4 A7.o).mono ?_); (case side1 => repeat (first | exact ay.o | (with_reducible refine Kd.C_alloc ?_ _) | (with_reducible refine Kd.C_drewN ?_ _) | (with_reducible refine Kd.C_drew ?_))); (case side2 => exact au.o); (case side3 => repeat (first | exact az.o | (with_reducible refine Kd.C_alloc ?_ _) | (with_reducible refine Kd.C_drewN ?_ _) | (with_reducible refine Kd.C_drew ?_))); (case side4 => exact av.o); rintro e w' ⟨rfl, ⟨nd, rfl⟩⟩; exact ⟨rfl, _, Eq.trans (World.drewN_drewN _ _ _) (congrArg (World.drewN _) (Nat.add_assoc _ _ _))⟩)); try go_wp2_with (first | (go_at_call 31; (with_reducible refine (laws_eqIntSS.calls k1 _ _ (rd_L2 l0 aa) _ _ (rd_L2 l1 aa) true _ ?side1 ?side2 ?side3 ?side4 A7.o).mono ?_); (case side1 => repeat (first | exact ay.o | (with_reducible refine Kd.C_alloc ?_ _) | (with_reducible refine Kd.C_drewN ?_ _) | (with_reducible refine Kd.C_drew ?_))); (case side2 => exact au.o); (case side3 => repeat (first | exact az.o | (with_reducible refine Kd.C_alloc ?_ _) | (with_reducible refine Kd.C_drewN ?_ _) | (with_reducible refine Kd.C_drew ?_))); (case side4 => exact av.o); rintro e w' ⟨rfl, ⟨nd, rfl⟩⟩; skip)))
        go_roundg k1
        case measure => have := bV.o; omega
        case rel => exact ⟨(wrap64 (aa + 1)), (by rfl), H', ⟨by have := bV.o; omega⟩, by repeat (first | exact Drawn0.refl _ | apply Drawn0.step)⟩
       replace c8 := Bool.eq_false_iff.mpr c8; subst c8; rw [if_neg nf_] at H; obtain rfl := Option.some.inj H
       have bF : 0 ≤ (aa : Int) := oa_
       have bL : aa < (l0.length : Int) := oa_
       obtain ⟨cO, ch, cm, cx, b3, aZ, aV⟩ := at_L2 HR0.o aa bF bL
       cases cx
       have ay := A_ aV; have au := A_ aZ; clear aV aZ; replace bF := eq_true bF; replace bL := eq_true bL
       have bG : 0 ≤ (aa : Int) := oa_
       have bM : aa < (l1.length : Int) := oa_
       obtain ⟨cP, ci, co, cy, b4, a8, aW⟩ := at_L2 HR1.o aa bG bM
       cases cy
       have az := A_ aW; have av := A_ a8; clear aW a8; replace bG := eq_true bG; replace bM := eq_true bM
       go_wp2_with (first | (go_at_call 31; (with_reducible refine (laws_eqIntSS.calls k1 _ _ (rd_L2 l0 aa) _ _ (rd_L2 l1 aa) false _ ?side1 ?side2 ?side3 ?side4 A7.o).mono ?_); (case side1 => repeat (first | exact ay.o | (with_reducible refine Kd.C_alloc ?_ _) | (with_reducible refine Kd.C_drewN ?_ _) | (with_reducible refine Kd.C_drew ?_))); (case side2 => exact au.o); (case side3 => repeat (first | exact az.o | (with_reducible refine Kd.C_alloc ?_ _) | (with_reducible refine Kd.C_drewN ?_ _) | (with_reducible refine Kd.C_drew ?_))); (case side4 => exact av.o); rintro e w' ⟨rfl, ⟨nd, rfl⟩⟩; skip))
       repeat (go_quiet (first | (go_at_call 31; (with_reducible refine (laws_eqIntSS.calls k1 _ _ (rd_L2 l0 aa) _ _ (rd_L2 l1 aa) false _ ?side1 ?side2 ?side3 ?side4 A7.o).mono ?_); (case side1 => repeat (first | exact ay.o | (with_reducible refine Kd.C_alloc ?_ _) | (with_reducible refine Kd.C_drewN ?_ _) | (with_reducible refine Kd.C_drew ?_))); (case side2 => exact au.o); (case side3 => repeat (first | exact az.o | (with_reducible refine Kd.C_alloc ?_ _) | (with_reducible refine Kd.C_drewN ?_ _) | (with_reducible refine Kd.C_drew ?_))); (case side4 => exact av.o); rintro e w' ⟨rfl, ⟨nd, rfl⟩⟩; exact ⟨rfl, _, Eq.trans (World.drewN_drewN _ _ _) (congrArg (World.drewN _) (Nat.add_assoc _ _ _))⟩)); try go_wp2_with (first | (go_at_call 31; (with_reducible refine (laws_eqIntSS.calls k1 _ _ (rd_L2 l0 aa) _ _ (rd_L2 l1 aa) false _ ?side1 ?side2 ?side3 ?side4 A7.o).mono ?_); (case side1 => repeat (first | exact ay.o | (with_reducible refine Kd.C_alloc ?_ _) | (with_reducible refine Kd.C_drewN ?_ _) | (with_reducible refine Kd.C_drew ?_))); (case side2 => exact au.o); (case side3 => repeat (first | exact az.o | (with_reducible refine Kd.C_alloc ?_ _) | (with_reducible refine Kd.C_drewN ?_ _) | (with_reducible refine Kd.C_drew ?_))); (case side4 => exact av.o); rintro e w' ⟨rfl, ⟨nd, rfl⟩⟩; skip)))
       go_ret
       exact ⟨by rfl, by repeat (first | exact Drawn0.refl _ | apply Drawn0.step)⟩
      rw [if_neg c6] at H
      cases H
     rw [if_neg c5] at H
     cases H
    rw [if_neg c4] at H; have bS := decide_eq_false c4; clear c4; obtain rfl := Option.some.inj H
    go_wp2
    repeat (go_quiet (fail); try go_wp2)
    go_ret
    exact ⟨by rfl, by repeat (first | exact Drawn0.refl _ | apply Drawn0.step)⟩
 rw [if_neg c3] at H
 have aQ : ((l0.length : Int) == (l1.length : Int)) = false := beq_eq_false_iff_ne.mpr c3
 have bf : ((l0.length : Int) != (l1.length : Int)) = true := bne_iff_ne.mpr c3
 have bm : (l0.length == l1.length) = false := by first | simpa using c3 | (simp at c3 ⊢; omega)
 obtain rfl := Option.some.inj H; go_enter Try.func30, Try.ntmps30
 go_wp2
 repeat (go_quiet (fail); try go_wp2)
 go_ret
 exact ⟨by rfl, by repeat (first | exact Drawn0.refl _ | apply Drawn0.step)⟩

def laws_eqLinear.f (k : Nat) (ak : Int) (ag : List Int) (ai : List (List (List Int))) (a9 : List Int) (al : Int) (ah : List Int) (aj : List (List (List Int))) (ba : List Int) : Option (Bool) := if ak = al then ((laws_eqIntS.f k ag ah).bind fun cC => (if cC = true then ((laws_eqIntSSS.f k ai aj).bind fun cD => (if cD = true then ((laws_eqIntS.f k a9 ba).bind fun cE => (if cE = true then (some true) else (some false))) else (some false))) else (some false))) else (some false)
theorem laws_eqLinear.calls (k : Nat) (ak : Int) (aD : Option Addr) (aJ : Nat) (ag : List Int) (aE : Option Addr) (aK : Nat) (ai : List (List (List Int))) (bw : Option Addr) (bz : Nat) (a9 : List Int) (al : Int) (aG : Option Addr) (aM : Nat) (ah : List Int) (aH : Option Addr) (aN : Nat) (aj : List (List (List Int))) (bx : Option Addr) (bA : Nat) (ba : List Int) (r : Bool) (w : World) (br : Kd.C (Kd.int .i64) w aD ag.length ag) (bn : ag.length ≤ aJ) (bs : Kd.C (Kd.slice 23 (Kd.slice 3 (Kd.int .i64))) w aE ai.length ai) (bo : ai.length ≤ aK) (cd : Kd.C (Kd.int .i64) w bw a9.length a9) (b9 : a9.length ≤ bz) (bt : Kd.C (Kd.int .i64) w aG ah.length ah) (bp : ah.length ≤ aM) (bu : Kd.C (Kd.slice 23 (Kd.slice 3 (Kd.int .i64))) w aH aj.length aj) (bq : aj.length ≤ aN) (ce : Kd.C (Kd.int .i64) w bx ba.length ba) (cc : ba.length ≤ bA) (h : laws_eqLinear.f k ak ag ai a9 al ah aj ba = some r) :
  Calls Try.prog 10 #[.agg #[.int .i64 ak, .slice aD ag.length aJ, .slice aE ai.length aK, .slice bw a9.length bz], .agg #[.int .i64 al, .slice aG ah.length aM, .slice aH aj.length aN, .slice bx ba.length bA]] w fun e w' => e = .returned (.bool r) ∧ Below w.heap.size w w' := by
 have hu29 := Try.underlying29; have bd := A_ br; have bb := A_ bn; clear br bn; have bk := A_ bs; have bi := A_ bo; clear bs bo; have b7 := A_ cd; have b5 := A_ b9; clear cd b9; have be := A_ bt; have bc := A_ bp; clear bt bp; have bl := A_ bu; have bj := A_ bq; clear bu bq; have b8 := A_ ce; have b6 := A_ cc; clear ce cc; have HB := A_ (Below.refl w.heap.size w); unfold laws_eqLinear.f at h; have H := h; clear h
 by_cases c3 : ak = al
 ·rw [if_pos c3] at H
  have aQ : (ak == al) = true := beq_iff_eq.mpr c3
  have bf : (ak != al) = false := bne_eq_false_iff_eq.mpr c3
  clear c3; replace H := bA_ H; obtain ⟨cC, A4, H⟩ := H
  by_cases c5 : cC = true
  ·subst c5; rw [if_pos rfl] at H; replace H := bA_ H; obtain ⟨cD, A6, H⟩ := H
   by_cases c7 : cD = true
   ·subst c7; rw [if_pos rfl] at H; replace H := bA_ H; obtain ⟨cE, A8, H⟩ := H
    by_cases c9 : cE = true
    ·subst c9; rw [if_pos rfl] at H; obtain rfl := Option.some.inj H; go_enter Try.func10, Try.ntmps10
     go_wp2_with (first | ((with_reducible refine gate_dst (N := 2) rfl ?_); refine box_event rfl (N := 2) rfl (cs := #[.int .i64 ak, .slice aD ag.length aJ, .slice aE ai.length aK, .slice bw a9.length bz]) (t := 29) (by go_simp; done) ?_; intro bQ hg w10 hbox hb; have ab := A_ (hbox); have bO := A_ (lg_ (below_size HB.o) hg); have am := A_ (lg_ (below_size HB.o) hg); replace HB := bs_ HB hb; clear hb hbox hg) | ((with_reducible refine gate_dst (N := 3) rfl ?_); refine box_event rfl (N := 3) rfl (cs := #[.int .i64 al, .slice aG ah.length aM, .slice aH aj.length aN, .slice bx ba.length bA]) (t := 29) (by go_simp; done) ?_; intro bR hg w11 hbox hb; have aI := A_ (hbox); have bP := A_ (lg_ (below_size HB.o) hg); have an := A_ (lg_ (below_size HB.o) hg); replace HB := bs_ HB hb; have ae := nl_ ab hg; have af := ng_ ab hg; replace ab := bb_ ab hb; clear hb hbox hg; have dw := ae.o; have dF := af.o; have cX := bq4 ab.o; have cY := bq4 aI.o) | ((with_reducible refine gc_ 29 rfl ?_); refine cL_ E29 14 rfl rfl rfl (laws_eqIntS.calls k _ _ ag _ _ ah true _ (Kd.C_below bd.o HB.o) bb.o (Kd.C_below be.o HB.o) bc.o A4.o) (by (try simp only [mA, mB, mC]); first | done | rfl | (simp only [List.length_drop, List.length_take]; rfl)) ?_; rintro e w' ⟨rfl, ⟨nd, rfl⟩⟩; refine ⟨_, rfl, ?_⟩) | ((with_reducible refine gc_ 30 rfl ?_); refine cM_ E30 20 (laws_eqIntSSS.calls k _ _ ai _ _ aj true _ (by repeat (first | exact (Kd.C_below bk.o (by repeat (first | (with_reducible first | exact HB.o | apply below_alloc | apply pw_below_drewN | apply below_drew1 | refine below_set ?_ am.o | refine below_set ?_ an.o) | exact HB.o))) | (with_reducible refine Kd.C_alloc ?_ _) | (with_reducible refine Kd.C_drewN ?_ _) | (with_reducible refine Kd.C_drew ?_))) bi.o (by repeat (first | exact (Kd.C_below bl.o (by repeat (first | (with_reducible first | exact HB.o | apply below_alloc | apply pw_below_drewN | apply below_drew1 | refine below_set ?_ am.o | refine below_set ?_ an.o) | exact HB.o))) | (with_reducible refine Kd.C_alloc ?_ _) | (with_reducible refine Kd.C_drewN ?_ _) | (with_reducible refine Kd.C_drew ?_))) bj.o A6.o) ?_; rintro e w' ⟨rfl, ⟨nd, rfl⟩⟩; refine ⟨_, rfl, ?_⟩) | ((with_reducible refine gc_ 29 rfl ?_); refine cM_ E29 26 (laws_eqIntS.calls k _ _ a9 _ _ ba true _ (by repeat (first | exact (Kd.C_below b7.o (by repeat (first | (with_reducible first | exact HB.o | apply below_alloc | apply pw_below_drewN | apply below_drew1 | refine below_set ?_ am.o | refine below_set ?_ an.o) | exact HB.o))) | (with_reducible refine Kd.C_alloc ?_ _) | (with_reducible refine Kd.C_drewN ?_ _) | (with_reducible refine Kd.C_drew ?_))) b5.o (by repeat (first | exact (Kd.C_below b8.o (by repeat (first | (with_reducible first | exact HB.o | apply below_alloc | apply pw_below_drewN | apply below_drew1 | refine below_set ?_ am.o | refine below_set ?_ an.o) | exact HB.o))) | (with_reducible refine Kd.C_alloc ?_ _) | (with_reducible refine Kd.C_drewN ?_ _) | (with_reducible refine Kd.C_drew ?_))) b6.o A8.o) ?_; rintro e w' ⟨rfl, ⟨nd, rfl⟩⟩; refine ⟨_, rfl, ?_⟩))
     go_ret
     exact ⟨by rfl, by repeat (first | (with_reducible first | exact HB.o | apply below_alloc | apply pw_below_drewN | apply below_drew1 | refine below_set ?_ am.o | refine below_set ?_ an.o) | exact HB.o)⟩
    replace c9 := Bool.eq_false_iff.mpr c9; subst c9; rw [if_neg nf_] at H; obtain rfl := Option.some.inj H; go_enter Try.func10, Try.ntmps10
    go_wp2_with (first | ((with_reducible refine gate_dst (N := 2) rfl ?_); refine box_event rfl (N := 2) rfl (cs := #[.int .i64 ak, .slice aD ag.length aJ, .slice aE ai.length aK, .slice bw a9.length bz]) (t := 29) (by go_simp; done) ?_; intro bQ hg w15 hbox hb; have ab := A_ (hbox); have bO := A_ (lg_ (below_size HB.o) hg); have am := A_ (lg_ (below_size HB.o) hg); replace HB := bs_ HB hb; clear hb hbox hg) | ((with_reducible refine gate_dst (N := 3) rfl ?_); refine box_event rfl (N := 3) rfl (cs := #[.int .i64 al, .slice aG ah.length aM, .slice aH aj.length aN, .slice bx ba.length bA]) (t := 29) (by go_simp; done) ?_; intro bR hg w16 hbox hb; have aI := A_ (hbox); have bP := A_ (lg_ (below_size HB.o) hg); have an := A_ (lg_ (below_size HB.o) hg); replace HB := bs_ HB hb; have ae := nl_ ab hg; have af := ng_ ab hg; replace ab := bb_ ab hb; clear hb hbox hg; have dy := ae.o; have dH := af.o; have db := bq4 ab.o; have dc := bq4 aI.o) | ((with_reducible refine gc_ 29 rfl ?_); refine cL_ E29 14 rfl rfl rfl (laws_eqIntS.calls k _ _ ag _ _ ah true _ (Kd.C_below bd.o HB.o) bb.o (Kd.C_below be.o HB.o) bc.o A4.o) (by (try simp only [mA, mB, mC]); first | done | rfl | (simp only [List.length_drop, List.length_take]; rfl)) ?_; rintro e w' ⟨rfl, ⟨nd, rfl⟩⟩; refine ⟨_, rfl, ?_⟩) | ((with_reducible refine gc_ 30 rfl ?_); refine cM_ E30 20 (laws_eqIntSSS.calls k _ _ ai _ _ aj true _ (by repeat (first | exact (Kd.C_below bk.o (by repeat (first | (with_reducible first | exact HB.o | apply below_alloc | apply pw_below_drewN | apply below_drew1 | refine below_set ?_ am.o | refine below_set ?_ an.o) | exact HB.o))) | (with_reducible refine Kd.C_alloc ?_ _) | (with_reducible refine Kd.C_drewN ?_ _) | (with_reducible refine Kd.C_drew ?_))) bi.o (by repeat (first | exact (Kd.C_below bl.o (by repeat (first | (with_reducible first | exact HB.o | apply below_alloc | apply pw_below_drewN | apply below_drew1 | refine below_set ?_ am.o | refine below_set ?_ an.o) | exact HB.o))) | (with_reducible refine Kd.C_alloc ?_ _) | (with_reducible refine Kd.C_drewN ?_ _) | (with_reducible refine Kd.C_drew ?_))) bj.o A6.o) ?_; rintro e w' ⟨rfl, ⟨nd, rfl⟩⟩; refine ⟨_, rfl, ?_⟩) | ((with_reducible refine gc_ 29 rfl ?_); refine cM_ E29 26 (laws_eqIntS.calls k _ _ a9 _ _ ba false _ (by repeat (first | exact (Kd.C_below b7.o (by repeat (first | (with_reducible first | exact HB.o | apply below_alloc | apply pw_below_drewN | apply below_drew1 | refine below_set ?_ am.o | refine below_set ?_ an.o) | exact HB.o))) | (with_reducible refine Kd.C_alloc ?_ _) | (with_reducible refine Kd.C_drewN ?_ _) | (with_reducible refine Kd.C_drew ?_))) b5.o (by repeat (first | exact (Kd.C_below b8.o (by repeat (first | (with_reducible first | exact HB.o | apply below_alloc | apply pw_below_drewN | apply below_drew1 | refine below_set ?_ am.o | refine below_set ?_ an.o) | exact HB.o))) | (with_reducible refine Kd.C_alloc ?_ _) | (with_reducible refine Kd.C_drewN ?_ _) | (with_reducible refine Kd.C_drew ?_))) b6.o A8.o) ?_; rintro e w' ⟨rfl, ⟨nd, rfl⟩⟩; refine ⟨_, rfl, ?_⟩))
    go_ret
    exact ⟨by rfl, by repeat (first | (with_reducible first | exact HB.o | apply below_alloc | apply pw_below_drewN | apply below_drew1 | refine below_set ?_ am.o | refine below_set ?_ an.o) | exact HB.o)⟩
   replace c7 := Bool.eq_false_iff.mpr c7; subst c7; rw [if_neg nf_] at H; obtain rfl := Option.some.inj H; go_enter Try.func10, Try.ntmps10
   go_wp2_with (first | ((with_reducible refine gate_dst (N := 2) rfl ?_); refine box_event rfl (N := 2) rfl (cs := #[.int .i64 ak, .slice aD ag.length aJ, .slice aE ai.length aK, .slice bw a9.length bz]) (t := 29) (by go_simp; done) ?_; intro bQ hg w20 hbox hb; have ab := A_ (hbox); have bO := A_ (lg_ (below_size HB.o) hg); have am := A_ (lg_ (below_size HB.o) hg); replace HB := bs_ HB hb; clear hb hbox hg) | ((with_reducible refine gate_dst (N := 3) rfl ?_); refine box_event rfl (N := 3) rfl (cs := #[.int .i64 al, .slice aG ah.length aM, .slice aH aj.length aN, .slice bx ba.length bA]) (t := 29) (by go_simp; done) ?_; intro bR hg w21 hbox hb; have aI := A_ (hbox); have bP := A_ (lg_ (below_size HB.o) hg); have an := A_ (lg_ (below_size HB.o) hg); replace HB := bs_ HB hb; have ae := nl_ ab hg; have af := ng_ ab hg; replace ab := bb_ ab hb; clear hb hbox hg; have dA := ae.o; have dJ := af.o; have df := bq4 ab.o; have dg := bq4 aI.o) | ((with_reducible refine gc_ 29 rfl ?_); refine cM_ E29 14 (laws_eqIntS.calls k _ _ ag _ _ ah true _ (Kd.C_below bd.o HB.o) bb.o (Kd.C_below be.o HB.o) bc.o A4.o) ?_; rintro e w' ⟨rfl, ⟨nd, rfl⟩⟩; refine ⟨_, rfl, ?_⟩) | ((with_reducible refine gc_ 30 rfl ?_); refine cM_ E30 20 (laws_eqIntSSS.calls k _ _ ai _ _ aj false _ (by repeat (first | exact (Kd.C_below bk.o (by repeat (first | (with_reducible first | exact HB.o | apply below_alloc | apply pw_below_drewN | apply below_drew1 | refine below_set ?_ am.o | refine below_set ?_ an.o) | exact HB.o))) | (with_reducible refine Kd.C_alloc ?_ _) | (with_reducible refine Kd.C_drewN ?_ _) | (with_reducible refine Kd.C_drew ?_))) bi.o (by repeat (first | exact (Kd.C_below bl.o (by repeat (first | (with_reducible first | exact HB.o | apply below_alloc | apply pw_below_drewN | apply below_drew1 | refine below_set ?_ am.o | refine below_set ?_ an.o) | exact HB.o))) | (with_reducible refine Kd.C_alloc ?_ _) | (with_reducible refine Kd.C_drewN ?_ _) | (with_reducible refine Kd.C_drew ?_))) bj.o A6.o) ?_; rintro e w' ⟨rfl, ⟨nd, rfl⟩⟩; refine ⟨_, rfl, ?_⟩))
   go_ret
   exact ⟨by rfl, by repeat (first | (with_reducible first | exact HB.o | apply below_alloc | apply pw_below_drewN | apply below_drew1 | refine below_set ?_ am.o | refine below_set ?_ an.o) | exact HB.o)⟩
  replace c5 := Bool.eq_false_iff.mpr c5; subst c5; rw [if_neg nf_] at H; obtain rfl := Option.some.inj H; go_enter Try.func10, Try.ntmps10
  go_wp2_with (first | ((with_reducible refine gate_dst (N := 2) rfl ?_); refine box_event rfl (N := 2) rfl (cs := #[.int .i64 ak, .slice aD ag.length aJ, .slice aE ai.length aK, .slice bw a9.length bz]) (t := 29) (by go_simp; done) ?_; intro bQ hg w25 hbox hb; have ab := A_ (hbox); have bO := A_ (lg_ (below_size HB.o) hg); have am := A_ (lg_ (below_size HB.o) hg); replace HB := bs_ HB hb; clear hb hbox hg) | ((with_reducible refine gate_dst (N := 3) rfl ?_); refine box_event rfl (N := 3) rfl (cs := #[.int .i64 al, .slice aG ah.length aM, .slice aH aj.length aN, .slice bx ba.length bA]) (t := 29) (by go_simp; done) ?_; intro bR hg w26 hbox hb; have aI := A_ (hbox); have bP := A_ (lg_ (below_size HB.o) hg); have an := A_ (lg_ (below_size HB.o) hg); replace HB := bs_ HB hb; have ae := nl_ ab hg; have af := ng_ ab hg; replace ab := bb_ ab hb; clear hb hbox hg; have dC := ae.o; have dL := af.o; have dj := bq4 ab.o; have dk := bq4 aI.o) | ((with_reducible refine gc_ 29 rfl ?_); refine cM_ E29 14 (laws_eqIntS.calls k _ _ ag _ _ ah false _ (Kd.C_below bd.o HB.o) bb.o (Kd.C_below be.o HB.o) bc.o A4.o) ?_; rintro e w' ⟨rfl, ⟨nd, rfl⟩⟩; refine ⟨_, rfl, ?_⟩))
  go_ret
  exact ⟨by rfl, by repeat (first | (with_reducible first | exact HB.o | apply below_alloc | apply pw_below_drewN | apply below_drew1 | refine below_set ?_ am.o | refine below_set ?_ an.o) | exact HB.o)⟩
 rw [if_neg c3] at H
 have aQ : (ak == al) = false := beq_eq_false_iff_ne.mpr c3
 have bf : (ak != al) = true := bne_iff_ne.mpr c3
 obtain rfl := Option.some.inj H; go_enter Try.func10, Try.ntmps10
 go_wp2_with (first | ((with_reducible refine gate_dst (N := 2) rfl ?_); refine box_event rfl (N := 2) rfl (cs := #[.int .i64 ak, .slice aD ag.length aJ, .slice aE ai.length aK, .slice bw a9.length bz]) (t := 29) (by go_simp; done) ?_; intro bQ hg w30 hbox hb; have ab := A_ (hbox); have bO := A_ (lg_ (below_size HB.o) hg); have am := A_ (lg_ (below_size HB.o) hg); replace HB := bs_ HB hb; clear hb hbox hg) | ((with_reducible refine gate_dst (N := 3) rfl ?_); refine box_event rfl (N := 3) rfl (cs := #[.int .i64 al, .slice aG ah.length aM, .slice aH aj.length aN, .slice bx ba.length bA]) (t := 29) (by go_simp; done) ?_; intro bR hg w31 hbox hb; have aI := A_ (hbox); have bP := A_ (lg_ (below_size HB.o) hg); have an := A_ (lg_ (below_size HB.o) hg); replace HB := bs_ HB hb; have ae := nl_ ab hg; have af := ng_ ab hg; replace ab := bb_ ab hb; clear hb hbox hg; have dD := ae.o; have dM := af.o; have dl := bq4 ab.o; have dm := bq4 aI.o))
 go_ret
 exact ⟨by rfl, HB.o⟩

def laws_eqSequence.f (k : Nat) (ak : Int) (ag : List (List Int)) (ai : List Int) (al : Int) (ah : List (List Int)) (aj : List Int) : Option (Bool) := if ak = al then ((laws_eqIntSS.f k ag ah).bind fun cF => (if cF = true then ((laws_eqIntS.f k ai aj).bind fun cG => (if cG = true then (some true) else (some false))) else (some false))) else (some false)
theorem laws_eqSequence.calls (k : Nat) (ak : Int) (aD : Option Addr) (aJ : Nat) (ag : List (List Int)) (aE : Option Addr) (aK : Nat) (ai : List Int) (al : Int) (aG : Option Addr) (aM : Nat) (ah : List (List Int)) (aH : Option Addr) (aN : Nat) (aj : List Int) (r : Bool) (w : World) (br : Kd.C (Kd.slice 3 (Kd.int .i64)) w aD ag.length ag) (bn : ag.length ≤ aJ) (bs : Kd.C (Kd.int .i64) w aE ai.length ai) (bo : ai.length ≤ aK) (bt : Kd.C (Kd.slice 3 (Kd.int .i64)) w aG ah.length ah) (bp : ah.length ≤ aM) (bu : Kd.C (Kd.int .i64) w aH aj.length aj) (bq : aj.length ≤ aN) (h : laws_eqSequence.f k ak ag ai al ah aj = some r) :
  Calls Try.prog 11 #[.agg #[.int .i64 ak, .slice aD ag.length aJ, .slice aE ai.length aK], .agg #[.int .i64 al, .slice aG ah.length aM, .slice aH aj.length aN]] w fun e w' => e = .returned (.bool r) ∧ Below w.heap.size w w' := by
 have hu32 := Try.underlying32; have bd := A_ br; have bb := A_ bn; clear br bn; have bk := A_ bs; have bi := A_ bo; clear bs bo; have be := A_ bt; have bc := A_ bp; clear bt bp; have bl := A_ bu; have bj := A_ bq; clear bu bq; have HB := A_ (Below.refl w.heap.size w); unfold laws_eqSequence.f at h; have H := h; clear h
 by_cases c3 : ak = al
 ·rw [if_pos c3] at H
  have aQ : (ak == al) = true := beq_iff_eq.mpr c3
  have bf : (ak != al) = false := bne_eq_false_iff_eq.mpr c3
  clear c3; replace H := bA_ H; obtain ⟨cF, A4, H⟩ := H
  by_cases c5 : cF = true
  ·subst c5; rw [if_pos rfl] at H; replace H := bA_ H; obtain ⟨cG, A6, H⟩ := H
   by_cases c7 : cG = true
   ·subst c7; rw [if_pos rfl] at H; obtain rfl := Option.some.inj H; go_enter Try.func11, Try.ntmps11
    go_wp2_with (first | ((with_reducible refine gate_dst (N := 2) rfl ?_); refine box_event rfl (N := 2) rfl (cs := #[.int .i64 ak, .slice aD ag.length aJ, .slice aE ai.length aK]) (t := 32) (by go_simp; done) ?_; intro bW hg w8 hbox hb; have ac := A_ (hbox); have bT := A_ (lg_ (below_size HB.o) hg); have aA := A_ (lg_ (below_size HB.o) hg); replace HB := bs_ HB hb; clear hb hbox hg) | ((with_reducible refine gate_dst (N := 3) rfl ?_); refine box_event rfl (N := 3) rfl (cs := #[.int .i64 al, .slice aG ah.length aM, .slice aH aj.length aN]) (t := 32) (by go_simp; done) ?_; intro bX hg w9 hbox hb; have bg := A_ (hbox); have bU := A_ (lg_ (below_size HB.o) hg); have aC := A_ (lg_ (below_size HB.o) hg); replace HB := bs_ HB hb; have ao := nl_ ac hg; have ap := ng_ ac hg; replace ac := bb_ ac hb; clear hb hbox hg; have dv := ao.o; have dE := ap.o; have cV := bq3 ac.o; have cW := bq3 bg.o) | ((with_reducible refine gc_ 31 rfl ?_); refine cM_ E31 14 (laws_eqIntSS.calls k _ _ ag _ _ ah true _ (Kd.C_below bd.o HB.o) bb.o (Kd.C_below be.o HB.o) bc.o A4.o) ?_; rintro e w' ⟨rfl, ⟨nd, rfl⟩⟩; refine ⟨_, rfl, ?_⟩) | ((with_reducible refine gc_ 29 rfl ?_); refine cM_ E29 20 (laws_eqIntS.calls k _ _ ai _ _ aj true _ (by repeat (first | exact (Kd.C_below bk.o (by repeat (first | (with_reducible first | exact HB.o | apply below_alloc | apply pw_below_drewN | apply below_drew1 | refine below_set ?_ aA.o | refine below_set ?_ aC.o) | exact HB.o))) | (with_reducible refine Kd.C_alloc ?_ _) | (with_reducible refine Kd.C_drewN ?_ _) | (with_reducible refine Kd.C_drew ?_))) bi.o (by repeat (first | exact (Kd.C_below bl.o (by repeat (first | (with_reducible first | exact HB.o | apply below_alloc | apply pw_below_drewN | apply below_drew1 | refine below_set ?_ aA.o | refine below_set ?_ aC.o) | exact HB.o))) | (with_reducible refine Kd.C_alloc ?_ _) | (with_reducible refine Kd.C_drewN ?_ _) | (with_reducible refine Kd.C_drew ?_))) bj.o A6.o) ?_; rintro e w' ⟨rfl, ⟨nd, rfl⟩⟩; refine ⟨_, rfl, ?_⟩))
    go_ret
    exact ⟨by rfl, by repeat (first | (with_reducible first | exact HB.o | apply below_alloc | apply pw_below_drewN | apply below_drew1 | refine below_set ?_ aA.o | refine below_set ?_ aC.o) | exact HB.o)⟩
   replace c7 := Bool.eq_false_iff.mpr c7; subst c7; rw [if_neg nf_] at H; obtain rfl := Option.some.inj H; go_enter Try.func11, Try.ntmps11
   go_wp2_with (first | ((with_reducible refine gate_dst (N := 2) rfl ?_); refine box_event rfl (N := 2) rfl (cs := #[.int .i64 ak, .slice aD ag.length aJ, .slice aE ai.length aK]) (t := 32) (by go_simp; done) ?_; intro bW hg w13 hbox hb; have ac := A_ (hbox); have bT := A_ (lg_ (below_size HB.o) hg); have aA := A_ (lg_ (below_size HB.o) hg); replace HB := bs_ HB hb; clear hb hbox hg) | ((with_reducible refine gate_dst (N := 3) rfl ?_); refine box_event rfl (N := 3) rfl (cs := #[.int .i64 al, .slice aG ah.length aM, .slice aH aj.length aN]) (t := 32) (by go_simp; done) ?_; intro bX hg w14 hbox hb; have bg := A_ (hbox); have bU := A_ (lg_ (below_size HB.o) hg); have aC := A_ (lg_ (below_size HB.o) hg); replace HB := bs_ HB hb; have ao := nl_ ac hg; have ap := ng_ ac hg; replace ac := bb_ ac hb; clear hb hbox hg; have dx := ao.o; have dG := ap.o; have cZ := bq3 ac.o; have da := bq3 bg.o) | ((with_reducible refine gc_ 31 rfl ?_); refine cM_ E31 14 (laws_eqIntSS.calls k _ _ ag _ _ ah true _ (Kd.C_below bd.o HB.o) bb.o (Kd.C_below be.o HB.o) bc.o A4.o) ?_; rintro e w' ⟨rfl, ⟨nd, rfl⟩⟩; refine ⟨_, rfl, ?_⟩) | ((with_reducible refine gc_ 29 rfl ?_); refine cM_ E29 20 (laws_eqIntS.calls k _ _ ai _ _ aj false _ (by repeat (first | exact (Kd.C_below bk.o (by repeat (first | (with_reducible first | exact HB.o | apply below_alloc | apply pw_below_drewN | apply below_drew1 | refine below_set ?_ aA.o | refine below_set ?_ aC.o) | exact HB.o))) | (with_reducible refine Kd.C_alloc ?_ _) | (with_reducible refine Kd.C_drewN ?_ _) | (with_reducible refine Kd.C_drew ?_))) bi.o (by repeat (first | exact (Kd.C_below bl.o (by repeat (first | (with_reducible first | exact HB.o | apply below_alloc | apply pw_below_drewN | apply below_drew1 | refine below_set ?_ aA.o | refine below_set ?_ aC.o) | exact HB.o))) | (with_reducible refine Kd.C_alloc ?_ _) | (with_reducible refine Kd.C_drewN ?_ _) | (with_reducible refine Kd.C_drew ?_))) bj.o A6.o) ?_; rintro e w' ⟨rfl, ⟨nd, rfl⟩⟩; refine ⟨_, rfl, ?_⟩))
   go_ret
   exact ⟨by rfl, by repeat (first | (with_reducible first | exact HB.o | apply below_alloc | apply pw_below_drewN | apply below_drew1 | refine below_set ?_ aA.o | refine below_set ?_ aC.o) | exact HB.o)⟩
  replace c5 := Bool.eq_false_iff.mpr c5; subst c5; rw [if_neg nf_] at H; obtain rfl := Option.some.inj H; go_enter Try.func11, Try.ntmps11
  go_wp2_with (first | ((with_reducible refine gate_dst (N := 2) rfl ?_); refine box_event rfl (N := 2) rfl (cs := #[.int .i64 ak, .slice aD ag.length aJ, .slice aE ai.length aK]) (t := 32) (by go_simp; done) ?_; intro bW hg w18 hbox hb; have ac := A_ (hbox); have bT := A_ (lg_ (below_size HB.o) hg); have aA := A_ (lg_ (below_size HB.o) hg); replace HB := bs_ HB hb; clear hb hbox hg) | ((with_reducible refine gate_dst (N := 3) rfl ?_); refine box_event rfl (N := 3) rfl (cs := #[.int .i64 al, .slice aG ah.length aM, .slice aH aj.length aN]) (t := 32) (by go_simp; done) ?_; intro bX hg w19 hbox hb; have bg := A_ (hbox); have bU := A_ (lg_ (below_size HB.o) hg); have aC := A_ (lg_ (below_size HB.o) hg); replace HB := bs_ HB hb; have ao := nl_ ac hg; have ap := ng_ ac hg; replace ac := bb_ ac hb; clear hb hbox hg; have dz := ao.o; have dI := ap.o; have dd := bq3 ac.o; have de := bq3 bg.o) | ((with_reducible refine gc_ 31 rfl ?_); refine cM_ E31 14 (laws_eqIntSS.calls k _ _ ag _ _ ah false _ (Kd.C_below bd.o HB.o) bb.o (Kd.C_below be.o HB.o) bc.o A4.o) ?_; rintro e w' ⟨rfl, ⟨nd, rfl⟩⟩; refine ⟨_, rfl, ?_⟩))
  go_ret
  exact ⟨by rfl, by repeat (first | (with_reducible first | exact HB.o | apply below_alloc | apply pw_below_drewN | apply below_drew1 | refine below_set ?_ aA.o | refine below_set ?_ aC.o) | exact HB.o)⟩
 rw [if_neg c3] at H
 have aQ : (ak == al) = false := beq_eq_false_iff_ne.mpr c3
 have bf : (ak != al) = true := bne_iff_ne.mpr c3
 obtain rfl := Option.some.inj H; go_enter Try.func11, Try.ntmps11
 go_wp2_with (first | ((with_reducible refine gate_dst (N := 2) rfl ?_); refine box_event rfl (N := 2) rfl (cs := #[.int .i64 ak, .slice aD ag.length aJ, .slice aE ai.length aK]) (t := 32) (by go_simp; done) ?_; intro bW hg w23 hbox hb; have ac := A_ (hbox); have bT := A_ (lg_ (below_size HB.o) hg); have aA := A_ (lg_ (below_size HB.o) hg); replace HB := bs_ HB hb; clear hb hbox hg) | ((with_reducible refine gate_dst (N := 3) rfl ?_); refine box_event rfl (N := 3) rfl (cs := #[.int .i64 al, .slice aG ah.length aM, .slice aH aj.length aN]) (t := 32) (by go_simp; done) ?_; intro bX hg w24 hbox hb; have bg := A_ (hbox); have bU := A_ (lg_ (below_size HB.o) hg); have aC := A_ (lg_ (below_size HB.o) hg); replace HB := bs_ HB hb; have ao := nl_ ac hg; have ap := ng_ ac hg; replace ac := bb_ ac hb; clear hb hbox hg; have dB := ao.o; have dK := ap.o; have dh := bq3 ac.o; have di := bq3 bg.o))
 go_ret
 exact ⟨by rfl, HB.o⟩

def laws_markIntS.l0 : Nat → List Int → Int → Int → Option (Int × List Int)
 | 0, _, _, _ => none
 | k + 1, x0, x1, x5 => if x5 < (x0.length : Int) then (if 0 ≤ x5 then (laws_markIntS.l0 k (x0.set (x5 : Int).toNat x1) (wrap64 (x1 + 1)) (wrap64 (x5 + 1))) else (none)) else (some (x1, x0))
def laws_markIntS.f (k : Nat) (l0 : List Int) (a1 : Int) : Option (Int × List Int) := laws_markIntS.l0 k l0 a1 0
theorem laws_markIntS.calls (k : Nat) (P0_ : Nat → Prop) (u9000_ : Value) (l0 : List Int) (a1 : Int) (r1 : Int) (r2 : List Int) (w0 w : World) (hB : Below w0.heap.size w0 w) (ho0 : Kd.R (Kd.int .i64) 3 w w0.heap.size P0_ u9000_ l0) (h : laws_markIntS.f k l0 a1 = some (r1, r2)) :
  Calls Try.prog 33 #[u9000_, .int .i64 a1] w fun e w' => e = .returned (.int .i64 r1) ∧ Kd.R (Kd.int .i64) 3 w' w0.heap.size (fun k_ => (P0_ k_ ∨ w.heap.size ≤ k_)) u9000_ r2 ∧ Below w0.heap.size w0 w' ∧ Kept w w' (fun k_ => P0_ k_) := by
 have dO := A_ (show Kd.R (Kd.int .i64) 3 w w0.heap.size (fun k_ => (P0_ k_ ∨ w.heap.size ≤ k_)) u9000_ l0 from Kd.R_mono ho0 (fun k_ hk => (.inl hk))); have HK := A_ (Kept.refl w (fun k_ => P0_ k_)); have HW0 := A_ hB.size; have HB := A_ hB; clear hB; unfold laws_markIntS.f at h; have H := h; clear h
 have H' := A_ H
 clear H; go_enter Try.func33, Try.ntmps33
 go_wp2
 go_loopg [1, 5] k (fun kq v1 v5 w' => ∃ (bN : List Int) (bv : Int) (aa : Int), v1 = .int .i64 bv ∧ v5 = .int .i64 aa ∧ Aside0 (laws_markIntS.l0 kq bN bv aa = some (r1, r2)) ∧ Aside0 (kq ≤ k) ∧ Aside0 (Kd.R (Kd.int .i64) 3 w' w0.heap.size (fun k_ => (P0_ k_ ∨ w.heap.size ≤ k_)) u9000_ bN) ∧ Aside0 (Kept w w' (fun k_ => P0_ k_)) ∧ Aside0 (Below w0.heap.size w0 w'))
 case atStart => exact ⟨(l0), (a1), (0), (by rfl), (by rfl), H', ⟨Nat.le_refl _⟩, ⟨dO.o⟩, ⟨HK.o⟩, ⟨HB.o⟩⟩
 case round =>
  clear H'; obtain ⟨bN, bv, aa, rfl, rfl, HA, bV, bh, HK, HB⟩ := hrel
  cases gk with
  | zero => exact nz_ HA.o
  | succ k1 =>
   have H := HA.o; clear HA; simp only [laws_markIntS.l0] at H
   by_cases c3 : aa < (bN.length : Int)
   ·rw [if_pos c3] at H; have aQ := decide_eq_true c3; clear c3
    by_cases c4 : 0 ≤ aa
    ·rw [if_pos c4] at H; have bS := decide_eq_true c4; clear c4; obtain ⟨cH, bY⟩ := ex_ ((bN.set (aa : Int).toNat bv) : List Int); replace H : (laws_markIntS.l0 k1 cH (wrap64 (bv + 1)) (wrap64 (aa + 1))) = some (r1, r2) := by (rw [bY]; with_reducible exact H)
     have cI := A_ bY; clear bY
     have H' := A_ H
     clear H; obtain ⟨dS, dP, dQ⟩ := Kd.R_slice bh.o; subst dQ
     have p5 : 0 ≤ (aa : Int) := oa_
     have q5 : (aa : Int) < ((bN.length : Int) : Int) := oa_
     obtain ⟨cU, dU, dr, dt, gl5, cl5, HG5⟩ := Kd.R_form bh.o (by omega)
     (first | cases dr | (injection dr with ea_ en_ ec_; (first | subst ea_ | (injection ea_ with ea_; subst ea_)); subst ec_; clear en_))
     have GB5 := A_ dt; have GG5 := A_ HG5; clear dt gl5 HG5; have HMgo5 := A_ (show (P0_ cU ∨ w.heap.size ≤ cU) from (bh.o.1 _ rfl)); obtain ⟨dN, du⟩ := Kd.R_celln 0 bh.o (aa : Int) p5 q5; replace p5 := eq_true p5; replace q5 := eq_true q5; have dn := Kd.R_putg bh.o (aa : Int) bv
     go_wp2_with (first | ((with_reducible refine gate_store (t := 3) (p := 15) rfl ?_); refine store_event (t := 3) (p := 15) (w1 := (wr.setCell ⟨cU, (aa : Int).toNat, none⟩ (.int .i64 bv))) rfl rfl rfl (by go_simp; done) ?_; intro w8 hw; have hg : wr.grownBy w8 (some cU) := (by rw [hw]; exact dn.2); have hp_ : Kd.R (Kd.int .i64) 3 w8 w0.heap.size (fun k_ => (P0_ k_ ∨ w.heap.size ≤ k_)) (.slice (some ⟨cU, 0, none⟩) bN.length dP) cH := (by rw [hw, cI.o]; exact dn.1); clear dn; replace HB := A_ ((by rw [hw]; exact below_set (HB.o) GB5.o : Below w0.heap.size w0 w8)); replace HK := A_ (Kept.of_grown (S := (fun k_ => P0_ k_)) hg HK.o (fun k_ e_ => (bh.o.1 k_ e_))); replace bh := A_ (hp_); clear hg hw hp_))
     go_roundg k1
     case measure => have := bV.o; omega
     case rel => exact ⟨(cH), (wrap64 (bv + 1)), (wrap64 (aa + 1)), (by rfl), (by rfl), H', ⟨by have := bV.o; omega⟩, ⟨bh.o⟩, ⟨HK.o⟩, ⟨HB.o⟩⟩
    rw [if_neg c4] at H
    cases H
   rw [if_neg c3] at H; have aQ := decide_eq_false c3; clear c3; simp only [Option.some.injEq, Prod.mk.injEq] at H; obtain ⟨rfl, rfl⟩ := H; obtain ⟨dT, dV, dR⟩ := Kd.R_slice bh.o; subst dR
   go_wp2
   go_ret
   exact ⟨by rfl, bh.o, HB.o, HK.o⟩

end Go.Proofs.Ytgmfjcckmapkbaa.PFnExactCountingForm

