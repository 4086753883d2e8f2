/- Walks of the functions that the law reaches. -/
import Derived.Test.YtlcepacbbfekoaaPFnExactSumFormsx0
namespace Go.Proofs.Ytlcepacbbfekoaa.PFnExactSumForms
open Go.RowKit Go.Proofs.YtlcepacbbfekoaaW.PrintWords Go.Proofs.YtlcepacbbfekoaaW.PrintLast Go.Proofs.YtlcepacbbfekoaaW.PrintMore
attribute [local go_sem] max2_int min2_int max_two min_two max_three min_three max_four min_four
set_option linter.unusedVariables false
set_option maxHeartbeats 8000000
set_option maxRecDepth 100000
set_option linter.unusedSimpArgs false

def laws_eqIntS.l0 : Nat → List Int → List Int → Int → Option (Bool)
 | 0, _, _, _ => none
 | k + 1, x0, x1, x5 => if x5 < (x0.length : Int) then (if 0 ≤ x5 then (if x5 < (x1.length : Int) then (if (rd x0 x5) = (rd x1 x5) then (laws_eqIntS.l0 k x0 x1 (wrap64 (x5 + 1))) else (some false)) else (none)) else (none)) else (some true)
def laws_eqIntS.f (k : Nat) (l0 : List Int) (l1 : List Int) : Option (Bool) := if (l0.length : Int) = (l1.length : Int) then (laws_eqIntS.l0 k l0 l1 0) else (some false)
theorem laws_eqIntS.mono_l : ∀ k, (∀ y0 y1 y2, LeO (laws_eqIntS.l0 k y0 y1 y2) (laws_eqIntS.l0 (k + 1) y0 y1 y2))
 | 0 => fun _ _ _ r h => by simp [laws_eqIntS.l0] at h
 | k + 1 => by
  have ih0 := laws_eqIntS.mono_l k
  ·intro y0 y1 y2; unfold laws_eqIntS.l0
   with_reducible repeat' first | exact ih0 _ _ _ | exact LeO.refl _ | exact LeO.none _ | refine LeO.ite ?_ ?_ | refine LeO.bind ?_ (fun _ => ?_)
theorem laws_eqIntS.mono : ∀ a0 a1 k, LeO (laws_eqIntS.f k a0 a1) (laws_eqIntS.f (k + 1) a0 a1) := by
 intro a0 a1 k; have ih0 := laws_eqIntS.mono_l k; unfold laws_eqIntS.f
 with_reducible repeat' first | exact ih0 _ _ _ | exact LeO.refl _ | exact LeO.none _ | refine LeO.ite ?_ ?_ | refine LeO.bind ?_ (fun _ => ?_)
theorem laws_eqIntS.calls (k : Nat) (A0 : Option Addr) (c0 : Nat) (l0 : List Int) (A1 : Option Addr) (c1 : Nat) (l1 : List Int) (r : Bool) (w : World) (hr0 : Kd.C (Kd.int .i64) w A0 l0.length l0) (hc0 : l0.length ≤ c0) (hr1 : Kd.C (Kd.int .i64) w A1 l1.length l1) (hc1 : l1.length ≤ c1) (h : laws_eqIntS.f k l0 l1 = some r) :
  Calls Try.prog 19 #[.slice A0 l0.length c0, .slice A1 l1.length c1] w fun e w' => e = .returned (.bool r) ∧ Drawn0 w w' := by
 have HR0 := A_ hr0; have HC0 := A_ hc0; clear hr0 hc0; have HR1 := A_ hr1; have HC1 := A_ hc1; clear hr1 hc1; unfold laws_eqIntS.f at h; have H := h; clear h
 by_cases c3 : (l0.length : Int) = (l1.length : Int)
 ·rw [if_pos c3] at H
  have az : ((l0.length : Int) == (l1.length : Int)) = true := beq_iff_eq.mpr c3
  have aT : ((l0.length : Int) != (l1.length : Int)) = false := bne_eq_false_iff_eq.mpr c3
  have aU : (l0.length == l1.length) = true := by first | simpa using c3 | (simp at c3 ⊢; omega)
  clear c3
  have H' := A_ H
  clear H; go_enter Try.func19, Try.ntmps19
  go_wp2
  repeat (go_quiet (fail); try go_wp2)
  go_loopg [5] k (fun kq v5 w' => ∃ (aa : Int), v5 = .int .i64 aa ∧ Aside0 (laws_eqIntS.l0 kq l0 l1 aa = some r) ∧ Aside0 (kq ≤ k) ∧ Drawn0 w w')
  case atStart => exact ⟨(0), (by rfl), H', ⟨Nat.le_refl _⟩, by repeat (first | exact Drawn0.refl _ | apply Drawn0.step)⟩
  case round =>
   clear H'
   clear az aT aU
   obtain ⟨aa, rfl, HA, bE, ⟨m1, rfl⟩⟩ := hrel
   cases gk with
   | zero => exact nz_ HA.o
   | succ k1 =>
    have H := HA.o; clear HA; simp only [laws_eqIntS.l0] at H
    by_cases c4 : aa < (l0.length : Int)
    ·rw [if_pos c4] at H; have bh := decide_eq_true c4; clear c4
     by_cases c5 : 0 ≤ aa
     ·rw [if_pos c5] at H; have bO := decide_eq_true c5; clear c5
      by_cases c6 : aa < (l1.length : Int)
      ·rw [if_pos c6] at H; have cV := decide_eq_true c6; clear c6
       by_cases c7 : (rd l0 aa) = (rd l1 aa)
       ·rw [if_pos c7] at H
        have dk : ((rd l0 aa) == (rd l1 aa)) = true := beq_iff_eq.mpr c7
        have dm : ((rd l0 aa) != (rd l1 aa)) = false := bne_eq_false_iff_eq.mpr c7
        clear c7
        have H' := A_ H
        clear H
        have bi : 0 ≤ (aa : Int) := oa_
        have bq : aa < (l0.length : Int) := oa_
        obtain ⟨cO, cA, bP⟩ := Kd.at_int HR0.o aa bi bq
        cases cA
        replace bi := eq_true bi; replace bq := eq_true bq
        have bj : 0 ≤ (aa : Int) := oa_
        have br : aa < (l1.length : Int) := oa_
        obtain ⟨cP, cB, bQ⟩ := Kd.at_int HR1.o aa bj br
        cases cB
        replace bj := eq_true bj; replace br := eq_true br
        go_wp2
        repeat (go_quiet (fail); try go_wp2)
        go_roundg k1
        case measure => have := bE.o; omega
        case rel => exact ⟨(wrap64 (aa + 1)), (by rfl), H', ⟨by have := bE.o; omega⟩, by repeat (first | exact Drawn0.refl _ | apply Drawn0.step)⟩
       rw [if_neg c7] at H
       have dk : ((rd l0 aa) == (rd l1 aa)) = false := beq_eq_false_iff_ne.mpr c7
       have dm : ((rd l0 aa) != (rd l1 aa)) = true := bne_iff_ne.mpr c7
       obtain rfl := Option.some.inj H
       have bi : 0 ≤ (aa : Int) := oa_
       have bq : aa < (l0.length : Int) := oa_
       obtain ⟨cO, cA, bP⟩ := Kd.at_int HR0.o aa bi bq
       cases cA
       replace bi := eq_true bi; replace bq := eq_true bq
       have bj : 0 ≤ (aa : Int) := oa_
       have br : aa < (l1.length : Int) := oa_
       obtain ⟨cP, cB, bQ⟩ := Kd.at_int HR1.o aa bj br
       cases cB
       replace bj := eq_true bj; replace br := eq_true br
       go_wp2
       repeat (go_quiet (fail); try go_wp2)
       go_ret
       exact ⟨by rfl, by repeat (first | exact Drawn0.refl _ | apply Drawn0.step)⟩
      rw [if_neg c6] at H
      cases H
     rw [if_neg c5] at H
     cases H
    rw [if_neg c4] at H; have bh := decide_eq_false c4; clear c4; obtain rfl := Option.some.inj H
    go_wp2
    repeat (go_quiet (fail); try go_wp2)
    go_ret
    exact ⟨by rfl, by repeat (first | exact Drawn0.refl _ | apply Drawn0.step)⟩
 rw [if_neg c3] at H
 have az : ((l0.length : Int) == (l1.length : Int)) = false := beq_eq_false_iff_ne.mpr c3
 have aT : ((l0.length : Int) != (l1.length : Int)) = true := bne_iff_ne.mpr c3
 have aU : (l0.length == l1.length) = false := by first | simpa using c3 | (simp at c3 ⊢; omega)
 obtain rfl := Option.some.inj H; go_enter Try.func19, Try.ntmps19
 go_wp2
 repeat (go_quiet (fail); try go_wp2)
 go_ret
 exact ⟨by rfl, by repeat (first | exact Drawn0.refl _ | apply Drawn0.step)⟩

def laws_eqIntSS.l0 : Nat → List (List Int) → List (List Int) → Int → Option (Bool)
 | 0, _, _, _ => none
 | k + 1, x0, x1, x5 => if x5 < (x0.length : Int) then (if 0 ≤ x5 then (if x5 < (x1.length : Int) then ((laws_eqIntS.f k (rd_L1 x0 x5) (rd_L1 x1 x5)).bind fun cH => (if cH = true then (laws_eqIntSS.l0 k x0 x1 (wrap64 (x5 + 1))) else (some false))) else (none)) else (none)) else (some true)
def laws_eqIntSS.f (k : Nat) (l0 : List (List Int)) (l1 : List (List Int)) : Option (Bool) := if (l0.length : Int) = (l1.length : Int) then (laws_eqIntSS.l0 k l0 l1 0) else (some false)
theorem laws_eqIntSS.mono_l : ∀ k, (∀ y0 y1 y2, LeO (laws_eqIntSS.l0 k y0 y1 y2) (laws_eqIntSS.l0 (k + 1) y0 y1 y2))
 | 0 => fun _ _ _ r h => by simp [laws_eqIntSS.l0] at h
 | k + 1 => by
  have ih0 := laws_eqIntSS.mono_l k
  ·intro y0 y1 y2; unfold laws_eqIntSS.l0
   with_reducible repeat' first | exact ih0 _ _ _ | exact laws_eqIntS.mono _ _ _ | exact LeO.refl _ | exact LeO.none _ | refine LeO.ite ?_ ?_ | refine LeO.bind ?_ (fun _ => ?_)
theorem laws_eqIntSS.mono : ∀ a0 a1 k, LeO (laws_eqIntSS.f k a0 a1) (laws_eqIntSS.f (k + 1) a0 a1) := by
 intro a0 a1 k; have ih0 := laws_eqIntSS.mono_l k; unfold laws_eqIntSS.f
 with_reducible repeat' first | exact ih0 _ _ _ | exact laws_eqIntS.mono _ _ _ | exact LeO.refl _ | exact LeO.none _ | refine LeO.ite ?_ ?_ | refine LeO.bind ?_ (fun _ => ?_)
theorem laws_eqIntSS.calls (k : Nat) (A0 : Option Addr) (c0 : Nat) (l0 : List (List Int)) (A1 : Option Addr) (c1 : Nat) (l1 : List (List Int)) (r : Bool) (w : World) (hr0 : Kd.C (Kd.slice 3 (Kd.int .i64)) w A0 l0.length l0) (hc0 : l0.length ≤ c0) (hr1 : Kd.C (Kd.slice 3 (Kd.int .i64)) w A1 l1.length l1) (hc1 : l1.length ≤ c1) (h : laws_eqIntSS.f k l0 l1 = some r) :
  Calls Try.prog 31 #[.slice A0 l0.length c0, .slice A1 l1.length c1] w fun e w' => e = .returned (.bool r) ∧ Drawn0 w w' := by
 have HR0 := A_ hr0; have HC0 := A_ hc0; clear hr0 hc0; have HR1 := A_ hr1; have HC1 := A_ hc1; clear hr1 hc1; unfold laws_eqIntSS.f at h; have H := h; clear h
 by_cases c3 : (l0.length : Int) = (l1.length : Int)
 ·rw [if_pos c3] at H
  have az : ((l0.length : Int) == (l1.length : Int)) = true := beq_iff_eq.mpr c3
  have aT : ((l0.length : Int) != (l1.length : Int)) = false := bne_eq_false_iff_eq.mpr c3
  have aU : (l0.length == l1.length) = true := by first | simpa using c3 | (simp at c3 ⊢; omega)
  clear c3
  have H' := A_ H
  clear H; go_enter Try.func31, Try.ntmps31
  go_wp2
  repeat (go_quiet (fail); try go_wp2)
  go_loopg [5] k (fun kq v5 w' => ∃ (aa : Int), v5 = .int .i64 aa ∧ Aside0 (laws_eqIntSS.l0 kq l0 l1 aa = some r) ∧ Aside0 (kq ≤ k) ∧ Drawn0 w w')
  case atStart => exact ⟨(0), (by rfl), H', ⟨Nat.le_refl _⟩, by repeat (first | exact Drawn0.refl _ | apply Drawn0.step)⟩
  case round =>
   clear H'
   clear az aT aU
   obtain ⟨aa, rfl, HA, bE, ⟨m1, rfl⟩⟩ := hrel
   cases gk with
   | zero => exact nz_ HA.o
   | succ k1 =>
    have H := HA.o; clear HA; simp only [laws_eqIntSS.l0] at H
    by_cases c4 : aa < (l0.length : Int)
    ·rw [if_pos c4] at H; have bh := decide_eq_true c4; clear c4
     by_cases c5 : 0 ≤ aa
     ·rw [if_pos c5] at H; have bO := decide_eq_true c5; clear c5
      by_cases c6 : aa < (l1.length : Int)
      ·rw [if_pos c6] at H; have cV := decide_eq_true c6; clear c6; replace H := bA_ H; obtain ⟨cH, A7, H⟩ := H
       by_cases c8 : cH = true
       ·subst c8; rw [if_pos rfl] at H
        have H' := A_ H
        clear H
        have bk : 0 ≤ (aa : Int) := oa_
        have bs : aa < (l0.length : Int) := oa_
        obtain ⟨cQ, cf, ck, cC, bR, aG, aA⟩ := at_L1 HR0.o aa bk bs
        cases cC
        have al := A_ aA; have ah := A_ aG; clear aA aG; replace bk := eq_true bk; replace bs := eq_true bs
        have bl : 0 ≤ (aa : Int) := oa_
        have bu : aa < (l1.length : Int) := oa_
        obtain ⟨cR, cg, co, cD, bS, aH, aC⟩ := at_L1 HR1.o aa bl bu
        cases cD
        have am := A_ aC; have ai := A_ aH; clear aC aH; replace bl := eq_true bl; replace bu := eq_true bu
        go_wp2_with (first | (go_at_call 19; (with_reducible refine (laws_eqIntS.calls k1 _ _ (rd_L1 l0 aa) _ _ (rd_L1 l1 aa) true _ ?side1 ?side2 ?side3 ?side4 A7.o).mono ?_); (case side1 => repeat (first | exact al.o | (with_reducible refine Kd.C_alloc ?_ _) | (with_reducible refine Kd.C_drewN ?_ _) | (with_reducible refine Kd.C_drew ?_))); (case side2 => exact ah.o); (case side3 => repeat (first | exact am.o | (with_reducible refine Kd.C_alloc ?_ _) | (with_reducible refine Kd.C_drewN ?_ _) | (with_reducible refine Kd.C_drew ?_))); (case side4 => exact ai.o); rintro e w' ⟨rfl, ⟨nd, rfl⟩⟩; skip))
        repeat (go_quiet (first | (go_at_call 19; (with_reducible refine (laws_eqIntS.calls k1 _ _ (rd_L1 l0 aa) _ _ (rd_L1 l1 aa) true _ ?side1 ?side2 ?side3 ?side4 A7.o).mono ?_); (case side1 => repeat (first | exact al.o | (with_reducible refine Kd.C_alloc ?_ _) | (with_reducible refine Kd.C_drewN ?_ _) | (with_reducible refine Kd.C_drew ?_))); (case side2 => exact ah.o); (case side3 => repeat (first | exact am.o | (with_reducible refine Kd.C_alloc ?_ _) | (with_reducible refine Kd.C_drewN ?_ _) | (with_reducible refine Kd.C_drew ?_))); (case side4 => exact ai.o); rintro e w' ⟨rfl, ⟨nd, rfl⟩⟩; exact ⟨rfl, _, Eq.trans (World.drewN_drewN _ _ _) (congrArg (World.drewN _) (Nat.add_assoc _ _ _))⟩)); try go_wp2_with (first | (go_at_call 19; (with_reducible refine (laws_eqIntS.calls k1 _ _ (rd_L1 l0 aa) _ _ (rd_L1 l1 aa) true _ ?side1 ?side2 ?side3 ?side4 A7.o).mono ?_); (case side1 => repeat (first | exact al.o | (with_reducible refine Kd.C_alloc ?_ _) | (with_reducible refine Kd.C_drewN ?_ _) | (with_reducible refine Kd.C_drew ?_))); (case side2 => exact ah.o); (case side3 => repeat (first | exact am.o | (with_reducible refine Kd.C_alloc ?_ _) | (with_reducible refine Kd.C_drewN ?_ _) | (with_reducible refine Kd.C_drew ?_))); (case side4 => exact ai.o); rintro e w' ⟨rfl, ⟨nd, rfl⟩⟩; skip)))
        go_roundg k1
        case measure => have := bE.o; omega
        case rel => exact ⟨(wrap64 (aa + 1)), (by rfl), H', ⟨by have := bE.o; omega⟩, by repeat (first | exact Drawn0.refl _ | apply Drawn0.step)⟩
       replace c8 := Bool.eq_false_iff.mpr c8; subst c8; rw [if_neg nf_] at H; obtain rfl := Option.some.inj H
       have bk : 0 ≤ (aa : Int) := oa_
       have bs : aa < (l0.length : Int) := oa_
       obtain ⟨cQ, cf, ck, cC, bR, aG, aA⟩ := at_L1 HR0.o aa bk bs
       cases cC
       have al := A_ aA; have ah := A_ aG; clear aA aG; replace bk := eq_true bk; replace bs := eq_true bs
       have bl : 0 ≤ (aa : Int) := oa_
       have bu : aa < (l1.length : Int) := oa_
       obtain ⟨cR, cg, co, cD, bS, aH, aC⟩ := at_L1 HR1.o aa bl bu
       cases cD
       have am := A_ aC; have ai := A_ aH; clear aC aH; replace bl := eq_true bl; replace bu := eq_true bu
       go_wp2_with (first | (go_at_call 19; (with_reducible refine (laws_eqIntS.calls k1 _ _ (rd_L1 l0 aa) _ _ (rd_L1 l1 aa) false _ ?side1 ?side2 ?side3 ?side4 A7.o).mono ?_); (case side1 => repeat (first | exact al.o | (with_reducible refine Kd.C_alloc ?_ _) | (with_reducible refine Kd.C_drewN ?_ _) | (with_reducible refine Kd.C_drew ?_))); (case side2 => exact ah.o); (case side3 => repeat (first | exact am.o | (with_reducible refine Kd.C_alloc ?_ _) | (with_reducible refine Kd.C_drewN ?_ _) | (with_reducible refine Kd.C_drew ?_))); (case side4 => exact ai.o); rintro e w' ⟨rfl, ⟨nd, rfl⟩⟩; skip))
       repeat (go_quiet (first | (go_at_call 19; (with_reducible refine (laws_eqIntS.calls k1 _ _ (rd_L1 l0 aa) _ _ (rd_L1 l1 aa) false _ ?side1 ?side2 ?side3 ?side4 A7.o).mono ?_); (case side1 => repeat (first | exact al.o | (with_reducible refine Kd.C_alloc ?_ _) | (with_reducible refine Kd.C_drewN ?_ _) | (with_reducible refine Kd.C_drew ?_))); (case side2 => exact ah.o); (case side3 => repeat (first | exact am.o | (with_reducible refine Kd.C_alloc ?_ _) | (with_reducible refine Kd.C_drewN ?_ _) | (with_reducible refine Kd.C_drew ?_))); (case side4 => exact ai.o); rintro e w' ⟨rfl, ⟨nd, rfl⟩⟩; exact ⟨rfl, _, Eq.trans (World.drewN_drewN _ _ _) (congrArg (World.drewN _) (Nat.add_assoc _ _ _))⟩)); try go_wp2_with (first | (go_at_call 19; (with_reducible refine (laws_eqIntS.calls k1 _ _ (rd_L1 l0 aa) _ _ (rd_L1 l1 aa) false _ ?side1 ?side2 ?side3 ?side4 A7.o).mono ?_); (case side1 => repeat (first | exact al.o | (with_reducible refine Kd.C_alloc ?_ _) | (with_reducible refine Kd.C_drewN ?_ _) | (with_reducible refine Kd.C_drew ?_))); (case side2 => exact ah.o); (case side3 => repeat (first | exact am.o | (with_reducible refine Kd.C_alloc ?_ _) | (with_reducible refine Kd.C_drewN ?_ _) | (with_reducible refine Kd.C_drew ?_))); (case side4 => exact ai.o); rintro e w' ⟨rfl, ⟨nd, rfl⟩⟩; skip)))
       go_ret
       exact ⟨by rfl, by repeat (first | exact Drawn0.refl _ | apply Drawn0.step)⟩
      rw [if_neg c6] at H
      cases H
     rw [if_neg c5] at H
     cases H
    rw [if_neg c4] at H; have bh := decide_eq_false c4; clear c4; obtain rfl := Option.some.inj H
    go_wp2
    repeat (go_quiet (fail); try go_wp2)
    go_ret
    exact ⟨by rfl, by repeat (first | exact Drawn0.refl _ | apply Drawn0.step)⟩
 rw [if_neg c3] at H
 have az : ((l0.length : Int) == (l1.length : Int)) = false := beq_eq_false_iff_ne.mpr c3
 have aT : ((l0.length : Int) != (l1.length : Int)) = true := bne_iff_ne.mpr c3
 have aU : (l0.length == l1.length) = false := by first | simpa using c3 | (simp at c3 ⊢; omega)
 obtain rfl := Option.some.inj H; go_enter Try.func31, Try.ntmps31
 go_wp2
 repeat (go_quiet (fail); try go_wp2)
 go_ret
 exact ⟨by rfl, by repeat (first | exact Drawn0.refl _ | apply Drawn0.step)⟩

def laws_eqIntSSS.l0 : Nat → List (List (List Int)) → List (List (List Int)) → Int → Option (Bool)
 | 0, _, _, _ => none
 | k + 1, x0, x1, x5 => if x5 < (x0.length : Int) then (if 0 ≤ x5 then (if x5 < (x1.length : Int) then ((laws_eqIntSS.f k (rd_L2 x0 x5) (rd_L2 x1 x5)).bind fun cI => (if cI = true then (laws_eqIntSSS.l0 k x0 x1 (wrap64 (x5 + 1))) else (some false))) else (none)) else (none)) else (some true)
def laws_eqIntSSS.f (k : Nat) (l0 : List (List (List Int))) (l1 : List (List (List Int))) : Option (Bool) := if (l0.length : Int) = (l1.length : Int) then (laws_eqIntSSS.l0 k l0 l1 0) else (some false)
theorem laws_eqIntSSS.mono_l : ∀ k, (∀ y0 y1 y2, LeO (laws_eqIntSSS.l0 k y0 y1 y2) (laws_eqIntSSS.l0 (k + 1) y0 y1 y2))
 | 0 => fun _ _ _ r h => by simp [laws_eqIntSSS.l0] at h
 | k + 1 => by
  have ih0 := laws_eqIntSSS.mono_l k
  ·intro y0 y1 y2; unfold laws_eqIntSSS.l0
   with_reducible repeat' first | exact ih0 _ _ _ | exact laws_eqIntSS.mono _ _ _ | exact LeO.refl _ | exact LeO.none _ | refine LeO.ite ?_ ?_ | refine LeO.bind ?_ (fun _ => ?_)
theorem laws_eqIntSSS.mono : ∀ a0 a1 k, LeO (laws_eqIntSSS.f k a0 a1) (laws_eqIntSSS.f (k + 1) a0 a1) := by
 intro a0 a1 k; have ih0 := laws_eqIntSSS.mono_l k; unfold laws_eqIntSSS.f
 with_reducible repeat' first | exact ih0 _ _ _ | exact laws_eqIntSS.mono _ _ _ | exact LeO.refl _ | exact LeO.none _ | refine LeO.ite ?_ ?_ | refine LeO.bind ?_ (fun _ => ?_)
theorem laws_eqIntSSS.calls (k : Nat) (A0 : Option Addr) (c0 : Nat) (l0 : List (List (List Int))) (A1 : Option Addr) (c1 : Nat) (l1 : List (List (List Int))) (r : Bool) (w : World) (hr0 : Kd.C (Kd.slice 22 (Kd.slice 3 (Kd.int .i64))) w A0 l0.length l0) (hc0 : l0.length ≤ c0) (hr1 : Kd.C (Kd.slice 22 (Kd.slice 3 (Kd.int .i64))) w A1 l1.length l1) (hc1 : l1.length ≤ c1) (h : laws_eqIntSSS.f k l0 l1 = some r) :
  Calls Try.prog 20 #[.slice A0 l0.length c0, .slice A1 l1.length c1] w fun e w' => e = .returned (.bool r) ∧ Drawn0 w w' := by
 have HR0 := A_ hr0; have HC0 := A_ hc0; clear hr0 hc0; have HR1 := A_ hr1; have HC1 := A_ hc1; clear hr1 hc1; unfold laws_eqIntSSS.f at h; have H := h; clear h
 by_cases c3 : (l0.length : Int) = (l1.length : Int)
 ·rw [if_pos c3] at H
  have az : ((l0.length : Int) == (l1.length : Int)) = true := beq_iff_eq.mpr c3
  have aT : ((l0.length : Int) != (l1.length : Int)) = false := bne_eq_false_iff_eq.mpr c3
  have aU : (l0.length == l1.length) = true := by first | simpa using c3 | (simp at c3 ⊢; omega)
  clear c3
  have H' := A_ H
  clear H; go_enter Try.func20, Try.ntmps20
  go_wp2
  repeat (go_quiet (fail); try go_wp2)
  go_loopg [5] k (fun kq v5 w' => ∃ (aa : Int), v5 = .int .i64 aa ∧ Aside0 (laws_eqIntSSS.l0 kq l0 l1 aa = some r) ∧ Aside0 (kq ≤ k) ∧ Drawn0 w w')
  case atStart => exact ⟨(0), (by rfl), H', ⟨Nat.le_refl _⟩, by repeat (first | exact Drawn0.refl _ | apply Drawn0.step)⟩
  case round =>
   clear H'
   clear az aT aU
   obtain ⟨aa, rfl, HA, bE, ⟨m1, rfl⟩⟩ := hrel
   cases gk with
   | zero => exact nz_ HA.o
   | succ k1 =>
    have H := HA.o; clear HA; simp only [laws_eqIntSSS.l0] at H
    by_cases c4 : aa < (l0.length : Int)
    ·rw [if_pos c4] at H; have bh := decide_eq_true c4; clear c4
     by_cases c5 : 0 ≤ aa
     ·rw [if_pos c5] at H; have bO := decide_eq_true c5; clear c5
      by_cases c6 : aa < (l1.length : Int)
      ·rw [if_pos c6] at H; have cV := decide_eq_true c6; clear c6; replace H := bA_ H; obtain ⟨cI, A7, H⟩ := H
       by_cases c8 : cI = true
       ·subst c8; rw [if_pos rfl] at H
        have H' := A_ H
        clear H
        have bm : 0 ≤ (aa : Int) := oa_
        have bv : aa < (l0.length : Int) := oa_
        obtain ⟨cS, ch, ct, cE, bT, aI, aD⟩ := at_L2 HR0.o aa bm bv
        cases cE
        have an := A_ aD; have aj := A_ aI; clear aD aI; replace bm := eq_true bm; replace bv := eq_true bv
        have bn : 0 ≤ (aa : Int) := oa_
        have bw : aa < (l1.length : Int) := oa_
        obtain ⟨cT, ci, cw, cF, bU, aJ, aE⟩ := at_L2 HR1.o aa bn bw
        cases cF
        have ao := A_ aE; have ak := A_ aJ; clear aE aJ; replace bn := eq_true bn; replace bw := eq_true bw
        go_wp2_with (first | (go_at_call 31; (with_reducible refine (laws_eqIntSS.calls k1 _ _ (rd_L2 l0 aa) _ _ (rd_L2 l1 aa) true _ ?side1 ?side2 ?side3 ?side4 A7.o).mono ?_); (case side1 => repeat (first | exact an.o | (with_reducible refine Kd.C_alloc ?_ _) | (with_reducible refine Kd.C_drewN ?_ _) | (with_reducible refine Kd.C_drew ?_))); (case side2 => exact aj.o); (case side3 => repeat (first | exact ao.o | (with_reducible refine Kd.C_alloc ?_ _) | (with_reducible refine Kd.C_drewN ?_ _) | (with_reducible refine Kd.C_drew ?_))); (case side4 => exact ak.o); rintro e w' ⟨rfl, ⟨nd, rfl⟩⟩; skip))
        repeat (go_quiet (first | (go_at_call 31; (with_reducible refine (laws_eqIntSS.calls k1 _ _ (rd_L2 l0 aa) _ _ (rd_L2 l1 aa) true _ ?side1 ?side2 ?side3 ?side4 A7.o).mono ?_); (case side1 => repeat (first | exact an.o | (with_reducible refine Kd.C_alloc ?_ _) | (with_reducible refine Kd.C_drewN ?_ _) | (with_reducible refine Kd.C_drew ?_))); (case side2 => exact aj.o); (case side3 => repeat (first | exact ao.o | (with_reducible refine Kd.C_alloc ?_ _) | (with_reducible refine Kd.C_drewN ?_ _) | (with_reducible refine Kd.C_drew ?_))); (case side4 => exact ak.o); rintro e w' ⟨rfl, ⟨nd, rfl⟩⟩; exact ⟨rfl, _, Eq.trans (World.drewN_drewN _ _ _) (congrArg (World.drewN _) (Nat.add_assoc _ _ _))⟩)); try go_wp2_with (first | (go_at_call 31; (with_reducible refine (laws_eqIntSS.calls k1 _ _ (rd_L2 l0 aa) _ _ (rd_L2 l1 aa) true _ ?side1 ?side2 ?side3 ?side4 A7.o).mono ?_); (case side1 => repeat (first | exact an.o | (with_reducible refine Kd.C_alloc ?_ _) | (with_reducible refine Kd.C_drewN ?_ _) | (with_reducible refine Kd.C_drew ?_))); (case side2 => exact aj.o); (case side3 => repeat (first | exact ao.o | (with_reducible refine Kd.C_alloc ?_ _) | (with_reducible refine Kd.C_drewN ?_ _) | (with_reducible refine Kd.C_drew ?_))); (case side4 => exact ak.o); rintro e w' ⟨rfl, ⟨nd, rfl⟩⟩; skip)))
        go_roundg k1
        case measure => have := bE.o; omega
        case rel => exact ⟨(wrap64 (aa + 1)), (by rfl), H', ⟨by have := bE.o; omega⟩, by repeat (first | exact Drawn0.refl _ | apply Drawn0.step)⟩
       replace c8 := Bool.eq_false_iff.mpr c8; subst c8; rw [if_neg nf_] at H; obtain rfl := Option.some.inj H
       have bm : 0 ≤ (aa : Int) := oa_
       have bv : aa < (l0.length : Int) := oa_
       obtain ⟨cS, ch, ct, cE, bT, aI, aD⟩ := at_L2 HR0.o aa bm bv
       cases cE
       have an := A_ aD; have aj := A_ aI; clear aD aI; replace bm := eq_true bm; replace bv := eq_true bv
       have bn : 0 ≤ (aa : Int) := oa_
       have bw : aa < (l1.length : Int) := oa_
       obtain ⟨cT, ci, cw, cF, bU, aJ, aE⟩ := at_L2 HR1.o aa bn bw
       cases cF
       have ao := A_ aE; have ak := A_ aJ; clear aE aJ; replace bn := eq_true bn; replace bw := eq_true bw
       go_wp2_with (first | (go_at_call 31; (with_reducible refine (laws_eqIntSS.calls k1 _ _ (rd_L2 l0 aa) _ _ (rd_L2 l1 aa) false _ ?side1 ?side2 ?side3 ?side4 A7.o).mono ?_); (case side1 => repeat (first | exact an.o | (with_reducible refine Kd.C_alloc ?_ _) | (with_reducible refine Kd.C_drewN ?_ _) | (with_reducible refine Kd.C_drew ?_))); (case side2 => exact aj.o); (case side3 => repeat (first | exact ao.o | (with_reducible refine Kd.C_alloc ?_ _) | (with_reducible refine Kd.C_drewN ?_ _) | (with_reducible refine Kd.C_drew ?_))); (case side4 => exact ak.o); rintro e w' ⟨rfl, ⟨nd, rfl⟩⟩; skip))
       repeat (go_quiet (first | (go_at_call 31; (with_reducible refine (laws_eqIntSS.calls k1 _ _ (rd_L2 l0 aa) _ _ (rd_L2 l1 aa) false _ ?side1 ?side2 ?side3 ?side4 A7.o).mono ?_); (case side1 => repeat (first | exact an.o | (with_reducible refine Kd.C_alloc ?_ _) | (with_reducible refine Kd.C_drewN ?_ _) | (with_reducible refine Kd.C_drew ?_))); (case side2 => exact aj.o); (case side3 => repeat (first | exact ao.o | (with_reducible refine Kd.C_alloc ?_ _) | (with_reducible refine Kd.C_drewN ?_ _) | (with_reducible refine Kd.C_drew ?_))); (case side4 => exact ak.o); rintro e w' ⟨rfl, ⟨nd, rfl⟩⟩; exact ⟨rfl, _, Eq.trans (World.drewN_drewN _ _ _) (congrArg (World.drewN _) (Nat.add_assoc _ _ _))⟩)); try go_wp2_with (first | (go_at_call 31; (with_reducible refine (laws_eqIntSS.calls k1 _ _ (rd_L2 l0 aa) _ _ (rd_L2 l1 aa) false _ ?side1 ?side2 ?side3 ?side4 A7.o).mono ?_); (case side1 => repeat (first | exact an.o | (with_reducible refine Kd.C_alloc ?_ _) | (with_reducible refine Kd.C_drewN ?_ _) | (with_reducible refine Kd.C_drew ?_))); (case side2 => exact aj.o); (case side3 => repeat (first | exact ao.o | (with_reducible refine Kd.C_alloc ?_ _) | (with_reducible refine Kd.C_drewN ?_ _) | (with_reducible refine Kd.C_drew ?_))); (case side4 => exact ak.o); rintro e w' ⟨rfl, ⟨nd, rfl⟩⟩; skip)))
       go_ret
       exact ⟨by rfl, by repeat (first | exact Drawn0.refl _ | apply Drawn0.step)⟩
      rw [if_neg c6] at H
      cases H
     rw [if_neg c5] at H
     cases H
    rw [if_neg c4] at H; have bh := decide_eq_false c4; clear c4; obtain rfl := Option.some.inj H
    go_wp2
    repeat (go_quiet (fail); try go_wp2)
    go_ret
    exact ⟨by rfl, by repeat (first | exact Drawn0.refl _ | apply Drawn0.step)⟩
 rw [if_neg c3] at H
 have az : ((l0.length : Int) == (l1.length : Int)) = false := beq_eq_false_iff_ne.mpr c3
 have aT : ((l0.length : Int) != (l1.length : Int)) = true := bne_iff_ne.mpr c3
 have aU : (l0.length == l1.length) = false := by first | simpa using c3 | (simp at c3 ⊢; omega)
 obtain rfl := Option.some.inj H; go_enter Try.func20, Try.ntmps20
 go_wp2
 repeat (go_quiet (fail); try go_wp2)
 go_ret
 exact ⟨by rfl, by repeat (first | exact Drawn0.refl _ | apply Drawn0.step)⟩

def laws_eqLinear.f (k : Nat) (ax : Int) (aq : List Int) (au : List (List (List Int))) (aM : List Int) (ay : Int) (ar : List Int) (av : List (List (List Int))) (aN : List Int) : Option (Bool) := if ax = ay then ((laws_eqIntS.f k aq ar).bind fun cJ => (if cJ = true then ((laws_eqIntSSS.f k au av).bind fun cK => (if cK = true then ((laws_eqIntS.f k aM aN).bind fun cL => (if cL = true then (some true) else (some false))) else (some false))) else (some false))) else (some false)
theorem laws_eqLinear.mono : ∀ a0 a1 a2 a3 a4 a5 a6 a7 k, LeO (laws_eqLinear.f k a0 a1 a2 a3 a4 a5 a6 a7) (laws_eqLinear.f (k + 1) a0 a1 a2 a3 a4 a5 a6 a7) := by
 intro a0 a1 a2 a3 a4 a5 a6 a7 k; unfold laws_eqLinear.f
 with_reducible repeat' first | exact laws_eqIntS.mono _ _ _ | exact laws_eqIntSSS.mono _ _ _ | exact LeO.refl _ | exact LeO.none _ | refine LeO.ite ?_ ?_ | refine LeO.bind ?_ (fun _ => ?_)
theorem laws_eqLinear.calls (k : Nat) (ax : Int) (aV : Option Addr) (ba : Nat) (aq : List Int) (aW : Option Addr) (bb : Nat) (au : List (List (List Int))) (aX : Option Addr) (bc : Nat) (aM : List Int) (ay : Int) (aY : Option Addr) (be : Nat) (ar : List Int) (a8 : Option Addr) (bf : Nat) (av : List (List (List Int))) (a9 : Option Addr) (bg : Nat) (aN : List Int) (r : Bool) (w : World) (b7 : Kd.C (Kd.int .i64) w aV aq.length aq) (b1 : aq.length ≤ ba) (b8 : Kd.C (Kd.slice 22 (Kd.slice 3 (Kd.int .i64))) w aW au.length au) (b2 : au.length ≤ bb) (b9 : Kd.C (Kd.int .i64) w aX aM.length aM) (b3 : aM.length ≤ bc) (ca : Kd.C (Kd.int .i64) w aY ar.length ar) (b4 : ar.length ≤ be) (cc : Kd.C (Kd.slice 22 (Kd.slice 3 (Kd.int .i64))) w a8 av.length av) (b5 : av.length ≤ bf) (cd : Kd.C (Kd.int .i64) w a9 aN.length aN) (b6 : aN.length ≤ bg) (h : laws_eqLinear.f k ax aq au aM ay ar av aN = some r) :
  Calls Try.prog 8 #[.agg #[.int .i64 ax, .slice aV aq.length ba, .slice aW au.length bb, .slice aX aM.length bc], .agg #[.int .i64 ay, .slice aY ar.length be, .slice a8 av.length bf, .slice a9 aN.length bg]] w fun e w' => e = .returned (.bool r) ∧ Below w.heap.size w w' := by
 have hu27 := Try.underlying27; have bF := A_ b7; have bC := A_ b1; clear b7 b1; have bL := A_ b8; have bJ := A_ b2; clear b8 b2; have bY := A_ b9; have bW := A_ b3; clear b9 b3; have bG := A_ ca; have bD := A_ b4; clear ca b4; have bM := A_ cc; have bK := A_ b5; clear cc b5; have bZ := A_ cd; have bX := A_ b6; clear cd b6; have HB := A_ (Below.refl w.heap.size w); unfold laws_eqLinear.f at h; have H := h; clear h
 by_cases c3 : ax = ay
 ·rw [if_pos c3] at H
  have az : (ax == ay) = true := beq_iff_eq.mpr c3
  have aT : (ax != ay) = false := bne_eq_false_iff_eq.mpr c3
  clear c3; replace H := bA_ H; obtain ⟨cJ, A4, H⟩ := H
  by_cases c5 : cJ = true
  ·subst c5; rw [if_pos rfl] at H; replace H := bA_ H; obtain ⟨cK, A6, H⟩ := H
   by_cases c7 : cK = true
   ·subst c7; rw [if_pos rfl] at H; replace H := bA_ H; obtain ⟨cL, A8, H⟩ := H
    by_cases c9 : cL = true
    ·subst c9; rw [if_pos rfl] at H; obtain rfl := Option.some.inj H; go_enter Try.func8, Try.ntmps8
     go_wp2_with (first | ((with_reducible refine gate_dst (N := 2) rfl ?_); refine box_event rfl (N := 2) rfl (cs := #[.int .i64 ax, .slice aV aq.length ba, .slice aW au.length bb, .slice aX aM.length bc]) (t := 27) (by go_simp; done) ?_; intro bH hg w10 hbox hb; have ab := A_ (hbox); have bA := A_ (lg_ (below_size HB.o) hg); have af := A_ (lg_ (below_size HB.o) hg); replace HB := bs_ HB hb; clear hb hbox hg) | ((with_reducible refine gate_dst (N := 3) rfl ?_); refine box_event rfl (N := 3) rfl (cs := #[.int .i64 ay, .slice aY ar.length be, .slice a8 av.length bf, .slice a9 aN.length bg]) (t := 27) (by go_simp; done) ?_; intro bI hg w11 hbox hb; have aw := A_ (hbox); have bB := A_ (lg_ (below_size HB.o) hg); have ag := A_ (lg_ (below_size HB.o) hg); replace HB := bs_ HB hb; have ac := nl_ ab hg; have ae := ng_ ab hg; replace ab := bb_ ab hb; clear hb hbox hg; have dr := ac.o; have dx := ae.o; have cX := bq4 ab.o; have cY := bq4 aw.o) | ((with_reducible refine gc_ 19 rfl ?_); refine cL_ E19 14 rfl rfl rfl (laws_eqIntS.calls k _ _ aq _ _ ar true _ (Kd.C_below bF.o HB.o) bC.o (Kd.C_below bG.o HB.o) bD.o A4.o) (by (try simp only [mA, mB, mC]); first | done | rfl | (simp only [List.length_drop, List.length_take]; rfl)) ?_; rintro e w' ⟨rfl, ⟨nd, rfl⟩⟩; refine ⟨_, rfl, ?_⟩) | ((with_reducible refine gc_ 20 rfl ?_); refine cM_ E20 20 (laws_eqIntSSS.calls k _ _ au _ _ av true _ (by repeat (first | exact (Kd.C_below bL.o (by repeat (first | (with_reducible first | exact HB.o | apply below_alloc | apply pw_below_drewN | apply below_drew1 | refine below_set ?_ af.o | refine below_set ?_ ag.o) | exact HB.o))) | (with_reducible refine Kd.C_alloc ?_ _) | (with_reducible refine Kd.C_drewN ?_ _) | (with_reducible refine Kd.C_drew ?_))) bJ.o (by repeat (first | exact (Kd.C_below bM.o (by repeat (first | (with_reducible first | exact HB.o | apply below_alloc | apply pw_below_drewN | apply below_drew1 | refine below_set ?_ af.o | refine below_set ?_ ag.o) | exact HB.o))) | (with_reducible refine Kd.C_alloc ?_ _) | (with_reducible refine Kd.C_drewN ?_ _) | (with_reducible refine Kd.C_drew ?_))) bK.o A6.o) ?_; rintro e w' ⟨rfl, ⟨nd, rfl⟩⟩; refine ⟨_, rfl, ?_⟩) | ((with_reducible refine gc_ 19 rfl ?_); refine cM_ E19 26 (laws_eqIntS.calls k _ _ aM _ _ aN true _ (by repeat (first | exact (Kd.C_below bY.o (by repeat (first | (with_reducible first | exact HB.o | apply below_alloc | apply pw_below_drewN | apply below_drew1 | refine below_set ?_ af.o | refine below_set ?_ ag.o) | exact HB.o))) | (with_reducible refine Kd.C_alloc ?_ _) | (with_reducible refine Kd.C_drewN ?_ _) | (with_reducible refine Kd.C_drew ?_))) bW.o (by repeat (first | exact (Kd.C_below bZ.o (by repeat (first | (with_reducible first | exact HB.o | apply below_alloc | apply pw_below_drewN | apply below_drew1 | refine below_set ?_ af.o | refine below_set ?_ ag.o) | exact HB.o))) | (with_reducible refine Kd.C_alloc ?_ _) | (with_reducible refine Kd.C_drewN ?_ _) | (with_reducible refine Kd.C_drew ?_))) bX.o A8.o) ?_; rintro e w' ⟨rfl, ⟨nd, rfl⟩⟩; refine ⟨_, rfl, ?_⟩))
     go_ret
     exact ⟨by rfl, by repeat (first | (with_reducible first | exact HB.o | apply below_alloc | apply pw_below_drewN | apply below_drew1 | refine below_set ?_ af.o | refine below_set ?_ ag.o) | exact HB.o)⟩
    replace c9 := Bool.eq_false_iff.mpr c9; subst c9; rw [if_neg nf_] at H; obtain rfl := Option.some.inj H; go_enter Try.func8, Try.ntmps8
    go_wp2_with (first | ((with_reducible refine gate_dst (N := 2) rfl ?_); refine box_event rfl (N := 2) rfl (cs := #[.int .i64 ax, .slice aV aq.length ba, .slice aW au.length bb, .slice aX aM.length bc]) (t := 27) (by go_simp; done) ?_; intro bH hg w15 hbox hb; have ab := A_ (hbox); have bA := A_ (lg_ (below_size HB.o) hg); have af := A_ (lg_ (below_size HB.o) hg); replace HB := bs_ HB hb; clear hb hbox hg) | ((with_reducible refine gate_dst (N := 3) rfl ?_); refine box_event rfl (N := 3) rfl (cs := #[.int .i64 ay, .slice aY ar.length be, .slice a8 av.length bf, .slice a9 aN.length bg]) (t := 27) (by go_simp; done) ?_; intro bI hg w16 hbox hb; have aw := A_ (hbox); have bB := A_ (lg_ (below_size HB.o) hg); have ag := A_ (lg_ (below_size HB.o) hg); replace HB := bs_ HB hb; have ac := nl_ ab hg; have ae := ng_ ab hg; replace ab := bb_ ab hb; clear hb hbox hg; have dt := ac.o; have dy := ae.o; have cZ := bq4 ab.o; have da := bq4 aw.o) | ((with_reducible refine gc_ 19 rfl ?_); refine cL_ E19 14 rfl rfl rfl (laws_eqIntS.calls k _ _ aq _ _ ar true _ (Kd.C_below bF.o HB.o) bC.o (Kd.C_below bG.o HB.o) bD.o A4.o) (by (try simp only [mA, mB, mC]); first | done | rfl | (simp only [List.length_drop, List.length_take]; rfl)) ?_; rintro e w' ⟨rfl, ⟨nd, rfl⟩⟩; refine ⟨_, rfl, ?_⟩) | ((with_reducible refine gc_ 20 rfl ?_); refine cM_ E20 20 (laws_eqIntSSS.calls k _ _ au _ _ av true _ (by repeat (first | exact (Kd.C_below bL.o (by repeat (first | (with_reducible first | exact HB.o | apply below_alloc | apply pw_below_drewN | apply below_drew1 | refine below_set ?_ af.o | refine below_set ?_ ag.o) | exact HB.o))) | (with_reducible refine Kd.C_alloc ?_ _) | (with_reducible refine Kd.C_drewN ?_ _) | (with_reducible refine Kd.C_drew ?_))) bJ.o (by repeat (first | exact (Kd.C_below bM.o (by repeat (first | (with_reducible first | exact HB.o | apply below_alloc | apply pw_below_drewN | apply below_drew1 | refine below_set ?_ af.o | refine below_set ?_ ag.o) | exact HB.o))) | (with_reducible refine Kd.C_alloc ?_ _) | (with_reducible refine Kd.C_drewN ?_ _) | (with_reducible refine Kd.C_drew ?_))) bK.o A6.o) ?_; rintro e w' ⟨rfl, ⟨nd, rfl⟩⟩; refine ⟨_, rfl, ?_⟩) | ((with_reducible refine gc_ 19 rfl ?_); refine cM_ E19 26 (laws_eqIntS.calls k _ _ aM _ _ aN false _ (by repeat (first | exact (Kd.C_below bY.o (by repeat (first | (with_reducible first | exact HB.o | apply below_alloc | apply pw_below_drewN | apply below_drew1 | refine below_set ?_ af.o | refine below_set ?_ ag.o) | exact HB.o))) | (with_reducible refine Kd.C_alloc ?_ _) | (with_reducible refine Kd.C_drewN ?_ _) | (with_reducible refine Kd.C_drew ?_))) bW.o (by repeat (first | exact (Kd.C_below bZ.o (by repeat (first | (with_reducible first | exact HB.o | apply below_alloc | apply pw_below_drewN | apply below_drew1 | refine below_set ?_ af.o | refine below_set ?_ ag.o) | exact HB.o))) | (with_reducible refine Kd.C_alloc ?_ _) | (with_reducible refine Kd.C_drewN ?_ _) | (with_reducible refine Kd.C_drew ?_))) bX.o A8.o) ?_; rintro e w' ⟨rfl, ⟨nd, rfl⟩⟩; refine ⟨_, rfl, ?_⟩))
    go_ret
    exact ⟨by rfl, by repeat (first | (with_reducible first | exact HB.o | apply below_alloc | apply pw_below_drewN | apply below_drew1 | refine below_set ?_ af.o | refine below_set ?_ ag.o) | exact HB.o)⟩
   replace c7 := Bool.eq_false_iff.mpr c7; subst c7; rw [if_neg nf_] at H; obtain rfl := Option.some.inj H; go_enter Try.func8, Try.ntmps8
   go_wp2_with (first | ((with_reducible refine gate_dst (N := 2) rfl ?_); refine box_event rfl (N := 2) rfl (cs := #[.int .i64 ax, .slice aV aq.length ba, .slice aW au.length bb, .slice aX aM.length bc]) (t := 27) (by go_simp; done) ?_; intro bH hg w20 hbox hb; have ab := A_ (hbox); have bA := A_ (lg_ (below_size HB.o) hg); have af := A_ (lg_ (below_size HB.o) hg); replace HB := bs_ HB hb; clear hb hbox hg) | ((with_reducible refine gate_dst (N := 3) rfl ?_); refine box_event rfl (N := 3) rfl (cs := #[.int .i64 ay, .slice aY ar.length be, .slice a8 av.length bf, .slice a9 aN.length bg]) (t := 27) (by go_simp; done) ?_; intro bI hg w21 hbox hb; have aw := A_ (hbox); have bB := A_ (lg_ (below_size HB.o) hg); have ag := A_ (lg_ (below_size HB.o) hg); replace HB := bs_ HB hb; have ac := nl_ ab hg; have ae := ng_ ab hg; replace ab := bb_ ab hb; clear hb hbox hg; have du := ac.o; have dz := ae.o; have db := bq4 ab.o; have dd := bq4 aw.o) | ((with_reducible refine gc_ 19 rfl ?_); refine cM_ E19 14 (laws_eqIntS.calls k _ _ aq _ _ ar true _ (Kd.C_below bF.o HB.o) bC.o (Kd.C_below bG.o HB.o) bD.o A4.o) ?_; rintro e w' ⟨rfl, ⟨nd, rfl⟩⟩; refine ⟨_, rfl, ?_⟩) | ((with_reducible refine gc_ 20 rfl ?_); refine cM_ E20 20 (laws_eqIntSSS.calls k _ _ au _ _ av false _ (by repeat (first | exact (Kd.C_below bL.o (by repeat (first | (with_reducible first | exact HB.o | apply below_alloc | apply pw_below_drewN | apply below_drew1 | refine below_set ?_ af.o | refine below_set ?_ ag.o) | exact HB.o))) | (with_reducible refine Kd.C_alloc ?_ _) | (with_reducible refine Kd.C_drewN ?_ _) | (with_reducible refine Kd.C_drew ?_))) bJ.o (by repeat (first | exact (Kd.C_below bM.o (by repeat (first | (with_reducible first | exact HB.o | apply below_alloc | apply pw_below_drewN | apply below_drew1 | refine below_set ?_ af.o | refine below_set ?_ ag.o) | exact HB.o))) | (with_reducible refine Kd.C_alloc ?_ _) | (with_reducible refine Kd.C_drewN ?_ _) | (with_reducible refine Kd.C_drew ?_))) bK.o A6.o) ?_; rintro e w' ⟨rfl, ⟨nd, rfl⟩⟩; refine ⟨_, rfl, ?_⟩))
   go_ret
   exact ⟨by rfl, by repeat (first | (with_reducible first | exact HB.o | apply below_alloc | apply pw_below_drewN | apply below_drew1 | refine below_set ?_ af.o | refine below_set ?_ ag.o) | exact HB.o)⟩
  replace c5 := Bool.eq_false_iff.mpr c5; subst c5; rw [if_neg nf_] at H; obtain rfl := Option.some.inj H; go_enter Try.func8, Try.ntmps8
  go_wp2_with (first | ((with_reducible refine gate_dst (N := 2) rfl ?_); refine box_event rfl (N := 2) rfl (cs := #[.int .i64 ax, .slice aV aq.length ba, .slice aW au.length bb, .slice aX aM.length bc]) (t := 27) (by go_simp; done) ?_; intro bH hg w25 hbox hb; have ab := A_ (hbox); have bA := A_ (lg_ (below_size HB.o) hg); have af := A_ (lg_ (below_size HB.o) hg); replace HB := bs_ HB hb; clear hb hbox hg) | ((with_reducible refine gate_dst (N := 3) rfl ?_); refine box_event rfl (N := 3) rfl (cs := #[.int .i64 ay, .slice aY ar.length be, .slice a8 av.length bf, .slice a9 aN.length bg]) (t := 27) (by go_simp; done) ?_; intro bI hg w26 hbox hb; have aw := A_ (hbox); have bB := A_ (lg_ (below_size HB.o) hg); have ag := A_ (lg_ (below_size HB.o) hg); replace HB := bs_ HB hb; have ac := nl_ ab hg; have ae := ng_ ab hg; replace ab := bb_ ab hb; clear hb hbox hg; have dv := ac.o; have dA := ae.o; have de := bq4 ab.o; have df := bq4 aw.o) | ((with_reducible refine gc_ 19 rfl ?_); refine cM_ E19 14 (laws_eqIntS.calls k _ _ aq _ _ ar false _ (Kd.C_below bF.o HB.o) bC.o (Kd.C_below bG.o HB.o) bD.o A4.o) ?_; rintro e w' ⟨rfl, ⟨nd, rfl⟩⟩; refine ⟨_, rfl, ?_⟩))
  go_ret
  exact ⟨by rfl, by repeat (first | (with_reducible first | exact HB.o | apply below_alloc | apply pw_below_drewN | apply below_drew1 | refine below_set ?_ af.o | refine below_set ?_ ag.o) | exact HB.o)⟩
 rw [if_neg c3] at H
 have az : (ax == ay) = false := beq_eq_false_iff_ne.mpr c3
 have aT : (ax != ay) = true := bne_iff_ne.mpr c3
 obtain rfl := Option.some.inj H; go_enter Try.func8, Try.ntmps8
 go_wp2_with (first | ((with_reducible refine gate_dst (N := 2) rfl ?_); refine box_event rfl (N := 2) rfl (cs := #[.int .i64 ax, .slice aV aq.length ba, .slice aW au.length bb, .slice aX aM.length bc]) (t := 27) (by go_simp; done) ?_; intro bH hg w30 hbox hb; have ab := A_ (hbox); have bA := A_ (lg_ (below_size HB.o) hg); have af := A_ (lg_ (below_size HB.o) hg); replace HB := bs_ HB hb; clear hb hbox hg) | ((with_reducible refine gate_dst (N := 3) rfl ?_); refine box_event rfl (N := 3) rfl (cs := #[.int .i64 ay, .slice aY ar.length be, .slice a8 av.length bf, .slice a9 aN.length bg]) (t := 27) (by go_simp; done) ?_; intro bI hg w31 hbox hb; have aw := A_ (hbox); have bB := A_ (lg_ (below_size HB.o) hg); have ag := A_ (lg_ (below_size HB.o) hg); replace HB := bs_ HB hb; have ac := nl_ ab hg; have ae := ng_ ab hg; replace ab := bb_ ab hb; clear hb hbox hg; have dw := ac.o; have dB := ae.o; have dg := bq4 ab.o; have dh := bq4 aw.o))
 go_ret
 exact ⟨by rfl, HB.o⟩

def laws_markIntS.l0 : Nat → List Int → Int → Int → Option (Int × List Int)
 | 0, _, _, _ => none
 | k + 1, x0, x1, x5 => if x5 < (x0.length : Int) then (if 0 ≤ x5 then (laws_markIntS.l0 k (x0.set (x5 : Int).toNat x1) (wrap64 (x1 + 1)) (wrap64 (x5 + 1))) else (none)) else (some (x1, x0))
def laws_markIntS.f (k : Nat) (l0 : List Int) (a1 : Int) : Option (Int × List Int) := laws_markIntS.l0 k l0 a1 0
theorem laws_markIntS.mono_l : ∀ k, (∀ y0 y1 y2, LeO (laws_markIntS.l0 k y0 y1 y2) (laws_markIntS.l0 (k + 1) y0 y1 y2))
 | 0 => fun _ _ _ r h => by simp [laws_markIntS.l0] at h
 | k + 1 => by
  have ih0 := laws_markIntS.mono_l k
  ·intro y0 y1 y2; unfold laws_markIntS.l0
   with_reducible repeat' first | exact ih0 _ _ _ | exact LeO.refl _ | exact LeO.none _ | refine LeO.ite ?_ ?_ | refine LeO.bind ?_ (fun _ => ?_)
theorem laws_markIntS.mono : ∀ a0 a1 k, LeO (laws_markIntS.f k a0 a1) (laws_markIntS.f (k + 1) a0 a1) := by
 intro a0 a1 k; have ih0 := laws_markIntS.mono_l k; unfold laws_markIntS.f
 with_reducible repeat' first | exact ih0 _ _ _ | exact LeO.refl _ | exact LeO.none _ | refine LeO.ite ?_ ?_ | refine LeO.bind ?_ (fun _ => ?_)
theorem laws_markIntS.calls (k : Nat) (P0_ : Nat → Prop) (u9000_ : Value) (l0 : List Int) (a1 : Int) (r1 : Int) (r2 : List Int) (w0 w : World) (hB : Below w0.heap.size w0 w) (ho0 : Kd.R (Kd.int .i64) 3 w w0.heap.size P0_ u9000_ l0) (h : laws_markIntS.f k l0 a1 = some (r1, r2)) :
  Calls Try.prog 21 #[u9000_, .int .i64 a1] w fun e w' => e = .returned (.int .i64 r1) ∧ Kd.R (Kd.int .i64) 3 w' w0.heap.size (fun k_ => (P0_ k_ ∨ w.heap.size ≤ k_)) u9000_ r2 ∧ Below w0.heap.size w0 w' ∧ Kept w w' (fun k_ => P0_ k_) := by
 have dD := A_ (show Kd.R (Kd.int .i64) 3 w w0.heap.size (fun k_ => (P0_ k_ ∨ w.heap.size ≤ k_)) u9000_ l0 from Kd.R_mono ho0 (fun k_ hk => (.inl hk))); have HK := A_ (Kept.refl w (fun k_ => P0_ k_)); have HW0 := A_ hB.size; have HB := A_ hB; clear hB; unfold laws_markIntS.f at h; have H := h; clear h
 have H' := A_ H
 clear H; go_enter Try.func21, Try.ntmps21
 go_wp2
 go_loopg [1, 5] k (fun kq v1 v5 w' => ∃ (bz : List Int) (ap : Int) (aa : Int), v1 = .int .i64 ap ∧ v5 = .int .i64 aa ∧ Aside0 (laws_markIntS.l0 kq bz ap aa = some (r1, r2)) ∧ Aside0 (kq ≤ k) ∧ Aside0 (Kd.R (Kd.int .i64) 3 w' w0.heap.size (fun k_ => (P0_ k_ ∨ w.heap.size ≤ k_)) u9000_ bz) ∧ Aside0 (Kept w w' (fun k_ => P0_ k_)) ∧ Aside0 (Below w0.heap.size w0 w'))
 case atStart => exact ⟨(l0), (a1), (0), (by rfl), (by rfl), H', ⟨Nat.le_refl _⟩, ⟨dD.o⟩, ⟨HK.o⟩, ⟨HB.o⟩⟩
 case round =>
  clear H'; obtain ⟨bz, ap, aa, rfl, rfl, HA, bE, aQ, HK, HB⟩ := hrel
  cases gk with
  | zero => exact nz_ HA.o
  | succ k1 =>
   have H := HA.o; clear HA; simp only [laws_markIntS.l0] at H
   by_cases c3 : aa < (bz.length : Int)
   ·rw [if_pos c3] at H; have az := decide_eq_true c3; clear c3
    by_cases c4 : 0 ≤ aa
    ·rw [if_pos c4] at H; have bh := decide_eq_true c4; clear c4; obtain ⟨cM, bN⟩ := ex_ ((bz.set (aa : Int).toNat ap) : List Int); replace H : (laws_markIntS.l0 k1 cM (wrap64 (ap + 1)) (wrap64 (aa + 1))) = some (r1, r2) := by (rw [bN]; with_reducible exact H)
     have cN := A_ bN; clear bN
     have H' := A_ H
     clear H; obtain ⟨dH, dE, dF⟩ := Kd.R_slice aQ.o; subst dF
     have p5 : 0 ≤ (aa : Int) := oa_
     have q5 : (aa : Int) < ((bz.length : Int) : Int) := oa_
     obtain ⟨cW, dJ, dn, dp, gl5, cl5, HG5⟩ := Kd.R_form aQ.o (by omega)
     (first | cases dn | (injection dn with ea_ en_ ec_; (first | subst ea_ | (injection ea_ with ea_; subst ea_)); subst ec_; clear en_))
     have GB5 := A_ dp; have GG5 := A_ HG5; clear dp gl5 HG5; have HMgo5 := A_ (show (P0_ cW ∨ w.heap.size ≤ cW) from (aQ.o.1 _ rfl)); obtain ⟨dC, dq⟩ := Kd.R_celln 0 aQ.o (aa : Int) p5 q5; replace p5 := eq_true p5; replace q5 := eq_true q5; have di := Kd.R_putg aQ.o (aa : Int) ap
     go_wp2_with (first | ((with_reducible refine gate_store (t := 3) (p := 15) rfl ?_); refine store_event (t := 3) (p := 15) (w1 := (wr.setCell ⟨cW, (aa : Int).toNat, none⟩ (.int .i64 ap))) rfl rfl rfl (by go_simp; done) ?_; intro w8 hw; have hg : wr.grownBy w8 (some cW) := (by rw [hw]; exact di.2); have hp_ : Kd.R (Kd.int .i64) 3 w8 w0.heap.size (fun k_ => (P0_ k_ ∨ w.heap.size ≤ k_)) (.slice (some ⟨cW, 0, none⟩) bz.length dE) cM := (by rw [hw, cN.o]; exact di.1); clear di; replace HB := A_ ((by rw [hw]; exact below_set (HB.o) GB5.o : Below w0.heap.size w0 w8)); replace HK := A_ (Kept.of_grown (S := (fun k_ => P0_ k_)) hg HK.o (fun k_ e_ => (aQ.o.1 k_ e_))); replace aQ := A_ (hp_); clear hg hw hp_))
     go_roundg k1
     case measure => have := bE.o; omega
     case rel => exact ⟨(cM), (wrap64 (ap + 1)), (wrap64 (aa + 1)), (by rfl), (by rfl), H', ⟨by have := bE.o; omega⟩, ⟨aQ.o⟩, ⟨HK.o⟩, ⟨HB.o⟩⟩
    rw [if_neg c4] at H
    cases H
   rw [if_neg c3] at H; have az := decide_eq_false c3; clear c3; simp only [Option.some.injEq, Prod.mk.injEq] at H; obtain ⟨rfl, rfl⟩ := H; obtain ⟨dI, dK, dG⟩ := Kd.R_slice aQ.o; subst dG
   go_wp2
   go_ret
   exact ⟨by rfl, aQ.o, HB.o, HK.o⟩



def laws_heldIntS.l0 : Nat → List Int → Int → Int → Option (Int)
 | 0, _, _, _ => none
 | k + 1, x0, x1, x5 => if x5 < (x0.length : Int) then (if 0 ≤ x5 then (if (rd x0 x5) = x1 then (laws_heldIntS.l0 k x0 (wrap64 (x1 + 1)) (wrap64 (x5 + 1))) else (some (-1))) else (none)) else (some x1)
def laws_heldIntS.f (k : Nat) (l0 : List Int) (a1 : Int) : Option (Int) := laws_heldIntS.l0 k l0 a1 0
theorem laws_heldIntS.mono_l : ∀ k, (∀ y0 y1 y2, LeO (laws_heldIntS.l0 k y0 y1 y2) (laws_heldIntS.l0 (k + 1) y0 y1 y2))
 | 0 => fun _ _ _ r h => by simp [laws_heldIntS.l0] at h
 | k + 1 => by
  have ih0 := laws_heldIntS.mono_l k
  ·intro y0 y1 y2; unfold laws_heldIntS.l0
   with_reducible repeat' first | exact ih0 _ _ _ | exact LeO.refl _ | exact LeO.none _ | refine LeO.ite ?_ ?_ | refine LeO.bind ?_ (fun _ => ?_)
theorem laws_heldIntS.mono : ∀ a0 a1 k, LeO (laws_heldIntS.f k a0 a1) (laws_heldIntS.f (k + 1) a0 a1) := by
 intro a0 a1 k; have ih0 := laws_heldIntS.mono_l k; unfold laws_heldIntS.f
 with_reducible repeat' first | exact ih0 _ _ _ | exact LeO.refl _ | exact LeO.none _ | refine LeO.ite ?_ ?_ | refine LeO.bind ?_ (fun _ => ?_)
theorem laws_heldIntS.calls (k : Nat) (A0 : Option Addr) (c0 : Nat) (l0 : List Int) (a1 : Int) (r : Int) (w : World) (hr0 : Kd.C (Kd.int .i64) w A0 l0.length l0) (hc0 : l0.length ≤ c0) (h : laws_heldIntS.f k l0 a1 = some r) :
  Calls Try.prog 23 #[.slice A0 l0.length c0, .int .i64 a1] w fun e w' => e = .returned (.int .i64 r) ∧ Drawn0 w w' := by
 have HR0 := A_ hr0; have HC0 := A_ hc0; clear hr0 hc0; unfold laws_heldIntS.f at h; have H := h; clear h
 have H' := A_ H
 clear H; go_enter Try.func23, Try.ntmps23
 go_wp2
 go_loopg [1, 5] k (fun kq v1 v5 w' => ∃ (ap : Int) (aa : Int), v1 = .int .i64 ap ∧ v5 = .int .i64 aa ∧ Aside0 (laws_heldIntS.l0 kq l0 ap aa = some r) ∧ Aside0 (kq ≤ k) ∧ Drawn0 w w')
 case atStart => exact ⟨(a1), (0), (by rfl), (by rfl), H', ⟨Nat.le_refl _⟩, by repeat (first | exact Drawn0.refl _ | apply Drawn0.step)⟩
 case round =>
  clear H'; obtain ⟨ap, aa, rfl, rfl, HA, bE, ⟨m1, rfl⟩⟩ := hrel
  cases gk with
  | zero => exact nz_ HA.o
  | succ k1 =>
   have H := HA.o; clear HA; simp only [laws_heldIntS.l0] at H
   by_cases c3 : aa < (l0.length : Int)
   ·rw [if_pos c3] at H; have az := decide_eq_true c3; clear c3
    by_cases c4 : 0 ≤ aa
    ·rw [if_pos c4] at H; have bh := decide_eq_true c4; clear c4
     by_cases c5 : (rd l0 aa) = ap
     ·rw [if_pos c5] at H
      have bO : ((rd l0 aa) == ap) = true := beq_iff_eq.mpr c5
      have dj : ((rd l0 aa) != ap) = false := bne_eq_false_iff_eq.mpr c5
      clear c5
      have H' := A_ H
      clear H
      have bp : 0 ≤ (aa : Int) := oa_
      have bx : aa < (l0.length : Int) := oa_
      obtain ⟨cU, cG, bV⟩ := Kd.at_int HR0.o aa bp bx
      cases cG
      replace bp := eq_true bp; replace bx := eq_true bx
      go_wp2
      go_roundg k1
      case measure => have := bE.o; omega
      case rel => exact ⟨(wrap64 (ap + 1)), (wrap64 (aa + 1)), (by rfl), (by rfl), H', ⟨by have := bE.o; omega⟩, by repeat (first | exact Drawn0.refl _ | apply Drawn0.step)⟩
     rw [if_neg c5] at H
     have bO : ((rd l0 aa) == ap) = false := beq_eq_false_iff_ne.mpr c5
     have dj : ((rd l0 aa) != ap) = true := bne_iff_ne.mpr c5
     obtain rfl := Option.some.inj H
     have bp : 0 ≤ (aa : Int) := oa_
     have bx : aa < (l0.length : Int) := oa_
     obtain ⟨cU, cG, bV⟩ := Kd.at_int HR0.o aa bp bx
     cases cG
     replace bp := eq_true bp; replace bx := eq_true bx
     go_wp2
     go_ret
     exact ⟨by rfl, by repeat (first | exact Drawn0.refl _ | apply Drawn0.step)⟩
    rw [if_neg c4] at H
    cases H
   rw [if_neg c3] at H; have az := decide_eq_false c3; clear c3; obtain rfl := Option.some.inj H
   go_wp2
   go_ret
   exact ⟨by rfl, by repeat (first | exact Drawn0.refl _ | apply Drawn0.step)⟩

end Go.Proofs.Ytlcepacbbfekoaa.PFnExactSumForms
