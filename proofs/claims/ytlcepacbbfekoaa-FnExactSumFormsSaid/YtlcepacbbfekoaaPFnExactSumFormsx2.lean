/- Walks of the functions that the law reaches. -/
import Derived.Test.YtlcepacbbfekoaaPFnExactSumFormsx1
namespace Go.Proofs.Ytlcepacbbfekoaa.PFnExactSumForms
open Go.RowKit Go.Proofs.YtlcepacbbfekoaaW.PrintWords Go.Proofs.YtlcepacbbfekoaaW.PrintLast Go.Proofs.YtlcepacbbfekoaaW.PrintMore
attribute [local go_sem] max2_int min2_int max_two min_two max_three min_three max_four min_four
set_option linter.unusedVariables false
set_option maxHeartbeats 8000000
set_option maxRecDepth 100000
set_option linter.unusedSimpArgs false

mutual
def spec_IsLinear.j0 : Nat → Int → Bool → Int → List Int → List (List (List Int)) → List Int → Option (Bool)
 | 0, _, _, _, _, _, _ => none
 | k + 1, x3, dA, aj, ag, ae, ah => if dA = true then (some false) else (spec_IsLinear.l0 k x3 0 aj ag ae ah)
def spec_IsLinear.l0 : Nat → Int → Int → Int → List Int → List (List (List Int)) → List Int → Option (Bool)
 | 0, _, _, _, _, _, _ => none
 | k + 1, x3, x4, aj, ag, ae, ah => if x4 < x3 then (if 0 ≤ x4 then (if x4 < (ag.length : Int) then ((spec_l1In.f (rd ag x4) (-9) 9).bind fun cD => (if cD = true then (if x4 < (ah.length : Int) then ((spec_l1In.f (rd ah x4) (-9) 9).bind fun cE => (if cE = true then (spec_IsLinear.l0 k x3 (wrap64 (x4 + 1)) aj ag ae ah) else (some false))) else (none)) else (some false))) else (none)) else (none)) else (spec_IsLinear.l1 k x3 0 aj ag ae ah)
def spec_IsLinear.l1 : Nat → Int → Int → Int → List Int → List (List (List Int)) → List Int → Option (Bool)
 | 0, _, _, _, _, _, _ => none
 | k + 1, x3, x5, aj, ag, ae, ah => if x5 < aj then (if 0 ≤ x5 then (if x5 < (ae.length : Int) then (if ((rd_L2 ae x5).length : Int) = x3 then (spec_IsLinear.l2 k x3 x5 0 aj ag ae ah) else (some false)) else (none)) else (none)) else (some true)
def spec_IsLinear.l2 : Nat → Int → Int → Int → Int → List Int → List (List (List Int)) → List Int → Option (Bool)
 | 0, _, _, _, _, _, _, _ => none
 | k + 1, x3, x5, x6, aj, ag, ae, ah => if x6 < x3 then (if 0 ≤ x5 then (if x5 < (ae.length : Int) then (if 0 ≤ x6 then (if x6 < ((rd_L2 ae x5).length : Int) then (if ((rd_L1 (rd_L2 ae x5) x6).length : Int) = x3 then (spec_IsLinear.l3 k x3 x5 x6 0 aj ag ae ah) else (some false)) else (none)) else (none)) else (none)) else (none)) else (spec_IsLinear.l1 k x3 (wrap64 (x5 + 1)) aj ag ae ah)
def spec_IsLinear.l3 : Nat → Int → Int → Int → Int → Int → List Int → List (List (List Int)) → List Int → Option (Bool)
 | 0, _, _, _, _, _, _, _, _ => none
 | k + 1, x3, x5, x6, x7, aj, ag, ae, ah => if x7 < x3 then (if 0 ≤ x5 then (if x5 < (ae.length : Int) then (if 0 ≤ x6 then (if x6 < ((rd_L2 ae x5).length : Int) then (if 0 ≤ x7 then (if x7 < ((rd_L1 (rd_L2 ae x5) x6).length : Int) then ((spec_l1In.f (rd (rd_L1 (rd_L2 ae x5) x6) x7) (-9) 9).bind fun cF => (if cF = true then (spec_IsLinear.l3 k x3 x5 x6 (wrap64 (x7 + 1)) aj ag ae ah) else (some false))) else (none)) else (none)) else (none)) else (none)) else (none)) else (none)) else (spec_IsLinear.l2 k x3 x5 (wrap64 (x6 + 1)) aj ag ae ah)
end
def spec_IsLinear.f (k : Nat) (an : Int) (aa : List Int) (ab : List (List (List Int))) (ai : List Int) : Option (Bool) := (spec_l1In.f (aa.length : Int) 1 40).bind fun cB => (if cB = true then (if (ai.length : Int) = (aa.length : Int) then ((spec_l1In.f an 2 4).bind fun cC => (if cC = true then (spec_IsLinear.j0 k (aa.length : Int) ((ab.length : Int) != an) an aa ab ai) else (spec_IsLinear.j0 k (aa.length : Int) true an aa ab ai))) else (spec_IsLinear.j0 k (aa.length : Int) true an aa ab ai)) else (spec_IsLinear.j0 k (aa.length : Int) true an aa ab ai))
theorem spec_IsLinear.mono_l : ∀ k, (∀ y0 y1 y2 y3 y4 y5, LeO (spec_IsLinear.j0 k y0 y1 y2 y3 y4 y5) (spec_IsLinear.j0 (k + 1) y0 y1 y2 y3 y4 y5)) ∧ (∀ y0 y1 y2 y3 y4 y5, LeO (spec_IsLinear.l0 k y0 y1 y2 y3 y4 y5) (spec_IsLinear.l0 (k + 1) y0 y1 y2 y3 y4 y5)) ∧ (∀ y0 y1 y2 y3 y4 y5, LeO (spec_IsLinear.l1 k y0 y1 y2 y3 y4 y5) (spec_IsLinear.l1 (k + 1) y0 y1 y2 y3 y4 y5)) ∧ (∀ y0 y1 y2 y3 y4 y5 y6, LeO (spec_IsLinear.l2 k y0 y1 y2 y3 y4 y5 y6) (spec_IsLinear.l2 (k + 1) y0 y1 y2 y3 y4 y5 y6)) ∧ (∀ y0 y1 y2 y3 y4 y5 y6 y7, LeO (spec_IsLinear.l3 k y0 y1 y2 y3 y4 y5 y6 y7) (spec_IsLinear.l3 (k + 1) y0 y1 y2 y3 y4 y5 y6 y7))
 | 0 => ⟨fun _ _ _ _ _ _ r h => by simp [spec_IsLinear.j0] at h, fun _ _ _ _ _ _ r h => by simp [spec_IsLinear.l0] at h, fun _ _ _ _ _ _ r h => by simp [spec_IsLinear.l1] at h, fun _ _ _ _ _ _ _ r h => by simp [spec_IsLinear.l2] at h, fun _ _ _ _ _ _ _ _ r h => by simp [spec_IsLinear.l3] at h⟩
 | k + 1 => by
  obtain ⟨ih0, ih1, ih2, ih3, ih4⟩ := spec_IsLinear.mono_l k; refine ⟨?_, ?_, ?_, ?_, ?_⟩
  ·intro y0 y1 y2 y3 y4 y5; unfold spec_IsLinear.j0
   with_reducible repeat' first | exact ih0 _ _ _ _ _ _ | exact ih1 _ _ _ _ _ _ | exact ih2 _ _ _ _ _ _ | exact ih3 _ _ _ _ _ _ _ | exact ih4 _ _ _ _ _ _ _ _ | exact LeO.refl _ | exact LeO.none _ | refine LeO.ite ?_ ?_ | refine LeO.bind ?_ (fun _ => ?_)
  ·intro y0 y1 y2 y3 y4 y5; unfold spec_IsLinear.l0
   with_reducible repeat' first | exact ih0 _ _ _ _ _ _ | exact ih1 _ _ _ _ _ _ | exact ih2 _ _ _ _ _ _ | exact ih3 _ _ _ _ _ _ _ | exact ih4 _ _ _ _ _ _ _ _ | exact LeO.refl _ | exact LeO.none _ | refine LeO.ite ?_ ?_ | refine LeO.bind ?_ (fun _ => ?_)
  ·intro y0 y1 y2 y3 y4 y5; unfold spec_IsLinear.l1
   with_reducible repeat' first | exact ih0 _ _ _ _ _ _ | exact ih1 _ _ _ _ _ _ | exact ih2 _ _ _ _ _ _ | exact ih3 _ _ _ _ _ _ _ | exact ih4 _ _ _ _ _ _ _ _ | exact LeO.refl _ | exact LeO.none _ | refine LeO.ite ?_ ?_ | refine LeO.bind ?_ (fun _ => ?_)
  ·intro y0 y1 y2 y3 y4 y5 y6; unfold spec_IsLinear.l2
   with_reducible repeat' first | exact ih0 _ _ _ _ _ _ | exact ih1 _ _ _ _ _ _ | exact ih2 _ _ _ _ _ _ | exact ih3 _ _ _ _ _ _ _ | exact ih4 _ _ _ _ _ _ _ _ | exact LeO.refl _ | exact LeO.none _ | refine LeO.ite ?_ ?_ | refine LeO.bind ?_ (fun _ => ?_)
  intro y0 y1 y2 y3 y4 y5 y6 y7; unfold spec_IsLinear.l3
  with_reducible repeat' first | exact ih0 _ _ _ _ _ _ | exact ih1 _ _ _ _ _ _ | exact ih2 _ _ _ _ _ _ | exact ih3 _ _ _ _ _ _ _ | exact ih4 _ _ _ _ _ _ _ _ | exact LeO.refl _ | exact LeO.none _ | refine LeO.ite ?_ ?_ | refine LeO.bind ?_ (fun _ => ?_)
theorem spec_IsLinear.mono : ∀ a0 a1 a2 a3 k, LeO (spec_IsLinear.f k a0 a1 a2 a3) (spec_IsLinear.f (k + 1) a0 a1 a2 a3) := by
 intro a0 a1 a2 a3 k; obtain ⟨ih0, ih1, ih2, ih3, ih4⟩ := spec_IsLinear.mono_l k; unfold spec_IsLinear.f
 with_reducible repeat' first | exact ih0 _ _ _ _ _ _ | exact ih1 _ _ _ _ _ _ | exact ih2 _ _ _ _ _ _ | exact ih3 _ _ _ _ _ _ _ | exact ih4 _ _ _ _ _ _ _ _ | exact LeO.refl _ | exact LeO.none _ | refine LeO.ite ?_ ?_ | refine LeO.bind ?_ (fun _ => ?_)
theorem spec_IsLinear.calls (k : Nat) (an : Int) (aY : Option Addr) (a9 : Nat) (aa : List Int) (bv : Option Addr) (ba : Nat) (ab : List (List (List Int))) (a8 : Option Addr) (bb : Nat) (ai : List Int) (r : Bool) (w : World) (b1 : Kd.C (Kd.int .i64) w aY aa.length aa) (bX : aa.length ≤ a9) (b2 : Kd.C (Kd.slice 22 (Kd.slice 3 (Kd.int .i64))) w bv ab.length ab) (bY : ab.length ≤ ba) (b3 : Kd.C (Kd.int .i64) w a8 ai.length ai) (bZ : ai.length ≤ bb) (h : spec_IsLinear.f k an aa ab ai = some r) :
  Calls Try.prog 13 #[.agg #[.int .i64 an, .slice aY aa.length a9, .slice bv ab.length ba, .slice a8 ai.length bb]] w fun e w' => e = .returned (.bool r) ∧ Below w.heap.size w w' := by
 have hu27 := Try.underlying27; have bw := A_ b1; have dk := A_ bX; clear b1 bX; have aU := A_ b2; have dm := A_ bY; clear b2 bY; have bM := A_ b3; have dn := A_ bZ; clear b3 bZ; have HB := A_ (Below.refl w.heap.size w); unfold spec_IsLinear.f at h; have H := h; clear h; have HC2 := A_ H; clear H; go_enter Try.func13, Try.ntmps13
 go_upto_region 2 with (first | ((with_reducible refine gate_dst (N := 1) rfl ?_); (try (refine gate_guard (by rfl) ?_; dsimp only)); refine box_event rfl (N := 1) rfl (cs := #[.int .i64 an, .slice aY aa.length a9, .slice bv ab.length ba, .slice a8 ai.length bb]) (t := 27) (by go_simp; done) ?_; intro bc hg w3 hbox hb; have af := A_ (hbox); have dj := A_ (lg_ (below_size HB.o) hg); have ay := A_ (lg_ (below_size HB.o) hg); replace HB := bs_ HB hb; clear hb hbox hg; have cA := bq4 af.o))
 (try simp only [Act.put, mD, mE, mF])
 go_cut [34] (fun dz wc => ∃ (kq : Nat) (bu : Bool), dz = .bool bu ∧ Aside0 (spec_IsLinear.j0 kq (aa.length : Int) bu an aa ab ai = some r) ∧ Aside0 (kq ≤ k) ∧ Aside0 (wc.heap[bc]? = some (.cells #[.int .i64 an, (.slice aY aa.length a9), (.slice bv ab.length ba), (.slice a8 ai.length bb)] 27 (0, 0))) ∧ Aside0 (Below w.heap.size w wc))
 case first =>
  have H := HC2.o; clear HC2; replace H := bA_ H; obtain ⟨cB, A5, H⟩ := H
  by_cases c6 : cB = true
  ·subst c6; rw [if_pos rfl] at H
   by_cases c7 : (ai.length : Int) = (aa.length : Int)
   ·rw [if_pos c7] at H
    have dg : ((ai.length : Int) == (aa.length : Int)) = true := beq_iff_eq.mpr c7
    have dh : ((ai.length : Int) != (aa.length : Int)) = false := bne_eq_false_iff_eq.mpr c7
    have di : (ai.length == aa.length) = true := by first | simpa using c7 | (simp at c7 ⊢; omega)
    clear c7
    (skip)
    replace H := bA_ H; obtain ⟨cC, A8, H⟩ := H
    by_cases c9 : cC = true
    ·subst c9; rw [if_pos rfl] at H
     have H' := A_ H
     clear H
     go_wp2_with (first | ((with_reducible refine gc_ 26 rfl ?_); refine cL_ E26 12 rfl rfl rfl (spec_l1In.calls (aa.length : Int) 1 40 true _ A5.o) (by (try simp only [mA, mB, mC]); first | done | rfl | (simp only [List.length_drop, List.length_take]; rfl)) ?_; rintro e w' ⟨rfl, ⟨nd, rfl⟩⟩; refine ⟨_, rfl, ?_⟩; have cU := bq4 af.o) | (go_at_call 26; (with_reducible refine (spec_l1In.calls an 2 4 true _ A8.o).mono ?_); rintro e w' ⟨rfl, ⟨nd, rfl⟩⟩))
     go_meet
     case rel => exact ⟨_, (((ab.length : Int) != an)), (by rfl), H', ⟨by omega⟩, ⟨by (with_reducible repeat (first | refine blk_drewN ?_ _ | refine blk_drew ?_ | refine blk_alloc ?_ _)); exact af.o⟩, ⟨by repeat (first | (with_reducible first | exact HB.o | apply below_alloc | apply pw_below_drewN | apply below_drew1 | refine below_set ?_ ay.o) | exact HB.o)⟩⟩
    replace c9 := Bool.eq_false_iff.mpr c9; subst c9; rw [if_neg nf_] at H
    have H' := A_ H
    clear H
    go_wp2_with (first | ((with_reducible refine gc_ 26 rfl ?_); refine cL_ E26 12 rfl rfl rfl (spec_l1In.calls (aa.length : Int) 1 40 true _ A5.o) (by (try simp only [mA, mB, mC]); first | done | rfl | (simp only [List.length_drop, List.length_take]; rfl)) ?_; rintro e w' ⟨rfl, ⟨nd, rfl⟩⟩; refine ⟨_, rfl, ?_⟩; have cV := bq4 af.o) | (go_at_call 26; (with_reducible refine (spec_l1In.calls an 2 4 false _ A8.o).mono ?_); rintro e w' ⟨rfl, ⟨nd, rfl⟩⟩))
    go_meet
    case rel => exact ⟨_, (true), (by rfl), H', ⟨by omega⟩, ⟨by (with_reducible repeat (first | refine blk_drewN ?_ _ | refine blk_drew ?_ | refine blk_alloc ?_ _)); exact af.o⟩, ⟨by repeat (first | (with_reducible first | exact HB.o | apply below_alloc | apply pw_below_drewN | apply below_drew1 | refine below_set ?_ ay.o) | exact HB.o)⟩⟩
   rw [if_neg c7] at H
   have dg : ((ai.length : Int) == (aa.length : Int)) = false := beq_eq_false_iff_ne.mpr c7
   have dh : ((ai.length : Int) != (aa.length : Int)) = true := bne_iff_ne.mpr c7
   have di : (ai.length == aa.length) = false := by first | simpa using c7 | (simp at c7 ⊢; omega)
   (skip)
   have H' := A_ H
   clear H
   go_wp2_with (first | ((with_reducible refine gc_ 26 rfl ?_); refine cM_ E26 12 (spec_l1In.calls (aa.length : Int) 1 40 true _ A5.o) ?_; rintro e w' ⟨rfl, ⟨nd, rfl⟩⟩; refine ⟨_, rfl, ?_⟩; have cW := bq4 af.o))
   go_meet
   case rel => exact ⟨_, (true), (by rfl), H', ⟨by omega⟩, ⟨by (with_reducible repeat (first | refine blk_drewN ?_ _ | refine blk_drew ?_ | refine blk_alloc ?_ _)); exact af.o⟩, ⟨by repeat (first | (with_reducible first | exact HB.o | apply below_alloc | apply pw_below_drewN | apply below_drew1 | refine below_set ?_ ay.o) | exact HB.o)⟩⟩
  replace c6 := Bool.eq_false_iff.mpr c6; subst c6; rw [if_neg nf_] at H
  have H' := A_ H
  clear H
  go_wp2_with (first | ((with_reducible refine gc_ 26 rfl ?_); refine cM_ E26 12 (spec_l1In.calls (aa.length : Int) 1 40 false _ A5.o) ?_; rintro e w' ⟨rfl, ⟨nd, rfl⟩⟩; refine ⟨_, rfl, ?_⟩))
  go_meet
  case rel => exact ⟨_, (true), (by rfl), H', ⟨by omega⟩, ⟨by (with_reducible repeat (first | refine blk_drewN ?_ _ | refine blk_drew ?_ | refine blk_alloc ?_ _)); exact af.o⟩, ⟨by repeat (first | (with_reducible first | exact HB.o | apply below_alloc | apply pw_below_drewN | apply below_drew1 | refine below_set ?_ ay.o) | exact HB.o)⟩⟩
 case rest =>
  clear HC2
  try clear cA
  obtain ⟨kq, bu, rfl, HA, bK, af, HB⟩ := hcut
  cases kq with
  | zero => exact nz_ HA.o
  | succ kj1 =>
   have H := HA.o; clear HA; simp only [spec_IsLinear.j0] at H
   by_cases c13 : bu = true
   ·subst c13; rw [if_pos rfl] at H; obtain rfl := Option.some.inj H
    go_wp2
    go_ret
    exact ⟨by rfl, HB.o⟩
   replace c13 := Bool.eq_false_iff.mpr c13; subst c13; rw [if_neg nf_] at H
   have H' := A_ H
   clear H
   go_wp2
   go_loopg [4] kj1 (fun kq v4 w' => ∃ (am : Int), v4 = .int .i64 am ∧ Aside0 (spec_IsLinear.l0 kq (aa.length : Int) am an aa ab ai = some r) ∧ Aside0 (kq ≤ kj1) ∧ Aside0 (w'.heap[bc]? = some (.cells #[.int .i64 an, (.slice aY aa.length a9), (.slice bv ab.length ba), (.slice a8 ai.length bb)] 27 (0, 0))) ∧ Aside0 (Below w.heap.size w w'))
   case atStart => exact ⟨(0), (by rfl), H', ⟨Nat.le_refl _⟩, ⟨af.o⟩, ⟨HB.o⟩⟩
   case round =>
    clear H'; obtain ⟨am, rfl, HA, bL, af, HB⟩ := hrel
    cases gk with
    | zero => exact nz_ HA.o
    | succ k2 =>
     have H := HA.o; clear HA; simp only [spec_IsLinear.l0] at H
     by_cases c14 : am < (aa.length : Int)
     ·rw [if_pos c14] at H; have bO := decide_eq_true c14; clear c14
      by_cases c15 : 0 ≤ am
      ·rw [if_pos c15] at H; have dp := decide_eq_true c15; clear c15
       by_cases c16 : am < (aa.length : Int)
       ·rw [if_pos c16] at H; have dq := decide_eq_true c16; clear c16; replace H := bA_ H; obtain ⟨cD, A17, H⟩ := H
        by_cases c18 : cD = true
        ·subst c18; rw [if_pos rfl] at H
         by_cases c19 : am < (ai.length : Int)
         ·rw [if_pos c19] at H; have dr := decide_eq_true c19; clear c19; replace H := bA_ H; obtain ⟨cE, A20, H⟩ := H
          by_cases c21 : cE = true
          ·subst c21; rw [if_pos rfl] at H
           have H' := A_ H
           clear H; have cX := bq4 af.o
           have aQ : 0 ≤ (am : Int) := oa_
           have aT : am < (aa.length : Int) := oa_
           obtain ⟨bN, bA, al⟩ := Kd.at_int bw.o am aQ aT
           cases bA
           replace al := (HB.o.cell (World.block_lt_of_cell? w _ al)).trans al; replace aQ := eq_true aQ; replace aT := eq_true aT
           go_wp2_with (first | ((with_reducible refine gc_ 26 rfl ?_); refine cL_ E26 45 rfl rfl rfl (spec_l1In.calls (rd aa am) (-9) 9 true _ A17.o) (by (try simp only [mA, mB, mC]); first | done | rfl | (simp only [List.length_drop, List.length_take]; rfl)) ?_; rintro e w' ⟨rfl, ⟨nd, rfl⟩⟩; refine ⟨_, rfl, ?_⟩; have bk : 0 ≤ (am : Int) := oa_; have bp : am < (ai.length : Int) := oa_; obtain ⟨cI, cg, ar⟩ := Kd.at_int bM.o am bk bp; cases cg; replace ar := (HB.o.cell (World.block_lt_of_cell? w _ ar)).trans ar; replace bk := eq_true bk; replace bp := eq_true bp) | (go_at_call 26; (with_reducible refine (spec_l1In.calls (rd ai am) (-9) 9 true _ A20.o).mono ?_); rintro e w' ⟨rfl, ⟨nd, rfl⟩⟩))
           go_roundg k2
           case measure => have := bK.o; have := bL.o; omega
           case rel => exact ⟨(wrap64 (am + 1)), (by rfl), H', ⟨by have := bK.o; have := bL.o; omega⟩, ⟨by (with_reducible repeat (first | refine blk_drewN ?_ _ | refine blk_drew ?_ | refine blk_alloc ?_ _)); exact af.o⟩, ⟨by repeat (first | (with_reducible first | exact HB.o | apply below_alloc | apply pw_below_drewN | apply below_drew1 | refine below_set ?_ ay.o) | exact HB.o)⟩⟩
          replace c21 := Bool.eq_false_iff.mpr c21; subst c21; rw [if_neg nf_] at H; obtain rfl := Option.some.inj H; have cY := bq4 af.o
          have aQ : 0 ≤ (am : Int) := oa_
          have aT : am < (aa.length : Int) := oa_
          obtain ⟨bN, bA, al⟩ := Kd.at_int bw.o am aQ aT
          cases bA
          replace al := (HB.o.cell (World.block_lt_of_cell? w _ al)).trans al; replace aQ := eq_true aQ; replace aT := eq_true aT
          go_wp2_with (first | ((with_reducible refine gc_ 26 rfl ?_); refine cL_ E26 45 rfl rfl rfl (spec_l1In.calls (rd aa am) (-9) 9 true _ A17.o) (by (try simp only [mA, mB, mC]); first | done | rfl | (simp only [List.length_drop, List.length_take]; rfl)) ?_; rintro e w' ⟨rfl, ⟨nd, rfl⟩⟩; refine ⟨_, rfl, ?_⟩; have bk : 0 ≤ (am : Int) := oa_; have bp : am < (ai.length : Int) := oa_; obtain ⟨cI, cg, ar⟩ := Kd.at_int bM.o am bk bp; cases cg; replace ar := (HB.o.cell (World.block_lt_of_cell? w _ ar)).trans ar; replace bk := eq_true bk; replace bp := eq_true bp) | (go_at_call 26; (with_reducible refine (spec_l1In.calls (rd ai am) (-9) 9 false _ A20.o).mono ?_); rintro e w' ⟨rfl, ⟨nd, rfl⟩⟩))
          go_ret
          exact ⟨by rfl, by repeat (first | (with_reducible first | exact HB.o | apply below_alloc | apply pw_below_drewN | apply below_drew1 | refine below_set ?_ ay.o) | exact HB.o)⟩
         rw [if_neg c19] at H
         cases H
        replace c18 := Bool.eq_false_iff.mpr c18; subst c18; rw [if_neg nf_] at H; obtain rfl := Option.some.inj H; have cZ := bq4 af.o
        have aQ : 0 ≤ (am : Int) := oa_
        have aT : am < (aa.length : Int) := oa_
        obtain ⟨bN, bA, al⟩ := Kd.at_int bw.o am aQ aT
        cases bA
        replace al := (HB.o.cell (World.block_lt_of_cell? w _ al)).trans al; replace aQ := eq_true aQ; replace aT := eq_true aT
        go_wp2_with (first | ((with_reducible refine gc_ 26 rfl ?_); refine cM_ E26 45 (spec_l1In.calls (rd aa am) (-9) 9 false _ A17.o) ?_; rintro e w' ⟨rfl, ⟨nd, rfl⟩⟩; refine ⟨_, rfl, ?_⟩))
        go_ret
        exact ⟨by rfl, by repeat (first | (with_reducible first | exact HB.o | apply below_alloc | apply pw_below_drewN | apply below_drew1 | refine below_set ?_ ay.o) | exact HB.o)⟩
       rw [if_neg c16] at H
       cases H
      rw [if_neg c15] at H
      cases H
     rw [if_neg c14] at H; have bO := decide_eq_false c14; clear c14
     have H' := A_ H
     clear H
     go_wp2
     go_loopg [5] k2 (fun kq v5 w' => ∃ (ac : Int), v5 = .int .i64 ac ∧ Aside0 (spec_IsLinear.l1 kq (aa.length : Int) ac an aa ab ai = some r) ∧ Aside0 (kq ≤ k2) ∧ Aside0 (w'.heap[bc]? = some (.cells #[.int .i64 an, (.slice aY aa.length a9), (.slice bv ab.length ba), (.slice a8 ai.length bb)] 27 (0, 0))) ∧ Aside0 (Below w.heap.size w w'))
     case atStart => exact ⟨(0), (by rfl), H', ⟨Nat.le_refl _⟩, ⟨af.o⟩, ⟨HB.o⟩⟩
     case round =>
      clear H'
      try clear bO
      obtain ⟨ac, rfl, HA, cG, af, HB⟩ := hrel
      cases gk with
      | zero => exact nz_ HA.o
      | succ k3 =>
       have H := HA.o; clear HA; simp only [spec_IsLinear.l1] at H
       by_cases c25 : ac < an
       ·rw [if_pos c25] at H; have bP := decide_eq_true c25; clear c25
        by_cases c26 : 0 ≤ ac
        ·rw [if_pos c26] at H; have cM := decide_eq_true c26; clear c26
         by_cases c27 : ac < (ab.length : Int)
         ·rw [if_pos c27] at H; have cN := decide_eq_true c27; clear c27
          by_cases c28 : ((rd_L2 ab ac).length : Int) = (aa.length : Int)
          ·rw [if_pos c28] at H
           have bQ : (((rd_L2 ab ac).length : Int) == (aa.length : Int)) = true := beq_iff_eq.mpr c28
           have bR : (((rd_L2 ab ac).length : Int) != (aa.length : Int)) = false := bne_eq_false_iff_eq.mpr c28
           have bS : ((rd_L2 ab ac).length == aa.length) = true := by first | simpa using c28 | (simp at c28 ⊢; omega)
           clear c28
           have H' := A_ H
           clear H; have bI := bq4 af.o
           have be : 0 ≤ (ac : Int) := oa_
           have bh : ac < (ab.length : Int) := oa_
           obtain ⟨aN, b4, b9, ch, ao, aG, az⟩ := at_L2 aU.o ac be bh
           cases ch
           replace ao := (HB.o.cell (World.block_lt_of_cell? w _ ao)).trans ao; have bG := A_ az; have bB := A_ aG; clear az aG; replace be := eq_true be; replace bh := eq_true bh
           go_wp2
           go_loopg [6] k3 (fun kq v6 w' => ∃ (ak : Int), v6 = .int .i64 ak ∧ Aside0 (spec_IsLinear.l2 kq (aa.length : Int) ac ak an aa ab ai = some r) ∧ Aside0 (kq ≤ k3) ∧ Aside0 (w'.heap[bc]? = some (.cells #[.int .i64 an, (.slice aY aa.length a9), (.slice (some aN) ab.length ba), (.slice a8 ai.length bb)] 27 (0, 0))) ∧ Aside0 (Below w.heap.size w w'))
           case atStart => exact ⟨(0), (by rfl), H', ⟨Nat.le_refl _⟩, ⟨af.o⟩, ⟨HB.o⟩⟩
           case round =>
            clear H'
            clear bP cM cN bQ bR bS bI ao be bh
            obtain ⟨ak, rfl, HA, cH, af, HB⟩ := hrel
            cases gk with
            | zero => exact nz_ HA.o
            | succ k4 =>
             have H := HA.o; clear HA; simp only [spec_IsLinear.l2] at H
             by_cases c30 : ak < (aa.length : Int)
             ·rw [if_pos c30] at H; have bT := decide_eq_true c30; clear c30
              by_cases c31 : 0 ≤ ac
              ·rw [if_pos c31] at H; have cO := decide_eq_true c31; clear c31
               by_cases c32 : ac < (ab.length : Int)
               ·rw [if_pos c32] at H; have cP := decide_eq_true c32; clear c32
                by_cases c33 : 0 ≤ ak
                ·rw [if_pos c33] at H; have cQ := decide_eq_true c33; clear c33
                 by_cases c34 : ak < ((rd_L2 ab ac).length : Int)
                 ·rw [if_pos c34] at H; have cR := decide_eq_true c34; clear c34
                  by_cases c35 : ((rd_L1 (rd_L2 ab ac) ak).length : Int) = (aa.length : Int)
                  ·rw [if_pos c35] at H
                   have bU : (((rd_L1 (rd_L2 ab ac) ak).length : Int) == (aa.length : Int)) = true := beq_iff_eq.mpr c35
                   have bV : (((rd_L1 (rd_L2 ab ac) ak).length : Int) != (aa.length : Int)) = false := bne_eq_false_iff_eq.mpr c35
                   have bW : ((rd_L1 (rd_L2 ab ac) ak).length == aa.length) = true := by first | simpa using c35 | (simp at c35 ⊢; omega)
                   clear c35
                   have H' := A_ H
                   clear H; have bJ := bq4 af.o
                   have bf : 0 ≤ (ac : Int) := oa_
                   have bi : ac < (ab.length : Int) := oa_
                   obtain ⟨bx, b5, ca, ci, ap, aH, aA⟩ := at_L2 aU.o ac bf bi; obtain rfl : aN = bx := (by injection ci); replace ap := (HB.o.cell (World.block_lt_of_cell? w _ ap)).trans ap; have aV := A_ aA; have bC := A_ aH; clear aA aH; replace bf := eq_true bf; replace bi := eq_true bi
                   have bg : 0 ≤ (ak : Int) := oa_
                   have bj : ak < ((rd_L2 ab ac).length : Int) := oa_
                   obtain ⟨cJ, b6, cc, ck, aq, aI, aC⟩ := at_L1 aV.o ak bg bj
                   cases ck
                   replace aq := (HB.o.cell (World.block_lt_of_cell? w _ aq)).trans aq; have bH := A_ aC; have bD := A_ aI; clear aC aI; replace bg := eq_true bg; replace bj := eq_true bj
                   go_wp2
                   go_loopg [7] k4 (fun kq v7 w' => ∃ (ax : Int), v7 = .int .i64 ax ∧ Aside0 (spec_IsLinear.l3 kq (aa.length : Int) ac ak ax an aa ab ai = some r) ∧ Aside0 (kq ≤ k4) ∧ Aside0 (w'.heap[bc]? = some (.cells #[.int .i64 an, (.slice aY aa.length a9), (.slice (some aN) ab.length ba), (.slice a8 ai.length bb)] 27 (0, 0))) ∧ Aside0 (Below w.heap.size w w'))
                   case atStart => exact ⟨(0), (by rfl), H', ⟨Nat.le_refl _⟩, ⟨af.o⟩, ⟨HB.o⟩⟩
                   case round =>
                    clear H'
                    clear bT cO cP cQ cR bU bV bW bJ ap aq bf bg bi bj
                    obtain ⟨ax, rfl, HA, cT, af, HB⟩ := hrel
                    cases gk with
                    | zero => exact nz_ HA.o
                    | succ k5 =>
                     have H := HA.o; clear HA; simp only [spec_IsLinear.l3] at H
                     by_cases c37 : ax < (aa.length : Int)
                     ·rw [if_pos c37] at H; have cS := decide_eq_true c37; clear c37
                      by_cases c38 : 0 ≤ ac
                      ·rw [if_pos c38] at H; have dt := decide_eq_true c38; clear c38
                       by_cases c39 : ac < (ab.length : Int)
                       ·rw [if_pos c39] at H; have du := decide_eq_true c39; clear c39
                        by_cases c40 : 0 ≤ ak
                        ·rw [if_pos c40] at H; have dv := decide_eq_true c40; clear c40
                         by_cases c41 : ak < ((rd_L2 ab ac).length : Int)
                         ·rw [if_pos c41] at H; have dw := decide_eq_true c41; clear c41
                          by_cases c42 : 0 ≤ ax
                          ·rw [if_pos c42] at H; have dx := decide_eq_true c42; clear c42
                           by_cases c43 : ax < ((rd_L1 (rd_L2 ab ac) ak).length : Int)
                           ·rw [if_pos c43] at H; have dy := decide_eq_true c43; clear c43; replace H := bA_ H; obtain ⟨cF, A44, H⟩ := H
                            by_cases c45 : cF = true
                            ·subst c45; rw [if_pos rfl] at H
                             have H' := A_ H
                             clear H; have da := bq4 af.o
                             have bl : 0 ≤ (ac : Int) := oa_
                             have bq : ac < (ab.length : Int) := oa_
                             obtain ⟨bz, b7, cd, co, au, aJ, aD⟩ := at_L2 aU.o ac bl bq; obtain rfl : aN = bz := (by injection co); replace au := (HB.o.cell (World.block_lt_of_cell? w _ au)).trans au; have aW := A_ aD; have bE := A_ aJ; clear aD aJ; replace bl := eq_true bl; replace bq := eq_true bq
                             have bm : 0 ≤ (ak : Int) := oa_
                             have br : ak < ((rd_L2 ab ac).length : Int) := oa_
                             obtain ⟨cK, b8, cf, ct, av, aM, aE⟩ := at_L1 aW.o ak bm br
                             cases ct
                             replace av := (HB.o.cell (World.block_lt_of_cell? w _ av)).trans av; have aX := A_ aE; have bF := A_ aM; clear aE aM; replace bm := eq_true bm; replace br := eq_true br
                             have bn : 0 ≤ (ax : Int) := oa_
                             have bs : ax < ((rd_L1 (rd_L2 ab ac) ak).length : Int) := oa_
                             obtain ⟨cL, cw, aw⟩ := Kd.at_int aX.o ax bn bs
                             cases cw
                             replace aw := (HB.o.cell (World.block_lt_of_cell? w _ aw)).trans aw; replace bn := eq_true bn; replace bs := eq_true bs
                             go_wp2_with (first | ((with_reducible refine gc_ 26 rfl ?_); refine cM_ E26 102 (spec_l1In.calls (rd (rd_L1 (rd_L2 ab ac) ak) ax) (-9) 9 true _ A44.o) ?_; rintro e w' ⟨rfl, ⟨nd, rfl⟩⟩; refine ⟨_, rfl, ?_⟩))
                             go_roundg k5
                             case measure => have := bK.o; have := bL.o; have := cG.o; have := cH.o; have := cT.o; omega
                             case rel => exact ⟨(wrap64 (ax + 1)), (by rfl), H', ⟨by have := bK.o; have := bL.o; have := cG.o; have := cH.o; have := cT.o; omega⟩, ⟨by (with_reducible repeat (first | refine blk_drewN ?_ _ | refine blk_drew ?_ | refine blk_alloc ?_ _)); exact af.o⟩, ⟨by repeat (first | (with_reducible first | exact HB.o | apply below_alloc | apply pw_below_drewN | apply below_drew1 | refine below_set ?_ ay.o) | exact HB.o)⟩⟩
                            replace c45 := Bool.eq_false_iff.mpr c45; subst c45; rw [if_neg nf_] at H; obtain rfl := Option.some.inj H; have db := bq4 af.o
                            have bl : 0 ≤ (ac : Int) := oa_
                            have bq : ac < (ab.length : Int) := oa_
                            obtain ⟨bz, b7, cd, co, au, aJ, aD⟩ := at_L2 aU.o ac bl bq; obtain rfl : aN = bz := (by injection co); replace au := (HB.o.cell (World.block_lt_of_cell? w _ au)).trans au; have aW := A_ aD; have bE := A_ aJ; clear aD aJ; replace bl := eq_true bl; replace bq := eq_true bq
                            have bm : 0 ≤ (ak : Int) := oa_
                            have br : ak < ((rd_L2 ab ac).length : Int) := oa_
                            obtain ⟨cK, b8, cf, ct, av, aM, aE⟩ := at_L1 aW.o ak bm br
                            cases ct
                            replace av := (HB.o.cell (World.block_lt_of_cell? w _ av)).trans av; have aX := A_ aE; have bF := A_ aM; clear aE aM; replace bm := eq_true bm; replace br := eq_true br
                            have bn : 0 ≤ (ax : Int) := oa_
                            have bs : ax < ((rd_L1 (rd_L2 ab ac) ak).length : Int) := oa_
                            obtain ⟨cL, cw, aw⟩ := Kd.at_int aX.o ax bn bs
                            cases cw
                            replace aw := (HB.o.cell (World.block_lt_of_cell? w _ aw)).trans aw; replace bn := eq_true bn; replace bs := eq_true bs
                            go_wp2_with (first | ((with_reducible refine gc_ 26 rfl ?_); refine cM_ E26 102 (spec_l1In.calls (rd (rd_L1 (rd_L2 ab ac) ak) ax) (-9) 9 false _ A44.o) ?_; rintro e w' ⟨rfl, ⟨nd, rfl⟩⟩; refine ⟨_, rfl, ?_⟩))
                            go_ret
                            exact ⟨by rfl, by repeat (first | (with_reducible first | exact HB.o | apply below_alloc | apply pw_below_drewN | apply below_drew1 | refine below_set ?_ ay.o) | exact HB.o)⟩
                           rw [if_neg c43] at H
                           cases H
                          rw [if_neg c42] at H
                          cases H
                         rw [if_neg c41] at H
                         cases H
                        rw [if_neg c40] at H
                        cases H
                       rw [if_neg c39] at H
                       cases H
                      rw [if_neg c38] at H
                      cases H
                     rw [if_neg c37] at H; have cS := decide_eq_false c37; clear c37
                     have H' := A_ H
                     clear H
                     go_wp2
                     go_roundg k5
                     case measure => have := bK.o; have := bL.o; have := cG.o; have := cH.o; have := cT.o; omega
                     case rel => exact ⟨(wrap64 (ak + 1)), (by rfl), H', ⟨by have := bK.o; have := bL.o; have := cG.o; have := cH.o; have := cT.o; omega⟩, ⟨af.o⟩, ⟨HB.o⟩⟩
                  rw [if_neg c35] at H
                  have bU : (((rd_L1 (rd_L2 ab ac) ak).length : Int) == (aa.length : Int)) = false := beq_eq_false_iff_ne.mpr c35
                  have bV : (((rd_L1 (rd_L2 ab ac) ak).length : Int) != (aa.length : Int)) = true := bne_iff_ne.mpr c35
                  have bW : ((rd_L1 (rd_L2 ab ac) ak).length == aa.length) = false := by first | simpa using c35 | (simp at c35 ⊢; omega)
                  obtain rfl := Option.some.inj H; have dd := bq4 af.o
                  have bf : 0 ≤ (ac : Int) := oa_
                  have bi : ac < (ab.length : Int) := oa_
                  obtain ⟨bx, b5, ca, ci, ap, aH, aA⟩ := at_L2 aU.o ac bf bi; obtain rfl : aN = bx := (by injection ci); replace ap := (HB.o.cell (World.block_lt_of_cell? w _ ap)).trans ap; have aV := A_ aA; have bC := A_ aH; clear aA aH; replace bf := eq_true bf; replace bi := eq_true bi
                  have bg : 0 ≤ (ak : Int) := oa_
                  have bj : ak < ((rd_L2 ab ac).length : Int) := oa_
                  obtain ⟨cJ, b6, cc, ck, aq, aI, aC⟩ := at_L1 aV.o ak bg bj
                  cases ck
                  replace aq := (HB.o.cell (World.block_lt_of_cell? w _ aq)).trans aq; have bH := A_ aC; have bD := A_ aI; clear aC aI; replace bg := eq_true bg; replace bj := eq_true bj
                  go_wp2
                  go_ret
                  exact ⟨by rfl, HB.o⟩
                 rw [if_neg c34] at H
                 cases H
                rw [if_neg c33] at H
                cases H
               rw [if_neg c32] at H
               cases H
              rw [if_neg c31] at H
              cases H
             rw [if_neg c30] at H; have bT := decide_eq_false c30; clear c30
             have H' := A_ H
             clear H
             go_wp2
             go_roundg k4
             case measure => have := bK.o; have := bL.o; have := cG.o; have := cH.o; omega
             case rel => exact ⟨(wrap64 (ac + 1)), (by rfl), H', ⟨by have := bK.o; have := bL.o; have := cG.o; have := cH.o; omega⟩, ⟨af.o⟩, ⟨HB.o⟩⟩
          rw [if_neg c28] at H
          have bQ : (((rd_L2 ab ac).length : Int) == (aa.length : Int)) = false := beq_eq_false_iff_ne.mpr c28
          have bR : (((rd_L2 ab ac).length : Int) != (aa.length : Int)) = true := bne_iff_ne.mpr c28
          have bS : ((rd_L2 ab ac).length == aa.length) = false := by first | simpa using c28 | (simp at c28 ⊢; omega)
          obtain rfl := Option.some.inj H; have de := bq4 af.o
          have be : 0 ≤ (ac : Int) := oa_
          have bh : ac < (ab.length : Int) := oa_
          obtain ⟨aN, b4, b9, ch, ao, aG, az⟩ := at_L2 aU.o ac be bh
          cases ch
          replace ao := (HB.o.cell (World.block_lt_of_cell? w _ ao)).trans ao; have bG := A_ az; have bB := A_ aG; clear az aG; replace be := eq_true be; replace bh := eq_true bh
          go_wp2
          go_ret
          exact ⟨by rfl, HB.o⟩
         rw [if_neg c27] at H
         cases H
        rw [if_neg c26] at H
        cases H
       rw [if_neg c25] at H; have bP := decide_eq_false c25; clear c25; obtain rfl := Option.some.inj H; have df := bq4 af.o
       go_wp2
       go_ret
       exact ⟨by rfl, HB.o⟩

end Go.Proofs.Ytlcepacbbfekoaa.PFnExactSumForms
