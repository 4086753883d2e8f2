/- Walks of the functions that the law reaches. -/
import Derived.Test.YtgmfjcckmapkbaaPFnExactPrefixSumx2
namespace Go.Proofs.Ytgmfjcckmapkbaa.PFnExactPrefixSum
open Go.RowKit Go.Proofs.YtgmfjcckmapkbaaW.PrintWords Go.Proofs.YtgmfjcckmapkbaaW.PrintLast Go.Proofs.YtgmfjcckmapkbaaW.PrintMore
attribute [local go_sem] max2_int min2_int max_two min_two max_three min_three max_four min_four
set_option linter.unusedVariables false
set_option maxHeartbeats 8000000
set_option maxRecDepth 100000
set_option linter.unusedSimpArgs false

mutual
def spec_IsLinear.j0 : Nat → Int → Bool → Int → List Int → List (List (List Int)) → List Int → Option (Bool)
 | 0, _, _, _, _, _, _ => none
 | k + 1, x3, de, aj, ag, ae, ah => if de = true then (some false) else (spec_IsLinear.l0 k x3 0 aj ag ae ah)
def spec_IsLinear.l0 : Nat → Int → Int → Int → List Int → List (List (List Int)) → List Int → Option (Bool)
 | 0, _, _, _, _, _, _ => none
 | k + 1, x3, x4, aj, ag, ae, ah => if x4 < x3 then (if 0 ≤ x4 then (if x4 < (ag.length : Int) then ((spec_l1In.f (rd ag x4) (-9) 9).bind fun cd => (if cd = true then (if x4 < (ah.length : Int) then ((spec_l1In.f (rd ah x4) (-9) 9).bind fun ce => (if ce = true then (spec_IsLinear.l0 k x3 (wrap64 (x4 + 1)) aj ag ae ah) else (some false))) else (none)) else (some false))) else (none)) else (none)) else (spec_IsLinear.l1 k x3 0 aj ag ae ah)
def spec_IsLinear.l1 : Nat → Int → Int → Int → List Int → List (List (List Int)) → List Int → Option (Bool)
 | 0, _, _, _, _, _, _ => none
 | k + 1, x3, x5, aj, ag, ae, ah => if x5 < aj then (if 0 ≤ x5 then (if x5 < (ae.length : Int) then (if ((rd_L2 ae x5).length : Int) = x3 then (spec_IsLinear.l2 k x3 x5 0 aj ag ae ah) else (some false)) else (none)) else (none)) else (some true)
def spec_IsLinear.l2 : Nat → Int → Int → Int → Int → List Int → List (List (List Int)) → List Int → Option (Bool)
 | 0, _, _, _, _, _, _, _ => none
 | k + 1, x3, x5, x6, aj, ag, ae, ah => if x6 < x3 then (if 0 ≤ x5 then (if x5 < (ae.length : Int) then (if 0 ≤ x6 then (if x6 < ((rd_L2 ae x5).length : Int) then (if ((rd_L1 (rd_L2 ae x5) x6).length : Int) = x3 then (spec_IsLinear.l3 k x3 x5 x6 0 aj ag ae ah) else (some false)) else (none)) else (none)) else (none)) else (none)) else (spec_IsLinear.l1 k x3 (wrap64 (x5 + 1)) aj ag ae ah)
def spec_IsLinear.l3 : Nat → Int → Int → Int → Int → Int → List Int → List (List (List Int)) → List Int → Option (Bool)
 | 0, _, _, _, _, _, _, _, _ => none
 | k + 1, x3, x5, x6, x7, aj, ag, ae, ah => if x7 < x3 then (if 0 ≤ x5 then (if x5 < (ae.length : Int) then (if 0 ≤ x6 then (if x6 < ((rd_L2 ae x5).length : Int) then (if 0 ≤ x7 then (if x7 < ((rd_L1 (rd_L2 ae x5) x6).length : Int) then ((spec_l1In.f (rd (rd_L1 (rd_L2 ae x5) x6) x7) (-9) 9).bind fun cf => (if cf = true then (spec_IsLinear.l3 k x3 x5 x6 (wrap64 (x7 + 1)) aj ag ae ah) else (some false))) else (none)) else (none)) else (none)) else (none)) else (none)) else (none)) else (spec_IsLinear.l2 k x3 x5 (wrap64 (x6 + 1)) aj ag ae ah)
end
def spec_IsLinear.f (k : Nat) (an : Int) (aa : List Int) (ab : List (List (List Int))) (ai : List Int) : Option (Bool) := (spec_l1In.f (aa.length : Int) 1 40).bind fun cb => (if cb = true then (if (ai.length : Int) = (aa.length : Int) then ((spec_l1In.f an 2 4).bind fun cc => (if cc = true then (spec_IsLinear.j0 k (aa.length : Int) ((ab.length : Int) != an) an aa ab ai) else (spec_IsLinear.j0 k (aa.length : Int) true an aa ab ai))) else (spec_IsLinear.j0 k (aa.length : Int) true an aa ab ai)) else (spec_IsLinear.j0 k (aa.length : Int) true an aa ab ai))
theorem spec_IsLinear.calls (k : Nat) (an : Int) (aX : Option Addr) (aZ : Nat) (aa : List Int) (bl : Option Addr) (a3 : Nat) (ab : List (List (List Int))) (aY : Option Addr) (a4 : Nat) (ai : List Int) (r : Bool) (w : World) (bQ : Kd.C (Kd.int .i64) w aX aa.length aa) (bN : aa.length ≤ aZ) (bR : Kd.C (Kd.slice 23 (Kd.slice 3 (Kd.int .i64))) w bl ab.length ab) (bO : ab.length ≤ a3) (bS : Kd.C (Kd.int .i64) w aY ai.length ai) (bP : ai.length ≤ a4) (h : spec_IsLinear.f k an aa ab ai = some r) :
  Calls Try.prog 46 #[.agg #[.int .i64 an, .slice aX aa.length aZ, .slice bl ab.length a3, .slice aY ai.length a4]] w fun e w' => e = .returned (.bool r) ∧ Below w.heap.size w w' := by
 have hu29 := Try.underlying29; have bm := A_ bQ; have cP := A_ bN; clear bQ bN; have aT := A_ bR; have cQ := A_ bO; clear bR bO; have bC := A_ bS; have cS := A_ bP; clear bS bP; have HB := A_ (Below.refl w.heap.size w); unfold spec_IsLinear.f at h; have H := h; clear h; have HC2 := A_ H; clear H; go_enter Try.func46, Try.ntmps46
 go_upto_region 2 with (first | ((with_reducible refine gate_dst (N := 1) rfl ?_); (try (refine gate_guard (by rfl) ?_; dsimp only)); refine box_event rfl (N := 1) rfl (cs := #[.int .i64 an, .slice aX aa.length aZ, .slice bl ab.length a3, .slice aY ai.length a4]) (t := 29) (by go_simp; done) ?_; intro a5 hg w3 hbox hb; have af := A_ (hbox); have cO := A_ (lg_ (below_size HB.o) hg); have ay := A_ (lg_ (below_size HB.o) hg); replace HB := bs_ HB hb; clear hb hbox hg; have ca := bq4 af.o))
 (try simp only [Act.put, mD, mE, mF])
 go_cut [34] (fun dd wc => ∃ (kq : Nat) (bk : Bool), dd = .bool bk ∧ Aside0 (spec_IsLinear.j0 kq (aa.length : Int) bk an aa ab ai = some r) ∧ Aside0 (kq ≤ k) ∧ Aside0 (wc.heap[a5]? = some (.cells #[.int .i64 an, (.slice aX aa.length aZ), (.slice bl ab.length a3), (.slice aY ai.length a4)] 29 (0, 0))) ∧ Aside0 (Below w.heap.size w wc))
 case first =>
  have H := HC2.o; clear HC2; replace H := bA_ H; obtain ⟨cb, A5, H⟩ := H
  by_cases c6 : cb = true
  ·subst c6; rw [if_pos rfl] at H
   by_cases c7 : (ai.length : Int) = (aa.length : Int)
   ·rw [if_pos c7] at H
    have cK : ((ai.length : Int) == (aa.length : Int)) = true := beq_iff_eq.mpr c7
    have cL : ((ai.length : Int) != (aa.length : Int)) = false := bne_eq_false_iff_eq.mpr c7
    have cN : (ai.length == aa.length) = true := by first | simpa using c7 | (simp at c7 ⊢; omega)
    clear c7
    (skip)
    replace H := bA_ H; obtain ⟨cc, A8, H⟩ := H
    by_cases c9 : cc = true
    ·subst c9; rw [if_pos rfl] at H
     have H' := A_ H
     clear H
     go_wp2_with (first | ((with_reducible refine gc_ 22 rfl ?_); refine cL_ E22 12 rfl rfl rfl (spec_l1In.calls (aa.length : Int) 1 40 true _ A5.o) (by (try simp only [mA, mB, mC]); first | done | rfl | (simp only [List.length_drop, List.length_take]; rfl)) ?_; rintro e w' ⟨rfl, ⟨nd, rfl⟩⟩; refine ⟨_, rfl, ?_⟩; have cy := bq4 af.o) | (go_at_call 22; (with_reducible refine (spec_l1In.calls an 2 4 true _ A8.o).mono ?_); rintro e w' ⟨rfl, ⟨nd, rfl⟩⟩))
     go_meet
     case rel => exact ⟨_, (((ab.length : Int) != an)), (by rfl), H', ⟨by omega⟩, ⟨by (with_reducible repeat (first | refine blk_drewN ?_ _ | refine blk_drew ?_ | refine blk_alloc ?_ _)); exact af.o⟩, ⟨by repeat (first | (with_reducible first | exact HB.o | apply below_alloc | apply pw_below_drewN | apply below_drew1 | refine below_set ?_ ay.o) | exact HB.o)⟩⟩
    replace c9 := Bool.eq_false_iff.mpr c9; subst c9; rw [if_neg nf_] at H
    have H' := A_ H
    clear H
    go_wp2_with (first | ((with_reducible refine gc_ 22 rfl ?_); refine cL_ E22 12 rfl rfl rfl (spec_l1In.calls (aa.length : Int) 1 40 true _ A5.o) (by (try simp only [mA, mB, mC]); first | done | rfl | (simp only [List.length_drop, List.length_take]; rfl)) ?_; rintro e w' ⟨rfl, ⟨nd, rfl⟩⟩; refine ⟨_, rfl, ?_⟩; have cA := bq4 af.o) | (go_at_call 22; (with_reducible refine (spec_l1In.calls an 2 4 false _ A8.o).mono ?_); rintro e w' ⟨rfl, ⟨nd, rfl⟩⟩))
    go_meet
    case rel => exact ⟨_, (true), (by rfl), H', ⟨by omega⟩, ⟨by (with_reducible repeat (first | refine blk_drewN ?_ _ | refine blk_drew ?_ | refine blk_alloc ?_ _)); exact af.o⟩, ⟨by repeat (first | (with_reducible first | exact HB.o | apply below_alloc | apply pw_below_drewN | apply below_drew1 | refine below_set ?_ ay.o) | exact HB.o)⟩⟩
   rw [if_neg c7] at H
   have cK : ((ai.length : Int) == (aa.length : Int)) = false := beq_eq_false_iff_ne.mpr c7
   have cL : ((ai.length : Int) != (aa.length : Int)) = true := bne_iff_ne.mpr c7
   have cN : (ai.length == aa.length) = false := by first | simpa using c7 | (simp at c7 ⊢; omega)
   (skip)
   have H' := A_ H
   clear H
   go_wp2_with (first | ((with_reducible refine gc_ 22 rfl ?_); refine cM_ E22 12 (spec_l1In.calls (aa.length : Int) 1 40 true _ A5.o) ?_; rintro e w' ⟨rfl, ⟨nd, rfl⟩⟩; refine ⟨_, rfl, ?_⟩; have cB := bq4 af.o))
   go_meet
   case rel => exact ⟨_, (true), (by rfl), H', ⟨by omega⟩, ⟨by (with_reducible repeat (first | refine blk_drewN ?_ _ | refine blk_drew ?_ | refine blk_alloc ?_ _)); exact af.o⟩, ⟨by repeat (first | (with_reducible first | exact HB.o | apply below_alloc | apply pw_below_drewN | apply below_drew1 | refine below_set ?_ ay.o) | exact HB.o)⟩⟩
  replace c6 := Bool.eq_false_iff.mpr c6; subst c6; rw [if_neg nf_] at H
  have H' := A_ H
  clear H
  go_wp2_with (first | ((with_reducible refine gc_ 22 rfl ?_); refine cM_ E22 12 (spec_l1In.calls (aa.length : Int) 1 40 false _ A5.o) ?_; rintro e w' ⟨rfl, ⟨nd, rfl⟩⟩; refine ⟨_, rfl, ?_⟩))
  go_meet
  case rel => exact ⟨_, (true), (by rfl), H', ⟨by omega⟩, ⟨by (with_reducible repeat (first | refine blk_drewN ?_ _ | refine blk_drew ?_ | refine blk_alloc ?_ _)); exact af.o⟩, ⟨by repeat (first | (with_reducible first | exact HB.o | apply below_alloc | apply pw_below_drewN | apply below_drew1 | refine below_set ?_ ay.o) | exact HB.o)⟩⟩
 case rest =>
  clear HC2
  try clear ca
  obtain ⟨kq, bk, rfl, HA, bA, af, HB⟩ := hcut
  cases kq with
  | zero => exact nz_ HA.o
  | succ kj1 =>
   have H := HA.o; clear HA; simp only [spec_IsLinear.j0] at H
   by_cases c13 : bk = true
   ·subst c13; rw [if_pos rfl] at H; obtain rfl := Option.some.inj H
    go_wp2
    go_ret
    exact ⟨by rfl, HB.o⟩
   replace c13 := Bool.eq_false_iff.mpr c13; subst c13; rw [if_neg nf_] at H
   have H' := A_ H
   clear H
   go_wp2
   go_loopg [4] kj1 (fun kq v4 w' => ∃ (am : Int), v4 = .int .i64 am ∧ Aside0 (spec_IsLinear.l0 kq (aa.length : Int) am an aa ab ai = some r) ∧ Aside0 (kq ≤ kj1) ∧ Aside0 (w'.heap[a5]? = some (.cells #[.int .i64 an, (.slice aX aa.length aZ), (.slice bl ab.length a3), (.slice aY ai.length a4)] 29 (0, 0))) ∧ Aside0 (Below w.heap.size w w'))
   case atStart => exact ⟨(0), (by rfl), H', ⟨Nat.le_refl _⟩, ⟨af.o⟩, ⟨HB.o⟩⟩
   case round =>
    clear H'; obtain ⟨am, rfl, HA, bB, af, HB⟩ := hrel
    cases gk with
    | zero => exact nz_ HA.o
    | succ k2 =>
     have H := HA.o; clear HA; simp only [spec_IsLinear.l0] at H
     by_cases c14 : am < (aa.length : Int)
     ·rw [if_pos c14] at H; have bE := decide_eq_true c14; clear c14
      by_cases c15 : 0 ≤ am
      ·rw [if_pos c15] at H; have cU := decide_eq_true c15; clear c15
       by_cases c16 : am < (aa.length : Int)
       ·rw [if_pos c16] at H; have cV := decide_eq_true c16; clear c16; replace H := bA_ H; obtain ⟨cd, A17, H⟩ := H
        by_cases c18 : cd = true
        ·subst c18; rw [if_pos rfl] at H
         by_cases c19 : am < (ai.length : Int)
         ·rw [if_pos c19] at H; have cW := decide_eq_true c19; clear c19; replace H := bA_ H; obtain ⟨ce, A20, H⟩ := H
          by_cases c21 : ce = true
          ·subst c21; rw [if_pos rfl] at H
           have H' := A_ H
           clear H; have cC := bq4 af.o
           have aN : 0 ≤ (am : Int) := oa_
           have aQ : am < (aa.length : Int) := oa_
           obtain ⟨bD, bp, al⟩ := Kd.at_int bm.o am aN aQ
           cases bp
           replace al := (HB.o.cell (World.block_lt_of_cell? w _ al)).trans al; replace aN := eq_true aN; replace aQ := eq_true aQ
           go_wp2_with (first | ((with_reducible refine gc_ 22 rfl ?_); refine cL_ E22 45 rfl rfl rfl (spec_l1In.calls (rd aa am) (-9) 9 true _ A17.o) (by (try simp only [mA, mB, mC]); first | done | rfl | (simp only [List.length_drop, List.length_take]; rfl)) ?_; rintro e w' ⟨rfl, ⟨nd, rfl⟩⟩; refine ⟨_, rfl, ?_⟩; have bc : 0 ≤ (am : Int) := oa_; have bg : am < (ai.length : Int) := oa_; obtain ⟨ci, b3, ar⟩ := Kd.at_int bC.o am bc bg; cases b3; replace ar := (HB.o.cell (World.block_lt_of_cell? w _ ar)).trans ar; replace bc := eq_true bc; replace bg := eq_true bg) | (go_at_call 22; (with_reducible refine (spec_l1In.calls (rd ai am) (-9) 9 true _ A20.o).mono ?_); rintro e w' ⟨rfl, ⟨nd, rfl⟩⟩))
           go_roundg k2
           case measure => have := bA.o; have := bB.o; omega
           case rel => exact ⟨(wrap64 (am + 1)), (by rfl), H', ⟨by have := bA.o; have := bB.o; omega⟩, ⟨by (with_reducible repeat (first | refine blk_drewN ?_ _ | refine blk_drew ?_ | refine blk_alloc ?_ _)); exact af.o⟩, ⟨by repeat (first | (with_reducible first | exact HB.o | apply below_alloc | apply pw_below_drewN | apply below_drew1 | refine below_set ?_ ay.o) | exact HB.o)⟩⟩
          replace c21 := Bool.eq_false_iff.mpr c21; subst c21; rw [if_neg nf_] at H; obtain rfl := Option.some.inj H; have cD := bq4 af.o
          have aN : 0 ≤ (am : Int) := oa_
          have aQ : am < (aa.length : Int) := oa_
          obtain ⟨bD, bp, al⟩ := Kd.at_int bm.o am aN aQ
          cases bp
          replace al := (HB.o.cell (World.block_lt_of_cell? w _ al)).trans al; replace aN := eq_true aN; replace aQ := eq_true aQ
          go_wp2_with (first | ((with_reducible refine gc_ 22 rfl ?_); refine cL_ E22 45 rfl rfl rfl (spec_l1In.calls (rd aa am) (-9) 9 true _ A17.o) (by (try simp only [mA, mB, mC]); first | done | rfl | (simp only [List.length_drop, List.length_take]; rfl)) ?_; rintro e w' ⟨rfl, ⟨nd, rfl⟩⟩; refine ⟨_, rfl, ?_⟩; have bc : 0 ≤ (am : Int) := oa_; have bg : am < (ai.length : Int) := oa_; obtain ⟨ci, b3, ar⟩ := Kd.at_int bC.o am bc bg; cases b3; replace ar := (HB.o.cell (World.block_lt_of_cell? w _ ar)).trans ar; replace bc := eq_true bc; replace bg := eq_true bg) | (go_at_call 22; (with_reducible refine (spec_l1In.calls (rd ai am) (-9) 9 false _ A20.o).mono ?_); rintro e w' ⟨rfl, ⟨nd, rfl⟩⟩))
          go_ret
          exact ⟨by rfl, by repeat (first | (with_reducible first | exact HB.o | apply below_alloc | apply pw_below_drewN | apply below_drew1 | refine below_set ?_ ay.o) | exact HB.o)⟩
         rw [if_neg c19] at H
         cases H
        replace c18 := Bool.eq_false_iff.mpr c18; subst c18; rw [if_neg nf_] at H; obtain rfl := Option.some.inj H; have cE := bq4 af.o
        have aN : 0 ≤ (am : Int) := oa_
        have aQ : am < (aa.length : Int) := oa_
        obtain ⟨bD, bp, al⟩ := Kd.at_int bm.o am aN aQ
        cases bp
        replace al := (HB.o.cell (World.block_lt_of_cell? w _ al)).trans al; replace aN := eq_true aN; replace aQ := eq_true aQ
        go_wp2_with (first | ((with_reducible refine gc_ 22 rfl ?_); refine cM_ E22 45 (spec_l1In.calls (rd aa am) (-9) 9 false _ A17.o) ?_; rintro e w' ⟨rfl, ⟨nd, rfl⟩⟩; refine ⟨_, rfl, ?_⟩))
        go_ret
        exact ⟨by rfl, by repeat (first | (with_reducible first | exact HB.o | apply below_alloc | apply pw_below_drewN | apply below_drew1 | refine below_set ?_ ay.o) | exact HB.o)⟩
       rw [if_neg c16] at H
       cases H
      rw [if_neg c15] at H
      cases H
     rw [if_neg c14] at H; have bE := decide_eq_false c14; clear c14
     have H' := A_ H
     clear H
     go_wp2
     go_loopg [5] k2 (fun kq v5 w' => ∃ (ac : Int), v5 = .int .i64 ac ∧ Aside0 (spec_IsLinear.l1 kq (aa.length : Int) ac an aa ab ai = some r) ∧ Aside0 (kq ≤ k2) ∧ Aside0 (w'.heap[a5]? = some (.cells #[.int .i64 an, (.slice aX aa.length aZ), (.slice bl ab.length a3), (.slice aY ai.length a4)] 29 (0, 0))) ∧ Aside0 (Below w.heap.size w w'))
     case atStart => exact ⟨(0), (by rfl), H', ⟨Nat.le_refl _⟩, ⟨af.o⟩, ⟨HB.o⟩⟩
     case round =>
      clear H'
      try clear bE
      obtain ⟨ac, rfl, HA, cg, af, HB⟩ := hrel
      cases gk with
      | zero => exact nz_ HA.o
      | succ k3 =>
       have H := HA.o; clear HA; simp only [spec_IsLinear.l1] at H
       by_cases c25 : ac < an
       ·rw [if_pos c25] at H; have bF := decide_eq_true c25; clear c25
        by_cases c26 : 0 ≤ ac
        ·rw [if_pos c26] at H; have cn := decide_eq_true c26; clear c26
         by_cases c27 : ac < (ab.length : Int)
         ·rw [if_pos c27] at H; have co := decide_eq_true c27; clear c27
          by_cases c28 : ((rd_L2 ab ac).length : Int) = (aa.length : Int)
          ·rw [if_pos c28] at H
           have bG : (((rd_L2 ab ac).length : Int) == (aa.length : Int)) = true := beq_iff_eq.mpr c28
           have bH : (((rd_L2 ab ac).length : Int) != (aa.length : Int)) = false := bne_eq_false_iff_eq.mpr c28
           have bI : ((rd_L2 ab ac).length == aa.length) = true := by first | simpa using c28 | (simp at c28 ⊢; omega)
           clear c28
           have H' := A_ H
           clear H; have bx := bq4 af.o
           have a6 : 0 ≤ (ac : Int) := oa_
           have a9 : ac < (ab.length : Int) := oa_
           obtain ⟨aM, bT, bY, b4, ao, aG, az⟩ := at_L2 aT.o ac a6 a9
           cases b4
           replace ao := (HB.o.cell (World.block_lt_of_cell? w _ ao)).trans ao; have bv := A_ az; have bq := A_ aG; clear az aG; replace a6 := eq_true a6; replace a9 := eq_true a9
           go_wp2
           go_loopg [6] k3 (fun kq v6 w' => ∃ (ak : Int), v6 = .int .i64 ak ∧ Aside0 (spec_IsLinear.l2 kq (aa.length : Int) ac ak an aa ab ai = some r) ∧ Aside0 (kq ≤ k3) ∧ Aside0 (w'.heap[a5]? = some (.cells #[.int .i64 an, (.slice aX aa.length aZ), (.slice (some aM) ab.length a3), (.slice aY ai.length a4)] 29 (0, 0))) ∧ Aside0 (Below w.heap.size w w'))
           case atStart => exact ⟨(0), (by rfl), H', ⟨Nat.le_refl _⟩, ⟨af.o⟩, ⟨HB.o⟩⟩
           case round =>
            clear H'
            clear bF cn co bG bH bI bx ao a6 a9
            obtain ⟨ak, rfl, HA, ch, af, HB⟩ := hrel
            cases gk with
            | zero => exact nz_ HA.o
            | succ k4 =>
             have H := HA.o; clear HA; simp only [spec_IsLinear.l2] at H
             by_cases c30 : ak < (aa.length : Int)
             ·rw [if_pos c30] at H; have bJ := decide_eq_true c30; clear c30
              by_cases c31 : 0 ≤ ac
              ·rw [if_pos c31] at H; have cp := decide_eq_true c31; clear c31
               by_cases c32 : ac < (ab.length : Int)
               ·rw [if_pos c32] at H; have cq := decide_eq_true c32; clear c32
                by_cases c33 : 0 ≤ ak
                ·rw [if_pos c33] at H; have cr := decide_eq_true c33; clear c33
                 by_cases c34 : ak < ((rd_L2 ab ac).length : Int)
                 ·rw [if_pos c34] at H; have cv := decide_eq_true c34; clear c34
                  by_cases c35 : ((rd_L1 (rd_L2 ab ac) ak).length : Int) = (aa.length : Int)
                  ·rw [if_pos c35] at H
                   have bK : (((rd_L1 (rd_L2 ab ac) ak).length : Int) == (aa.length : Int)) = true := beq_iff_eq.mpr c35
                   have bL : (((rd_L1 (rd_L2 ab ac) ak).length : Int) != (aa.length : Int)) = false := bne_eq_false_iff_eq.mpr c35
                   have bM : ((rd_L1 (rd_L2 ab ac) ak).length == aa.length) = true := by first | simpa using c35 | (simp at c35 ⊢; omega)
                   clear c35
                   have H' := A_ H
                   clear H; have bz := bq4 af.o
                   have a7 : 0 ≤ (ac : Int) := oa_
                   have ba : ac < (ab.length : Int) := oa_
                   obtain ⟨bn, bU, bZ, b5, ap, aH, aA⟩ := at_L2 aT.o ac a7 ba; obtain rfl : aM = bn := (by injection b5); replace ap := (HB.o.cell (World.block_lt_of_cell? w _ ap)).trans ap; have aU := A_ aA; have br := A_ aH; clear aA aH; replace a7 := eq_true a7; replace ba := eq_true ba
                   have a8 : 0 ≤ (ak : Int) := oa_
                   have bb : ak < ((rd_L2 ab ac).length : Int) := oa_
                   obtain ⟨cj, bV, b0, b6, aq, aI, aC⟩ := at_L1 aU.o ak a8 bb
                   cases b6
                   replace aq := (HB.o.cell (World.block_lt_of_cell? w _ aq)).trans aq; have bw := A_ aC; have bs := A_ aI; clear aC aI; replace a8 := eq_true a8; replace bb := eq_true bb
                   go_wp2
                   go_loopg [7] k4 (fun kq v7 w' => ∃ (ax : Int), v7 = .int .i64 ax ∧ Aside0 (spec_IsLinear.l3 kq (aa.length : Int) ac ak ax an aa ab ai = some r) ∧ Aside0 (kq ≤ k4) ∧ Aside0 (w'.heap[a5]? = some (.cells #[.int .i64 an, (.slice aX aa.length aZ), (.slice (some aM) ab.length a3), (.slice aY ai.length a4)] 29 (0, 0))) ∧ Aside0 (Below w.heap.size w w'))
                   case atStart => exact ⟨(0), (by rfl), H', ⟨Nat.le_refl _⟩, ⟨af.o⟩, ⟨HB.o⟩⟩
                   case round =>
                    clear H'
                    clear bJ cp cq cr cv bK bL bM bz ap aq a7 a8 ba bb
                    obtain ⟨ax, rfl, HA, cx, af, HB⟩ := hrel
                    cases gk with
                    | zero => exact nz_ HA.o
                    | succ k5 =>
                     have H := HA.o; clear HA; simp only [spec_IsLinear.l3] at H
                     by_cases c37 : ax < (aa.length : Int)
                     ·rw [if_pos c37] at H; have cw := decide_eq_true c37; clear c37
                      by_cases c38 : 0 ≤ ac
                      ·rw [if_pos c38] at H; have cX := decide_eq_true c38; clear c38
                       by_cases c39 : ac < (ab.length : Int)
                       ·rw [if_pos c39] at H; have cY := decide_eq_true c39; clear c39
                        by_cases c40 : 0 ≤ ak
                        ·rw [if_pos c40] at H; have cZ := decide_eq_true c40; clear c40
                         by_cases c41 : ak < ((rd_L2 ab ac).length : Int)
                         ·rw [if_pos c41] at H; have da := decide_eq_true c41; clear c41
                          by_cases c42 : 0 ≤ ax
                          ·rw [if_pos c42] at H; have db := decide_eq_true c42; clear c42
                           by_cases c43 : ax < ((rd_L1 (rd_L2 ab ac) ak).length : Int)
                           ·rw [if_pos c43] at H; have dc := decide_eq_true c43; clear c43; replace H := bA_ H; obtain ⟨cf, A44, H⟩ := H
                            by_cases c45 : cf = true
                            ·subst c45; rw [if_pos rfl] at H
                             have H' := A_ H
                             clear H; have cF := bq4 af.o
                             have bd : 0 ≤ (ac : Int) := oa_
                             have bh : ac < (ab.length : Int) := oa_
                             obtain ⟨bo, bW, b1, b7, au, aJ, aD⟩ := at_L2 aT.o ac bd bh; obtain rfl : aM = bo := (by injection b7); replace au := (HB.o.cell (World.block_lt_of_cell? w _ au)).trans au; have aV := A_ aD; have bt := A_ aJ; clear aD aJ; replace bd := eq_true bd; replace bh := eq_true bh
                             have be : 0 ≤ (ak : Int) := oa_
                             have bi : ak < ((rd_L2 ab ac).length : Int) := oa_
                             obtain ⟨ck, bX, b2, b8, av, aK, aE⟩ := at_L1 aV.o ak be bi
                             cases b8
                             replace av := (HB.o.cell (World.block_lt_of_cell? w _ av)).trans av; have aW := A_ aE; have bu := A_ aK; clear aE aK; replace be := eq_true be; replace bi := eq_true bi
                             have bf : 0 ≤ (ax : Int) := oa_
                             have bj : ax < ((rd_L1 (rd_L2 ab ac) ak).length : Int) := oa_
                             obtain ⟨cm, b9, aw⟩ := Kd.at_int aW.o ax bf bj
                             cases b9
                             replace aw := (HB.o.cell (World.block_lt_of_cell? w _ aw)).trans aw; replace bf := eq_true bf; replace bj := eq_true bj
                             go_wp2_with (first | ((with_reducible refine gc_ 22 rfl ?_); refine cM_ E22 102 (spec_l1In.calls (rd (rd_L1 (rd_L2 ab ac) ak) ax) (-9) 9 true _ A44.o) ?_; rintro e w' ⟨rfl, ⟨nd, rfl⟩⟩; refine ⟨_, rfl, ?_⟩))
                             go_roundg k5
                             case measure => have := bA.o; have := bB.o; have := cg.o; have := ch.o; have := cx.o; omega
                             case rel => exact ⟨(wrap64 (ax + 1)), (by rfl), H', ⟨by have := bA.o; have := bB.o; have := cg.o; have := ch.o; have := cx.o; omega⟩, ⟨by (with_reducible repeat (first | refine blk_drewN ?_ _ | refine blk_drew ?_ | refine blk_alloc ?_ _)); exact af.o⟩, ⟨by repeat (first | (with_reducible first | exact HB.o | apply below_alloc | apply pw_below_drewN | apply below_drew1 | refine below_set ?_ ay.o) | exact HB.o)⟩⟩
                            replace c45 := Bool.eq_false_iff.mpr c45; subst c45; rw [if_neg nf_] at H; obtain rfl := Option.some.inj H; have cG := bq4 af.o
                            have bd : 0 ≤ (ac : Int) := oa_
                            have bh : ac < (ab.length : Int) := oa_
                            obtain ⟨bo, bW, b1, b7, au, aJ, aD⟩ := at_L2 aT.o ac bd bh; obtain rfl : aM = bo := (by injection b7); replace au := (HB.o.cell (World.block_lt_of_cell? w _ au)).trans au; have aV := A_ aD; have bt := A_ aJ; clear aD aJ; replace bd := eq_true bd; replace bh := eq_true bh
                            have be : 0 ≤ (ak : Int) := oa_
                            have bi : ak < ((rd_L2 ab ac).length : Int) := oa_
                            obtain ⟨ck, bX, b2, b8, av, aK, aE⟩ := at_L1 aV.o ak be bi
                            cases b8
                            replace av := (HB.o.cell (World.block_lt_of_cell? w _ av)).trans av; have aW := A_ aE; have bu := A_ aK; clear aE aK; replace be := eq_true be; replace bi := eq_true bi
                            have bf : 0 ≤ (ax : Int) := oa_
                            have bj : ax < ((rd_L1 (rd_L2 ab ac) ak).length : Int) := oa_
                            obtain ⟨cm, b9, aw⟩ := Kd.at_int aW.o ax bf bj
                            cases b9
                            replace aw := (HB.o.cell (World.block_lt_of_cell? w _ aw)).trans aw; replace bf := eq_true bf; replace bj := eq_true bj
                            go_wp2_with (first | ((with_reducible refine gc_ 22 rfl ?_); refine cM_ E22 102 (spec_l1In.calls (rd (rd_L1 (rd_L2 ab ac) ak) ax) (-9) 9 false _ A44.o) ?_; rintro e w' ⟨rfl, ⟨nd, rfl⟩⟩; refine ⟨_, rfl, ?_⟩))
                            go_ret
                            exact ⟨by rfl, by repeat (first | (with_reducible first | exact HB.o | apply below_alloc | apply pw_below_drewN | apply below_drew1 | refine below_set ?_ ay.o) | exact HB.o)⟩
                           rw [if_neg c43] at H
                           cases H
                          rw [if_neg c42] at H
                          cases H
                         rw [if_neg c41] at H
                         cases H
                        rw [if_neg c40] at H
                        cases H
                       rw [if_neg c39] at H
                       cases H
                      rw [if_neg c38] at H
                      cases H
                     rw [if_neg c37] at H; have cw := decide_eq_false c37; clear c37
                     have H' := A_ H
                     clear H
                     go_wp2
                     go_roundg k5
                     case measure => have := bA.o; have := bB.o; have := cg.o; have := ch.o; have := cx.o; omega
                     case rel => exact ⟨(wrap64 (ak + 1)), (by rfl), H', ⟨by have := bA.o; have := bB.o; have := cg.o; have := ch.o; have := cx.o; omega⟩, ⟨af.o⟩, ⟨HB.o⟩⟩
                  rw [if_neg c35] at H
                  have bK : (((rd_L1 (rd_L2 ab ac) ak).length : Int) == (aa.length : Int)) = false := beq_eq_false_iff_ne.mpr c35
                  have bL : (((rd_L1 (rd_L2 ab ac) ak).length : Int) != (aa.length : Int)) = true := bne_iff_ne.mpr c35
                  have bM : ((rd_L1 (rd_L2 ab ac) ak).length == aa.length) = false := by first | simpa using c35 | (simp at c35 ⊢; omega)
                  obtain rfl := Option.some.inj H; have cH := bq4 af.o
                  have a7 : 0 ≤ (ac : Int) := oa_
                  have ba : ac < (ab.length : Int) := oa_
                  obtain ⟨bn, bU, bZ, b5, ap, aH, aA⟩ := at_L2 aT.o ac a7 ba; obtain rfl : aM = bn := (by injection b5); replace ap := (HB.o.cell (World.block_lt_of_cell? w _ ap)).trans ap; have aU := A_ aA; have br := A_ aH; clear aA aH; replace a7 := eq_true a7; replace ba := eq_true ba
                  have a8 : 0 ≤ (ak : Int) := oa_
                  have bb : ak < ((rd_L2 ab ac).length : Int) := oa_
                  obtain ⟨cj, bV, b0, b6, aq, aI, aC⟩ := at_L1 aU.o ak a8 bb
                  cases b6
                  replace aq := (HB.o.cell (World.block_lt_of_cell? w _ aq)).trans aq; have bw := A_ aC; have bs := A_ aI; clear aC aI; replace a8 := eq_true a8; replace bb := eq_true bb
                  go_wp2
                  go_ret
                  exact ⟨by rfl, HB.o⟩
                 rw [if_neg c34] at H
                 cases H
                rw [if_neg c33] at H
                cases H
               rw [if_neg c32] at H
               cases H
              rw [if_neg c31] at H
              cases H
             rw [if_neg c30] at H; have bJ := decide_eq_false c30; clear c30
             have H' := A_ H
             clear H
             go_wp2
             go_roundg k4
             case measure => have := bA.o; have := bB.o; have := cg.o; have := ch.o; omega
             case rel => exact ⟨(wrap64 (ac + 1)), (by rfl), H', ⟨by have := bA.o; have := bB.o; have := cg.o; have := ch.o; omega⟩, ⟨af.o⟩, ⟨HB.o⟩⟩
          rw [if_neg c28] at H
          have bG : (((rd_L2 ab ac).length : Int) == (aa.length : Int)) = false := beq_eq_false_iff_ne.mpr c28
          have bH : (((rd_L2 ab ac).length : Int) != (aa.length : Int)) = true := bne_iff_ne.mpr c28
          have bI : ((rd_L2 ab ac).length == aa.length) = false := by first | simpa using c28 | (simp at c28 ⊢; omega)
          obtain rfl := Option.some.inj H; have cI := bq4 af.o
          have a6 : 0 ≤ (ac : Int) := oa_
          have a9 : ac < (ab.length : Int) := oa_
          obtain ⟨aM, bT, bY, b4, ao, aG, az⟩ := at_L2 aT.o ac a6 a9
          cases b4
          replace ao := (HB.o.cell (World.block_lt_of_cell? w _ ao)).trans ao; have bv := A_ az; have bq := A_ aG; clear az aG; replace a6 := eq_true a6; replace a9 := eq_true a9
          go_wp2
          go_ret
          exact ⟨by rfl, HB.o⟩
         rw [if_neg c27] at H
         cases H
        rw [if_neg c26] at H
        cases H
       rw [if_neg c25] at H; have bF := decide_eq_false c25; clear c25; obtain rfl := Option.some.inj H; have cJ := bq4 af.o
       go_wp2
       go_ret
       exact ⟨by rfl, HB.o⟩

end Go.Proofs.Ytgmfjcckmapkbaa.PFnExactPrefixSum

