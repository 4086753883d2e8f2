/- Walks of the functions that the law reaches. -/
import Derived.Test.YtgmfjcckmapkbaaPFnExactPrefixSumx1
namespace Go.Proofs.Ytgmfjcckmapkbaa.PFnExactPrefixSum
open Go.RowKit Go.Proofs.YtgmfjcckmapkbaaW.PrintWords Go.Proofs.YtgmfjcckmapkbaaW.PrintLast Go.Proofs.YtgmfjcckmapkbaaW.PrintMore
attribute [local go_sem] max2_int min2_int max_two min_two max_three min_three max_four min_four
set_option linter.unusedVariables false
set_option maxHeartbeats 8000000
set_option maxRecDepth 100000
set_option linter.unusedSimpArgs false

def laws_eqSequence.f (k : Nat) (af : Int) (aa : List (List Int)) (ae : List Int) (a4 : Int) (a3 : List (List Int)) (a5 : List Int) : Option (Bool) := if af = a4 then ((laws_eqIntSS.f k aa a3).bind fun cw => (if cw = true then ((laws_eqIntS.f k ae a5).bind fun cx => (if cx = true then (some true) else (some false))) else (some false))) else (some false)
theorem laws_eqSequence.calls (k : Nat) (af : Int) (aD : Option Addr) (aA : Nat) (aa : List (List Int)) (az : Option Addr) (aC : Nat) (ae : List Int) (a4 : Int) (bE : Option Addr) (bG : Nat) (a3 : List (List Int)) (bF : Option Addr) (bH : Nat) (a5 : List Int) (r : Bool) (w : World) (ba : Kd.C (Kd.slice 3 (Kd.int .i64)) w aD aa.length aa) (a8 : aa.length ≤ aA) (bb : Kd.C (Kd.int .i64) w az ae.length ae) (a9 : ae.length ≤ aC) (ca : Kd.C (Kd.slice 3 (Kd.int .i64)) w bE a3.length a3) (b8 : a3.length ≤ bG) (cb : Kd.C (Kd.int .i64) w bF a5.length a5) (b9 : a5.length ≤ bH) (h : laws_eqSequence.f k af aa ae a4 a3 a5 = some r) :
  Calls Try.prog 11 #[.agg #[.int .i64 af, .slice aD aa.length aA, .slice az ae.length aC], .agg #[.int .i64 a4, .slice bE a3.length bG, .slice bF a5.length bH]] w fun e w' => e = .returned (.bool r) ∧ Below w.heap.size w w' := by
 have hu32 := Try.underlying32; have ak := A_ ba; have bd := A_ a8; clear ba a8; have a7 := A_ bb; have bj := A_ a9; clear bb a9; have bM := A_ ca; have bL := A_ b8; clear ca b8; have b6 := A_ cb; have b5 := A_ b9; clear cb b9; have HB := A_ (Below.refl w.heap.size w); unfold laws_eqSequence.f at h; have H := h; clear h
 by_cases c3 : af = a4
 ·rw [if_pos c3] at H
  have bP : (af == a4) = true := beq_iff_eq.mpr c3
  have dd : (af != a4) = false := bne_eq_false_iff_eq.mpr c3
  clear c3; replace H := bA_ H; obtain ⟨cw, A4, H⟩ := H
  by_cases c5 : cw = true
  ·subst c5; rw [if_pos rfl] at H; replace H := bA_ H; obtain ⟨cx, A6, H⟩ := H
   by_cases c7 : cx = true
   ·subst c7; rw [if_pos rfl] at H; obtain rfl := Option.some.inj H; go_enter Try.func11, Try.ntmps11
    go_wp2_with (first | ((with_reducible refine gate_dst (N := 2) rfl ?_); refine box_event rfl (N := 2) rfl (cs := #[.int .i64 af, .slice aD aa.length aA, .slice az ae.length aC]) (t := 32) (by go_simp; done) ?_; intro bS hg w8 hbox hb; have ai := A_ (hbox); have bJ := A_ (lg_ (below_size HB.o) hg); have aK := A_ (lg_ (below_size HB.o) hg); replace HB := bs_ HB hb; clear hb hbox hg) | ((with_reducible refine gate_dst (N := 3) rfl ?_); refine box_event rfl (N := 3) rfl (cs := #[.int .i64 a4, .slice bE a3.length bG, .slice bF a5.length bH]) (t := 32) (by go_simp; done) ?_; intro bT hg w9 hbox hb; have bc := A_ (hbox); have bK := A_ (lg_ (below_size HB.o) hg); have aM := A_ (lg_ (below_size HB.o) hg); replace HB := bs_ HB hb; have ao := nl_ ai hg; have ap := ng_ ai hg; replace ai := bb_ ai hb; clear hb hbox hg; have dn := ao.o; have dt := ap.o; have bZ := bq3 ai.o; have b0 := bq3 bc.o) | ((with_reducible refine gc_ 31 rfl ?_); refine cM_ E31 14 (laws_eqIntSS.calls k _ _ aa _ _ a3 true _ (Kd.C_below ak.o HB.o) bd.o (Kd.C_below bM.o HB.o) bL.o A4.o) ?_; rintro e w' ⟨rfl, ⟨nd, rfl⟩⟩; refine ⟨_, rfl, ?_⟩) | ((with_reducible refine gc_ 29 rfl ?_); refine cM_ E29 20 (laws_eqIntS.calls k _ _ ae _ _ a5 true _ (by repeat (first | exact (Kd.C_below a7.o (by repeat (first | (with_reducible first | exact HB.o | apply below_alloc | apply pw_below_drewN | apply below_drew1 | refine below_set ?_ aK.o | refine below_set ?_ aM.o) | exact HB.o))) | (with_reducible refine Kd.C_alloc ?_ _) | (with_reducible refine Kd.C_drewN ?_ _) | (with_reducible refine Kd.C_drew ?_))) bj.o (by repeat (first | exact (Kd.C_below b6.o (by repeat (first | (with_reducible first | exact HB.o | apply below_alloc | apply pw_below_drewN | apply below_drew1 | refine below_set ?_ aK.o | refine below_set ?_ aM.o) | exact HB.o))) | (with_reducible refine Kd.C_alloc ?_ _) | (with_reducible refine Kd.C_drewN ?_ _) | (with_reducible refine Kd.C_drew ?_))) b5.o A6.o) ?_; rintro e w' ⟨rfl, ⟨nd, rfl⟩⟩; refine ⟨_, rfl, ?_⟩))
    go_ret
    exact ⟨by rfl, by repeat (first | (with_reducible first | exact HB.o | apply below_alloc | apply pw_below_drewN | apply below_drew1 | refine below_set ?_ aK.o | refine below_set ?_ aM.o) | exact HB.o)⟩
   replace c7 := Bool.eq_false_iff.mpr c7; subst c7; rw [if_neg nf_] at H; obtain rfl := Option.some.inj H; go_enter Try.func11, Try.ntmps11
   go_wp2_with (first | ((with_reducible refine gate_dst (N := 2) rfl ?_); refine box_event rfl (N := 2) rfl (cs := #[.int .i64 af, .slice aD aa.length aA, .slice az ae.length aC]) (t := 32) (by go_simp; done) ?_; intro bS hg w13 hbox hb; have ai := A_ (hbox); have bJ := A_ (lg_ (below_size HB.o) hg); have aK := A_ (lg_ (below_size HB.o) hg); replace HB := bs_ HB hb; clear hb hbox hg) | ((with_reducible refine gate_dst (N := 3) rfl ?_); refine box_event rfl (N := 3) rfl (cs := #[.int .i64 a4, .slice bE a3.length bG, .slice bF a5.length bH]) (t := 32) (by go_simp; done) ?_; intro bT hg w14 hbox hb; have bc := A_ (hbox); have bK := A_ (lg_ (below_size HB.o) hg); have aM := A_ (lg_ (below_size HB.o) hg); replace HB := bs_ HB hb; have ao := nl_ ai hg; have ap := ng_ ai hg; replace ai := bb_ ai hb; clear hb hbox hg; have dp := ao.o; have du := ap.o; have b1 := bq3 ai.o; have b2 := bq3 bc.o) | ((with_reducible refine gc_ 31 rfl ?_); refine cM_ E31 14 (laws_eqIntSS.calls k _ _ aa _ _ a3 true _ (Kd.C_below ak.o HB.o) bd.o (Kd.C_below bM.o HB.o) bL.o A4.o) ?_; rintro e w' ⟨rfl, ⟨nd, rfl⟩⟩; refine ⟨_, rfl, ?_⟩) | ((with_reducible refine gc_ 29 rfl ?_); refine cM_ E29 20 (laws_eqIntS.calls k _ _ ae _ _ a5 false _ (by repeat (first | exact (Kd.C_below a7.o (by repeat (first | (with_reducible first | exact HB.o | apply below_alloc | apply pw_below_drewN | apply below_drew1 | refine below_set ?_ aK.o | refine below_set ?_ aM.o) | exact HB.o))) | (with_reducible refine Kd.C_alloc ?_ _) | (with_reducible refine Kd.C_drewN ?_ _) | (with_reducible refine Kd.C_drew ?_))) bj.o (by repeat (first | exact (Kd.C_below b6.o (by repeat (first | (with_reducible first | exact HB.o | apply below_alloc | apply pw_below_drewN | apply below_drew1 | refine below_set ?_ aK.o | refine below_set ?_ aM.o) | exact HB.o))) | (with_reducible refine Kd.C_alloc ?_ _) | (with_reducible refine Kd.C_drewN ?_ _) | (with_reducible refine Kd.C_drew ?_))) b5.o A6.o) ?_; rintro e w' ⟨rfl, ⟨nd, rfl⟩⟩; refine ⟨_, rfl, ?_⟩))
   go_ret
   exact ⟨by rfl, by repeat (first | (with_reducible first | exact HB.o | apply below_alloc | apply pw_below_drewN | apply below_drew1 | refine below_set ?_ aK.o | refine below_set ?_ aM.o) | exact HB.o)⟩
  replace c5 := Bool.eq_false_iff.mpr c5; subst c5; rw [if_neg nf_] at H; obtain rfl := Option.some.inj H; go_enter Try.func11, Try.ntmps11
  go_wp2_with (first | ((with_reducible refine gate_dst (N := 2) rfl ?_); refine box_event rfl (N := 2) rfl (cs := #[.int .i64 af, .slice aD aa.length aA, .slice az ae.length aC]) (t := 32) (by go_simp; done) ?_; intro bS hg w18 hbox hb; have ai := A_ (hbox); have bJ := A_ (lg_ (below_size HB.o) hg); have aK := A_ (lg_ (below_size HB.o) hg); replace HB := bs_ HB hb; clear hb hbox hg) | ((with_reducible refine gate_dst (N := 3) rfl ?_); refine box_event rfl (N := 3) rfl (cs := #[.int .i64 a4, .slice bE a3.length bG, .slice bF a5.length bH]) (t := 32) (by go_simp; done) ?_; intro bT hg w19 hbox hb; have bc := A_ (hbox); have bK := A_ (lg_ (below_size HB.o) hg); have aM := A_ (lg_ (below_size HB.o) hg); replace HB := bs_ HB hb; have ao := nl_ ai hg; have ap := ng_ ai hg; replace ai := bb_ ai hb; clear hb hbox hg; have dq := ao.o; have dv := ap.o; have cQ := bq3 ai.o; have cS := bq3 bc.o) | ((with_reducible refine gc_ 31 rfl ?_); refine cM_ E31 14 (laws_eqIntSS.calls k _ _ aa _ _ a3 false _ (Kd.C_below ak.o HB.o) bd.o (Kd.C_below bM.o HB.o) bL.o A4.o) ?_; rintro e w' ⟨rfl, ⟨nd, rfl⟩⟩; refine ⟨_, rfl, ?_⟩))
  go_ret
  exact ⟨by rfl, by repeat (first | (with_reducible first | exact HB.o | apply below_alloc | apply pw_below_drewN | apply below_drew1 | refine below_set ?_ aK.o | refine below_set ?_ aM.o) | exact HB.o)⟩
 rw [if_neg c3] at H
 have bP : (af == a4) = false := beq_eq_false_iff_ne.mpr c3
 have dd : (af != a4) = true := bne_iff_ne.mpr c3
 obtain rfl := Option.some.inj H; go_enter Try.func11, Try.ntmps11
 go_wp2_with (first | ((with_reducible refine gate_dst (N := 2) rfl ?_); refine box_event rfl (N := 2) rfl (cs := #[.int .i64 af, .slice aD aa.length aA, .slice az ae.length aC]) (t := 32) (by go_simp; done) ?_; intro bS hg w23 hbox hb; have ai := A_ (hbox); have bJ := A_ (lg_ (below_size HB.o) hg); have aK := A_ (lg_ (below_size HB.o) hg); replace HB := bs_ HB hb; clear hb hbox hg) | ((with_reducible refine gate_dst (N := 3) rfl ?_); refine box_event rfl (N := 3) rfl (cs := #[.int .i64 a4, .slice bE a3.length bG, .slice bF a5.length bH]) (t := 32) (by go_simp; done) ?_; intro bT hg w24 hbox hb; have bc := A_ (hbox); have bK := A_ (lg_ (below_size HB.o) hg); have aM := A_ (lg_ (below_size HB.o) hg); replace HB := bs_ HB hb; have ao := nl_ ai hg; have ap := ng_ ai hg; replace ai := bb_ ai hb; clear hb hbox hg; have dr := ao.o; have dw := ap.o; have cW := bq3 ai.o; have cX := bq3 bc.o))
 go_ret
 exact ⟨by rfl, HB.o⟩

def spec_l1In.f (a0 : Int) (a1 : Int) (a2 : Int) : Option (Bool) := if a0 ≥ a1 then (some (decide (a0 ≤ a2))) else (some false)
theorem spec_l1In.calls (a0 : Int) (a1 : Int) (a2 : Int) (r : Bool) (w : World) (h : spec_l1In.f a0 a1 a2 = some r) :
  Calls Try.prog 22 #[.int .i64 a0, .int .i64 a1, .int .i64 a2] w fun e w' => e = .returned (.bool r) ∧ Drawn0 w w' := by
 unfold spec_l1In.f at h; have H := h; clear h
 by_cases c4 : a0 ≥ a1
 ·rw [if_pos c4] at H
  have bY : decide (a1 ≤ a0) = true := decide_eq_true c4
  clear c4; obtain rfl := Option.some.inj H; go_enter Try.func22, Try.ntmps22
  go_wp2
  go_ret
  exact ⟨by rfl, by repeat (first | exact Drawn0.refl _ | apply Drawn0.step)⟩
 rw [if_neg c4] at H
 have bY : decide (a1 ≤ a0) = false := decide_eq_false c4
 clear c4; obtain rfl := Option.some.inj H; go_enter Try.func22, Try.ntmps22
 go_wp2
 go_ret
 exact ⟨by rfl, by repeat (first | exact Drawn0.refl _ | apply Drawn0.step)⟩

mutual
def spec_IsSequence.l0 : Nat → Int → Int → List (List Int) → List Int → Option (Bool)
 | 0, _, _, _, _ => none
 | k + 1, x3, av, ag, aq => if x3 < (ag.length : Int) then (if 0 ≤ x3 then (if ((rd_L1 ag x3).length : Int) = av then (spec_IsSequence.l1 k x3 0 av ag aq) else (some false)) else (none)) else (spec_IsSequence.l2 k 0 av ag aq)
def spec_IsSequence.l1 : Nat → Int → Int → Int → List (List Int) → List Int → Option (Bool)
 | 0, _, _, _, _, _ => none
 | k + 1, x3, x4, av, ag, aq => if 0 ≤ x3 then (if x3 < (ag.length : Int) then (if x4 < ((rd_L1 ag x3).length : Int) then (if 0 ≤ x4 then (if (rd (rd_L1 ag x3) x4) < 0 then (some false) else (if (rd (rd_L1 ag x3) x4) ≥ (ag.length : Int) then (some false) else (spec_IsSequence.l1 k x3 (wrap64 (x4 + 1)) av ag aq))) else (none)) else (spec_IsSequence.l0 k (wrap64 (x3 + 1)) av ag aq)) else (none)) else (none)
def spec_IsSequence.l2 : Nat → Int → Int → List (List Int) → List Int → Option (Bool)
 | 0, _, _, _, _ => none
 | k + 1, x5, av, ag, aq => if x5 < (aq.length : Int) then (if 0 ≤ x5 then ((spec_l1In.f (rd aq x5) 0 3).bind fun cy => (if cy = true then (spec_IsSequence.l2 k (wrap64 (x5 + 1)) av ag aq) else (some false))) else (none)) else ((spec_l1In.f av 2 4).bind fun cA => (if cA = true then ((spec_l1In.f (ag.length : Int) 1 16).bind fun cB => (if cB = true then (some ((aq.length : Int) == (ag.length : Int))) else (some false))) else (some false)))
end
def spec_IsSequence.f (k : Nat) (af : Int) (aa : List (List Int)) (ae : List Int) : Option (Bool) := spec_IsSequence.l0 k 0 af aa ae
theorem spec_IsSequence.calls (k : Nat) (af : Int) (aD : Option Addr) (aA : Nat) (aa : List (List Int)) (az : Option Addr) (aC : Nat) (ae : List Int) (r : Bool) (w : World) (ba : Kd.C (Kd.slice 3 (Kd.int .i64)) w aD aa.length aa) (a8 : aa.length ≤ aA) (bb : Kd.C (Kd.int .i64) w az ae.length ae) (a9 : ae.length ≤ aC) (h : spec_IsSequence.f k af aa ae = some r) :
  Calls Try.prog 51 #[.agg #[.int .i64 af, .slice aD aa.length aA, .slice az ae.length aC]] w fun e w' => e = .returned (.bool r) ∧ Below w.heap.size w w' := by
 have hu32 := Try.underlying32; have ak := A_ ba; have bd := A_ a8; clear ba a8; have a7 := A_ bb; have bj := A_ a9; clear bb a9; have HB := A_ (Below.refl w.heap.size w); unfold spec_IsSequence.f at h; have H := h; clear h
 have H' := A_ H
 clear H; go_enter Try.func51, Try.ntmps51
 go_wp2_with (first | ((with_reducible refine gate_dst (N := 1) rfl ?_); (try (refine gate_guard (by rfl) ?_; dsimp only)); refine box_event rfl (N := 1) rfl (cs := #[.int .i64 af, .slice aD aa.length aA, .slice az ae.length aC]) (t := 32) (by go_simp; done) ?_; intro bo hg w2 hbox hb; have aj := A_ (hbox); have b4 := A_ (lg_ (below_size HB.o) hg); have aH := A_ (lg_ (below_size HB.o) hg); replace HB := bs_ HB hb; clear hb hbox hg))
 repeat (go_quiet (first | ((with_reducible refine gate_dst (N := 1) rfl ?_); (try (refine gate_guard (by rfl) ?_; dsimp only)); refine box_event ?hg (N := 1) ?hd (cs := #[.int .i64 af, .slice aD aa.length aA, .slice az ae.length aC]) (t := 32) ?hr ?_; (case hd | hg => rfl); (case hr => first | (go_simp; done) | (go_simp; rfl)); intro bo hg w2 hbox hb; have aj := A_ (hbox); have b4 := A_ (lg_ (below_size HB.o) hg); have aH := A_ (lg_ (below_size HB.o) hg); replace HB := bs_ HB hb; clear hb hbox hg)); try go_wp2_with (first | ((with_reducible refine gate_dst (N := 1) rfl ?_); (try (refine gate_guard (by rfl) ?_; dsimp only)); refine box_event ?hg (N := 1) ?hd (cs := #[.int .i64 af, .slice aD aa.length aA, .slice az ae.length aC]) (t := 32) ?hr ?_; (case hd | hg => rfl); (case hr => first | (go_simp; done) | (go_simp; rfl)); intro bo hg w2 hbox hb; have aj := A_ (hbox); have b4 := A_ (lg_ (below_size HB.o) hg); have aH := A_ (lg_ (below_size HB.o) hg); replace HB := bs_ HB hb; clear hb hbox hg)))
 go_loopg [3] k (fun kq v3 w' => ∃ (ab : Int), v3 = .int .i64 ab ∧ Aside0 (spec_IsSequence.l0 kq ab af aa ae = some r) ∧ Aside0 (kq ≤ k) ∧ Aside0 (w'.heap[bo]? = some (.cells #[.int .i64 af, (.slice aD aa.length aA), (.slice az ae.length aC)] 32 (0, 0))) ∧ Aside0 (Below w.heap.size w w'))
 case atStart => exact ⟨(0), (by rfl), H', ⟨Nat.le_refl _⟩, ⟨aj.o⟩, ⟨HB.o⟩⟩
 case round =>
  clear H'; obtain ⟨ab, rfl, HA, cD, aj, HB⟩ := hrel
  cases gk with
  | zero => exact nz_ HA.o
  | succ k1 =>
   have H := HA.o; clear HA; simp only [spec_IsSequence.l0] at H
   by_cases c3 : ab < (aa.length : Int)
   ·rw [if_pos c3] at H; have bP := decide_eq_true c3; clear c3
    by_cases c4 : 0 ≤ ab
    ·rw [if_pos c4] at H; have bY := decide_eq_true c4; clear c4
     by_cases c5 : ((rd_L1 aa ab).length : Int) = af
     ·rw [if_pos c5] at H
      have ch : (((rd_L1 aa ab).length : Int) == af) = true := beq_iff_eq.mpr c5
      have ci : (((rd_L1 aa ab).length : Int) != af) = false := bne_eq_false_iff_eq.mpr c5
      clear c5
      have H' := A_ H
      clear H; have co := bq3 aj.o
      have bp : 0 ≤ (ab : Int) := oa_
      have bq : ab < (aa.length : Int) := oa_
      obtain ⟨aJ, cc, cf, cj, ay, aW, aU⟩ := at_L1 ak.o ab bp bq
      cases cj
      replace ay := (HB.o.cell (World.block_lt_of_cell? w _ ay)).trans ay; have bW := A_ aU; have bU := A_ aW; clear aU aW; replace bp := eq_true bp; replace bq := eq_true bq
      go_wp2
      repeat (go_quiet (fail); try go_wp2)
      go_loopg [4] k1 (fun kq v4 w' => ∃ (ar : Int), v4 = .int .i64 ar ∧ Aside0 (spec_IsSequence.l1 kq ab ar af aa ae = some r) ∧ Aside0 (kq ≤ k1) ∧ Aside0 (w'.heap[bo]? = some (.cells #[.int .i64 af, (.slice (some aJ) aa.length aA), (.slice az ae.length aC)] 32 (0, 0))) ∧ Aside0 (Below w.heap.size w w'))
      case atStart => exact ⟨(0), (by rfl), H', ⟨Nat.le_refl _⟩, ⟨by (with_reducible repeat (first | refine blk_drewN ?_ _ | refine blk_drew ?_ | refine blk_alloc ?_ _)); exact aj.o⟩, ⟨by repeat (first | (with_reducible first | exact HB.o | apply below_alloc | apply pw_below_drewN | apply below_drew1 | refine below_set ?_ aH.o) | exact HB.o)⟩⟩
      case round =>
       clear H'
       clear bP bY ch ci co ay bp bq
       obtain ⟨ar, rfl, HA, ce, aj, HB⟩ := hrel
       cases gk with
       | zero => exact nz_ HA.o
       | succ k2 =>
        have H := HA.o; clear HA; simp only [spec_IsSequence.l1] at H
        by_cases c7 : 0 ≤ ab
        ·rw [if_pos c7] at H; have dy := decide_eq_true c7; clear c7
         by_cases c8 : ab < (aa.length : Int)
         ·rw [if_pos c8] at H; have dz := decide_eq_true c8; clear c8
          by_cases c9 : ar < ((rd_L1 aa ab).length : Int)
          ·rw [if_pos c9] at H; have de := decide_eq_true c9; clear c9
           by_cases c10 : 0 ≤ ar
           ·rw [if_pos c10] at H; have dl := decide_eq_true c10; clear c10
            by_cases c11 : (rd (rd_L1 aa ab) ar) < 0
            ·rw [if_pos c11] at H; have cI := decide_eq_true c11; clear c11; obtain rfl := Option.some.inj H; have b0 := bq3 aj.o
             have aN : 0 ≤ (ab : Int) := oa_
             have aQ : ab < (aa.length : Int) := oa_
             obtain ⟨be, br, bs, bt, ac, am, al⟩ := at_L1 ak.o ab aN aQ; obtain rfl : aJ = be := (by injection bt); replace ac := (HB.o.cell (World.block_lt_of_cell? w _ ac)).trans ac; have bl := A_ al; have bk := A_ am; clear al am; replace aN := eq_true aN; replace aQ := eq_true aQ
             have bf : 0 ≤ (ab : Int) := oa_
             have bh : ab < (aa.length : Int) := oa_
             obtain ⟨bn, bI, bO, bQ, ah, ax, aw⟩ := at_L1 ak.o ab bf bh; obtain rfl : aJ = bn := (by injection bQ); replace ah := (HB.o.cell (World.block_lt_of_cell? w _ ah)).trans ah; have aT := A_ aw; have bB := A_ ax; clear aw ax; replace bf := eq_true bf; replace bh := eq_true bh; have ea_ := Option.some.inj (ac.symm.trans ah)
             injection ea_ with ea_ en_ ec_
             subst ea_; subst ec_; clear en_
             have bg : 0 ≤ (ar : Int) := oa_
             have bi : ar < ((rd_L1 aa ab).length : Int) := oa_
             obtain ⟨b7, bR, an⟩ := Kd.at_int aT.o ar bg bi
             cases bR
             replace an := (HB.o.cell (World.block_lt_of_cell? w _ an)).trans an; replace bg := eq_true bg; replace bi := eq_true bi
             go_wp2
             repeat (go_quiet (fail); try go_wp2)
             go_ret
             exact ⟨by rfl, by repeat (first | (with_reducible first | exact HB.o | apply below_alloc | apply pw_below_drewN | apply below_drew1 | refine below_set ?_ aH.o) | exact HB.o)⟩
            rw [if_neg c11] at H; have cI := decide_eq_false c11; clear c11
            by_cases c13 : (rd (rd_L1 aa ab) ar) ≥ (aa.length : Int)
            ·rw [if_pos c13] at H
             have cJ : decide ((aa.length : Int) ≤ (rd (rd_L1 aa ab) ar)) = true := decide_eq_true c13
             clear c13; obtain rfl := Option.some.inj H; have cO := bq3 aj.o
             have aN : 0 ≤ (ab : Int) := oa_
             have aQ : ab < (aa.length : Int) := oa_
             obtain ⟨be, br, bs, bt, ac, am, al⟩ := at_L1 ak.o ab aN aQ; obtain rfl : aJ = be := (by injection bt); replace ac := (HB.o.cell (World.block_lt_of_cell? w _ ac)).trans ac; have bl := A_ al; have bk := A_ am; clear al am; replace aN := eq_true aN; replace aQ := eq_true aQ
             have bf : 0 ≤ (ab : Int) := oa_
             have bh : ab < (aa.length : Int) := oa_
             obtain ⟨bn, bI, bO, bQ, ah, ax, aw⟩ := at_L1 ak.o ab bf bh; obtain rfl : aJ = bn := (by injection bQ); replace ah := (HB.o.cell (World.block_lt_of_cell? w _ ah)).trans ah; have aT := A_ aw; have bB := A_ ax; clear aw ax; replace bf := eq_true bf; replace bh := eq_true bh; have ea_ := Option.some.inj (ac.symm.trans ah)
             injection ea_ with ea_ en_ ec_
             subst ea_; subst ec_; clear en_
             have bg : 0 ≤ (ar : Int) := oa_
             have bi : ar < ((rd_L1 aa ab).length : Int) := oa_
             obtain ⟨b7, bR, an⟩ := Kd.at_int aT.o ar bg bi
             cases bR
             replace an := (HB.o.cell (World.block_lt_of_cell? w _ an)).trans an; replace bg := eq_true bg; replace bi := eq_true bi
             have bu : 0 ≤ (ab : Int) := oa_
             have bx : ab < (aa.length : Int) := oa_
             obtain ⟨bN, cd, cg, ck, au, aX, aV⟩ := at_L1 ak.o ab bu bx; obtain rfl : aJ = bN := (by injection ck); replace au := (HB.o.cell (World.block_lt_of_cell? w _ au)).trans au; have bm := A_ aV; have bV := A_ aX; clear aV aX; replace bu := eq_true bu; replace bx := eq_true bx; have ea_ := Option.some.inj (ac.symm.trans au)
             injection ea_ with ea_ en_ ec_
             subst ea_; subst ec_; clear en_
             have bv : 0 ≤ (ar : Int) := oa_
             have bz : ar < ((rd_L1 aa ab).length : Int) := oa_
             obtain ⟨cG, cm, aE⟩ := Kd.at_int bm.o ar bv bz
             cases cm
             replace aE := (HB.o.cell (World.block_lt_of_cell? w _ aE)).trans aE; replace bv := eq_true bv; replace bz := eq_true bz
             go_wp2
             repeat (go_quiet (fail); try go_wp2)
             go_ret
             exact ⟨by rfl, by repeat (first | (with_reducible first | exact HB.o | apply below_alloc | apply pw_below_drewN | apply below_drew1 | refine below_set ?_ aH.o) | exact HB.o)⟩
            rw [if_neg c13] at H
            have cJ : decide ((aa.length : Int) ≤ (rd (rd_L1 aa ab) ar)) = false := decide_eq_false c13
            clear c13
            have H' := A_ H
            clear H; have cP := bq3 aj.o
            have aN : 0 ≤ (ab : Int) := oa_
            have aQ : ab < (aa.length : Int) := oa_
            obtain ⟨be, br, bs, bt, ac, am, al⟩ := at_L1 ak.o ab aN aQ; obtain rfl : aJ = be := (by injection bt); replace ac := (HB.o.cell (World.block_lt_of_cell? w _ ac)).trans ac; have bl := A_ al; have bk := A_ am; clear al am; replace aN := eq_true aN; replace aQ := eq_true aQ
            have bf : 0 ≤ (ab : Int) := oa_
            have bh : ab < (aa.length : Int) := oa_
            obtain ⟨bn, bI, bO, bQ, ah, ax, aw⟩ := at_L1 ak.o ab bf bh; obtain rfl : aJ = bn := (by injection bQ); replace ah := (HB.o.cell (World.block_lt_of_cell? w _ ah)).trans ah; have aT := A_ aw; have bB := A_ ax; clear aw ax; replace bf := eq_true bf; replace bh := eq_true bh; have ea_ := Option.some.inj (ac.symm.trans ah)
            injection ea_ with ea_ en_ ec_
            subst ea_; subst ec_; clear en_
            have bg : 0 ≤ (ar : Int) := oa_
            have bi : ar < ((rd_L1 aa ab).length : Int) := oa_
            obtain ⟨b7, bR, an⟩ := Kd.at_int aT.o ar bg bi
            cases bR
            replace an := (HB.o.cell (World.block_lt_of_cell? w _ an)).trans an; replace bg := eq_true bg; replace bi := eq_true bi
            have bu : 0 ≤ (ab : Int) := oa_
            have bx : ab < (aa.length : Int) := oa_
            obtain ⟨bN, cd, cg, ck, au, aX, aV⟩ := at_L1 ak.o ab bu bx; obtain rfl : aJ = bN := (by injection ck); replace au := (HB.o.cell (World.block_lt_of_cell? w _ au)).trans au; have bm := A_ aV; have bV := A_ aX; clear aV aX; replace bu := eq_true bu; replace bx := eq_true bx; have ea_ := Option.some.inj (ac.symm.trans au)
            injection ea_ with ea_ en_ ec_
            subst ea_; subst ec_; clear en_
            have bv : 0 ≤ (ar : Int) := oa_
            have bz : ar < ((rd_L1 aa ab).length : Int) := oa_
            obtain ⟨cG, cm, aE⟩ := Kd.at_int bm.o ar bv bz
            cases cm
            replace aE := (HB.o.cell (World.block_lt_of_cell? w _ aE)).trans aE; replace bv := eq_true bv; replace bz := eq_true bz
            go_wp2
            repeat (go_quiet (fail); try go_wp2)
            go_roundg k2
            case measure => have := cD.o; have := ce.o; omega
            case rel => exact ⟨(wrap64 (ar + 1)), (by rfl), H', ⟨by have := cD.o; have := ce.o; omega⟩, ⟨by (with_reducible repeat (first | refine blk_drewN ?_ _ | refine blk_drew ?_ | refine blk_alloc ?_ _)); exact aj.o⟩, ⟨by repeat (first | (with_reducible first | exact HB.o | apply below_alloc | apply pw_below_drewN | apply below_drew1 | refine below_set ?_ aH.o) | exact HB.o)⟩⟩
           rw [if_neg c10] at H
           cases H
          rw [if_neg c9] at H; have de := decide_eq_false c9; clear c9
          have H' := A_ H
          clear H; have b1 := bq3 aj.o
          have aN : 0 ≤ (ab : Int) := oa_
          have aQ : ab < (aa.length : Int) := oa_
          obtain ⟨be, br, bs, bt, ac, am, al⟩ := at_L1 ak.o ab aN aQ; obtain rfl : aJ = be := (by injection bt); replace ac := (HB.o.cell (World.block_lt_of_cell? w _ ac)).trans ac; have bl := A_ al; have bk := A_ am; clear al am; replace aN := eq_true aN; replace aQ := eq_true aQ
          go_wp2
          repeat (go_quiet (fail); try go_wp2)
          go_roundg k2
          case measure => have := cD.o; have := ce.o; omega
          case rel => exact ⟨(wrap64 (ab + 1)), (by rfl), H', ⟨by have := cD.o; have := ce.o; omega⟩, ⟨aj.o⟩, ⟨HB.o⟩⟩
         rw [if_neg c8] at H
         cases H
        rw [if_neg c7] at H
        cases H
     rw [if_neg c5] at H
     have ch : (((rd_L1 aa ab).length : Int) == af) = false := beq_eq_false_iff_ne.mpr c5
     have ci : (((rd_L1 aa ab).length : Int) != af) = true := bne_iff_ne.mpr c5
     obtain rfl := Option.some.inj H; have b2 := bq3 aj.o
     have bp : 0 ≤ (ab : Int) := oa_
     have bq : ab < (aa.length : Int) := oa_
     obtain ⟨aJ, cc, cf, cj, ay, aW, aU⟩ := at_L1 ak.o ab bp bq
     cases cj
     replace ay := (HB.o.cell (World.block_lt_of_cell? w _ ay)).trans ay; have bW := A_ aU; have bU := A_ aW; clear aU aW; replace bp := eq_true bp; replace bq := eq_true bq
     go_wp2
     repeat (go_quiet (fail); try go_wp2)
     go_ret
     exact ⟨by rfl, by repeat (first | (with_reducible first | exact HB.o | apply below_alloc | apply pw_below_drewN | apply below_drew1 | refine below_set ?_ aH.o) | exact HB.o)⟩
    rw [if_neg c4] at H
    cases H
   rw [if_neg c3] at H; have bP := decide_eq_false c3; clear c3
   have H' := A_ H
   clear H; have b3 := bq3 aj.o
   go_wp2
   repeat (go_quiet (fail); try go_wp2)
   go_loopg [5] k1 (fun kq v5 w' => ∃ (aI : Int), v5 = .int .i64 aI ∧ Aside0 (spec_IsSequence.l2 kq aI af aa ae = some r) ∧ Aside0 (kq ≤ k1) ∧ Aside0 (w'.heap[bo]? = some (.cells #[.int .i64 af, (.slice aD aa.length aA), (.slice az ae.length aC)] 32 (0, 0))) ∧ Aside0 (Below w.heap.size w w'))
   case atStart => exact ⟨(0), (by rfl), H', ⟨Nat.le_refl _⟩, ⟨aj.o⟩, ⟨HB.o⟩⟩
   case round =>
    clear H'
    clear bP b3
    obtain ⟨aI, rfl, HA, ce, aj, HB⟩ := hrel
    cases gk with
    | zero => exact nz_ HA.o
    | succ k2 =>
     have H := HA.o; clear HA; simp only [spec_IsSequence.l2] at H
     by_cases c19 : aI < (ae.length : Int)
     ·rw [if_pos c19] at H; have cK := decide_eq_true c19; clear c19
      by_cases c20 : 0 ≤ aI
      ·rw [if_pos c20] at H; have dm := decide_eq_true c20; clear c20; replace H := bA_ H; obtain ⟨cy, A21, H⟩ := H
       by_cases c22 : cy = true
       ·subst c22; rw [if_pos rfl] at H
        have H' := A_ H
        clear H; have cU := bq3 aj.o
        have bw : 0 ≤ (aI : Int) := oa_
        have bA : aI < (ae.length : Int) := oa_
        obtain ⟨cH, cn, aG⟩ := Kd.at_int a7.o aI bw bA
        cases cn
        replace aG := (HB.o.cell (World.block_lt_of_cell? w _ aG)).trans aG; replace bw := eq_true bw; replace bA := eq_true bA
        go_wp2_with (first | (go_at_call 22; (with_reducible refine (spec_l1In.calls (rd ae aI) 0 3 true _ A21.o).mono ?_); rintro e w' ⟨rfl, ⟨nd, rfl⟩⟩; skip))
        repeat (go_quiet (first | (go_at_call 22; (with_reducible refine (spec_l1In.calls (rd ae aI) 0 3 true _ A21.o).mono ?_); rintro e w' ⟨rfl, ⟨nd, rfl⟩⟩; skip)); try go_wp2_with (first | (go_at_call 22; (with_reducible refine (spec_l1In.calls (rd ae aI) 0 3 true _ A21.o).mono ?_); rintro e w' ⟨rfl, ⟨nd, rfl⟩⟩; skip)))
        go_roundg k2
        case measure => have := cD.o; have := ce.o; omega
        case rel => exact ⟨(wrap64 (aI + 1)), (by rfl), H', ⟨by have := cD.o; have := ce.o; omega⟩, ⟨by (with_reducible repeat (first | refine blk_drewN ?_ _ | refine blk_drew ?_ | refine blk_alloc ?_ _)); exact aj.o⟩, ⟨by repeat (first | (with_reducible first | exact HB.o | apply below_alloc | apply pw_below_drewN | apply below_drew1 | refine below_set ?_ aH.o) | exact HB.o)⟩⟩
       replace c22 := Bool.eq_false_iff.mpr c22; subst c22; rw [if_neg nf_] at H; obtain rfl := Option.some.inj H; have cV := bq3 aj.o
       have bw : 0 ≤ (aI : Int) := oa_
       have bA : aI < (ae.length : Int) := oa_
       obtain ⟨cH, cn, aG⟩ := Kd.at_int a7.o aI bw bA
       cases cn
       replace aG := (HB.o.cell (World.block_lt_of_cell? w _ aG)).trans aG; replace bw := eq_true bw; replace bA := eq_true bA
       go_wp2_with (first | (go_at_call 22; (with_reducible refine (spec_l1In.calls (rd ae aI) 0 3 false _ A21.o).mono ?_); rintro e w' ⟨rfl, ⟨nd, rfl⟩⟩; skip))
       repeat (go_quiet (first | (go_at_call 22; (with_reducible refine (spec_l1In.calls (rd ae aI) 0 3 false _ A21.o).mono ?_); rintro e w' ⟨rfl, ⟨nd, rfl⟩⟩; skip)); try go_wp2_with (first | (go_at_call 22; (with_reducible refine (spec_l1In.calls (rd ae aI) 0 3 false _ A21.o).mono ?_); rintro e w' ⟨rfl, ⟨nd, rfl⟩⟩; skip)))
       go_ret
       exact ⟨by rfl, by repeat (first | (with_reducible first | exact HB.o | apply below_alloc | apply pw_below_drewN | apply below_drew1 | refine below_set ?_ aH.o) | exact HB.o)⟩
      rw [if_neg c20] at H
      cases H
     rw [if_neg c19] at H; have cK := decide_eq_false c19; clear c19; replace H := bA_ H; obtain ⟨cA, A25, H⟩ := H
     by_cases c26 : cA = true
     ·subst c26; rw [if_pos rfl] at H; replace H := bA_ H; obtain ⟨cB, A27, H⟩ := H
      by_cases c28 : cB = true
      ·subst c28; rw [if_pos rfl] at H; obtain rfl := Option.some.inj H; have cY := bq3 aj.o
       go_wp2_with (first | (go_at_call 22; (with_reducible refine (spec_l1In.calls af 2 4 true _ A25.o).mono ?_); rintro e w' ⟨rfl, ⟨nd, rfl⟩⟩; skip) | (go_at_call 22; (with_reducible refine (spec_l1In.calls (aa.length : Int) 1 16 true _ A27.o).mono ?_); rintro e w' ⟨rfl, ⟨nd, rfl⟩⟩; skip))
       repeat (go_quiet (first | (go_at_call 22; (with_reducible refine (spec_l1In.calls af 2 4 true _ A25.o).mono ?_); rintro e w' ⟨rfl, ⟨nd, rfl⟩⟩; skip) | (go_at_call 22; (with_reducible refine (spec_l1In.calls (aa.length : Int) 1 16 true _ A27.o).mono ?_); rintro e w' ⟨rfl, ⟨nd, rfl⟩⟩; skip)); try go_wp2_with (first | (go_at_call 22; (with_reducible refine (spec_l1In.calls af 2 4 true _ A25.o).mono ?_); rintro e w' ⟨rfl, ⟨nd, rfl⟩⟩; skip) | (go_at_call 22; (with_reducible refine (spec_l1In.calls (aa.length : Int) 1 16 true _ A27.o).mono ?_); rintro e w' ⟨rfl, ⟨nd, rfl⟩⟩; skip)))
       go_ret
       exact ⟨by rfl, by repeat (first | (with_reducible first | exact HB.o | apply below_alloc | apply pw_below_drewN | apply below_drew1 | refine below_set ?_ aH.o) | exact HB.o)⟩
      replace c28 := Bool.eq_false_iff.mpr c28; subst c28; rw [if_neg nf_] at H; obtain rfl := Option.some.inj H; have cZ := bq3 aj.o
      go_wp2_with (first | (go_at_call 22; (with_reducible refine (spec_l1In.calls af 2 4 true _ A25.o).mono ?_); rintro e w' ⟨rfl, ⟨nd, rfl⟩⟩; skip) | (go_at_call 22; (with_reducible refine (spec_l1In.calls (aa.length : Int) 1 16 false _ A27.o).mono ?_); rintro e w' ⟨rfl, ⟨nd, rfl⟩⟩; skip))
      repeat (go_quiet (first | (go_at_call 22; (with_reducible refine (spec_l1In.calls af 2 4 true _ A25.o).mono ?_); rintro e w' ⟨rfl, ⟨nd, rfl⟩⟩; skip) | (go_at_call 22; (with_reducible refine (spec_l1In.calls (aa.length : Int) 1 16 false _ A27.o).mono ?_); rintro e w' ⟨rfl, ⟨nd, rfl⟩⟩; skip)); try go_wp2_with (first | (go_at_call 22; (with_reducible refine (spec_l1In.calls af 2 4 true _ A25.o).mono ?_); rintro e w' ⟨rfl, ⟨nd, rfl⟩⟩; skip) | (go_at_call 22; (with_reducible refine (spec_l1In.calls (aa.length : Int) 1 16 false _ A27.o).mono ?_); rintro e w' ⟨rfl, ⟨nd, rfl⟩⟩; skip)))
      go_ret
      exact ⟨by rfl, by repeat (first | (with_reducible first | exact HB.o | apply below_alloc | apply pw_below_drewN | apply below_drew1 | refine below_set ?_ aH.o) | exact HB.o)⟩
     replace c26 := Bool.eq_false_iff.mpr c26; subst c26; rw [if_neg nf_] at H; obtain rfl := Option.some.inj H; have da := bq3 aj.o
     go_wp2_with (first | (go_at_call 22; (with_reducible refine (spec_l1In.calls af 2 4 false _ A25.o).mono ?_); rintro e w' ⟨rfl, ⟨nd, rfl⟩⟩; skip))
     repeat (go_quiet (first | (go_at_call 22; (with_reducible refine (spec_l1In.calls af 2 4 false _ A25.o).mono ?_); rintro e w' ⟨rfl, ⟨nd, rfl⟩⟩; skip)); try go_wp2_with (first | (go_at_call 22; (with_reducible refine (spec_l1In.calls af 2 4 false _ A25.o).mono ?_); rintro e w' ⟨rfl, ⟨nd, rfl⟩⟩; skip)))
     go_ret
     exact ⟨by rfl, by repeat (first | (with_reducible first | exact HB.o | apply below_alloc | apply pw_below_drewN | apply below_drew1 | refine below_set ?_ aH.o) | exact HB.o)⟩

def spec_IsSteady.f (k : Nat) (af : Int) (aa : List (List Int)) (ae : List Int) : Option (Bool) := (spec_IsSequence.f k af aa ae).bind fun cC => (if cC = true then (if 0 < (aa.length : Int) then (if 0 < ((rd_L1 aa 0).length : Int) then (some ((rd (rd_L1 aa 0) 0) == 0)) else (none)) else (none)) else (some false))
theorem spec_IsSteady.calls (k : Nat) (af : Int) (aD : Option Addr) (aA : Nat) (aa : List (List Int)) (az : Option Addr) (aC : Nat) (ae : List Int) (r : Bool) (w : World) (ba : Kd.C (Kd.slice 3 (Kd.int .i64)) w aD aa.length aa) (a8 : aa.length ≤ aA) (bb : Kd.C (Kd.int .i64) w az ae.length ae) (a9 : ae.length ≤ aC) (h : spec_IsSteady.f k af aa ae = some r) :
  Calls Try.prog 52 #[.agg #[.int .i64 af, .slice aD aa.length aA, .slice az ae.length aC]] w fun e w' => e = .returned (.bool r) ∧ Below w.heap.size w w' := by
 have hu32 := Try.underlying32; have ak := A_ ba; have bd := A_ a8; clear ba a8; have a7 := A_ bb; have bj := A_ a9; clear bb a9; have HB := A_ (Below.refl w.heap.size w); unfold spec_IsSteady.f at h; have H := h; clear h; replace H := bA_ H; obtain ⟨cC, A2, H⟩ := H
 by_cases c3 : cC = true
 ·subst c3; rw [if_pos rfl] at H
  by_cases c4 : 0 < (aa.length : Int)
  ·rw [if_pos c4] at H; have bY := decide_eq_true c4
   have dx : decide (0 < aa.length) = true := decide_eq_true (by omega)
   clear c4
   by_cases c5 : 0 < ((rd_L1 aa 0).length : Int)
   ·rw [if_pos c5] at H; have ch := decide_eq_true c5
    have ci : decide (0 < (rd_L1 aa 0).length) = true := decide_eq_true (by omega)
    clear c5; obtain rfl := Option.some.inj H; go_enter Try.func52, Try.ntmps52
    go_wp2_with (first | ((with_reducible refine gate_dst (N := 1) rfl ?_); refine box_event rfl (N := 1) rfl (cs := #[.int .i64 af, .slice aD aa.length aA, .slice az ae.length aC]) (t := 32) (by go_simp; done) ?_; intro cL hg w6 hbox hb; have a6 := A_ (hbox); have cF := A_ (lg_ (below_size HB.o) hg); have cE := A_ (lg_ (below_size HB.o) hg); replace HB := bs_ HB hb; clear hb hbox hg; have dh := bq3 a6.o) | ((with_reducible refine gc_ 51 rfl ?_); refine cM_ E51 4 (spec_IsSequence.calls k af _ _ aa _ _ ae true _ (Kd.C_below ak.o HB.o) bd.o (Kd.C_below a7.o HB.o) bj.o A2.o) ?_; rintro e w8 ⟨rfl, hb⟩; refine ⟨_, rfl, ?_⟩; replace a6 := bb_ a6 hb; replace HB := bs_ HB hb; clear hb; have di := bq3 a6.o; have cp : 0 ≤ (0 : Int) := (by omega); have cr : 0 < (aa.length : Int) := oa_; obtain ⟨dj, db, dc, df, aY, bD, bC⟩ := at_L1 ak.o 0 cp cr; cases df; have qi150 : (0 < aa.length) = True := eq_true (by omega); (try rw [show ((0 : Int)).toNat = 0 from rfl] at aY); (try rw [Addr.add_zero'] at aY); replace aY := (HB.o.cell (World.block_lt_of_cell? w _ aY)).trans aY; have bX := A_ bC; have cN := A_ bD; clear bC bD; replace cp := eq_true cp; replace cr := eq_true cr; have cq : 0 ≤ (0 : Int) := (by omega); have cv : 0 < ((rd_L1 aa 0).length : Int) := oa_; obtain ⟨dk, dg, aZ⟩ := Kd.at_int bX.o 0 cq cv; cases dg; have qi151 : (0 < (rd_L1 aa 0).length) = True := eq_true (by omega); (try rw [show ((0 : Int)).toNat = 0 from rfl] at aZ); (try rw [Addr.add_zero'] at aZ); replace aZ := (HB.o.cell (World.block_lt_of_cell? w _ aZ)).trans aZ; replace cq := eq_true cq; replace cv := eq_true cv))
    go_ret
    exact ⟨by rfl, HB.o⟩
   rw [if_neg c5] at H
   cases H
  rw [if_neg c4] at H
  cases H
 replace c3 := Bool.eq_false_iff.mpr c3; subst c3; rw [if_neg nf_] at H; obtain rfl := Option.some.inj H; go_enter Try.func52, Try.ntmps52
 go_wp2_with (first | ((with_reducible refine gate_dst (N := 1) rfl ?_); refine box_event rfl (N := 1) rfl (cs := #[.int .i64 af, .slice aD aa.length aA, .slice az ae.length aC]) (t := 32) (by go_simp; done) ?_; intro cL hg w10 hbox hb; have a6 := A_ (hbox); have cF := A_ (lg_ (below_size HB.o) hg); have cE := A_ (lg_ (below_size HB.o) hg); replace HB := bs_ HB hb; clear hb hbox hg; have bZ := bq3 a6.o) | ((with_reducible refine gc_ 51 rfl ?_); refine cM_ E51 4 (spec_IsSequence.calls k af _ _ aa _ _ ae false _ (Kd.C_below ak.o HB.o) bd.o (Kd.C_below a7.o HB.o) bj.o A2.o) ?_; rintro e w12 ⟨rfl, hb⟩; refine ⟨_, rfl, ?_⟩; replace a6 := bb_ a6 hb; replace HB := bs_ HB hb; clear hb; (try clear hi)))
 go_ret
 exact ⟨by rfl, HB.o⟩

end Go.Proofs.Ytgmfjcckmapkbaa.PFnExactPrefixSum

