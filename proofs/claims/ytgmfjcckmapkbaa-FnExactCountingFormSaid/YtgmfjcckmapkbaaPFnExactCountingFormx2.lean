/- Walks of the functions that the law reaches. -/
import Derived.Test.YtgmfjcckmapkbaaPFnExactCountingFormx1
namespace Go.Proofs.Ytgmfjcckmapkbaa.PFnExactCountingForm
open Go.RowKit Go.Proofs.YtgmfjcckmapkbaaW.PrintWords Go.Proofs.YtgmfjcckmapkbaaW.PrintLast Go.Proofs.YtgmfjcckmapkbaaW.PrintMore
attribute [local go_sem] max2_int min2_int max_two min_two max_three min_three max_four min_four
set_option linter.unusedVariables false
set_option maxHeartbeats 8000000
set_option maxRecDepth 100000
set_option linter.unusedSimpArgs false

mutual
def spec_IsSequence.l0 : Nat → Int → Int → List (List Int) → List Int → Option (Bool)
 | 0, _, _, _, _ => none
 | k + 1, x3, ap, ae, am => if x3 < (ae.length : Int) then (if 0 ≤ x3 then (if ((rd_L1 ae x3).length : Int) = ap then (spec_IsSequence.l1 k x3 0 ap ae am) else (some false)) else (none)) else (spec_IsSequence.l2 k 0 ap ae am)
def spec_IsSequence.l1 : Nat → Int → Int → Int → List (List Int) → List Int → Option (Bool)
 | 0, _, _, _, _, _ => none
 | k + 1, x3, x4, ap, ae, am => if 0 ≤ x3 then (if x3 < (ae.length : Int) then (if x4 < ((rd_L1 ae x3).length : Int) then (if 0 ≤ x4 then (if (rd (rd_L1 ae x3) x4) < 0 then (some false) else (if (rd (rd_L1 ae x3) x4) ≥ (ae.length : Int) then (some false) else (spec_IsSequence.l1 k x3 (wrap64 (x4 + 1)) ap ae am))) else (none)) else (spec_IsSequence.l0 k (wrap64 (x3 + 1)) ap ae am)) else (none)) else (none)
def spec_IsSequence.l2 : Nat → Int → Int → List (List Int) → List Int → Option (Bool)
 | 0, _, _, _, _ => none
 | k + 1, x5, ap, ae, am => if x5 < (am.length : Int) then (if 0 ≤ x5 then ((spec_l1In.f (rd am x5) 0 3).bind fun b3 => (if b3 = true then (spec_IsSequence.l2 k (wrap64 (x5 + 1)) ap ae am) else (some false))) else (none)) else ((spec_l1In.f ap 2 4).bind fun b4 => (if b4 = true then ((spec_l1In.f (ae.length : Int) 1 16).bind fun b5 => (if b5 = true then (some ((am.length : Int) == (ae.length : Int))) else (some false))) else (some false)))
end
def spec_IsSequence.f (k : Nat) (ah : Int) (aa : List (List Int)) (af : List Int) : Option (Bool) := spec_IsSequence.l0 k 0 ah aa af
theorem spec_IsSequence.calls (k : Nat) (ah : Int) (aV : Option Addr) (aQ : Nat) (aa : List (List Int)) (aN : Option Addr) (aT : Nat) (af : List Int) (r : Bool) (w : World) (bh : Kd.C (Kd.slice 3 (Kd.int .i64)) w aV aa.length aa) (bf : aa.length ≤ aQ) (bi : Kd.C (Kd.int .i64) w aN af.length af) (bg : af.length ≤ aT) (h : spec_IsSequence.f k ah aa af = some r) :
  Calls Try.prog 51 #[.agg #[.int .i64 ah, .slice aV aa.length aQ, .slice aN af.length aT]] w fun e w' => e = .returned (.bool r) ∧ Below w.heap.size w w' := by
 have hu32 := Try.underlying32; have aq := A_ bh; have bz := A_ bf; clear bh bf; have bc := A_ bi; have bA := A_ bg; clear bi bg; have HB := A_ (Below.refl w.heap.size w); unfold spec_IsSequence.f at h; have H := h; clear h
 have H' := A_ H
 clear H; go_enter Try.func51, Try.ntmps51
 go_wp2_with (first | ((with_reducible refine gate_dst (N := 1) rfl ?_); (try (refine gate_guard (by rfl) ?_; dsimp only)); refine box_event rfl (N := 1) rfl (cs := #[.int .i64 ah, .slice aV aa.length aQ, .slice aN af.length aT]) (t := 32) (by go_simp; done) ?_; intro be hg w2 hbox hb; have ai := A_ (hbox); have bK := A_ (lg_ (below_size HB.o) hg); have ay := A_ (lg_ (below_size HB.o) hg); replace HB := bs_ HB hb; clear hb hbox hg))
 repeat (go_quiet (first | ((with_reducible refine gate_dst (N := 1) rfl ?_); (try (refine gate_guard (by rfl) ?_; dsimp only)); refine box_event ?hg (N := 1) ?hd (cs := #[.int .i64 ah, .slice aV aa.length aQ, .slice aN af.length aT]) (t := 32) ?hr ?_; (case hd | hg => rfl); (case hr => first | (go_simp; done) | (go_simp; rfl)); intro be hg w2 hbox hb; have ai := A_ (hbox); have bK := A_ (lg_ (below_size HB.o) hg); have ay := A_ (lg_ (below_size HB.o) hg); replace HB := bs_ HB hb; clear hb hbox hg)); try go_wp2_with (first | ((with_reducible refine gate_dst (N := 1) rfl ?_); (try (refine gate_guard (by rfl) ?_; dsimp only)); refine box_event ?hg (N := 1) ?hd (cs := #[.int .i64 ah, .slice aV aa.length aQ, .slice aN af.length aT]) (t := 32) ?hr ?_; (case hd | hg => rfl); (case hr => first | (go_simp; done) | (go_simp; rfl)); intro be hg w2 hbox hb; have ai := A_ (hbox); have bK := A_ (lg_ (below_size HB.o) hg); have ay := A_ (lg_ (below_size HB.o) hg); replace HB := bs_ HB hb; clear hb hbox hg)))
 go_loopg [3] k (fun kq v3 w' => ∃ (ab : Int), v3 = .int .i64 ab ∧ Aside0 (spec_IsSequence.l0 kq ab ah aa af = some r) ∧ Aside0 (kq ≤ k) ∧ Aside0 (w'.heap[be]? = some (.cells #[.int .i64 ah, (.slice aV aa.length aQ), (.slice aN af.length aT)] 32 (0, 0))) ∧ Aside0 (Below w.heap.size w w'))
 case atStart => exact ⟨(0), (by rfl), H', ⟨Nat.le_refl _⟩, ⟨ai.o⟩, ⟨HB.o⟩⟩
 case round =>
  clear H'; obtain ⟨ab, rfl, HA, b7, ai, HB⟩ := hrel
  cases gk with
  | zero => exact nz_ HA.o
  | succ k1 =>
   have H := HA.o; clear HA; simp only [spec_IsSequence.l0] at H
   by_cases c3 : ab < (aa.length : Int)
   ·rw [if_pos c3] at H; have bR := decide_eq_true c3; clear c3
    by_cases c4 : 0 ≤ ab
    ·rw [if_pos c4] at H; have ch := decide_eq_true c4; clear c4
     by_cases c5 : ((rd_L1 aa ab).length : Int) = ah
     ·rw [if_pos c5] at H
      have bS : (((rd_L1 aa ab).length : Int) == ah) = true := beq_iff_eq.mpr c5
      have bT : (((rd_L1 aa ab).length : Int) != ah) = false := bne_eq_false_iff_eq.mpr c5
      clear c5
      have H' := A_ H
      clear H; have bY := bq3 ai.o
      have bj : 0 ≤ (ab : Int) := oa_
      have bk : ab < (aa.length : Int) := oa_
      obtain ⟨aA, bM, bP, bU, av, aI, aG⟩ := at_L1 aq.o ab bj bk
      cases bU
      replace av := (HB.o.cell (World.block_lt_of_cell? w _ av)).trans av; have bH := A_ aG; have bF := A_ aI; clear aG aI; replace bj := eq_true bj; replace bk := eq_true bk
      go_wp2
      repeat (go_quiet (fail); try go_wp2)
      go_loopg [4] k1 (fun kq v4 w' => ∃ (an : Int), v4 = .int .i64 an ∧ Aside0 (spec_IsSequence.l1 kq ab an ah aa af = some r) ∧ Aside0 (kq ≤ k1) ∧ Aside0 (w'.heap[be]? = some (.cells #[.int .i64 ah, (.slice (some aA) aa.length aQ), (.slice aN af.length aT)] 32 (0, 0))) ∧ Aside0 (Below w.heap.size w w'))
      case atStart => exact ⟨(0), (by rfl), H', ⟨Nat.le_refl _⟩, ⟨by (with_reducible repeat (first | refine blk_drewN ?_ _ | refine blk_drew ?_ | refine blk_alloc ?_ _)); exact ai.o⟩, ⟨by repeat (first | (with_reducible first | exact HB.o | apply below_alloc | apply pw_below_drewN | apply below_drew1 | refine below_set ?_ ay.o) | exact HB.o)⟩⟩
      case round =>
       clear H'
       clear bR ch bS bT bY av bj bk
       obtain ⟨an, rfl, HA, bO, ai, HB⟩ := hrel
       cases gk with
       | zero => exact nz_ HA.o
       | succ k2 =>
        have H := HA.o; clear HA; simp only [spec_IsSequence.l1] at H
        by_cases c7 : 0 ≤ ab
        ·rw [if_pos c7] at H; have cP := decide_eq_true c7; clear c7
         by_cases c8 : ab < (aa.length : Int)
         ·rw [if_pos c8] at H; have cQ := decide_eq_true c8; clear c8
          by_cases c9 : an < ((rd_L1 aa ab).length : Int)
          ·rw [if_pos c9] at H; have cE := decide_eq_true c9; clear c9
           by_cases c10 : 0 ≤ an
           ·rw [if_pos c10] at H; have cL := decide_eq_true c10; clear c10
            by_cases c11 : (rd (rd_L1 aa ab) an) < 0
            ·rw [if_pos c11] at H; have ce := decide_eq_true c11; clear c11; obtain rfl := Option.some.inj H; have cm := bq3 ai.o
             have aC : 0 ≤ (ab : Int) := oa_
             have aD : ab < (aa.length : Int) := oa_
             obtain ⟨aW, bl, bm, bn, ac, ak, aj⟩ := at_L1 aq.o ab aC aD; obtain rfl : aA = aW := (by injection bn); replace ac := (HB.o.cell (World.block_lt_of_cell? w _ ac)).trans ac; have ba := A_ aj; have a9 := A_ ak; clear aj ak; replace aC := eq_true aC; replace aD := eq_true aD
             have aX : 0 ≤ (ab : Int) := oa_
             have aZ : ab < (aa.length : Int) := oa_
             obtain ⟨bd, bx, bC, bD, ag, au, ar⟩ := at_L1 aq.o ab aX aZ; obtain rfl : aA = bd := (by injection bD); replace ag := (HB.o.cell (World.block_lt_of_cell? w _ ag)).trans ag; have aE := A_ ar; have bu := A_ au; clear ar au; replace aX := eq_true aX; replace aZ := eq_true aZ; have ea_ := Option.some.inj (ac.symm.trans ag)
             injection ea_ with ea_ en_ ec_
             subst ea_; subst ec_; clear en_
             have aY : 0 ≤ (an : Int) := oa_
             have a8 : an < ((rd_L1 aa ab).length : Int) := oa_
             obtain ⟨bL, bE, al⟩ := Kd.at_int aE.o an aY a8
             cases bE
             replace al := (HB.o.cell (World.block_lt_of_cell? w _ al)).trans al; replace aY := eq_true aY; replace a8 := eq_true a8
             go_wp2
             repeat (go_quiet (fail); try go_wp2)
             go_ret
             exact ⟨by rfl, by repeat (first | (with_reducible first | exact HB.o | apply below_alloc | apply pw_below_drewN | apply below_drew1 | refine below_set ?_ ay.o) | exact HB.o)⟩
            rw [if_neg c11] at H; have ce := decide_eq_false c11; clear c11
            by_cases c13 : (rd (rd_L1 aa ab) an) ≥ (aa.length : Int)
            ·rw [if_pos c13] at H
             have cf : decide ((aa.length : Int) ≤ (rd (rd_L1 aa ab) an)) = true := decide_eq_true c13
             clear c13; obtain rfl := Option.some.inj H; have co := bq3 ai.o
             have aC : 0 ≤ (ab : Int) := oa_
             have aD : ab < (aa.length : Int) := oa_
             obtain ⟨aW, bl, bm, bn, ac, ak, aj⟩ := at_L1 aq.o ab aC aD; obtain rfl : aA = aW := (by injection bn); replace ac := (HB.o.cell (World.block_lt_of_cell? w _ ac)).trans ac; have ba := A_ aj; have a9 := A_ ak; clear aj ak; replace aC := eq_true aC; replace aD := eq_true aD
             have aX : 0 ≤ (ab : Int) := oa_
             have aZ : ab < (aa.length : Int) := oa_
             obtain ⟨bd, bx, bC, bD, ag, au, ar⟩ := at_L1 aq.o ab aX aZ; obtain rfl : aA = bd := (by injection bD); replace ag := (HB.o.cell (World.block_lt_of_cell? w _ ag)).trans ag; have aE := A_ ar; have bu := A_ au; clear ar au; replace aX := eq_true aX; replace aZ := eq_true aZ; have ea_ := Option.some.inj (ac.symm.trans ag)
             injection ea_ with ea_ en_ ec_
             subst ea_; subst ec_; clear en_
             have aY : 0 ≤ (an : Int) := oa_
             have a8 : an < ((rd_L1 aa ab).length : Int) := oa_
             obtain ⟨bL, bE, al⟩ := Kd.at_int aE.o an aY a8
             cases bE
             replace al := (HB.o.cell (World.block_lt_of_cell? w _ al)).trans al; replace aY := eq_true aY; replace a8 := eq_true a8
             have bo : 0 ≤ (ab : Int) := oa_
             have br : ab < (aa.length : Int) := oa_
             obtain ⟨bB, bN, bQ, bV, ao, aJ, aH⟩ := at_L1 aq.o ab bo br; obtain rfl : aA = bB := (by injection bV); replace ao := (HB.o.cell (World.block_lt_of_cell? w _ ao)).trans ao; have bb := A_ aH; have bG := A_ aJ; clear aH aJ; replace bo := eq_true bo; replace br := eq_true br; have ea_ := Option.some.inj (ac.symm.trans ao)
             injection ea_ with ea_ en_ ec_
             subst ea_; subst ec_; clear en_
             have bp : 0 ≤ (an : Int) := oa_
             have bs : an < ((rd_L1 aa ab).length : Int) := oa_
             obtain ⟨cc, bW, aw⟩ := Kd.at_int bb.o an bp bs
             cases bW
             replace aw := (HB.o.cell (World.block_lt_of_cell? w _ aw)).trans aw; replace bp := eq_true bp; replace bs := eq_true bs
             go_wp2
             repeat (go_quiet (fail); try go_wp2)
             go_ret
             exact ⟨by rfl, by repeat (first | (with_reducible first | exact HB.o | apply below_alloc | apply pw_below_drewN | apply below_drew1 | refine below_set ?_ ay.o) | exact HB.o)⟩
            rw [if_neg c13] at H
            have cf : decide ((aa.length : Int) ≤ (rd (rd_L1 aa ab) an)) = false := decide_eq_false c13
            clear c13
            have H' := A_ H
            clear H; have cq := bq3 ai.o
            have aC : 0 ≤ (ab : Int) := oa_
            have aD : ab < (aa.length : Int) := oa_
            obtain ⟨aW, bl, bm, bn, ac, ak, aj⟩ := at_L1 aq.o ab aC aD; obtain rfl : aA = aW := (by injection bn); replace ac := (HB.o.cell (World.block_lt_of_cell? w _ ac)).trans ac; have ba := A_ aj; have a9 := A_ ak; clear aj ak; replace aC := eq_true aC; replace aD := eq_true aD
            have aX : 0 ≤ (ab : Int) := oa_
            have aZ : ab < (aa.length : Int) := oa_
            obtain ⟨bd, bx, bC, bD, ag, au, ar⟩ := at_L1 aq.o ab aX aZ; obtain rfl : aA = bd := (by injection bD); replace ag := (HB.o.cell (World.block_lt_of_cell? w _ ag)).trans ag; have aE := A_ ar; have bu := A_ au; clear ar au; replace aX := eq_true aX; replace aZ := eq_true aZ; have ea_ := Option.some.inj (ac.symm.trans ag)
            injection ea_ with ea_ en_ ec_
            subst ea_; subst ec_; clear en_
            have aY : 0 ≤ (an : Int) := oa_
            have a8 : an < ((rd_L1 aa ab).length : Int) := oa_
            obtain ⟨bL, bE, al⟩ := Kd.at_int aE.o an aY a8
            cases bE
            replace al := (HB.o.cell (World.block_lt_of_cell? w _ al)).trans al; replace aY := eq_true aY; replace a8 := eq_true a8
            have bo : 0 ≤ (ab : Int) := oa_
            have br : ab < (aa.length : Int) := oa_
            obtain ⟨bB, bN, bQ, bV, ao, aJ, aH⟩ := at_L1 aq.o ab bo br; obtain rfl : aA = bB := (by injection bV); replace ao := (HB.o.cell (World.block_lt_of_cell? w _ ao)).trans ao; have bb := A_ aH; have bG := A_ aJ; clear aH aJ; replace bo := eq_true bo; replace br := eq_true br; have ea_ := Option.some.inj (ac.symm.trans ao)
            injection ea_ with ea_ en_ ec_
            subst ea_; subst ec_; clear en_
            have bp : 0 ≤ (an : Int) := oa_
            have bs : an < ((rd_L1 aa ab).length : Int) := oa_
            obtain ⟨cc, bW, aw⟩ := Kd.at_int bb.o an bp bs
            cases bW
            replace aw := (HB.o.cell (World.block_lt_of_cell? w _ aw)).trans aw; replace bp := eq_true bp; replace bs := eq_true bs
            go_wp2
            repeat (go_quiet (fail); try go_wp2)
            go_roundg k2
            case measure => have := b7.o; have := bO.o; omega
            case rel => exact ⟨(wrap64 (an + 1)), (by rfl), H', ⟨by have := b7.o; have := bO.o; omega⟩, ⟨by (with_reducible repeat (first | refine blk_drewN ?_ _ | refine blk_drew ?_ | refine blk_alloc ?_ _)); exact ai.o⟩, ⟨by repeat (first | (with_reducible first | exact HB.o | apply below_alloc | apply pw_below_drewN | apply below_drew1 | refine below_set ?_ ay.o) | exact HB.o)⟩⟩
           rw [if_neg c10] at H
           cases H
          rw [if_neg c9] at H; have cE := decide_eq_false c9; clear c9
          have H' := A_ H
          clear H; have cr := bq3 ai.o
          have aC : 0 ≤ (ab : Int) := oa_
          have aD : ab < (aa.length : Int) := oa_
          obtain ⟨aW, bl, bm, bn, ac, ak, aj⟩ := at_L1 aq.o ab aC aD; obtain rfl : aA = aW := (by injection bn); replace ac := (HB.o.cell (World.block_lt_of_cell? w _ ac)).trans ac; have ba := A_ aj; have a9 := A_ ak; clear aj ak; replace aC := eq_true aC; replace aD := eq_true aD
          go_wp2
          repeat (go_quiet (fail); try go_wp2)
          go_roundg k2
          case measure => have := b7.o; have := bO.o; omega
          case rel => exact ⟨(wrap64 (ab + 1)), (by rfl), H', ⟨by have := b7.o; have := bO.o; omega⟩, ⟨ai.o⟩, ⟨HB.o⟩⟩
         rw [if_neg c8] at H
         cases H
        rw [if_neg c7] at H
        cases H
     rw [if_neg c5] at H
     have bS : (((rd_L1 aa ab).length : Int) == ah) = false := beq_eq_false_iff_ne.mpr c5
     have bT : (((rd_L1 aa ab).length : Int) != ah) = true := bne_iff_ne.mpr c5
     obtain rfl := Option.some.inj H; have cv := bq3 ai.o
     have bj : 0 ≤ (ab : Int) := oa_
     have bk : ab < (aa.length : Int) := oa_
     obtain ⟨aA, bM, bP, bU, av, aI, aG⟩ := at_L1 aq.o ab bj bk
     cases bU
     replace av := (HB.o.cell (World.block_lt_of_cell? w _ av)).trans av; have bH := A_ aG; have bF := A_ aI; clear aG aI; replace bj := eq_true bj; replace bk := eq_true bk
     go_wp2
     repeat (go_quiet (fail); try go_wp2)
     go_ret
     exact ⟨by rfl, by repeat (first | (with_reducible first | exact HB.o | apply below_alloc | apply pw_below_drewN | apply below_drew1 | refine below_set ?_ ay.o) | exact HB.o)⟩
    rw [if_neg c4] at H
    cases H
   rw [if_neg c3] at H; have bR := decide_eq_false c3; clear c3
   have H' := A_ H
   clear H; have bJ := bq3 ai.o
   go_wp2
   repeat (go_quiet (fail); try go_wp2)
   go_loopg [5] k1 (fun kq v5 w' => ∃ (az : Int), v5 = .int .i64 az ∧ Aside0 (spec_IsSequence.l2 kq az ah aa af = some r) ∧ Aside0 (kq ≤ k1) ∧ Aside0 (w'.heap[be]? = some (.cells #[.int .i64 ah, (.slice aV aa.length aQ), (.slice aN af.length aT)] 32 (0, 0))) ∧ Aside0 (Below w.heap.size w w'))
   case atStart => exact ⟨(0), (by rfl), H', ⟨Nat.le_refl _⟩, ⟨ai.o⟩, ⟨HB.o⟩⟩
   case round =>
    clear H'
    clear bR bJ
    obtain ⟨az, rfl, HA, bO, ai, HB⟩ := hrel
    cases gk with
    | zero => exact nz_ HA.o
    | succ k2 =>
     have H := HA.o; clear HA; simp only [spec_IsSequence.l2] at H
     by_cases c19 : az < (af.length : Int)
     ·rw [if_pos c19] at H; have cg := decide_eq_true c19; clear c19
      by_cases c20 : 0 ≤ az
      ·rw [if_pos c20] at H; have cN := decide_eq_true c20; clear c20; replace H := bA_ H; obtain ⟨b3, A21, H⟩ := H
       by_cases c22 : b3 = true
       ·subst c22; rw [if_pos rfl] at H
        have H' := A_ H
        clear H; have cw := bq3 ai.o
        have bq : 0 ≤ (az : Int) := oa_
        have bt : az < (af.length : Int) := oa_
        obtain ⟨cd, bX, ax⟩ := Kd.at_int bc.o az bq bt
        cases bX
        replace ax := (HB.o.cell (World.block_lt_of_cell? w _ ax)).trans ax; replace bq := eq_true bq; replace bt := eq_true bt
        go_wp2_with (first | (go_at_call 22; (with_reducible refine (spec_l1In.calls (rd af az) 0 3 true _ A21.o).mono ?_); rintro e w' ⟨rfl, ⟨nd, rfl⟩⟩; skip))
        repeat (go_quiet (first | (go_at_call 22; (with_reducible refine (spec_l1In.calls (rd af az) 0 3 true _ A21.o).mono ?_); rintro e w' ⟨rfl, ⟨nd, rfl⟩⟩; skip)); try go_wp2_with (first | (go_at_call 22; (with_reducible refine (spec_l1In.calls (rd af az) 0 3 true _ A21.o).mono ?_); rintro e w' ⟨rfl, ⟨nd, rfl⟩⟩; skip)))
        go_roundg k2
        case measure => have := b7.o; have := bO.o; omega
        case rel => exact ⟨(wrap64 (az + 1)), (by rfl), H', ⟨by have := b7.o; have := bO.o; omega⟩, ⟨by (with_reducible repeat (first | refine blk_drewN ?_ _ | refine blk_drew ?_ | refine blk_alloc ?_ _)); exact ai.o⟩, ⟨by repeat (first | (with_reducible first | exact HB.o | apply below_alloc | apply pw_below_drewN | apply below_drew1 | refine below_set ?_ ay.o) | exact HB.o)⟩⟩
       replace c22 := Bool.eq_false_iff.mpr c22; subst c22; rw [if_neg nf_] at H; obtain rfl := Option.some.inj H; have cx := bq3 ai.o
       have bq : 0 ≤ (az : Int) := oa_
       have bt : az < (af.length : Int) := oa_
       obtain ⟨cd, bX, ax⟩ := Kd.at_int bc.o az bq bt
       cases bX
       replace ax := (HB.o.cell (World.block_lt_of_cell? w _ ax)).trans ax; replace bq := eq_true bq; replace bt := eq_true bt
       go_wp2_with (first | (go_at_call 22; (with_reducible refine (spec_l1In.calls (rd af az) 0 3 false _ A21.o).mono ?_); rintro e w' ⟨rfl, ⟨nd, rfl⟩⟩; skip))
       repeat (go_quiet (first | (go_at_call 22; (with_reducible refine (spec_l1In.calls (rd af az) 0 3 false _ A21.o).mono ?_); rintro e w' ⟨rfl, ⟨nd, rfl⟩⟩; skip)); try go_wp2_with (first | (go_at_call 22; (with_reducible refine (spec_l1In.calls (rd af az) 0 3 false _ A21.o).mono ?_); rintro e w' ⟨rfl, ⟨nd, rfl⟩⟩; skip)))
       go_ret
       exact ⟨by rfl, by repeat (first | (with_reducible first | exact HB.o | apply below_alloc | apply pw_below_drewN | apply below_drew1 | refine below_set ?_ ay.o) | exact HB.o)⟩
      rw [if_neg c20] at H
      cases H
     rw [if_neg c19] at H; have cg := decide_eq_false c19; clear c19; replace H := bA_ H; obtain ⟨b4, A25, H⟩ := H
     by_cases c26 : b4 = true
     ·subst c26; rw [if_pos rfl] at H; replace H := bA_ H; obtain ⟨b5, A27, H⟩ := H
      by_cases c28 : b5 = true
      ·subst c28; rw [if_pos rfl] at H; obtain rfl := Option.some.inj H; have cy := bq3 ai.o
       go_wp2_with (first | (go_at_call 22; (with_reducible refine (spec_l1In.calls ah 2 4 true _ A25.o).mono ?_); rintro e w' ⟨rfl, ⟨nd, rfl⟩⟩; skip) | (go_at_call 22; (with_reducible refine (spec_l1In.calls (aa.length : Int) 1 16 true _ A27.o).mono ?_); rintro e w' ⟨rfl, ⟨nd, rfl⟩⟩; skip))
       repeat (go_quiet (first | (go_at_call 22; (with_reducible refine (spec_l1In.calls ah 2 4 true _ A25.o).mono ?_); rintro e w' ⟨rfl, ⟨nd, rfl⟩⟩; skip) | (go_at_call 22; (with_reducible refine (spec_l1In.calls (aa.length : Int) 1 16 true _ A27.o).mono ?_); rintro e w' ⟨rfl, ⟨nd, rfl⟩⟩; skip)); try go_wp2_with (first | (go_at_call 22; (with_reducible refine (spec_l1In.calls ah 2 4 true _ A25.o).mono ?_); rintro e w' ⟨rfl, ⟨nd, rfl⟩⟩; skip) | (go_at_call 22; (with_reducible refine (spec_l1In.calls (aa.length : Int) 1 16 true _ A27.o).mono ?_); rintro e w' ⟨rfl, ⟨nd, rfl⟩⟩; skip)))
       go_ret
       exact ⟨by rfl, by repeat (first | (with_reducible first | exact HB.o | apply below_alloc | apply pw_below_drewN | apply below_drew1 | refine below_set ?_ ay.o) | exact HB.o)⟩
      replace c28 := Bool.eq_false_iff.mpr c28; subst c28; rw [if_neg nf_] at H; obtain rfl := Option.some.inj H; have cA := bq3 ai.o
      go_wp2_with (first | (go_at_call 22; (with_reducible refine (spec_l1In.calls ah 2 4 true _ A25.o).mono ?_); rintro e w' ⟨rfl, ⟨nd, rfl⟩⟩; skip) | (go_at_call 22; (with_reducible refine (spec_l1In.calls (aa.length : Int) 1 16 false _ A27.o).mono ?_); rintro e w' ⟨rfl, ⟨nd, rfl⟩⟩; skip))
      repeat (go_quiet (first | (go_at_call 22; (with_reducible refine (spec_l1In.calls ah 2 4 true _ A25.o).mono ?_); rintro e w' ⟨rfl, ⟨nd, rfl⟩⟩; skip) | (go_at_call 22; (with_reducible refine (spec_l1In.calls (aa.length : Int) 1 16 false _ A27.o).mono ?_); rintro e w' ⟨rfl, ⟨nd, rfl⟩⟩; skip)); try go_wp2_with (first | (go_at_call 22; (with_reducible refine (spec_l1In.calls ah 2 4 true _ A25.o).mono ?_); rintro e w' ⟨rfl, ⟨nd, rfl⟩⟩; skip) | (go_at_call 22; (with_reducible refine (spec_l1In.calls (aa.length : Int) 1 16 false _ A27.o).mono ?_); rintro e w' ⟨rfl, ⟨nd, rfl⟩⟩; skip)))
      go_ret
      exact ⟨by rfl, by repeat (first | (with_reducible first | exact HB.o | apply below_alloc | apply pw_below_drewN | apply below_drew1 | refine below_set ?_ ay.o) | exact HB.o)⟩
     replace c26 := Bool.eq_false_iff.mpr c26; subst c26; rw [if_neg nf_] at H; obtain rfl := Option.some.inj H; have cB := bq3 ai.o
     go_wp2_with (first | (go_at_call 22; (with_reducible refine (spec_l1In.calls ah 2 4 false _ A25.o).mono ?_); rintro e w' ⟨rfl, ⟨nd, rfl⟩⟩; skip))
     repeat (go_quiet (first | (go_at_call 22; (with_reducible refine (spec_l1In.calls ah 2 4 false _ A25.o).mono ?_); rintro e w' ⟨rfl, ⟨nd, rfl⟩⟩; skip)); try go_wp2_with (first | (go_at_call 22; (with_reducible refine (spec_l1In.calls ah 2 4 false _ A25.o).mono ?_); rintro e w' ⟨rfl, ⟨nd, rfl⟩⟩; skip)))
     go_ret
     exact ⟨by rfl, by repeat (first | (with_reducible first | exact HB.o | apply below_alloc | apply pw_below_drewN | apply below_drew1 | refine below_set ?_ ay.o) | exact HB.o)⟩

def spec_IsSteady.f (k : Nat) (ah : Int) (aa : List (List Int)) (af : List Int) : Option (Bool) := (spec_IsSequence.f k ah aa af).bind fun b6 => (if b6 = true then (if 0 < (aa.length : Int) then (if 0 < ((rd_L1 aa 0).length : Int) then (some ((rd (rd_L1 aa 0) 0) == 0)) else (none)) else (none)) else (some false))
theorem spec_IsSteady.calls (k : Nat) (ah : Int) (aV : Option Addr) (aQ : Nat) (aa : List (List Int)) (aN : Option Addr) (aT : Nat) (af : List Int) (r : Bool) (w : World) (bh : Kd.C (Kd.slice 3 (Kd.int .i64)) w aV aa.length aa) (bf : aa.length ≤ aQ) (bi : Kd.C (Kd.int .i64) w aN af.length af) (bg : af.length ≤ aT) (h : spec_IsSteady.f k ah aa af = some r) :
  Calls Try.prog 52 #[.agg #[.int .i64 ah, .slice aV aa.length aQ, .slice aN af.length aT]] w fun e w' => e = .returned (.bool r) ∧ Below w.heap.size w w' := by
 have hu32 := Try.underlying32; have aq := A_ bh; have bz := A_ bf; clear bh bf; have bc := A_ bi; have bA := A_ bg; clear bi bg; have HB := A_ (Below.refl w.heap.size w); unfold spec_IsSteady.f at h; have H := h; clear h; replace H := bA_ H; obtain ⟨b6, A2, H⟩ := H
 by_cases c3 : b6 = true
 ·subst c3; rw [if_pos rfl] at H
  by_cases c4 : 0 < (aa.length : Int)
  ·rw [if_pos c4] at H; have ch := decide_eq_true c4
   have cO : decide (0 < aa.length) = true := decide_eq_true (by omega)
   clear c4
   by_cases c5 : 0 < ((rd_L1 aa 0).length : Int)
   ·rw [if_pos c5] at H; have bS := decide_eq_true c5
    have bT : decide (0 < (rd_L1 aa 0).length) = true := decide_eq_true (by omega)
    clear c5; obtain rfl := Option.some.inj H; go_enter Try.func52, Try.ntmps52
    go_wp2_with (first | ((with_reducible refine gate_dst (N := 1) rfl ?_); refine box_event rfl (N := 1) rfl (cs := #[.int .i64 ah, .slice aV aa.length aQ, .slice aN af.length aT]) (t := 32) (by go_simp; done) ?_; intro ci hg w6 hbox hb; have aU := A_ (hbox); have b9 := A_ (lg_ (below_size HB.o) hg); have b8 := A_ (lg_ (below_size HB.o) hg); replace HB := bs_ HB hb; clear hb hbox hg; have cH := bq3 aU.o) | ((with_reducible refine gc_ 51 rfl ?_); refine cM_ E51 4 (spec_IsSequence.calls k ah _ _ aa _ _ af true _ (Kd.C_below aq.o HB.o) bz.o (Kd.C_below bc.o HB.o) bA.o A2.o) ?_; rintro e w8 ⟨rfl, hb⟩; refine ⟨_, rfl, ?_⟩; replace aU := bb_ aU hb; replace HB := bs_ HB hb; clear hb; have cI := bq3 aU.o; have bZ : 0 ≤ (0 : Int) := (by omega); have b1 : 0 < (aa.length : Int) := oa_; obtain ⟨cJ, cC, cD, cF, aK, bw, bv⟩ := at_L1 aq.o 0 bZ b1; cases cF; have qi119 : (0 < aa.length) = True := eq_true (by omega); (try rw [show ((0 : Int)).toNat = 0 from rfl] at aK); (try rw [Addr.add_zero'] at aK); replace aK := (HB.o.cell (World.block_lt_of_cell? w _ aK)).trans aK; have bI := A_ bv; have cj := A_ bw; clear bv bw; replace bZ := eq_true bZ; replace b1 := eq_true b1; have b0 : 0 ≤ (0 : Int) := (by omega); have b2 : 0 < ((rd_L1 aa 0).length : Int) := oa_; obtain ⟨cK, cG, aM⟩ := Kd.at_int bI.o 0 b0 b2; cases cG; have qi120 : (0 < (rd_L1 aa 0).length) = True := eq_true (by omega); (try rw [show ((0 : Int)).toNat = 0 from rfl] at aM); (try rw [Addr.add_zero'] at aM); replace aM := (HB.o.cell (World.block_lt_of_cell? w _ aM)).trans aM; replace b0 := eq_true b0; replace b2 := eq_true b2))
    go_ret
    exact ⟨by rfl, HB.o⟩
   rw [if_neg c5] at H
   cases H
  rw [if_neg c4] at H
  cases H
 replace c3 := Bool.eq_false_iff.mpr c3; subst c3; rw [if_neg nf_] at H; obtain rfl := Option.some.inj H; go_enter Try.func52, Try.ntmps52
 go_wp2_with (first | ((with_reducible refine gate_dst (N := 1) rfl ?_); refine box_event rfl (N := 1) rfl (cs := #[.int .i64 ah, .slice aV aa.length aQ, .slice aN af.length aT]) (t := 32) (by go_simp; done) ?_; intro ci hg w10 hbox hb; have aU := A_ (hbox); have b9 := A_ (lg_ (below_size HB.o) hg); have b8 := A_ (lg_ (below_size HB.o) hg); replace HB := bs_ HB hb; clear hb hbox hg; have ck := bq3 aU.o) | ((with_reducible refine gc_ 51 rfl ?_); refine cM_ E51 4 (spec_IsSequence.calls k ah _ _ aa _ _ af false _ (Kd.C_below aq.o HB.o) bz.o (Kd.C_below bc.o HB.o) bA.o A2.o) ?_; rintro e w12 ⟨rfl, hb⟩; refine ⟨_, rfl, ?_⟩; replace aU := bb_ aU hb; replace HB := bs_ HB hb; clear hb; (try clear hi)))
 go_ret
 exact ⟨by rfl, HB.o⟩

end Go.Proofs.Ytgmfjcckmapkbaa.PFnExactCountingForm

