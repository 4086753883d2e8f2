/- Walks of the functions that the law reaches. -/
import Derived.Test.YtgmfjcckmapkbaaPFnExactCountingFormx9
namespace Go.Proofs.Ytgmfjcckmapkbaa.PFnExactCountingForm
open Go.RowKit Go.Proofs.YtgmfjcckmapkbaaW.PrintWords Go.Proofs.YtgmfjcckmapkbaaW.PrintLast Go.Proofs.YtgmfjcckmapkbaaW.PrintMore
attribute [local go_sem] max2_int min2_int max_two min_two max_three min_three max_four min_four
set_option linter.unusedVariables false
set_option maxHeartbeats 8000000
set_option maxRecDepth 100000
set_option linter.unusedSimpArgs false

mutual
def impl_IsSequence.j0 : Nat → Int → Bool → Int → List (List Int) → List Int → Option (Bool)
 | 0, _, _, _, _, _ => none
 | k + 1, x3, cI, ak, ah, ag => if cI = true then (some false) else (impl_IsSequence.l0 k x3 ah (ah.length : Int) 0 ak ah ag)
def impl_IsSequence.l0 : Nat → Int → List (List Int) → Int → Int → Int → List (List Int) → List Int → Option (Bool)
 | 0, _, _, _, _, _, _, _ => none
 | k + 1, x3, aZ, bj, aD, ak, ah, ag => if aD < bj then (if 0 ≤ aD then (if aD < (aZ.length : Int) then (if ((rd_L1 aZ aD).length : Int) = ak then (if aD < (ag.length : Int) then (if (rd ag aD) < 0 then (impl_IsSequence.j2 k x3 (rd_L1 aZ aD) aZ bj aD true ak ah ag) else (impl_IsSequence.j2 k x3 (rd_L1 aZ aD) aZ bj aD (decide ((rd ag aD) > 3)) ak ah ag)) else (none)) else (impl_IsSequence.j2 k x3 (rd_L1 aZ aD) aZ bj aD true ak ah ag)) else (none)) else (none)) else (some true)
def impl_IsSequence.j2 : Nat → Int → List Int → List (List Int) → Int → Int → Bool → Int → List (List Int) → List Int → Option (Bool)
 | 0, _, _, _, _, _, _, _, _, _ => none
 | k + 1, x3, x5, aZ, bj, aD, cJ, ak, ah, ag => if cJ = true then (some false) else (impl_IsSequence.l1 k x3 aZ bj aD x5 (x5.length : Int) 0 ak ah ag)
def impl_IsSequence.l1 : Nat → Int → List (List Int) → Int → Int → List Int → Int → Int → Int → List (List Int) → List Int → Option (Bool)
 | 0, _, _, _, _, _, _, _, _, _, _ => none
 | k + 1, x3, aZ, bj, aD, b0, cx, bC, ak, ah, ag => if bC < cx then (if 0 ≤ bC then (if bC < (b0.length : Int) then (if (rd b0 bC) < 0 then (some false) else (if (rd b0 bC) ≥ x3 then (some false) else (impl_IsSequence.l1 k x3 aZ bj aD b0 cx (wrap64 (bC + 1)) ak ah ag))) else (none)) else (none)) else (impl_IsSequence.l0 k x3 aZ bj (wrap64 (aD + 1)) ak ah ag)
end
def impl_IsSequence.f (k : Nat) (af : Int) (aa : List (List Int)) (ac : List Int) : Option (Bool) := (impl_isBase.f af).bind fun bA => (if bA = true then (if (aa.length : Int) < 1 then (impl_IsSequence.j0 k (aa.length : Int) true af aa ac) else (if (aa.length : Int) > 16 then (impl_IsSequence.j0 k (aa.length : Int) true af aa ac) else (impl_IsSequence.j0 k (aa.length : Int) ((ac.length : Int) != (aa.length : Int)) af aa ac))) else (impl_IsSequence.j0 k (aa.length : Int) true af aa ac))
theorem impl_IsSequence.calls (k : Nat) (af : Int) (ax : Option Addr) (aq : Nat) (aa : List (List Int)) (ap : Option Addr) (ar : Nat) (ac : List Int) (r : Bool) (w : World) (aI : Kd.C (Kd.slice 3 (Kd.int .i64)) w ax aa.length aa) (aG : aa.length ≤ aq) (aJ : Kd.C (Kd.int .i64) w ap ac.length ac) (aH : ac.length ≤ ar) (h : impl_IsSequence.f k af aa ac = some r) :
  Calls Try.prog 55 #[.agg #[.int .i64 af, .slice ax aa.length aq, .slice ap ac.length ar]] w fun e w' => e = .returned (.bool r) ∧ Below w.heap.size w w' := by
 have hu32 := Try.underlying32; have aE := A_ aI; have a8 := A_ aG; clear aI aG; have ay := A_ aJ; have a9 := A_ aH; clear aJ aH; have HB := A_ (Below.refl w.heap.size w); unfold impl_IsSequence.f at h; have H := h; clear h; have HC2 := A_ H; clear H; go_enter Try.func55, Try.ntmps55
 go_upto_region 2 with (first | ((with_reducible refine gate_dst (N := 1) rfl ?_); (try (refine gate_guard (by rfl) ?_; dsimp only)); refine box_event rfl (N := 1) rfl (cs := #[.int .i64 af, .slice ax aa.length aq, .slice ap ac.length ar]) (t := 32) (by go_simp; done) ?_; intro aT hg w3 hbox hb; have ae := A_ (hbox); have cm := A_ (lg_ (below_size HB.o) hg); have aQ := A_ (lg_ (below_size HB.o) hg); replace HB := bs_ HB hb; clear hb hbox hg; have bs := bq3 ae.o))
 (try simp only [Act.put, mD, mE, mF])
 go_cut [29] (fun cD wc => ∃ (kq : Nat) (aY : Bool), cD = .bool aY ∧ Aside0 (impl_IsSequence.j0 kq (aa.length : Int) aY af aa ac = some r) ∧ Aside0 (kq ≤ k) ∧ Aside0 (wc.heap[aT]? = some (.cells #[.int .i64 af, (.slice ax aa.length aq), (.slice ap ac.length ar)] 32 (0, 0))) ∧ Aside0 (Below w.heap.size w wc))
 case first =>
  have H := HC2.o; clear HC2; replace H := bA_ H; obtain ⟨bA, A5, H⟩ := H
  by_cases c6 : bA = true
  ·subst c6; rw [if_pos rfl] at H
   by_cases c7 : (aa.length : Int) < 1
   ·rw [if_pos c7] at H; have b6 := decide_eq_true c7
    have b7 : decide (aa.length < 1) = true := decide_eq_true (by omega)
    clear c7
    (skip)
    have H' := A_ H
    clear H; have ch := bq3 ae.o
    go_wp2_with (first | ((with_reducible refine gc_ 62 rfl ?_); refine cM_ E62 13 (impl_isBase.calls af true _ A5.o) ?_; rintro e w' ⟨rfl, ⟨nd, rfl⟩⟩; refine ⟨_, rfl, ?_⟩))
    go_meet
    case rel => exact ⟨_, (true), (by rfl), H', ⟨by omega⟩, ⟨by (with_reducible repeat (first | refine blk_drewN ?_ _ | refine blk_drew ?_ | refine blk_alloc ?_ _)); exact ae.o⟩, ⟨by repeat (first | (with_reducible first | exact HB.o | apply below_alloc | apply pw_below_drewN | apply below_drew1 | refine below_set ?_ aQ.o) | exact HB.o)⟩⟩
   rw [if_neg c7] at H; have b6 := decide_eq_false c7
   have b7 : decide (aa.length < 1) = false := decide_eq_false (by omega)
   clear c7
   (skip)
   by_cases c9 : (aa.length : Int) > 16
   ·rw [if_pos c9] at H
    have b8 : decide (16 < (aa.length : Int)) = true := decide_eq_true c9
    have b9 : decide (16 < aa.length) = true := decide_eq_true (by omega)
    clear c9
    have H' := A_ H
    clear H; have bV := bq3 ae.o
    go_wp2_with (first | ((with_reducible refine gc_ 62 rfl ?_); refine cM_ E62 13 (impl_isBase.calls af true _ A5.o) ?_; rintro e w' ⟨rfl, ⟨nd, rfl⟩⟩; refine ⟨_, rfl, ?_⟩))
    go_meet
    case rel => exact ⟨_, (true), (by rfl), H', ⟨by omega⟩, ⟨by (with_reducible repeat (first | refine blk_drewN ?_ _ | refine blk_drew ?_ | refine blk_alloc ?_ _)); exact ae.o⟩, ⟨by repeat (first | (with_reducible first | exact HB.o | apply below_alloc | apply pw_below_drewN | apply below_drew1 | refine below_set ?_ aQ.o) | exact HB.o)⟩⟩
   rw [if_neg c9] at H
   have b8 : decide (16 < (aa.length : Int)) = false := decide_eq_false c9
   have b9 : decide (16 < aa.length) = false := decide_eq_false (by omega)
   clear c9
   have H' := A_ H
   clear H; have bf := bq3 ae.o
   go_wp2_with (first | ((with_reducible refine gc_ 62 rfl ?_); refine cM_ E62 13 (impl_isBase.calls af true _ A5.o) ?_; rintro e w' ⟨rfl, ⟨nd, rfl⟩⟩; refine ⟨_, rfl, ?_⟩))
   go_meet
   case rel => exact ⟨_, (((ac.length : Int) != (aa.length : Int))), (by rfl), H', ⟨by omega⟩, ⟨by (with_reducible repeat (first | refine blk_drewN ?_ _ | refine blk_drew ?_ | refine blk_alloc ?_ _)); exact ae.o⟩, ⟨by repeat (first | (with_reducible first | exact HB.o | apply below_alloc | apply pw_below_drewN | apply below_drew1 | refine below_set ?_ aQ.o) | exact HB.o)⟩⟩
  replace c6 := Bool.eq_false_iff.mpr c6; subst c6; rw [if_neg nf_] at H
  have H' := A_ H
  clear H; have bW := bq3 ae.o
  go_wp2_with (first | ((with_reducible refine gc_ 62 rfl ?_); refine cM_ E62 13 (impl_isBase.calls af false _ A5.o) ?_; rintro e w' ⟨rfl, ⟨nd, rfl⟩⟩; refine ⟨_, rfl, ?_⟩))
  go_meet
  case rel => exact ⟨_, (true), (by rfl), H', ⟨by omega⟩, ⟨by (with_reducible repeat (first | refine blk_drewN ?_ _ | refine blk_drew ?_ | refine blk_alloc ?_ _)); exact ae.o⟩, ⟨by repeat (first | (with_reducible first | exact HB.o | apply below_alloc | apply pw_below_drewN | apply below_drew1 | refine below_set ?_ aQ.o) | exact HB.o)⟩⟩
 case rest =>
  clear HC2
  try clear bs
  obtain ⟨kq, aY, rfl, HA, bp, ae, HB⟩ := hcut
  cases kq with
  | zero => exact nz_ HA.o
  | succ kj1 =>
   have H := HA.o; clear HA; simp only [impl_IsSequence.j0] at H
   by_cases c13 : aY = true
   ·subst c13; rw [if_pos rfl] at H; obtain rfl := Option.some.inj H
    go_wp2
    go_ret
    exact ⟨by rfl, HB.o⟩
   replace c13 := Bool.eq_false_iff.mpr c13; subst c13; rw [if_neg nf_] at H
   have H' := A_ H
   clear H; have bg := bq3 ae.o
   go_wp2
   go_loopg [33] kj1 (fun kq cE w' => ∃ (ab : Int), cE = .int .i64 ab ∧ Aside0 (impl_IsSequence.l0 kq (aa.length : Int) aa (aa.length : Int) ab af aa ac = some r) ∧ Aside0 (kq ≤ kj1) ∧ Aside0 (w'.heap[aT]? = some (.cells #[.int .i64 af, (.slice ax aa.length aq), (.slice ap ac.length ar)] 32 (0, 0))) ∧ Aside0 (Below w.heap.size w w'))
   case atStart => exact ⟨(0), (by rfl), H', ⟨Nat.le_refl _⟩, ⟨ae.o⟩, ⟨HB.o⟩⟩
   case round =>
    clear H'
    try clear bg
    obtain ⟨ab, rfl, HA, bq, ae, HB⟩ := hrel
    cases gk with
    | zero => exact nz_ HA.o
    | succ k2 =>
     have H := HA.o; clear HA; simp only [impl_IsSequence.l0] at H
     by_cases c15 : ab < (aa.length : Int)
     ·rw [if_pos c15] at H; have bo := decide_eq_true c15; clear c15
      by_cases c16 : 0 ≤ ab
      ·rw [if_pos c16] at H; have bJ := decide_eq_true c16; clear c16
       by_cases c17 : ab < (aa.length : Int)
       ·rw [if_pos c17] at H; have bK := decide_eq_true c17; clear c17; have HC18 := A_ H; clear H
        have bh : 0 ≤ (ab : Int) := oa_
        have bi : ab < (aa.length : Int) := oa_
        obtain ⟨bl, b1, b4, cc, au, aW, aU⟩ := at_L1 aE.o ab bh bi
        cases cc
        replace au := (HB.o.cell (World.block_lt_of_cell? w _ au)).trans au; have az := A_ aU; have bS := A_ aW; clear aU aW; replace bh := eq_true bh; replace bi := eq_true bi
        go_upto_region 7 with (fail)
        go_cut [58] (fun cG wc => ∃ (kq : Nat) (aC : Bool), cG = .bool aC ∧ Aside0 (impl_IsSequence.j2 kq (aa.length : Int) (rd_L1 aa ab) aa (aa.length : Int) ab aC af aa ac = some r) ∧ Aside0 (kq ≤ k2) ∧ Aside0 (wc.heap[aT]? = some (.cells #[.int .i64 af, (.slice (some bl) aa.length aq), (.slice ap ac.length ar)] 32 (0, 0))) ∧ Aside0 (Below w.heap.size w wc))
        case first =>
         have H := HC18.o; clear HC18
         by_cases c19 : ((rd_L1 aa ab).length : Int) = af
         ·rw [if_pos c19] at H
          have bL : (((rd_L1 aa ab).length : Int) == af) = true := beq_iff_eq.mpr c19
          have bM : (((rd_L1 aa ab).length : Int) != af) = false := bne_eq_false_iff_eq.mpr c19
          clear c19
          (skip)
          by_cases c20 : ab < (ac.length : Int)
          ·rw [if_pos c20] at H; have cr := decide_eq_true c20; clear c20
           by_cases c21 : (rd ac ab) < 0
           ·rw [if_pos c21] at H; have bN := decide_eq_true c21; clear c21
            have H' := A_ H
            clear H; have bX := bq3 ae.o
            have aM : 0 ≤ (ab : Int) := oa_
            have aN : ab < (ac.length : Int) := oa_
            obtain ⟨bm, br, al⟩ := Kd.at_int ay.o ab aM aN
            cases br
            replace al := (HB.o.cell (World.block_lt_of_cell? w _ al)).trans al; replace aM := eq_true aM; replace aN := eq_true aN
            go_wp2
            go_meet
            case rel => exact ⟨_, (true), (by rfl), H', ⟨by have := bp.o; have := bq.o; omega⟩, ⟨ae.o⟩, ⟨HB.o⟩⟩
           rw [if_neg c21] at H; have bN := decide_eq_false c21; clear c21
           have H' := A_ H
           clear H; have bY := bq3 ae.o
           have aM : 0 ≤ (ab : Int) := oa_
           have aN : ab < (ac.length : Int) := oa_
           obtain ⟨bm, br, al⟩ := Kd.at_int ay.o ab aM aN
           cases br
           replace al := (HB.o.cell (World.block_lt_of_cell? w _ al)).trans al; replace aM := eq_true aM; replace aN := eq_true aN
           have bt : 0 ≤ (ab : Int) := oa_
           have bw : ab < (ac.length : Int) := oa_
           obtain ⟨bI, cd, aA⟩ := Kd.at_int ay.o ab bt bw; obtain rfl : bm = bI := (by injection cd); replace aA := (HB.o.cell (World.block_lt_of_cell? w _ aA)).trans aA; replace bt := eq_true bt; replace bw := eq_true bw
           go_wp2
           go_meet
           case rel => exact ⟨_, (decide ((rd ac ab) > 3)), (by rfl), H', ⟨by have := bp.o; have := bq.o; omega⟩, ⟨ae.o⟩, ⟨HB.o⟩⟩
          rw [if_neg c20] at H
          cases H
         rw [if_neg c19] at H
         have bL : (((rd_L1 aa ab).length : Int) == af) = false := beq_eq_false_iff_ne.mpr c19
         have bM : (((rd_L1 aa ab).length : Int) != af) = true := bne_iff_ne.mpr c19
         (skip)
         have H' := A_ H
         clear H; have bZ := bq3 ae.o
         go_wp2
         go_meet
         case rel => exact ⟨_, (true), (by rfl), H', ⟨by have := bp.o; have := bq.o; omega⟩, ⟨ae.o⟩, ⟨HB.o⟩⟩
        case rest =>
         clear HC18
         clear bo bJ bK au bh bi
         obtain ⟨kq, aC, rfl, HA, bd, ae, HB⟩ := hcut
         cases kq with
         | zero => exact nz_ HA.o
         | succ kj17 =>
          have H := HA.o; clear HA; simp only [impl_IsSequence.j2] at H
          by_cases c25 : aC = true
          ·subst c25; rw [if_pos rfl] at H; obtain rfl := Option.some.inj H
           go_wp2
           go_ret
           exact ⟨by rfl, HB.o⟩
          replace c25 := Bool.eq_false_iff.mpr c25; subst c25; rw [if_neg nf_] at H
          have H' := A_ H
          clear H
          go_wp2
          go_loopg [61] kj17 (fun kq cH w' => ∃ (ai : Int), cH = .int .i64 ai ∧ Aside0 (impl_IsSequence.l1 kq (aa.length : Int) aa (aa.length : Int) ab (rd_L1 aa ab) ((rd_L1 aa ab).length : Int) ai af aa ac = some r) ∧ Aside0 (kq ≤ kj17) ∧ Aside0 (w'.heap[aT]? = some (.cells #[.int .i64 af, (.slice (some bl) aa.length aq), (.slice ap ac.length ar)] 32 (0, 0))) ∧ Aside0 (Below w.heap.size w w'))
          case atStart => exact ⟨(0), (by rfl), H', ⟨Nat.le_refl _⟩, ⟨ae.o⟩, ⟨HB.o⟩⟩
          case round =>
           clear H'; obtain ⟨ai, rfl, HA, bU, ae, HB⟩ := hrel
           cases gk with
           | zero => exact nz_ HA.o
           | succ k4 =>
            have H := HA.o; clear HA; simp only [impl_IsSequence.l1] at H
            by_cases c26 : ai < ((rd_L1 aa ab).length : Int)
            ·rw [if_pos c26] at H; have bO := decide_eq_true c26; clear c26
             by_cases c27 : 0 ≤ ai
             ·rw [if_pos c27] at H; have cv := decide_eq_true c27; clear c27
              by_cases c28 : ai < ((rd_L1 aa ab).length : Int)
              ·rw [if_pos c28] at H; have cw := decide_eq_true c28; clear c28
               by_cases c29 : (rd (rd_L1 aa ab) ai) < 0
               ·rw [if_pos c29] at H; have bP := decide_eq_true c29; clear c29; obtain rfl := Option.some.inj H
                have av : 0 ≤ (ai : Int) := oa_
                have aw : ai < ((rd_L1 aa ab).length : Int) := oa_
                obtain ⟨bn, ba, aj⟩ := Kd.at_int az.o ai av aw
                cases ba
                replace aj := (HB.o.cell (World.block_lt_of_cell? w _ aj)).trans aj; replace av := eq_true av; replace aw := eq_true aw
                go_wp2
                go_ret
                exact ⟨by rfl, HB.o⟩
               rw [if_neg c29] at H; have bP := decide_eq_false c29; clear c29
               by_cases c30 : (rd (rd_L1 aa ab) ai) ≥ (aa.length : Int)
               ·rw [if_pos c30] at H
                have bQ : decide ((aa.length : Int) ≤ (rd (rd_L1 aa ab) ai)) = true := decide_eq_true c30
                clear c30; obtain rfl := Option.some.inj H
                have av : 0 ≤ (ai : Int) := oa_
                have aw : ai < ((rd_L1 aa ab).length : Int) := oa_
                obtain ⟨bn, ba, aj⟩ := Kd.at_int az.o ai av aw
                cases ba
                replace aj := (HB.o.cell (World.block_lt_of_cell? w _ aj)).trans aj; replace av := eq_true av; replace aw := eq_true aw
                go_wp2
                go_ret
                exact ⟨by rfl, HB.o⟩
               rw [if_neg c30] at H
               have bQ : decide ((aa.length : Int) ≤ (rd (rd_L1 aa ab) ai)) = false := decide_eq_false c30
               clear c30
               have H' := A_ H
               clear H
               have av : 0 ≤ (ai : Int) := oa_
               have aw : ai < ((rd_L1 aa ab).length : Int) := oa_
               obtain ⟨bn, ba, aj⟩ := Kd.at_int az.o ai av aw
               cases ba
               replace aj := (HB.o.cell (World.block_lt_of_cell? w _ aj)).trans aj; replace av := eq_true av; replace aw := eq_true aw
               go_wp2
               go_roundg k4
               case measure => have := bp.o; have := bq.o; have := bd.o; have := bU.o; omega
               case rel => exact ⟨(wrap64 (ai + 1)), (by rfl), H', ⟨by have := bp.o; have := bq.o; have := bd.o; have := bU.o; omega⟩, ⟨ae.o⟩, ⟨HB.o⟩⟩
              rw [if_neg c28] at H
              cases H
             rw [if_neg c27] at H
             cases H
            rw [if_neg c26] at H; have bO := decide_eq_false c26; clear c26
            have H' := A_ H
            clear H
            go_wp2
            go_roundg k4
            case measure => have := bp.o; have := bq.o; have := bd.o; have := bU.o; omega
            case rel => exact ⟨(wrap64 (ab + 1)), (by rfl), H', ⟨by have := bp.o; have := bq.o; have := bd.o; have := bU.o; omega⟩, ⟨ae.o⟩, ⟨HB.o⟩⟩
       rw [if_neg c17] at H
       cases H
      rw [if_neg c16] at H
      cases H
     rw [if_neg c15] at H; have bo := decide_eq_false c15; clear c15; obtain rfl := Option.some.inj H
     go_wp2
     go_ret
     exact ⟨by rfl, HB.o⟩

def impl_IsSteady.f (k : Nat) (af : Int) (aa : List (List Int)) (ac : List Int) : Option (Bool) := (impl_IsSequence.f k af aa ac).bind fun bB => (if bB = true then (if 0 < (aa.length : Int) then (if 0 < ((rd_L1 aa 0).length : Int) then (some ((rd (rd_L1 aa 0) 0) == 0)) else (none)) else (none)) else (some false))
theorem impl_IsSteady.calls (k : Nat) (af : Int) (ax : Option Addr) (aq : Nat) (aa : List (List Int)) (ap : Option Addr) (ar : Nat) (ac : List Int) (r : Bool) (w : World) (aI : Kd.C (Kd.slice 3 (Kd.int .i64)) w ax aa.length aa) (aG : aa.length ≤ aq) (aJ : Kd.C (Kd.int .i64) w ap ac.length ac) (aH : ac.length ≤ ar) (h : impl_IsSteady.f k af aa ac = some r) :
  Calls Try.prog 56 #[.agg #[.int .i64 af, .slice ax aa.length aq, .slice ap ac.length ar]] w fun e w' => e = .returned (.bool r) ∧ Below w.heap.size w w' := by
 have hu32 := Try.underlying32; have aE := A_ aI; have a8 := A_ aG; clear aI aG; have ay := A_ aJ; have a9 := A_ aH; clear aJ aH; have HB := A_ (Below.refl w.heap.size w); unfold impl_IsSteady.f at h; have H := h; clear h; replace H := bA_ H; obtain ⟨bB, A2, H⟩ := H
 by_cases c3 : bB = true
 ·subst c3; rw [if_pos rfl] at H
  by_cases c4 : 0 < (aa.length : Int)
  ·rw [if_pos c4] at H; have cy := decide_eq_true c4
   have cA : decide (0 < aa.length) = true := decide_eq_true (by omega)
   clear c4
   by_cases c5 : 0 < ((rd_L1 aa 0).length : Int)
   ·rw [if_pos c5] at H; have cB := decide_eq_true c5
    have cC : decide (0 < (rd_L1 aa 0).length) = true := decide_eq_true (by omega)
    clear c5; obtain rfl := Option.some.inj H; go_enter Try.func56, Try.ntmps56
    go_wp2_with (first | ((with_reducible refine gate_dst (N := 1) rfl ?_); refine box_event rfl (N := 1) rfl (cs := #[.int .i64 af, .slice ax aa.length aq, .slice ap ac.length ar]) (t := 32) (by go_simp; done) ?_; intro bR hg w6 hbox hb; have ao := A_ (hbox); have bE := A_ (lg_ (below_size HB.o) hg); have bD := A_ (lg_ (below_size HB.o) hg); replace HB := bs_ HB hb; clear hb hbox hg; have cg := bq3 ao.o) | ((with_reducible refine gc_ 55 rfl ?_); refine cM_ E55 4 (impl_IsSequence.calls k af _ _ aa _ _ ac true _ (Kd.C_below aE.o HB.o) a8.o (Kd.C_below ay.o HB.o) a9.o A2.o) ?_; rintro e w8 ⟨rfl, hb⟩; refine ⟨_, rfl, ?_⟩; replace ao := bb_ ao hb; replace HB := bs_ HB hb; clear hb; have ci := bq3 ao.o; have bu : 0 ≤ (0 : Int) := (by omega); have bx : 0 < (aa.length : Int) := oa_; obtain ⟨co, b2, b5, ce, am, aX, aV⟩ := at_L1 aE.o 0 bu bx; cases ce; have qi358 : (0 < aa.length) = True := eq_true (by omega); (try rw [show ((0 : Int)).toNat = 0 from rfl] at am); (try rw [Addr.add_zero'] at am); replace am := (HB.o.cell (World.block_lt_of_cell? w _ am)).trans am; have be := A_ aV; have bT := A_ aX; clear aV aX; replace bu := eq_true bu; replace bx := eq_true bx; have bv : 0 ≤ (0 : Int) := (by omega); have bz : 0 < ((rd_L1 aa 0).length : Int) := oa_; obtain ⟨cq, cf, an⟩ := Kd.at_int be.o 0 bv bz; cases cf; have qi359 : (0 < (rd_L1 aa 0).length) = True := eq_true (by omega); (try rw [show ((0 : Int)).toNat = 0 from rfl] at an); (try rw [Addr.add_zero'] at an); replace an := (HB.o.cell (World.block_lt_of_cell? w _ an)).trans an; replace bv := eq_true bv; replace bz := eq_true bz))
    go_ret
    exact ⟨by rfl, HB.o⟩
   rw [if_neg c5] at H
   cases H
  rw [if_neg c4] at H
  cases H
 replace c3 := Bool.eq_false_iff.mpr c3; subst c3; rw [if_neg nf_] at H; obtain rfl := Option.some.inj H; go_enter Try.func56, Try.ntmps56
 go_wp2_with (first | ((with_reducible refine gate_dst (N := 1) rfl ?_); refine box_event rfl (N := 1) rfl (cs := #[.int .i64 af, .slice ax aa.length aq, .slice ap ac.length ar]) (t := 32) (by go_simp; done) ?_; intro bR hg w10 hbox hb; have ao := A_ (hbox); have bE := A_ (lg_ (below_size HB.o) hg); have bD := A_ (lg_ (below_size HB.o) hg); replace HB := bs_ HB hb; clear hb hbox hg; have bf := bq3 ao.o) | ((with_reducible refine gc_ 55 rfl ?_); refine cM_ E55 4 (impl_IsSequence.calls k af _ _ aa _ _ ac false _ (Kd.C_below aE.o HB.o) a8.o (Kd.C_below ay.o HB.o) a9.o A2.o) ?_; rintro e w12 ⟨rfl, hb⟩; refine ⟨_, rfl, ?_⟩; replace ao := bb_ ao hb; replace HB := bs_ HB hb; clear hb; (try clear hi)))
 go_ret
 exact ⟨by rfl, HB.o⟩

def slices_Clone_int_int.f (l0 : List Int) : Option (List Int) := (some (([] : List Int) : List Int)).bind fun aK => (if aK.length + l0.length < 17592186044416 then (some (aK ++ l0)) else (none))
theorem slices_Clone_int_int.calls_some (ad0 : Addr) (c0 : Nat) (l0 : List Int) (r : List Int) (w : World) (hr0 : Kd.C (Kd.int .i64) w (some ad0) l0.length l0) (hc0 : l0.length ≤ c0) (h : slices_Clone_int_int.f l0 = some r) :
  Calls Try.prog 49 #[.slice (some ad0) l0.length c0] w fun e w' => ∃ v0_ : Value, e = .returned (v0_) ∧ Kd.R (Kd.int .i64) 3 w' w.heap.size (fun _ => True) v0_ r ∧ Below w.heap.size w w' := by
 have HR0 := A_ hr0; have HC0 := A_ hc0; clear hr0 hc0; have HB := A_ (Below.refl w.heap.size w); unfold slices_Clone_int_int.f at h; have H := h; clear h; obtain ⟨aK, bb⟩ := ex_ ((([] : List Int)) : List Int); replace H : (if aK.length + l0.length < 17592186044416 then (some (aK ++ l0)) else (none)) = some r := by (have H2_ := (Option.bind_some _ _).symm.trans H; rw [bb]; with_reducible exact H2_)
 have bG := A_ bb; clear bb
 by_cases c2 : aK.length + l0.length < 17592186044416
 ·rw [if_pos c2] at H; have b3 := A_ c2; clear c2; obtain ⟨ck, bc⟩ := ex_ ((aK ++ l0) : List Int); replace H : (some ck) = some r := by (rw [bc]; with_reducible exact H)
  have bH := A_ bc; clear bc; obtain rfl := Option.some.inj H; have hnil := fun (w_ : World) (a_ : Option Addr) (n_ c_ n1_ c1_ : Nat) => Lib.run_eql_slice_nil (P := Try.prog) w_ 23 3 a_ n_ c_ n1_ c1_ Try.underlying23; go_enter Try.func49, Try.ntmps49
  go_wp2_with (first | ((with_reducible refine gd_ 5 rfl ?_); refine RL_ 5 3 [] [] rfl rfl (by go_simp; done) rfl rfl ?_; rintro cj w3 ho4 hb - -; (rw [← bG.o] at ho4); have bk := A_ (Kd.R_lower ho4 (below_size HB.o)); replace HB := bs_ HB hb; clear hb ho4) | ((with_reducible refine gate_builtin (b := .append) (xs := #[.tmp 5, .tmp 6]) rfl ?_); at_builtin; refine Kd.R_append_rows (Kd.int .i64) (w0 := w) w.heap.size rfl (.tmp 5) (.tmp 6) 23 3 (.int .i64 0) 8 rfl Try.underlying23 info3 rfl (by decide) (by omega) cj aK l0 _ _ _ (fun _ => True) (fun _ => False) rfl rfl ?aO ?aR (fun _ _ h => h) (fun _ h => h.elim) ?aF ?aB ?aS ?aL ?_; (case aR => exact (Kd.C_below HR0.o HB.o)); (case aB => exact HB.o); (case aF => exact (fun _ _ => trivial)); (case aO => exact bk.o); (case aS => exact (below_size HB.o)); (case aL => have := b3.o; omega); intro cF w5 ho hb hg hat; rw [← bH.o] at ho; replace HB := A_ (hb); have bF := A_ (ho); clear bk; clear ho hb hg hat))
  go_ret
  exact ⟨_, by rfl, bF.o, HB.o⟩
 rw [if_neg c2] at H
 cases H

theorem slices_Clone_int_int.calls (A0 : Option Addr) (c0 : Nat) (l0 : List Int) (r : List Int) (w : World) (hr0 : Kd.C (Kd.int .i64) w A0 l0.length l0) (hc0 : l0.length ≤ c0) (h : slices_Clone_int_int.f l0 = some r) :
  Calls Try.prog 49 #[.slice A0 l0.length c0] w fun e w' => ∃ v0_ : Value, e = .returned (v0_) ∧ Kd.R (Kd.int .i64) 3 w' w.heap.size (fun _ => True) v0_ r ∧ Below w.heap.size w w' := by
 cases A0 with
 | some ad0 => exact slices_Clone_int_int.calls_some ad0 c0 l0 r w hr0 hc0 h
 | none =>
  obtain rfl : l0 = [] := by
   cases l0 with
   | nil => rfl
   | cons x l0 =>
    obtain ⟨ad, he, _⟩ := hr0.2.2 (by simp)
    cases he
  simp [slices_Clone_int_int.f] at h
  subst h; clear hr0 hc0; have hnil := fun (w_ : World) (a_ : Option Addr) (n_ c_ n1_ c1_ : Nat) => Lib.run_eql_slice_nil (P := Try.prog) w_ 23 3 a_ n_ c_ n1_ c1_ Try.underlying23; go_enter Try.func49, Try.ntmps49
  go_wp2
  go_ret
  exact ⟨_, rfl, Kd.R_nil _ _ _ _ _, Below.refl _ _⟩

end Go.Proofs.Ytgmfjcckmapkbaa.PFnExactCountingForm

