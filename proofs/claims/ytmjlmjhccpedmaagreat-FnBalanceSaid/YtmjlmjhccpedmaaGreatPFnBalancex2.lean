/- Walks of the functions that the law reaches. -/
import Derived.Test.YtmjlmjhccpedmaaGreatPFnBalancex1
namespace Go.Proofs.YtmjlmjhccpedmaaGreat.PFnBalance
open Go.RowKit Go.Proofs.YtmjlmjhccpedmaaGreatW.PrintWords Go.Proofs.YtmjlmjhccpedmaaGreatW.PrintLast Go.Proofs.YtmjlmjhccpedmaaGreatW.PrintMore
attribute [local go_sem] max2_int min2_int max_two min_two max_three min_three max_four min_four
set_option linter.unusedVariables false
set_option maxHeartbeats 8000000
set_option maxRecDepth 100000
set_option linter.unusedSimpArgs false

mutual
def spec_IsSequence.l0 : Nat → Int → Int → List (List Int) → List Int → Option (Bool)
 | 0, _, _, _, _ => none
 | k + 1, x3, x320000, x320001, x320002 => if x3 < (x320001.length : Int) then (if 0 ≤ x3 then (if ((rd_L2 x320001 x3).length : Int) = x320000 then (spec_IsSequence.l1 k x3 0 x320000 x320001 x320002) else (some false)) else (none)) else (spec_IsSequence.l2 k 0 x320000 x320001 x320002)
def spec_IsSequence.l1 : Nat → Int → Int → Int → List (List Int) → List Int → Option (Bool)
 | 0, _, _, _, _, _ => none
 | k + 1, x3, x4, x320000, x320001, x320002 => if 0 ≤ x3 then (if x3 < (x320001.length : Int) then (if x4 < ((rd_L2 x320001 x3).length : Int) then (if 0 ≤ x4 then (if (rd (rd_L2 x320001 x3) x4) < 0 then (some false) else (if (rd (rd_L2 x320001 x3) x4) ≥ (x320001.length : Int) then (some false) else (spec_IsSequence.l1 k x3 (wrap64 (x4 + 1)) x320000 x320001 x320002))) else (none)) else (spec_IsSequence.l0 k (wrap64 (x3 + 1)) x320000 x320001 x320002)) else (none)) else (none)
def spec_IsSequence.l2 : Nat → Int → Int → List (List Int) → List Int → Option (Bool)
 | 0, _, _, _, _ => none
 | k + 1, x5, x320000, x320001, x320002 => if x5 < (x320002.length : Int) then (if 0 ≤ x5 then ((spec_l1In.f (rd x320002 x5) 0 3).bind fun t327 => (if t327 = true then (spec_IsSequence.l2 k (wrap64 (x5 + 1)) x320000 x320001 x320002) else (some false))) else (none)) else ((spec_l1In.f x320000 2 4).bind fun t328 => (if t328 = true then ((spec_l1In.f (x320001.length : Int) 1 16).bind fun t329 => (if t329 = true then (some ((x320002.length : Int) == (x320001.length : Int))) else (some false))) else (some false)))
end
def spec_IsSequence.f (k : Nat) (a0_0 : Int) (l0_1 : List (List Int)) (l0_2 : List Int) : Option (Bool) := spec_IsSequence.l0 k 0 a0_0 l0_1 l0_2
theorem spec_IsSequence.calls (k : Nat) (a0_0 : Int) (A0_1 : Option Addr) (c0_1 : Nat) (l0_1 : List (List Int)) (A0_2 : Option Addr) (c0_2 : Nat) (l0_2 : List Int) (r : Bool) (w : World) (hr0_1 : Kd.C (Kd.slice 3 (Kd.int .i64)) w A0_1 l0_1.length l0_1) (hc0_1 : l0_1.length ≤ c0_1) (hr0_2 : Kd.C (Kd.int .i64) w A0_2 l0_2.length l0_2) (hc0_2 : l0_2.length ≤ c0_2) (h : spec_IsSequence.f k a0_0 l0_1 l0_2 = some r) :
  Calls Tryz.prog 90 #[.agg #[.int .i64 a0_0, .slice A0_1 l0_1.length c0_1, .slice A0_2 l0_2.length c0_2]] w fun e w' => e = .returned (.bool r) ∧ Below w.heap.size w w' := by
 have HR0_1 := A_ hr0_1; clear hr0_1 hc0_1; have HR0_2 := A_ hr0_2; clear hr0_2 hc0_2; have HB := A_ (Below.refl w.heap.size w); unfold spec_IsSequence.f at h; have H := h; clear h
 have H' := A_ H
 clear H; go_enter Tryz.func90, Tryz.ntmps90
 go_wp2_with (first | ((with_reducible refine gate_dst (N := 1) rfl ?_); (try (refine gate_guard (by rfl) ?_; dsimp only)); refine box_event ?hg (N := 1) ?hd (cs := #[.int .i64 a0_0, .slice A0_1 l0_1.length c0_1, .slice A0_2 l0_2.length c0_2]) (t := 76) ?hr ?_; (case hd | hg => rfl); (case hr => go_simp; done); intro gb319 hg w2 hbox hb; have BK319 := A_ (hbox); replace HB := bs_ HB hb; clear hb hbox hg))
 repeat (go_quiet (first | ((with_reducible refine gate_dst (N := 1) rfl ?_); (try (refine gate_guard (by rfl) ?_; dsimp only)); refine box_event ?hg (N := 1) ?hd (cs := #[.int .i64 a0_0, .slice A0_1 l0_1.length c0_1, .slice A0_2 l0_2.length c0_2]) (t := 76) ?hr ?_; (case hd | hg => rfl); (case hr => first | (go_simp; done) | (go_simp; rfl)); intro gb319 hg w2 hbox hb; have BK319 := A_ (hbox); have GW319 := A_ (lg_ (below_size HB.out) hg); have GE319 := A_ (lg_ (below_size HB.out) hg); replace HB := bs_ HB hb; clear hb hbox hg)); try go_wp2_with (first | ((with_reducible refine gate_dst (N := 1) rfl ?_); (try (refine gate_guard (by rfl) ?_; dsimp only)); refine box_event ?hg (N := 1) ?hd (cs := #[.int .i64 a0_0, .slice A0_1 l0_1.length c0_1, .slice A0_2 l0_2.length c0_2]) (t := 76) ?hr ?_; (case hd | hg => rfl); (case hr => first | (go_simp; done) | (go_simp; rfl)); intro gb319 hg w2 hbox hb; have BK319 := A_ (hbox); have GW319 := A_ (lg_ (below_size HB.out) hg); have GE319 := A_ (lg_ (below_size HB.out) hg); replace HB := bs_ HB hb; clear hb hbox hg)))
 go_loopg [3] k (fun kq v3 w' => ∃ (x3_1 : Int), v3 = .int .i64 x3_1 ∧ Aside0 (spec_IsSequence.l0 kq x3_1 a0_0 l0_1 l0_2 = some r) ∧ Aside0 (kq ≤ k) ∧ Aside0 (w'.heap[gb319]? = some (.cells #[.int .i64 a0_0, (.slice A0_1 l0_1.length c0_1), (.slice A0_2 l0_2.length c0_2)] 76 (0, 0))) ∧ Aside0 (Below w.heap.size w w'))
 case atStart => exact ⟨(0), (by rfl), H', ⟨Nat.le_refl _⟩, ⟨BK319.out⟩, ⟨HB.out⟩⟩
 case round =>
  clear H'; obtain ⟨x3_1, rfl, HA, HK1, BK319, HB⟩ := hrel
  cases gk with
  | zero => exact absurd HA.out (by simp [spec_IsSequence.l0])
  | succ k1 =>
   have H := HA.out; clear HA; simp only [spec_IsSequence.l0] at H
   by_cases c3 : x3_1 < (l0_1.length : Int)
   ·rw [if_pos c3] at H; have c3b0 := decide_eq_true c3; clear c3
    by_cases c4 : 0 ≤ x3_1
    ·rw [if_pos c4] at H; have c4b0 := decide_eq_true c4; clear c4
     by_cases c5 : ((rd_L2 l0_1 x3_1).length : Int) = a0_0
     ·rw [if_pos c5] at H
      have c5b1 : (((rd_L2 l0_1 x3_1).length : Int) != a0_0) = false := bne_eq_false_iff_eq.mpr c5
      clear c5
      have H' := A_ H
      clear H; have hcz6_0 := bz0 BK319.out; have hcz6_1 := bz1 BK319.out
      have p320 : 0 ≤ (x3_1 : Int) := od_ (by assumption)
      have q320 : x3_1 < (l0_1.length : Int) := od_ (by assumption)
      obtain ⟨ad320, A320_0, c320_0, e320, hx320_0, hl320_0, hi320_0⟩ := at_L2 HR0_1.out x3_1 p320 q320
      cases e320
      replace hx320_0 := (HB.out.cell (World.block_lt_of_cell? w _ hx320_0)).trans hx320_0; clear hi320_0 hl320_0; replace p320 := eq_true p320; replace q320 := eq_true q320
      go_wp2
      repeat (go_quiet (fail); try go_wp2)
      go_loopg [4] k1 (fun kq v4 w' => ∃ (x4_2 : Int), v4 = .int .i64 x4_2 ∧ Aside0 (spec_IsSequence.l1 kq x3_1 x4_2 a0_0 l0_1 l0_2 = some r) ∧ Aside0 (kq ≤ k1) ∧ Aside0 (w'.heap[gb319]? = some (.cells #[.int .i64 a0_0, (.slice (some ad320) l0_1.length c0_1), (.slice A0_2 l0_2.length c0_2)] 76 (0, 0))) ∧ Aside0 (Below w.heap.size w w'))
      case atStart => exact ⟨(0), (by rfl), H', ⟨Nat.le_refl _⟩, ⟨by (with_reducible repeat (first | refine blk_drewN ?_ _ | refine blk_drew ?_ | refine blk_alloc ?_ _)); exact BK319.out⟩, ⟨by repeat (first | (with_reducible first | exact HB.out | apply below_alloc | apply pw_below_drewN | apply below_drew1 | refine below_set ?_ GE319.out) | exact HB.out)⟩⟩
      case round =>
       clear H'
       try skip
       try skip
       try skip
       try skip
       try skip
       try skip
       try skip
       try skip
       try skip
       try skip
       try clear hx320_0
       try skip
       try skip
       obtain ⟨x4_2, rfl, HA, HK2, BK319, HB⟩ := hrel
       cases gk with
       | zero => exact absurd HA.out (by simp [spec_IsSequence.l1])
       | succ k2 =>
        have H := HA.out; clear HA; simp only [spec_IsSequence.l1] at H
        by_cases c7 : 0 ≤ x3_1
        ·rw [if_pos c7] at H; have c7b0 := decide_eq_true c7; clear c7
         by_cases c8 : x3_1 < (l0_1.length : Int)
         ·rw [if_pos c8] at H; have c8b0 := decide_eq_true c8; clear c8
          by_cases c9 : x4_2 < ((rd_L2 l0_1 x3_1).length : Int)
          ·rw [if_pos c9] at H; have c9b0 := decide_eq_true c9; clear c9
           by_cases c10 : 0 ≤ x4_2
           ·rw [if_pos c10] at H; have c10b0 := decide_eq_true c10; clear c10
            by_cases c11 : (rd (rd_L2 l0_1 x3_1) x4_2) < 0
            ·rw [if_pos c11] at H; have c11b0 := decide_eq_true c11; clear c11; obtain rfl := Option.some.inj H; have hcz12_1 := bz1 BK319.out
             have p321 : 0 ≤ (x3_1 : Int) := od_ (by assumption)
             have q321 : x3_1 < (l0_1.length : Int) := od_ (by assumption)
             obtain ⟨ad321, A321_0, c321_0, e321, hx321_0, hl321_0, hi321_0⟩ := at_L2 HR0_1.out x3_1 p321 q321; obtain rfl : ad320 = ad321 := (by injection e321); replace hx321_0 := (HB.out.cell (World.block_lt_of_cell? w _ hx321_0)).trans hx321_0; have HR321_0 := A_ hi321_0; clear hi321_0 hl321_0; replace p321 := eq_true p321; replace q321 := eq_true q321
             have p322 : 0 ≤ (x3_1 : Int) := od_ (by assumption)
             have q322 : x3_1 < (l0_1.length : Int) := od_ (by assumption)
             obtain ⟨ad322, A322_0, c322_0, e322, hx322_0, hl322_0, hi322_0⟩ := at_L2 HR0_1.out x3_1 p322 q322; obtain rfl : ad320 = ad322 := (by injection e322); replace hx322_0 := (HB.out.cell (World.block_lt_of_cell? w _ hx322_0)).trans hx322_0; have HR322_0 := A_ hi322_0; have HC322_0 := A_ hl322_0; clear hi322_0 hl322_0; replace p322 := eq_true p322; replace q322 := eq_true q322; have ea_ := Option.some.inj (hx321_0.symm.trans hx322_0)
             injection ea_ with ea_ en_ ec_
             subst ea_; subst ec_; clear en_
             have p323 : 0 ≤ (x4_2 : Int) := od_ (by assumption)
             have q323 : x4_2 < ((rd_L2 l0_1 x3_1).length : Int) := od_ (by assumption)
             obtain ⟨ad323, e323, hx323_0⟩ := Kd.at_int HR322_0.out x4_2 p323 q323
             cases e323
             replace hx323_0 := (HB.out.cell (World.block_lt_of_cell? w _ hx323_0)).trans hx323_0; replace p323 := eq_true p323; replace q323 := eq_true q323
             go_wp2
             repeat (go_quiet (fail); try go_wp2)
             go_ret
             exact ⟨by rfl, by repeat (first | (with_reducible first | exact HB.out | apply below_alloc | apply pw_below_drewN | apply below_drew1 | refine below_set ?_ GE319.out) | exact HB.out)⟩
            rw [if_neg c11] at H; have c11b0 := decide_eq_false c11; clear c11
            by_cases c13 : (rd (rd_L2 l0_1 x3_1) x4_2) ≥ (l0_1.length : Int)
            ·rw [if_pos c13] at H
             have c13b0 : decide ((l0_1.length : Int) ≤ (rd (rd_L2 l0_1 x3_1) x4_2)) = true := decide_eq_true c13
             clear c13; obtain rfl := Option.some.inj H; have hcz14_1 := bz1 BK319.out
             have p321 : 0 ≤ (x3_1 : Int) := od_ (by assumption)
             have q321 : x3_1 < (l0_1.length : Int) := od_ (by assumption)
             obtain ⟨ad321, A321_0, c321_0, e321, hx321_0, hl321_0, hi321_0⟩ := at_L2 HR0_1.out x3_1 p321 q321; obtain rfl : ad320 = ad321 := (by injection e321); replace hx321_0 := (HB.out.cell (World.block_lt_of_cell? w _ hx321_0)).trans hx321_0; have HR321_0 := A_ hi321_0; clear hi321_0 hl321_0; replace p321 := eq_true p321; replace q321 := eq_true q321
             have p322 : 0 ≤ (x3_1 : Int) := od_ (by assumption)
             have q322 : x3_1 < (l0_1.length : Int) := od_ (by assumption)
             obtain ⟨ad322, A322_0, c322_0, e322, hx322_0, hl322_0, hi322_0⟩ := at_L2 HR0_1.out x3_1 p322 q322; obtain rfl : ad320 = ad322 := (by injection e322); replace hx322_0 := (HB.out.cell (World.block_lt_of_cell? w _ hx322_0)).trans hx322_0; have HR322_0 := A_ hi322_0; have HC322_0 := A_ hl322_0; clear hi322_0 hl322_0; replace p322 := eq_true p322; replace q322 := eq_true q322; have ea_ := Option.some.inj (hx321_0.symm.trans hx322_0)
             injection ea_ with ea_ en_ ec_
             subst ea_; subst ec_; clear en_
             have p323 : 0 ≤ (x4_2 : Int) := od_ (by assumption)
             have q323 : x4_2 < ((rd_L2 l0_1 x3_1).length : Int) := od_ (by assumption)
             obtain ⟨ad323, e323, hx323_0⟩ := Kd.at_int HR322_0.out x4_2 p323 q323
             cases e323
             replace hx323_0 := (HB.out.cell (World.block_lt_of_cell? w _ hx323_0)).trans hx323_0; replace p323 := eq_true p323; replace q323 := eq_true q323
             have p324 : 0 ≤ (x3_1 : Int) := od_ (by assumption)
             have q324 : x3_1 < (l0_1.length : Int) := od_ (by assumption)
             obtain ⟨ad324, A324_0, c324_0, e324, hx324_0, hl324_0, hi324_0⟩ := at_L2 HR0_1.out x3_1 p324 q324; obtain rfl : ad320 = ad324 := (by injection e324); replace hx324_0 := (HB.out.cell (World.block_lt_of_cell? w _ hx324_0)).trans hx324_0; have HR324_0 := A_ hi324_0; have HC324_0 := A_ hl324_0; clear hi324_0 hl324_0; replace p324 := eq_true p324; replace q324 := eq_true q324; have ea_ := Option.some.inj (hx321_0.symm.trans hx324_0)
             injection ea_ with ea_ en_ ec_
             subst ea_; subst ec_; clear en_
             have p325 : 0 ≤ (x4_2 : Int) := od_ (by assumption)
             have q325 : x4_2 < ((rd_L2 l0_1 x3_1).length : Int) := od_ (by assumption)
             obtain ⟨ad325, e325, hx325_0⟩ := Kd.at_int HR324_0.out x4_2 p325 q325
             cases e325
             replace hx325_0 := (HB.out.cell (World.block_lt_of_cell? w _ hx325_0)).trans hx325_0; replace p325 := eq_true p325; replace q325 := eq_true q325
             go_wp2
             repeat (go_quiet (fail); try go_wp2)
             go_ret
             exact ⟨by rfl, by repeat (first | (with_reducible first | exact HB.out | apply below_alloc | apply pw_below_drewN | apply below_drew1 | refine below_set ?_ GE319.out) | exact HB.out)⟩
            rw [if_neg c13] at H
            have c13b0 : decide ((l0_1.length : Int) ≤ (rd (rd_L2 l0_1 x3_1) x4_2)) = false := decide_eq_false c13
            clear c13
            have H' := A_ H
            clear H; have hcz15_1 := bz1 BK319.out
            have p321 : 0 ≤ (x3_1 : Int) := od_ (by assumption)
            have q321 : x3_1 < (l0_1.length : Int) := od_ (by assumption)
            obtain ⟨ad321, A321_0, c321_0, e321, hx321_0, hl321_0, hi321_0⟩ := at_L2 HR0_1.out x3_1 p321 q321; obtain rfl : ad320 = ad321 := (by injection e321); replace hx321_0 := (HB.out.cell (World.block_lt_of_cell? w _ hx321_0)).trans hx321_0; have HR321_0 := A_ hi321_0; clear hi321_0 hl321_0; replace p321 := eq_true p321; replace q321 := eq_true q321
            have p322 : 0 ≤ (x3_1 : Int) := od_ (by assumption)
            have q322 : x3_1 < (l0_1.length : Int) := od_ (by assumption)
            obtain ⟨ad322, A322_0, c322_0, e322, hx322_0, hl322_0, hi322_0⟩ := at_L2 HR0_1.out x3_1 p322 q322; obtain rfl : ad320 = ad322 := (by injection e322); replace hx322_0 := (HB.out.cell (World.block_lt_of_cell? w _ hx322_0)).trans hx322_0; have HR322_0 := A_ hi322_0; have HC322_0 := A_ hl322_0; clear hi322_0 hl322_0; replace p322 := eq_true p322; replace q322 := eq_true q322; have ea_ := Option.some.inj (hx321_0.symm.trans hx322_0)
            injection ea_ with ea_ en_ ec_
            subst ea_; subst ec_; clear en_
            have p323 : 0 ≤ (x4_2 : Int) := od_ (by assumption)
            have q323 : x4_2 < ((rd_L2 l0_1 x3_1).length : Int) := od_ (by assumption)
            obtain ⟨ad323, e323, hx323_0⟩ := Kd.at_int HR322_0.out x4_2 p323 q323
            cases e323
            replace hx323_0 := (HB.out.cell (World.block_lt_of_cell? w _ hx323_0)).trans hx323_0; replace p323 := eq_true p323; replace q323 := eq_true q323
            have p324 : 0 ≤ (x3_1 : Int) := od_ (by assumption)
            have q324 : x3_1 < (l0_1.length : Int) := od_ (by assumption)
            obtain ⟨ad324, A324_0, c324_0, e324, hx324_0, hl324_0, hi324_0⟩ := at_L2 HR0_1.out x3_1 p324 q324; obtain rfl : ad320 = ad324 := (by injection e324); replace hx324_0 := (HB.out.cell (World.block_lt_of_cell? w _ hx324_0)).trans hx324_0; have HR324_0 := A_ hi324_0; have HC324_0 := A_ hl324_0; clear hi324_0 hl324_0; replace p324 := eq_true p324; replace q324 := eq_true q324; have ea_ := Option.some.inj (hx321_0.symm.trans hx324_0)
            injection ea_ with ea_ en_ ec_
            subst ea_; subst ec_; clear en_
            have p325 : 0 ≤ (x4_2 : Int) := od_ (by assumption)
            have q325 : x4_2 < ((rd_L2 l0_1 x3_1).length : Int) := od_ (by assumption)
            obtain ⟨ad325, e325, hx325_0⟩ := Kd.at_int HR324_0.out x4_2 p325 q325
            cases e325
            replace hx325_0 := (HB.out.cell (World.block_lt_of_cell? w _ hx325_0)).trans hx325_0; replace p325 := eq_true p325; replace q325 := eq_true q325
            go_wp2
            repeat (go_quiet (fail); try go_wp2)
            go_roundg k2
            case measure => have := HK1.out; have := HK2.out; omega
            case rel => exact ⟨(wrap64 (x4_2 + 1)), (by rfl), H', ⟨by have := HK1.out; have := HK2.out; omega⟩, ⟨by (with_reducible repeat (first | refine blk_drewN ?_ _ | refine blk_drew ?_ | refine blk_alloc ?_ _)); exact BK319.out⟩, ⟨by repeat (first | (with_reducible first | exact HB.out | apply below_alloc | apply pw_below_drewN | apply below_drew1 | refine below_set ?_ GE319.out) | exact HB.out)⟩⟩
           rw [if_neg c10] at H
           cases H
          rw [if_neg c9] at H; have c9b0 := decide_eq_false c9; clear c9
          have H' := A_ H
          clear H; have hcz16_1 := bz1 BK319.out
          have p321 : 0 ≤ (x3_1 : Int) := od_ (by assumption)
          have q321 : x3_1 < (l0_1.length : Int) := od_ (by assumption)
          obtain ⟨ad321, A321_0, c321_0, e321, hx321_0, hl321_0, hi321_0⟩ := at_L2 HR0_1.out x3_1 p321 q321; obtain rfl : ad320 = ad321 := (by injection e321); replace hx321_0 := (HB.out.cell (World.block_lt_of_cell? w _ hx321_0)).trans hx321_0; clear hi321_0 hl321_0; replace p321 := eq_true p321; replace q321 := eq_true q321
          go_wp2
          repeat (go_quiet (fail); try go_wp2)
          go_roundg k2
          case measure => have := HK1.out; have := HK2.out; omega
          case rel => exact ⟨(wrap64 (x3_1 + 1)), (by rfl), H', ⟨by have := HK1.out; have := HK2.out; omega⟩, ⟨BK319.out⟩, ⟨HB.out⟩⟩
         rw [if_neg c8] at H
         cases H
        rw [if_neg c7] at H
        cases H
     rw [if_neg c5] at H
     have c5b1 : (((rd_L2 l0_1 x3_1).length : Int) != a0_0) = true := bne_iff_ne.mpr c5
     obtain rfl := Option.some.inj H; have hcz17_0 := bz0 BK319.out; have hcz17_1 := bz1 BK319.out
     have p320 : 0 ≤ (x3_1 : Int) := od_ (by assumption)
     have q320 : x3_1 < (l0_1.length : Int) := od_ (by assumption)
     obtain ⟨ad320, A320_0, c320_0, e320, hx320_0, hl320_0, hi320_0⟩ := at_L2 HR0_1.out x3_1 p320 q320
     cases e320
     replace hx320_0 := (HB.out.cell (World.block_lt_of_cell? w _ hx320_0)).trans hx320_0; clear hi320_0 hl320_0; replace p320 := eq_true p320; replace q320 := eq_true q320
     go_wp2
     repeat (go_quiet (fail); try go_wp2)
     go_ret
     exact ⟨by rfl, by repeat (first | (with_reducible first | exact HB.out | apply below_alloc | apply pw_below_drewN | apply below_drew1 | refine below_set ?_ GE319.out) | exact HB.out)⟩
    rw [if_neg c4] at H
    cases H
   rw [if_neg c3] at H; have c3b0 := decide_eq_false c3; clear c3
   have H' := A_ H
   clear H; have hcz18_1 := bz1 BK319.out; have hcz18_2 := bz2 BK319.out
   go_wp2
   repeat (go_quiet (fail); try go_wp2)
   go_loopg [5] k1 (fun kq v5 w' => ∃ (x5_2 : Int), v5 = .int .i64 x5_2 ∧ Aside0 (spec_IsSequence.l2 kq x5_2 a0_0 l0_1 l0_2 = some r) ∧ Aside0 (kq ≤ k1) ∧ Aside0 (w'.heap[gb319]? = some (.cells #[.int .i64 a0_0, (.slice A0_1 l0_1.length c0_1), (.slice A0_2 l0_2.length c0_2)] 76 (0, 0))) ∧ Aside0 (Below w.heap.size w w'))
   case atStart => exact ⟨(0), (by rfl), H', ⟨Nat.le_refl _⟩, ⟨BK319.out⟩, ⟨HB.out⟩⟩
   case round =>
    clear H'
    try skip
    try skip
    try skip
    try skip
    try skip
    try skip
    try skip
    obtain ⟨x5_2, rfl, HA, HK2, BK319, HB⟩ := hrel
    cases gk with
    | zero => exact absurd HA.out (by simp [spec_IsSequence.l2])
    | succ k2 =>
     have H := HA.out; clear HA; simp only [spec_IsSequence.l2] at H
     by_cases c19 : x5_2 < (l0_2.length : Int)
     ·rw [if_pos c19] at H; have c19b0 := decide_eq_true c19; clear c19
      by_cases c20 : 0 ≤ x5_2
      ·rw [if_pos c20] at H; have c20b0 := decide_eq_true c20; clear c20; replace H := bA_ H; obtain ⟨t327, A21, H⟩ := H
       by_cases c22 : t327 = true
       ·subst c22; rw [if_pos rfl] at H
        have H' := A_ H
        clear H; have hcz23_2 := bz2 BK319.out
        have p326 : 0 ≤ (x5_2 : Int) := od_ (by assumption)
        have q326 : x5_2 < (l0_2.length : Int) := od_ (by assumption)
        obtain ⟨ad326, e326, hx326_0⟩ := Kd.at_int HR0_2.out x5_2 p326 q326
        cases e326
        replace hx326_0 := (HB.out.cell (World.block_lt_of_cell? w _ hx326_0)).trans hx326_0; replace p326 := eq_true p326; replace q326 := eq_true q326
        go_wp2_with (first | (go_at_call 36; (with_reducible refine (spec_l1In.calls (rd l0_2 x5_2) 0 3 true _ A21.out).mono ?_); rintro e w' ⟨rfl, ⟨nd, rfl⟩⟩))
        repeat (go_quiet (first | (go_at_call 36; (with_reducible refine (spec_l1In.calls (rd l0_2 x5_2) 0 3 true _ A21.out).mono ?_); rintro e w' ⟨rfl, ⟨nd, rfl⟩⟩)); try go_wp2_with (first | (go_at_call 36; (with_reducible refine (spec_l1In.calls (rd l0_2 x5_2) 0 3 true _ A21.out).mono ?_); rintro e w' ⟨rfl, ⟨nd, rfl⟩⟩)))
        go_roundg k2
        case measure => have := HK1.out; have := HK2.out; omega
        case rel => exact ⟨(wrap64 (x5_2 + 1)), (by rfl), H', ⟨by have := HK1.out; have := HK2.out; omega⟩, ⟨by (with_reducible repeat (first | refine blk_drewN ?_ _ | refine blk_drew ?_ | refine blk_alloc ?_ _)); exact BK319.out⟩, ⟨by repeat (first | (with_reducible first | exact HB.out | apply below_alloc | apply pw_below_drewN | apply below_drew1 | refine below_set ?_ GE319.out) | exact HB.out)⟩⟩
       replace c22 := Bool.eq_false_iff.mpr c22; subst c22; rw [if_neg nf_] at H; obtain rfl := Option.some.inj H; have hcz24_2 := bz2 BK319.out
       have p326 : 0 ≤ (x5_2 : Int) := od_ (by assumption)
       have q326 : x5_2 < (l0_2.length : Int) := od_ (by assumption)
       obtain ⟨ad326, e326, hx326_0⟩ := Kd.at_int HR0_2.out x5_2 p326 q326
       cases e326
       replace hx326_0 := (HB.out.cell (World.block_lt_of_cell? w _ hx326_0)).trans hx326_0; replace p326 := eq_true p326; replace q326 := eq_true q326
       go_wp2_with (first | (go_at_call 36; (with_reducible refine (spec_l1In.calls (rd l0_2 x5_2) 0 3 false _ A21.out).mono ?_); rintro e w' ⟨rfl, ⟨nd, rfl⟩⟩))
       repeat (go_quiet (first | (go_at_call 36; (with_reducible refine (spec_l1In.calls (rd l0_2 x5_2) 0 3 false _ A21.out).mono ?_); rintro e w' ⟨rfl, ⟨nd, rfl⟩⟩)); try go_wp2_with (first | (go_at_call 36; (with_reducible refine (spec_l1In.calls (rd l0_2 x5_2) 0 3 false _ A21.out).mono ?_); rintro e w' ⟨rfl, ⟨nd, rfl⟩⟩)))
       go_ret
       exact ⟨by rfl, by repeat (first | (with_reducible first | exact HB.out | apply below_alloc | apply pw_below_drewN | apply below_drew1 | refine below_set ?_ GE319.out) | exact HB.out)⟩
      rw [if_neg c20] at H
      cases H
     rw [if_neg c19] at H; have c19b0 := decide_eq_false c19; clear c19; replace H := bA_ H; obtain ⟨t328, A25, H⟩ := H
     by_cases c26 : t328 = true
     ·subst c26; rw [if_pos rfl] at H; replace H := bA_ H; obtain ⟨t329, A27, H⟩ := H
      by_cases c28 : t329 = true
      ·subst c28; rw [if_pos rfl] at H; obtain rfl := Option.some.inj H; have hcz29_0 := bz0 BK319.out; have hcz29_1 := bz1 BK319.out; have hcz29_2 := bz2 BK319.out
       go_wp2_with (first | (go_at_call 36; (with_reducible refine (spec_l1In.calls a0_0 2 4 true _ A25.out).mono ?_); rintro e w' ⟨rfl, ⟨nd, rfl⟩⟩) | (go_at_call 36; (with_reducible refine (spec_l1In.calls (l0_1.length : Int) 1 16 true _ A27.out).mono ?_); rintro e w' ⟨rfl, ⟨nd, rfl⟩⟩))
       repeat (go_quiet (first | (go_at_call 36; (with_reducible refine (spec_l1In.calls a0_0 2 4 true _ A25.out).mono ?_); rintro e w' ⟨rfl, ⟨nd, rfl⟩⟩) | (go_at_call 36; (with_reducible refine (spec_l1In.calls (l0_1.length : Int) 1 16 true _ A27.out).mono ?_); rintro e w' ⟨rfl, ⟨nd, rfl⟩⟩)); try go_wp2_with (first | (go_at_call 36; (with_reducible refine (spec_l1In.calls a0_0 2 4 true _ A25.out).mono ?_); rintro e w' ⟨rfl, ⟨nd, rfl⟩⟩) | (go_at_call 36; (with_reducible refine (spec_l1In.calls (l0_1.length : Int) 1 16 true _ A27.out).mono ?_); rintro e w' ⟨rfl, ⟨nd, rfl⟩⟩)))
       go_ret
       exact ⟨by rfl, by repeat (first | (with_reducible first | exact HB.out | apply below_alloc | apply pw_below_drewN | apply below_drew1 | refine below_set ?_ GE319.out) | exact HB.out)⟩
      replace c28 := Bool.eq_false_iff.mpr c28; subst c28; rw [if_neg nf_] at H; obtain rfl := Option.some.inj H; have hcz30_0 := bz0 BK319.out; have hcz30_1 := bz1 BK319.out; have hcz30_2 := bz2 BK319.out
      go_wp2_with (first | (go_at_call 36; (with_reducible refine (spec_l1In.calls a0_0 2 4 true _ A25.out).mono ?_); rintro e w' ⟨rfl, ⟨nd, rfl⟩⟩) | (go_at_call 36; (with_reducible refine (spec_l1In.calls (l0_1.length : Int) 1 16 false _ A27.out).mono ?_); rintro e w' ⟨rfl, ⟨nd, rfl⟩⟩))
      repeat (go_quiet (first | (go_at_call 36; (with_reducible refine (spec_l1In.calls a0_0 2 4 true _ A25.out).mono ?_); rintro e w' ⟨rfl, ⟨nd, rfl⟩⟩) | (go_at_call 36; (with_reducible refine (spec_l1In.calls (l0_1.length : Int) 1 16 false _ A27.out).mono ?_); rintro e w' ⟨rfl, ⟨nd, rfl⟩⟩)); try go_wp2_with (first | (go_at_call 36; (with_reducible refine (spec_l1In.calls a0_0 2 4 true _ A25.out).mono ?_); rintro e w' ⟨rfl, ⟨nd, rfl⟩⟩) | (go_at_call 36; (with_reducible refine (spec_l1In.calls (l0_1.length : Int) 1 16 false _ A27.out).mono ?_); rintro e w' ⟨rfl, ⟨nd, rfl⟩⟩)))
      go_ret
      exact ⟨by rfl, by repeat (first | (with_reducible first | exact HB.out | apply below_alloc | apply pw_below_drewN | apply below_drew1 | refine below_set ?_ GE319.out) | exact HB.out)⟩
     replace c26 := Bool.eq_false_iff.mpr c26; subst c26; rw [if_neg nf_] at H; obtain rfl := Option.some.inj H; have hcz31_0 := bz0 BK319.out; have hcz31_2 := bz2 BK319.out
     go_wp2_with (first | (go_at_call 36; (with_reducible refine (spec_l1In.calls a0_0 2 4 false _ A25.out).mono ?_); rintro e w' ⟨rfl, ⟨nd, rfl⟩⟩))
     repeat (go_quiet (first | (go_at_call 36; (with_reducible refine (spec_l1In.calls a0_0 2 4 false _ A25.out).mono ?_); rintro e w' ⟨rfl, ⟨nd, rfl⟩⟩)); try go_wp2_with (first | (go_at_call 36; (with_reducible refine (spec_l1In.calls a0_0 2 4 false _ A25.out).mono ?_); rintro e w' ⟨rfl, ⟨nd, rfl⟩⟩)))
     go_ret
     exact ⟨by rfl, by repeat (first | (with_reducible first | exact HB.out | apply below_alloc | apply pw_below_drewN | apply below_drew1 | refine below_set ?_ GE319.out) | exact HB.out)⟩

mutual
def spec_PowerOf.j0 : Nat → Int → Int → Bool → Option (Int)
 | 0, _, _, _ => none
 | k + 1, x0, x1, x14 => if x14 = true then (some 0) else (spec_PowerOf.l0 k x0 x1 1 0)
def spec_PowerOf.l0 : Nat → Int → Int → Int → Int → Option (Int)
 | 0, _, _, _, _ => none
 | k + 1, x0, x1, x5, x6 => if x6 < x1 then (spec_PowerOf.l0 k x0 x1 (wrap64 (x5 * x0)) (wrap64 (x6 + 1))) else (some x5)
end
def spec_PowerOf.f (k : Nat) (a0 : Int) (a1 : Int) : Option (Int) := (spec_l1In.f a0 2 4).bind fun t330 => (if t330 = true then ((spec_l1In.f a1 0 16).bind fun t331 => (spec_PowerOf.j0 k a0 a1 (!t331))) else (spec_PowerOf.j0 k a0 a1 true))
theorem spec_PowerOf.calls (k : Nat) (a0 : Int) (a1 : Int) (r : Int) (w : World) (h : spec_PowerOf.f k a0 a1 = some r) :
  Calls Tryz.prog 98 #[.int .i64 a0, .int .i64 a1] w fun e w' => e = .returned (.int .i64 r) ∧ Drawn0 w w' := by
 unfold spec_PowerOf.f at h; have H := h; clear h; have HC3 := A_ H; clear H; go_enter Tryz.func98, Tryz.ntmps98
 go_upto_region 1 with (fail)
 go_cut [14] (fun v14 wc => ∃ (kq : Nat) (x14_2 : Bool), v14 = .bool x14_2 ∧ Aside0 (spec_PowerOf.j0 kq a0 a1 x14_2 = some r) ∧ Aside0 (kq ≤ k) ∧ Drawn0 w wc)
 case first =>
  have H := HC3.out; clear HC3; replace H := bA_ H; obtain ⟨t330, A4, H⟩ := H
  by_cases c5 : t330 = true
  ·subst c5; rw [if_pos rfl] at H; replace H := bA_ H; obtain ⟨t331, A6, H⟩ := H
   have H' := A_ H
   clear H
   go_wp2_with (first | ((with_reducible refine gc_ 36 rfl ?_); refine cD_ E36 8 rfl rfl rfl (spec_l1In.calls a0 2 4 true _ A4.out) (by (try simp only [mA, mB, mC]); first | done | rfl | (simp only [List.length_drop, List.length_take]; rfl)) fun nd => ?_) | (go_at_call 36; (with_reducible refine (spec_l1In.calls a1 0 16 t331 _ A6.out).mono ?_); rintro e w' ⟨rfl, ⟨nd, rfl⟩⟩))
   go_meet
   case rel => exact ⟨_, (!t331), (by rfl), H', ⟨by omega⟩, by repeat (first | exact Drawn0.refl _ | apply Drawn0.step)⟩
  replace c5 := Bool.eq_false_iff.mpr c5; subst c5; rw [if_neg nf_] at H
  have H' := A_ H
  clear H
  go_wp2_with (first | ((with_reducible refine gc_ 36 rfl ?_); refine cD_ E36 8 rfl rfl rfl (spec_l1In.calls a0 2 4 false _ A4.out) (by simp only [mA, mB, mC]; rfl) fun nd => ?_))
  go_meet
  case rel => exact ⟨_, (true), (by rfl), H', ⟨by omega⟩, by repeat (first | exact Drawn0.refl _ | apply Drawn0.step)⟩
 case rest =>
  clear HC3; obtain ⟨kq, x14_2, rfl, HA, HJ2, ⟨mc2, rfl⟩⟩ := hcut
  cases kq with
  | zero => exact absurd HA.out (by simp [spec_PowerOf.j0])
  | succ kj2 =>
   have H := HA.out; clear HA; simp only [spec_PowerOf.j0] at H
   by_cases c7 : x14_2 = true
   ·subst c7; rw [if_pos rfl] at H; obtain rfl := Option.some.inj H
    go_wp2
    go_ret
    exact ⟨by rfl, by repeat (first | exact Drawn0.refl _ | apply Drawn0.step)⟩
   replace c7 := Bool.eq_false_iff.mpr c7; subst c7; rw [if_neg nf_] at H
   have H' := A_ H
   clear H
   go_wp2
   go_loopg [5, 6] kj2 (fun kq v5 v6 w' => ∃ (x5_2 : Int) (x6_2 : Int), v5 = .int .i64 x5_2 ∧ v6 = .int .i64 x6_2 ∧ Aside0 (spec_PowerOf.l0 kq a0 a1 x5_2 x6_2 = some r) ∧ Aside0 (kq ≤ kj2) ∧ Drawn0 w w')
   case atStart => exact ⟨(1), (0), (by rfl), (by rfl), H', ⟨Nat.le_refl _⟩, by repeat (first | exact Drawn0.refl _ | apply Drawn0.step)⟩
   case round =>
    clear H'; obtain ⟨x5_2, x6_2, rfl, rfl, HA, HK2, ⟨m2, rfl⟩⟩ := hrel
    cases gk with
    | zero => exact absurd HA.out (by simp [spec_PowerOf.l0])
    | succ k2 =>
     have H := HA.out; clear HA; simp only [spec_PowerOf.l0] at H
     by_cases c8 : x6_2 < a1
     ·rw [if_pos c8] at H; have c8b0 := decide_eq_true c8; clear c8
      have H' := A_ H
      clear H
      go_wp2
      go_roundg k2
      case measure => have := HJ2.out; have := HK2.out; omega
      case rel => exact ⟨(wrap64 (x5_2 * a0)), (wrap64 (x6_2 + 1)), (by rfl), (by rfl), H', ⟨by have := HJ2.out; have := HK2.out; omega⟩, by repeat (first | exact Drawn0.refl _ | apply Drawn0.step)⟩
     rw [if_neg c8] at H; have c8b0 := decide_eq_false c8; clear c8; obtain rfl := Option.some.inj H
     go_wp2
     go_ret
     exact ⟨by rfl, by repeat (first | exact Drawn0.refl _ | apply Drawn0.step)⟩
def spec_AreDigits.l0 : Nat → List Int → Int → Int → Option (Bool)
 | 0, _, _, _ => none
 | k + 1, x0, x1, x5 => if x5 < (x0.length : Int) then (if 0 ≤ x5 then (if (rd x0 x5) < 0 then (some false) else (if (rd x0 x5) ≥ x1 then (some false) else (spec_AreDigits.l0 k x0 x1 (wrap64 (x5 + 1))))) else (none)) else ((spec_l1In.f x1 2 4).bind fun t334 => (if t334 = true then (some (decide ((x0.length : Int) ≤ 16))) else (some false)))
def spec_AreDigits.f (k : Nat) (l0 : List Int) (a1 : Int) : Option (Bool) := spec_AreDigits.l0 k l0 a1 0
theorem spec_AreDigits.calls (k : Nat) (A0 : Option Addr) (c0 : Nat) (l0 : List Int) (a1 : Int) (r : Bool) (w : World) (hr0 : Kd.C (Kd.int .i64) w A0 l0.length l0) (hc0 : l0.length ≤ c0) (h : spec_AreDigits.f k l0 a1 = some r) :
  Calls Tryz.prog 104 #[.slice A0 l0.length c0, .int .i64 a1] w fun e w' => e = .returned (.bool r) ∧ Drawn0 w w' := by
 have HR0 := A_ hr0; clear hr0 hc0; unfold spec_AreDigits.f at h; have H := h; clear h
 have H' := A_ H
 clear H; go_enter Tryz.func104, Tryz.ntmps104
 go_wp2
 go_loopg [5] k (fun kq v5 w' => ∃ (x5_1 : Int), v5 = .int .i64 x5_1 ∧ Aside0 (spec_AreDigits.l0 kq l0 a1 x5_1 = some r) ∧ Aside0 (kq ≤ k) ∧ Drawn0 w w')
 case atStart => exact ⟨(0), (by rfl), H', ⟨Nat.le_refl _⟩, by repeat (first | exact Drawn0.refl _ | apply Drawn0.step)⟩
 case round =>
  clear H'; obtain ⟨x5_1, rfl, HA, HK1, ⟨m1, rfl⟩⟩ := hrel
  cases gk with
  | zero => exact absurd HA.out (by simp [spec_AreDigits.l0])
  | succ k1 =>
   have H := HA.out; clear HA; simp only [spec_AreDigits.l0] at H
   by_cases c3 : x5_1 < (l0.length : Int)
   ·rw [if_pos c3] at H; have c3b0 := decide_eq_true c3; clear c3
    by_cases c4 : 0 ≤ x5_1
    ·rw [if_pos c4] at H; have c4b0 := decide_eq_true c4; clear c4
     by_cases c5 : (rd l0 x5_1) < 0
     ·rw [if_pos c5] at H; have c5b0 := decide_eq_true c5; clear c5; obtain rfl := Option.some.inj H
      have p332 : 0 ≤ (x5_1 : Int) := od_ (by assumption)
      have q332 : x5_1 < (l0.length : Int) := od_ (by assumption)
      obtain ⟨ad332, e332, hx332_0⟩ := Kd.at_int HR0.out x5_1 p332 q332
      cases e332
      replace p332 := eq_true p332; replace q332 := eq_true q332
      go_wp2
      go_ret
      exact ⟨by rfl, by repeat (first | exact Drawn0.refl _ | apply Drawn0.step)⟩
     rw [if_neg c5] at H; have c5b0 := decide_eq_false c5; clear c5
     by_cases c6 : (rd l0 x5_1) ≥ a1
     ·rw [if_pos c6] at H
      have c6b0 : decide (a1 ≤ (rd l0 x5_1)) = true := decide_eq_true c6
      clear c6; obtain rfl := Option.some.inj H
      have p332 : 0 ≤ (x5_1 : Int) := od_ (by assumption)
      have q332 : x5_1 < (l0.length : Int) := od_ (by assumption)
      obtain ⟨ad332, e332, hx332_0⟩ := Kd.at_int HR0.out x5_1 p332 q332
      cases e332
      replace p332 := eq_true p332; replace q332 := eq_true q332
      have p333 : 0 ≤ (x5_1 : Int) := od_ (by assumption)
      have q333 : x5_1 < (l0.length : Int) := od_ (by assumption)
      obtain ⟨ad333, e333, hx333_0⟩ := Kd.at_int HR0.out x5_1 p333 q333; obtain rfl : ad332 = ad333 := (by injection e333); replace p333 := eq_true p333; replace q333 := eq_true q333
      go_wp2
      go_ret
      exact ⟨by rfl, by repeat (first | exact Drawn0.refl _ | apply Drawn0.step)⟩
     rw [if_neg c6] at H
     have c6b0 : decide (a1 ≤ (rd l0 x5_1)) = false := decide_eq_false c6
     clear c6
     have H' := A_ H
     clear H
     have p332 : 0 ≤ (x5_1 : Int) := od_ (by assumption)
     have q332 : x5_1 < (l0.length : Int) := od_ (by assumption)
     obtain ⟨ad332, e332, hx332_0⟩ := Kd.at_int HR0.out x5_1 p332 q332
     cases e332
     replace p332 := eq_true p332; replace q332 := eq_true q332
     have p333 : 0 ≤ (x5_1 : Int) := od_ (by assumption)
     have q333 : x5_1 < (l0.length : Int) := od_ (by assumption)
     obtain ⟨ad333, e333, hx333_0⟩ := Kd.at_int HR0.out x5_1 p333 q333; obtain rfl : ad332 = ad333 := (by injection e333); replace p333 := eq_true p333; replace q333 := eq_true q333
     go_wp2
     go_roundg k1
     case measure => have := HK1.out; omega
     case rel => exact ⟨(wrap64 (x5_1 + 1)), (by rfl), H', ⟨by have := HK1.out; omega⟩, by repeat (first | exact Drawn0.refl _ | apply Drawn0.step)⟩
    rw [if_neg c4] at H
    cases H
   rw [if_neg c3] at H; have c3b0 := decide_eq_false c3; clear c3; replace H := bA_ H; obtain ⟨t334, A7, H⟩ := H
   by_cases c8 : t334 = true
   ·subst c8; rw [if_pos rfl] at H; obtain rfl := Option.some.inj H
    go_wp2_with (first | ((with_reducible refine gc_ 36 rfl ?_); refine cD_ E36 26 rfl rfl rfl (spec_l1In.calls a1 2 4 true _ A7.out) (by simp only [mA, mB, mC]; rfl) fun nd => ?_))
    go_ret
    exact ⟨by rfl, by repeat (first | exact Drawn0.refl _ | apply Drawn0.step)⟩
   replace c8 := Bool.eq_false_iff.mpr c8; subst c8; rw [if_neg nf_] at H; obtain rfl := Option.some.inj H
   go_wp2_with (first | ((with_reducible refine gc_ 36 rfl ?_); refine cD_ E36 26 rfl rfl rfl (spec_l1In.calls a1 2 4 false _ A7.out) (by simp only [mA, mB, mC]; rfl) fun nd => ?_))
   go_ret
   exact ⟨by rfl, by repeat (first | exact Drawn0.refl _ | apply Drawn0.step)⟩

mutual
def spec_StateAfter.j0 : Nat → List Int → Bool → Int → List (List Int) → List Int → Option (Int)
 | 0, _, _, _, _, _ => none
 | k + 1, x1, x16, x336000, x336001, x336002 => if x16 = true then (some (-1)) else (spec_StateAfter.l0 k x1 0 0 x336000 x336001 x336002)
def spec_StateAfter.l0 : Nat → List Int → Int → Int → Int → List (List Int) → List Int → Option (Int)
 | 0, _, _, _, _, _, _ => none
 | k + 1, x1, x5, x6, x336000, x336001, x336002 => if x6 < (x1.length : Int) then (if 0 ≤ x5 then (if x5 < (x336001.length : Int) then (if 0 ≤ x6 then (if 0 ≤ (rd x1 x6) then (if (rd x1 x6) < ((rd_L2 x336001 x5).length : Int) then (spec_StateAfter.l0 k x1 (rd (rd_L2 x336001 x5) (rd x1 x6)) (wrap64 (x6 + 1)) x336000 x336001 x336002) else (none)) else (none)) else (none)) else (none)) else (none)) else (some x5)
end
def spec_StateAfter.f (k : Nat) (a0_0 : Int) (l0_1 : List (List Int)) (l0_2 : List Int) (l1 : List Int) : Option (Int) := (spec_IsSequence.f k a0_0 l0_1 l0_2).bind fun t336 => (if t336 = true then ((spec_AreDigits.f k l1 a0_0).bind fun t337 => (spec_StateAfter.j0 k l1 (!t337) a0_0 l0_1 l0_2)) else (spec_StateAfter.j0 k l1 true a0_0 l0_1 l0_2))
theorem spec_StateAfter.calls (k : Nat) (a0_0 : Int) (A0_1 : Option Addr) (c0_1 : Nat) (l0_1 : List (List Int)) (A0_2 : Option Addr) (c0_2 : Nat) (l0_2 : List Int) (A1 : Option Addr) (c1 : Nat) (l1 : List Int) (r : Int) (w : World) (hr0_1 : Kd.C (Kd.slice 3 (Kd.int .i64)) w A0_1 l0_1.length l0_1) (hc0_1 : l0_1.length ≤ c0_1) (hr0_2 : Kd.C (Kd.int .i64) w A0_2 l0_2.length l0_2) (hc0_2 : l0_2.length ≤ c0_2) (hr1 : Kd.C (Kd.int .i64) w A1 l1.length l1) (hc1 : l1.length ≤ c1) (h : spec_StateAfter.f k a0_0 l0_1 l0_2 l1 = some r) :
  Calls Tryz.prog 99 #[.agg #[.int .i64 a0_0, .slice A0_1 l0_1.length c0_1, .slice A0_2 l0_2.length c0_2], .slice A1 l1.length c1] w fun e w' => e = .returned (.int .i64 r) ∧ Below w.heap.size w w' := by
 have HR0_1 := A_ hr0_1; have HC0_1 := A_ hc0_1; clear hr0_1 hc0_1; have HR0_2 := A_ hr0_2; have HC0_2 := A_ hc0_2; clear hr0_2 hc0_2; have HR1 := A_ hr1; have HC1 := A_ hc1; clear hr1 hc1; have HB := A_ (Below.refl w.heap.size w); unfold spec_StateAfter.f at h; have H := h; clear h; have HC3 := A_ H; clear H; go_enter Tryz.func99, Tryz.ntmps99
 go_upto_region 1 with (first | ((with_reducible refine gate_dst (N := 2) rfl ?_); refine box_event ?hg (N := 2) ?hd (cs := #[.int .i64 a0_0, .slice A0_1 l0_1.length c0_1, .slice A0_2 l0_2.length c0_2]) (t := 76) ?hr ?_; (case hd | hg => rfl); (case hr => go_simp; done); intro gb335 hg w4 hbox hb; have BK335 := A_ (hbox); replace HB := bs_ HB hb; clear hb hbox hg))
 repeat (go_quiet (first | ((with_reducible refine gate_dst (N := 2) rfl ?_); refine box_event ?hg (N := 2) ?hd (cs := #[.int .i64 a0_0, .slice A0_1 l0_1.length c0_1, .slice A0_2 l0_2.length c0_2]) (t := 76) ?hr ?_; (case hd | hg => rfl); (case hr => first | (go_simp; done) | (go_simp; rfl)); intro gb335 hg w4 hbox hb; have BK335 := A_ (hbox); have GW335 := A_ (lg_ (below_size HB.out) hg); have GE335 := A_ (lg_ (below_size HB.out) hg); replace HB := bs_ HB hb; clear hb hbox hg)); go_upto_region 1 with (first | ((with_reducible refine gate_dst (N := 2) rfl ?_); refine box_event ?hg (N := 2) ?hd (cs := #[.int .i64 a0_0, .slice A0_1 l0_1.length c0_1, .slice A0_2 l0_2.length c0_2]) (t := 76) ?hr ?_; (case hd | hg => rfl); (case hr => first | (go_simp; done) | (go_simp; rfl)); intro gb335 hg w4 hbox hb; have BK335 := A_ (hbox); have GW335 := A_ (lg_ (below_size HB.out) hg); have GE335 := A_ (lg_ (below_size HB.out) hg); replace HB := bs_ HB hb; clear hb hbox hg)))
 (try simp only [Act.put, mD, mE, mF])
 go_cut [16] (fun v16 wc => ∃ (kq : Nat) (x16_2 : Bool), v16 = .bool x16_2 ∧ Aside0 (spec_StateAfter.j0 kq l1 x16_2 a0_0 l0_1 l0_2 = some r) ∧ Aside0 (kq ≤ k) ∧ Aside0 (wc.heap[gb335]? = some (.cells #[.int .i64 a0_0, (.slice A0_1 l0_1.length c0_1), (.slice A0_2 l0_2.length c0_2)] 76 (0, 0))) ∧ Aside0 (Below w.heap.size w wc))
 case first =>
  have H := HC3.out; clear HC3; replace H := bA_ H; obtain ⟨t336, A5, H⟩ := H
  by_cases c6 : t336 = true
  ·subst c6; rw [if_pos rfl] at H; replace H := bA_ H; obtain ⟨t337, A7, H⟩ := H
   have H' := A_ H
   clear H; have hcz8_0 := bz0 BK335.out; have hcz8_1 := bz1 BK335.out; have hcz8_2 := bz2 BK335.out
   go_wp2_with (first | (go_at_call 90; (with_reducible refine (spec_IsSequence.calls k a0_0 _ _ l0_1 _ _ l0_2 true _ ?side1 ?side2 ?side3 ?side4 A5.out).mono ?_); (case side1 => exact (Kd.C_below HR0_1.out HB.out)); (case side2 => exact HC0_1.out); (case side3 => exact (Kd.C_below HR0_2.out HB.out)); (case side4 => exact HC0_2.out); rintro e w9 ⟨rfl, hb⟩; replace BK335 := bb_ BK335 hb; replace HB := bs_ HB hb; clear hb; have hcz10_0 := bz0 BK335.out) | (go_at_call 104; (with_reducible refine (spec_AreDigits.calls k _ _ l1 a0_0 t337 _ ?side1 ?side2 A7.out).mono ?_); (case side1 => exact (Kd.C_below HR1.out HB.out)); (case side2 => exact HC1.out); rintro e w' ⟨rfl, ⟨nd, rfl⟩⟩))
   repeat (go_quiet (first | (go_at_call 90; (with_reducible refine (spec_IsSequence.calls k a0_0 _ _ l0_1 _ _ l0_2 true _ ?side1 ?side2 ?side3 ?side4 A5.out).mono ?_); (case side1 => exact (Kd.C_below HR0_1.out HB.out)); (case side2 => exact HC0_1.out); (case side3 => exact (Kd.C_below HR0_2.out HB.out)); (case side4 => exact HC0_2.out); rintro e w9 ⟨rfl, hb⟩; replace BK335 := bb_ BK335 hb; replace HB := bs_ HB hb; have hcz10_0 := bz0 BK335.out; have hcz10_1 := bz1 BK335.out; have hcz10_2 := bz2 BK335.out; have hfz10_0 := blk_frozen BK335.out 0; have hfz10_1 := blk_frozen BK335.out 1; have hfz10_2 := blk_frozen BK335.out 2) | (go_at_call 104; (with_reducible refine (spec_AreDigits.calls k _ _ l1 a0_0 t337 _ ?side1 ?side2 A7.out).mono ?_); (case side1 => exact (Kd.C_below HR1.out HB.out)); (case side2 => exact HC1.out); rintro e w' ⟨rfl, ⟨nd, rfl⟩⟩)); try go_wp2_with (first | (go_at_call 90; (with_reducible refine (spec_IsSequence.calls k a0_0 _ _ l0_1 _ _ l0_2 true _ ?side1 ?side2 ?side3 ?side4 A5.out).mono ?_); (case side1 => exact (Kd.C_below HR0_1.out HB.out)); (case side2 => exact HC0_1.out); (case side3 => exact (Kd.C_below HR0_2.out HB.out)); (case side4 => exact HC0_2.out); rintro e w9 ⟨rfl, hb⟩; replace BK335 := bb_ BK335 hb; replace HB := bs_ HB hb; have hcz10_0 := bz0 BK335.out; have hcz10_1 := bz1 BK335.out; have hcz10_2 := bz2 BK335.out; have hfz10_0 := blk_frozen BK335.out 0; have hfz10_1 := blk_frozen BK335.out 1; have hfz10_2 := blk_frozen BK335.out 2) | (go_at_call 104; (with_reducible refine (spec_AreDigits.calls k _ _ l1 a0_0 t337 _ ?side1 ?side2 A7.out).mono ?_); (case side1 => exact (Kd.C_below HR1.out HB.out)); (case side2 => exact HC1.out); rintro e w' ⟨rfl, ⟨nd, rfl⟩⟩)))
   go_meet
   case rel => exact ⟨_, (!t337), (by rfl), H', ⟨by omega⟩, ⟨by (with_reducible repeat (first | refine blk_drewN ?_ _ | refine blk_drew ?_ | refine blk_alloc ?_ _)); exact BK335.out⟩, ⟨by repeat (first | (with_reducible first | exact HB.out | apply below_alloc | apply pw_below_drewN | apply below_drew1 | refine below_set ?_ GE335.out) | exact HB.out)⟩⟩
  replace c6 := Bool.eq_false_iff.mpr c6; subst c6; rw [if_neg nf_] at H
  have H' := A_ H
  clear H; have hcz11_0 := bz0 BK335.out; have hcz11_1 := bz1 BK335.out; have hcz11_2 := bz2 BK335.out
  go_wp2_with (first | (go_at_call 90; (with_reducible refine (spec_IsSequence.calls k a0_0 _ _ l0_1 _ _ l0_2 false _ ?side1 ?side2 ?side3 ?side4 A5.out).mono ?_); (case side1 => exact (Kd.C_below HR0_1.out HB.out)); (case side2 => exact HC0_1.out); (case side3 => exact (Kd.C_below HR0_2.out HB.out)); (case side4 => exact HC0_2.out); rintro e w12 ⟨rfl, hb⟩; replace BK335 := bb_ BK335 hb; replace HB := bs_ HB hb; clear hb; (try clear hi)))
  repeat (go_quiet (first | (go_at_call 90; (with_reducible refine (spec_IsSequence.calls k a0_0 _ _ l0_1 _ _ l0_2 false _ ?side1 ?side2 ?side3 ?side4 A5.out).mono ?_); (case side1 => exact (Kd.C_below HR0_1.out HB.out)); (case side2 => exact HC0_1.out); (case side3 => exact (Kd.C_below HR0_2.out HB.out)); (case side4 => exact HC0_2.out); rintro e w12 ⟨rfl, hb⟩; replace BK335 := bb_ BK335 hb; replace HB := bs_ HB hb; (try clear hi))); try go_wp2_with (first | (go_at_call 90; (with_reducible refine (spec_IsSequence.calls k a0_0 _ _ l0_1 _ _ l0_2 false _ ?side1 ?side2 ?side3 ?side4 A5.out).mono ?_); (case side1 => exact (Kd.C_below HR0_1.out HB.out)); (case side2 => exact HC0_1.out); (case side3 => exact (Kd.C_below HR0_2.out HB.out)); (case side4 => exact HC0_2.out); rintro e w12 ⟨rfl, hb⟩; replace BK335 := bb_ BK335 hb; replace HB := bs_ HB hb; (try clear hi))))
  go_meet
  case rel => exact ⟨_, (true), (by rfl), H', ⟨by omega⟩, ⟨BK335.out⟩, ⟨HB.out⟩⟩
 case rest =>
  clear HC3; obtain ⟨kq, x16_2, rfl, HA, HJ2, BK335, HB⟩ := hcut
  cases kq with
  | zero => exact absurd HA.out (by simp [spec_StateAfter.j0])
  | succ kj2 =>
   have H := HA.out; clear HA; simp only [spec_StateAfter.j0] at H
   by_cases c13 : x16_2 = true
   ·subst c13; rw [if_pos rfl] at H; obtain rfl := Option.some.inj H
    go_wp2
    repeat (go_quiet (fail); try go_wp2)
    go_ret
    exact ⟨by rfl, HB.out⟩
   replace c13 := Bool.eq_false_iff.mpr c13; subst c13; rw [if_neg nf_] at H
   have H' := A_ H
   clear H
   go_wp2
   repeat (go_quiet (fail); try go_wp2)
   go_loopg [5, 6] kj2 (fun kq v5 v6 w' => ∃ (x5_2 : Int) (x6_2 : Int), v5 = .int .i64 x5_2 ∧ v6 = .int .i64 x6_2 ∧ Aside0 (spec_StateAfter.l0 kq l1 x5_2 x6_2 a0_0 l0_1 l0_2 = some r) ∧ Aside0 (kq ≤ kj2) ∧ Aside0 (w'.heap[gb335]? = some (.cells #[.int .i64 a0_0, (.slice A0_1 l0_1.length c0_1), (.slice A0_2 l0_2.length c0_2)] 76 (0, 0))) ∧ Aside0 (Below w.heap.size w w'))
   case atStart => exact ⟨(0), (0), (by rfl), (by rfl), H', ⟨Nat.le_refl _⟩, ⟨BK335.out⟩, ⟨HB.out⟩⟩
   case round =>
    clear H'; obtain ⟨x5_2, x6_2, rfl, rfl, HA, HK2, BK335, HB⟩ := hrel
    cases gk with
    | zero => exact absurd HA.out (by simp [spec_StateAfter.l0])
    | succ k2 =>
     have H := HA.out; clear HA; simp only [spec_StateAfter.l0] at H
     by_cases c14 : x6_2 < (l1.length : Int)
     ·rw [if_pos c14] at H; have c14b0 := decide_eq_true c14; clear c14
      by_cases c15 : 0 ≤ x5_2
      ·rw [if_pos c15] at H; have c15b0 := decide_eq_true c15; clear c15
       by_cases c16 : x5_2 < (l0_1.length : Int)
       ·rw [if_pos c16] at H; have c16b0 := decide_eq_true c16; clear c16
        by_cases c17 : 0 ≤ x6_2
        ·rw [if_pos c17] at H; have c17b0 := decide_eq_true c17; clear c17
         by_cases c18 : 0 ≤ (rd l1 x6_2)
         ·rw [if_pos c18] at H; have c18b0 := decide_eq_true c18; clear c18
          by_cases c19 : (rd l1 x6_2) < ((rd_L2 l0_1 x5_2).length : Int)
          ·rw [if_pos c19] at H; have c19b0 := decide_eq_true c19; clear c19
           have H' := A_ H
           clear H; have hcz20_1 := bz1 BK335.out
           have p338 : 0 ≤ (x5_2 : Int) := od_ (by assumption)
           have q338 : x5_2 < (l0_1.length : Int) := od_ (by assumption)
           obtain ⟨ad338, A338_0, c338_0, e338, hx338_0, hl338_0, hi338_0⟩ := at_L2 HR0_1.out x5_2 p338 q338
           cases e338
           replace hx338_0 := (HB.out.cell (World.block_lt_of_cell? w _ hx338_0)).trans hx338_0; have HR338_0 := A_ hi338_0; clear hi338_0 hl338_0; replace p338 := eq_true p338; replace q338 := eq_true q338
           have p339 : 0 ≤ (x6_2 : Int) := od_ (by assumption)
           have q339 : x6_2 < (l1.length : Int) := od_ (by assumption)
           obtain ⟨ad339, e339, hx339_0⟩ := Kd.at_int HR1.out x6_2 p339 q339
           cases e339
           replace hx339_0 := (HB.out.cell (World.block_lt_of_cell? w _ hx339_0)).trans hx339_0; replace p339 := eq_true p339; replace q339 := eq_true q339
           have p340 : 0 ≤ ((rd l1 x6_2) : Int) := od_ (by assumption)
           have q340 : (rd l1 x6_2) < ((rd_L2 l0_1 x5_2).length : Int) := od_ (by assumption)
           obtain ⟨ad340, e340, hx340_0⟩ := Kd.at_int HR338_0.out (rd l1 x6_2) p340 q340
           cases e340
           replace hx340_0 := (HB.out.cell (World.block_lt_of_cell? w _ hx340_0)).trans hx340_0; replace p340 := eq_true p340; replace q340 := eq_true q340
           go_wp2
           repeat (go_quiet (fail); try go_wp2)
           go_roundg k2
           case measure => have := HJ2.out; have := HK2.out; omega
           case rel => exact ⟨(rd (rd_L2 l0_1 x5_2) (rd l1 x6_2)), (wrap64 (x6_2 + 1)), (by rfl), (by rfl), H', ⟨by have := HJ2.out; have := HK2.out; omega⟩, ⟨by (with_reducible repeat (first | refine blk_drewN ?_ _ | refine blk_drew ?_ | refine blk_alloc ?_ _)); exact BK335.out⟩, ⟨by repeat (first | (with_reducible first | exact HB.out | apply below_alloc | apply pw_below_drewN | apply below_drew1 | refine below_set ?_ GE335.out) | exact HB.out)⟩⟩
          rw [if_neg c19] at H
          cases H
         rw [if_neg c18] at H
         cases H
        rw [if_neg c17] at H
        cases H
       rw [if_neg c16] at H
       cases H
      rw [if_neg c15] at H
      cases H
     rw [if_neg c14] at H; have c14b0 := decide_eq_false c14; clear c14; obtain rfl := Option.some.inj H
     go_wp2
     repeat (go_quiet (fail); try go_wp2)
     go_ret
     exact ⟨by rfl, HB.out⟩

mutual
def spec_DigitsOf.j0 : Nat → Int → Int → List Int → Bool → Option (List Int)
 | 0, _, _, _, _ => none
 | k + 1, x0, x1, x5, x19 => if x19 = true then (some x5) else (spec_DigitsOf.l0 k x0 x1 x5)
def spec_DigitsOf.l0 : Nat → Int → Int → List Int → Option (List Int)
 | 0, _, _, _ => none
 | k + 1, x0, x1, x5 => if x0 > 0 then (if x1 = 0 then (none) else ((some (([Int.tmod x0 x1] : List Int) : List Int)).bind fun y346 => (if y346.length + x5.length < 17592186044416 then (spec_DigitsOf.l0 k (wrap64 (Int.tdiv x0 x1)) x1 (y346 ++ x5)) else (none)))) else (some x5)
end
def spec_DigitsOf.f (k : Nat) (a0 : Int) (a1 : Int) : Option (List Int) := (some (([] : List Int) : List Int)).bind fun y341 => (if a0 < 0 then (spec_DigitsOf.j0 k a0 a1 y341 true) else ((spec_l1In.f a1 2 4).bind fun t344 => (if t344 = true then ((spec_PowerOf.f k a1 16).bind fun t345 => (spec_DigitsOf.j0 k a0 a1 y341 (decide (a0 ≥ t345)))) else (spec_DigitsOf.j0 k a0 a1 y341 true))))
theorem spec_DigitsOf.calls (k : Nat) (a0 : Int) (a1 : Int) (r : List Int) (w : World) (h : spec_DigitsOf.f k a0 a1 = some r) :
  Calls Tryz.prog 100 #[.int .i64 a0, .int .i64 a1] w fun e w' => ∃ v0_ : Value, e = .returned (v0_) ∧ Kd.R (Kd.int .i64) 3 w' w.heap.size (fun _ => True) v0_ r ∧ Below w.heap.size w w' := by
 have HB := A_ (Below.refl w.heap.size w); unfold spec_DigitsOf.f at h; have H := h; clear h; obtain ⟨y341, hy341⟩ := ex_ ((([] : List Int)) : List Int); replace H : (if a0 < 0 then (spec_DigitsOf.j0 k a0 a1 y341 true) else ((spec_l1In.f a1 2 4).bind fun t344 => (if t344 = true then ((spec_PowerOf.f k a1 16).bind fun t345 => (spec_DigitsOf.j0 k a0 a1 y341 (decide (a0 ≥ t345)))) else (spec_DigitsOf.j0 k a0 a1 y341 true)))) = some r := by (have H2_ := (Option.bind_some _ _).symm.trans H; rw [hy341]; with_reducible exact H2_)
 have Ny341 := A_ hy341; clear hy341; have HC3 := A_ H; clear H; go_enter Tryz.func100, Tryz.ntmps100
 go_upto_region 2 with (first | ((with_reducible refine gd_ 6 rfl ?_); refine RL_ 6 3 [] [] rfl rfl (by go_simp; done) rfl rfl ?_; rintro v342 w4 ho5 hb - -; (rw [← Ny341.out] at ho5); have HO343 := A_ (Kd.R_lower ho5 (below_size HB.out)); replace HB := bs_ HB hb; clear hb ho5))
 (try simp only [Act.put, mD, mE, mF])
 go_cut [19] (fun v19 wc => ∃ (kq : Nat) (x19_2 : Bool), v19 = .bool x19_2 ∧ Aside0 (spec_DigitsOf.j0 kq a0 a1 y341 x19_2 = some r) ∧ Aside0 (kq ≤ k) ∧ Aside0 (Kd.R (Kd.int .i64) 3 wc w.heap.size (fun _ => True) v342 y341) ∧ Aside0 (Below w.heap.size w wc))
 case first =>
  have H := HC3.out; clear HC3
  by_cases c6 : a0 < 0
  ·rw [if_pos c6] at H; have c6b0 := decide_eq_true c6; clear c6
   (skip)
   have H' := A_ H
   clear H
   go_wp2
   go_meet
   case rel => exact ⟨_, (true), (by rfl), H', ⟨by omega⟩, ⟨HO343.out⟩, ⟨HB.out⟩⟩
  rw [if_neg c6] at H; have c6b0 := decide_eq_false c6; clear c6
  (skip)
  replace H := bA_ H; obtain ⟨t344, A7, H⟩ := H
  by_cases c8 : t344 = true
  ·subst c8; rw [if_pos rfl] at H; replace H := bA_ H; obtain ⟨t345, A9, H⟩ := H
   have H' := A_ H
   clear H
   go_wp2_with (first | (go_at_call 36; (with_reducible refine (spec_l1In.calls a1 2 4 true _ A7.out).mono ?_); rintro e w' ⟨rfl, ⟨nd, rfl⟩⟩) | (go_at_call 98; (with_reducible refine (spec_PowerOf.calls k a1 16 t345 _ A9.out).mono ?_); rintro e w' ⟨rfl, ⟨nd, rfl⟩⟩))
   go_meet
   case rel => exact ⟨_, (decide (a0 ≥ t345)), (by rfl), H', ⟨by omega⟩, ⟨by (with_reducible repeat (first | apply Kd.R_alloc | apply Kd.R_drewN | apply Kd.R_drew)); exact HO343.out⟩, ⟨by repeat (first | (with_reducible first | exact HB.out | apply below_alloc | apply pw_below_drewN | apply below_drew1) | exact HB.out)⟩⟩
  replace c8 := Bool.eq_false_iff.mpr c8; subst c8; rw [if_neg nf_] at H
  have H' := A_ H
  clear H
  go_wp2_with (first | (go_at_call 36; (with_reducible refine (spec_l1In.calls a1 2 4 false _ A7.out).mono ?_); rintro e w' ⟨rfl, ⟨nd, rfl⟩⟩))
  go_meet
  case rel => exact ⟨_, (true), (by rfl), H', ⟨by omega⟩, ⟨by (with_reducible repeat (first | apply Kd.R_alloc | apply Kd.R_drewN | apply Kd.R_drew)); exact HO343.out⟩, ⟨by repeat (first | (with_reducible first | exact HB.out | apply below_alloc | apply pw_below_drewN | apply below_drew1) | exact HB.out)⟩⟩
 case rest =>
  clear HC3; obtain ⟨kq, x19_2, rfl, HA, HJ2, HO_5, HB⟩ := hcut
  cases kq with
  | zero => exact absurd HA.out (by simp [spec_DigitsOf.j0])
  | succ kj2 =>
   have H := HA.out; clear HA; simp only [spec_DigitsOf.j0] at H
   by_cases c10 : x19_2 = true
   ·subst c10; rw [if_pos rfl] at H; obtain rfl := Option.some.inj H
    go_wp2
    go_ret
    exact ⟨_, by rfl, HO_5.out, HB.out⟩
   replace c10 := Bool.eq_false_iff.mpr c10; subst c10; rw [if_neg nf_] at H
   have H' := A_ H
   clear H
   go_wp2
   go_loopg [0, 5] kj2 (fun kq v0 v5 w' => ∃ (x0_2 : Int) (x5_2 : List Int), v0 = .int .i64 x0_2 ∧ Aside0 (spec_DigitsOf.l0 kq x0_2 a1 x5_2 = some r) ∧ Aside0 (kq ≤ kj2) ∧ Aside0 (Kd.R (Kd.int .i64) 3 w' w.heap.size (fun _ => True) v5 x5_2) ∧ Aside0 (Below w.heap.size w w'))
   case atStart => exact ⟨(a0), (y341), (by rfl), H', ⟨Nat.le_refl _⟩, ⟨HO_5.out⟩, ⟨HB.out⟩⟩
   case round =>
    clear H'; obtain ⟨x0_2, x5_2, rfl, HA, HK2, HO_5, HB⟩ := hrel
    cases gk with
    | zero => exact absurd HA.out (by simp [spec_DigitsOf.l0])
    | succ k2 =>
     have H := HA.out; clear HA; simp only [spec_DigitsOf.l0] at H
     by_cases c11 : x0_2 > 0
     ·rw [if_pos c11] at H
      have c11b0 : decide (0 < x0_2) = true := decide_eq_true c11
      clear c11
      by_cases c12 : a1 = 0
      ·rw [if_pos c12] at H
       cases H
      rw [if_neg c12] at H
      obtain ⟨y346, hy346⟩ := ex_ ((([Int.tmod x0_2 a1] : List Int)) : List Int); replace H : (if y346.length + x5_2.length < 17592186044416 then (spec_DigitsOf.l0 k2 (wrap64 (Int.tdiv x0_2 a1)) a1 (y346 ++ x5_2)) else (none)) = some r := by (have H2_ := (Option.bind_some _ _).symm.trans H; rw [hy346]; with_reducible exact H2_)
      have Ny346 := A_ hy346; clear hy346
      by_cases c13 : y346.length + x5_2.length < 17592186044416
      ·rw [if_pos c13] at H; have LMc13 := A_ c13; clear c13; obtain ⟨y349, hy349⟩ := ex_ ((y346 ++ x5_2) : List Int); replace H : (spec_DigitsOf.l0 k2 (wrap64 (Int.tdiv x0_2 a1)) a1 y349) = some r := by (rw [hy349]; with_reducible exact H)
       have Ny349 := A_ hy349; clear hy349
       have H' := A_ H
       clear H
       go_wp2_with (first | ((with_reducible refine gate_dst (N := 26) rfl ?_); refine Kd.R_lit (Kd.int .i64) _ 3 ?hg (N := 26) ?hd (xs := ([Int.tmod x0_2 a1] : List Int)) (inner := [.int .i64 (Int.tmod x0_2 a1)]) (ok := fun _ => True) (okp := fun _ => True) ?hr ?hp (fun _ hk => hk) trivial (Below.refl _ _) (Nat.le_refl _) (by simp) ?_; (case hd | hg => rfl); (case hr => go_simp; done); (case hp => exact (Reps.one (show Kd.M (Kd.int .i64) _ _ _ (Int.tmod x0_2 a1) [.int .i64 (Int.tmod x0_2 a1)] from rfl) (Reps.none _ _))); rintro v347 w14 ho15 hb - -; (rw [← Ny346.out] at ho15); have HO348 := A_ (Kd.R_lower (Kd.R_new' ho15 (Kd.R_lt HO_5.out)) (below_size HB.out)); replace HO_5 := A_ (Kd.R_elder' HO_5.out (Kd.R_base ho15) hb); replace HB := bs_ HB hb; clear hb ho15; obtain ⟨Ao17, co17, eo17⟩ := Kd.R_slice HO_5.out; subst eo17) | ((with_reducible refine gate_builtin (b := .append) (xs := #[.tmp 26, .tmp 27]) rfl ?_); at_builtin; refine Kd.R_append_rows (Kd.int .i64) (w0 := w) w.heap.size rfl (.tmp 26) (.tmp 27) 24 3 (.int .i64 0) 8 rfl Tryz.underlying24 info3 rfl (by decide) (by omega) v347 y346 x5_2 _ _ _ (fun k_ => some k_ ≠ (.slice Ao17 x5_2.length co17 : Value).ownBlock) (fun _ => False) rfl rfl ?aO ?aR (fun _ _ h => h) (fun _ h => h.elim) ?aF ?aB ?aS ?aL ?_; (case aR => exact (Kd.R_reads' HO_5.out).2.2); (case aB => exact HB.out); (case aF => exact (fun k_ hk => Kd.fresh' (Kd.R_lt HO_5.out) k_ hk)); (case aO => exact (by exact Kd.R_mono HO348.out (fun _ hk => hk.2))); (case aS => exact (below_size HB.out)); (case aL => have := LMc13.out; omega); intro v350 w16 ho hb hg hat; rw [← Ny349.out] at ho; replace HO_5 := A_ (Kd.R_after (ok := (fun _ => True)) HO_5.out hg hat); replace HB := A_ (hb); have HO351 := A_ (ho); clear HO348; clear ho hb hg hat))
       go_roundg k2
       case measure => have := HJ2.out; have := HK2.out; omega
       case rel => exact ⟨(wrap64 (Int.tdiv x0_2 a1)), (y349), (by rfl), H', ⟨by have := HJ2.out; have := HK2.out; omega⟩, ⟨by exact Kd.R_mono HO351.out (fun _ hk => trivial)⟩, ⟨HB.out⟩⟩
      rw [if_neg c13] at H
      cases H
     rw [if_neg c11] at H
     have c11b0 : decide (0 < x0_2) = false := decide_eq_false c11
     clear c11; obtain rfl := Option.some.inj H
     go_wp2
     go_ret
     exact ⟨_, by rfl, HO_5.out, HB.out⟩
def spec_TermAt.j0 : Nat → Int → Bool → Int → List (List Int) → List Int → Option (Int)
 | 0, _, _, _, _, _ => none
 | k + 1, x1, x18, x353000, x353001, x353002 => if x18 = true then (some (-1)) else ((spec_DigitsOf.f k x1 x353000).bind fun t355 => ((spec_StateAfter.f k x353000 x353001 x353002 t355).bind fun t358 => (if 0 ≤ t358 then (if t358 < (x353002.length : Int) then (some (rd x353002 t358)) else (none)) else (none))))
def spec_TermAt.f (k : Nat) (a0_0 : Int) (l0_1 : List (List Int)) (l0_2 : List Int) (a1 : Int) : Option (Int) := if a1 < 0 then (spec_TermAt.j0 k a1 true a0_0 l0_1 l0_2) else ((spec_IsSequence.f k a0_0 l0_1 l0_2).bind fun t353 => (if t353 = true then ((spec_PowerOf.f k a0_0 16).bind fun t354 => (spec_TermAt.j0 k a1 (decide (a1 ≥ t354)) a0_0 l0_1 l0_2)) else (spec_TermAt.j0 k a1 true a0_0 l0_1 l0_2)))
def spec_TermAt.T3 : Bool × List (List Nat × List Nat) := (true, [([], []), ([0], [0]), ([], []), ([], []), ([], []), ([4], [4]), ([3, 5], [3, 5]), ([2, 6, 6], [2, 6]), ([1, 7], [1, 7]), ([8], [8]), ([9, 7, 0, 1, 2, 3, 4, 5, 6, 7, 8, 9], [9])])
def spec_TermAt.B3 : List Nat := [0, 1, 0, 0, 0, 16, 56, 124, 255, 511, 1023]
theorem spec_TermAt.tab3 : rtab .any (opsOf Tryz.f91 3) = spec_TermAt.T3 := by kernel_rfl
theorem spec_TermAt.bits3 : waitsOk spec_TermAt.T3.2 spec_TermAt.B3 = true := by kernel_rfl
theorem spec_TermAt.calls (k : Nat) (a0_0 : Int) (A0_1 : Option Addr) (c0_1 : Nat) (l0_1 : List (List Int)) (A0_2 : Option Addr) (c0_2 : Nat) (l0_2 : List Int) (a1 : Int) (r : Int) (w : World) (hr0_1 : Kd.C (Kd.slice 3 (Kd.int .i64)) w A0_1 l0_1.length l0_1) (hc0_1 : l0_1.length ≤ c0_1) (hr0_2 : Kd.C (Kd.int .i64) w A0_2 l0_2.length l0_2) (hc0_2 : l0_2.length ≤ c0_2) (h : spec_TermAt.f k a0_0 l0_1 l0_2 a1 = some r) :
  Calls Tryz.prog 91 #[.agg #[.int .i64 a0_0, .slice A0_1 l0_1.length c0_1, .slice A0_2 l0_2.length c0_2], .int .i64 a1] w fun e w' => e = .returned (.int .i64 r) ∧ Below w.heap.size w w' := by
 have HR0_1 := A_ hr0_1; have HC0_1 := A_ hc0_1; clear hr0_1 hc0_1; have HR0_2 := A_ hr0_2; have HC0_2 := A_ hc0_2; clear hr0_2 hc0_2; have HB := A_ (Below.refl w.heap.size w); unfold spec_TermAt.f at h; have H := h; clear h; have HC3 := A_ H; clear H; go_enter Tryz.func91, Tryz.ntmps91
 go_upto_region 1 with (first | ((with_reducible refine gate_dst (N := 2) rfl ?_); refine box_event ?hg (N := 2) ?hd (cs := #[.int .i64 a0_0, .slice A0_1 l0_1.length c0_1, .slice A0_2 l0_2.length c0_2]) (t := 76) ?hr ?_; (case hd | hg => rfl); (case hr => go_simp; done); intro gb352 hg w4 hbox hb; have BK352 := A_ (hbox); replace HB := bs_ HB hb; clear hb hbox hg))
 (try simp only [Act.put, mD, mE, mF])
 go_cut [18] (fun v18 wc => ∃ (kq : Nat) (x18_2 : Bool), v18 = .bool x18_2 ∧ Aside0 (spec_TermAt.j0 kq a1 x18_2 a0_0 l0_1 l0_2 = some r) ∧ Aside0 (kq ≤ k) ∧ Aside0 (wc.heap[gb352]? = some (.cells #[.int .i64 a0_0, (.slice A0_1 l0_1.length c0_1), (.slice A0_2 l0_2.length c0_2)] 76 (0, 0))) ∧ Aside0 (Below w.heap.size w wc))
 case first =>
  have H := HC3.out; clear HC3
  by_cases c5 : a1 < 0
  ·rw [if_pos c5] at H; have c5b0 := decide_eq_true c5; clear c5
   (skip)
   have H' := A_ H
   clear H
   go_wp2
   go_meet
   case rel => exact ⟨_, (true), (by rfl), H', ⟨by omega⟩, ⟨BK352.out⟩, ⟨HB.out⟩⟩
  rw [if_neg c5] at H; have c5b0 := decide_eq_false c5; clear c5
  (skip)
  replace H := bA_ H; obtain ⟨t353, A6, H⟩ := H
  by_cases c7 : t353 = true
  ·subst c7; rw [if_pos rfl] at H; replace H := bA_ H; obtain ⟨t354, A8, H⟩ := H
   have H' := A_ H
   clear H; have hcz9_0 := bz0 BK352.out; have hcz9_1 := bz1 BK352.out; have hcz9_2 := bz2 BK352.out
   go_wp2_with (first | (go_at_call 90; (with_reducible refine (spec_IsSequence.calls k a0_0 _ _ l0_1 _ _ l0_2 true _ ?side1 ?side2 ?side3 ?side4 A6.out).mono ?_); (case side1 => exact (Kd.C_below HR0_1.out HB.out)); (case side2 => exact HC0_1.out); (case side3 => exact (Kd.C_below HR0_2.out HB.out)); (case side4 => exact HC0_2.out); rintro e w10 ⟨rfl, hb⟩; replace BK352 := bb_ BK352 hb; replace HB := bs_ HB hb; clear hb; have hcz11_0 := bz0 BK352.out) | (go_at_call 98; (with_reducible refine (spec_PowerOf.calls k a0_0 16 t354 _ A8.out).mono ?_); rintro e w' ⟨rfl, ⟨nd, rfl⟩⟩))
   go_meet
   case rel => exact ⟨_, (decide (a1 ≥ t354)), (by rfl), H', ⟨by omega⟩, ⟨by (with_reducible repeat (first | refine blk_drewN ?_ _ | refine blk_drew ?_ | refine blk_alloc ?_ _)); exact BK352.out⟩, ⟨by repeat (first | (with_reducible first | exact HB.out | apply below_alloc | apply pw_below_drewN | apply below_drew1 | refine below_set ?_ GE352.out) | exact HB.out)⟩⟩
  replace c7 := Bool.eq_false_iff.mpr c7; subst c7; rw [if_neg nf_] at H
  have H' := A_ H
  clear H; have hcz12_0 := bz0 BK352.out; have hcz12_1 := bz1 BK352.out; have hcz12_2 := bz2 BK352.out
  go_wp2_with (first | (go_at_call 90; (with_reducible refine (spec_IsSequence.calls k a0_0 _ _ l0_1 _ _ l0_2 false _ ?side1 ?side2 ?side3 ?side4 A6.out).mono ?_); (case side1 => exact (Kd.C_below HR0_1.out HB.out)); (case side2 => exact HC0_1.out); (case side3 => exact (Kd.C_below HR0_2.out HB.out)); (case side4 => exact HC0_2.out); rintro e w13 ⟨rfl, hb⟩; replace BK352 := bb_ BK352 hb; replace HB := bs_ HB hb; clear hb; (try clear hi)))
  go_meet
  case rel => exact ⟨_, (true), (by rfl), H', ⟨by omega⟩, ⟨BK352.out⟩, ⟨HB.out⟩⟩
 case rest =>
  clear HC3; obtain ⟨kq, x18_2, rfl, HA, HJ2, BK352, HB⟩ := hcut
  cases kq with
  | zero => exact absurd HA.out (by simp [spec_TermAt.j0])
  | succ kj2 =>
   have H := HA.out; clear HA; simp only [spec_TermAt.j0] at H
   by_cases c14 : x18_2 = true
   ·subst c14; rw [if_pos rfl] at H; obtain rfl := Option.some.inj H
    go_wp2
    go_ret
    exact ⟨by rfl, HB.out⟩
   replace c14 := Bool.eq_false_iff.mpr c14; subst c14; rw [if_neg nf_] at H; replace H := bA_ H; obtain ⟨t355, A15, H⟩ := H; replace H := bA_ H; obtain ⟨t358, A16, H⟩ := H
   by_cases c17 : 0 ≤ t358
   ·rw [if_pos c17] at H; have c17b0 := decide_eq_true c17; clear c17
    by_cases c18 : t358 < (l0_2.length : Int)
    ·rw [if_pos c18] at H; have c18b0 := decide_eq_true c18; clear c18; obtain rfl := Option.some.inj H
     try go_wp2
     have n0_ := A_ (blk_drew BK352.out); have n1_ := A_ (below_drew1 HB.out); clear BK352 HB; have BK352 := n0_; have HB := n1_; clear n0_ n1_
     have p359 : 0 ≤ (t358 : Int) := od_ (by assumption)
     have q359 : t358 < (l0_2.length : Int) := od_ (by assumption)
     obtain ⟨ad359, e359, hx359_0⟩ := Kd.at_int HR0_2.out t358 p359 q359; have hw359_0 := hx359_0
     cases e359
     replace hx359_0 := (HB.out.cell (World.block_lt_of_cell? w _ hx359_0)).trans hx359_0; replace p359 := eq_true p359; replace q359 := eq_true q359; refine start_ (n := 11) (S := fun w' => w'.cell? ⟨gb352, 0, none⟩ = some (.int .i64 a0_0) ∧ w'.cell? ⟨gb352, 1, none⟩ = some (.slice A0_1 l0_1.length c0_1) ∧ w'.cell? ⟨gb352, 2, none⟩ = some (.slice (some ad359) l0_2.length c0_2) ∧ w'.cell? (ad359.add (t358).toNat) = some (.int .i64 (rd l0_2 t358))) (ds := []) (mk_ 11 0) (by kernel_rfl) rfl rfl ⟨(blk_cell BK352.out 0).trans rfl, (blk_cell BK352.out 1).trans rfl, (blk_cell BK352.out 2).trans rfl, ((HB.out.cell (World.block_lt_of_cell? w _ hw359_0)).trans hw359_0)⟩ (fun hHeld => ?_); refine with_tabW spec_TermAt.tab3 spec_TermAt.bits3 (fun HT_ HW_ => ?_)
     generalize wc.drew = w19 at BK352 HB hx359_0 hHeld ⊢
     refine pv_ 0 19 (mk_ 11 1) rfl rfl HT_.out (by kernel_rfl) (fun _ _ _ h => h) (by rfl) (by intro w'; go_simp; with_reducible rfl) (by simp only [Act.put, mD, mE, mF, i64_w, i32_w]; rfl) ?_; refine pv_ 3 22 (mk_ 11 9) rfl rfl HT_.out (by kernel_rfl) (fun _ _ _ h => h) (by rfl) (by intro w'; go_simp; with_reducible rfl) (by simp only [Act.put, mD, mE, mF, i64_w, i32_w]; rfl) ?_; refine pv_ 4 23 (mk_ 11 25) rfl rfl HT_.out (by kernel_rfl) (fun _ _ _ h => h) (by rfl) (by intro w'; go_simp; with_reducible rfl) (by simp only [Act.put, mD, mE, mF, i64_w, i32_w]; rfl) ?_; refine take_ (i := 1) (N := some 20) (mk_ 11 27) rfl rfl (take_ofW HT_.out HW_.out (by kernel_rfl)) (fun _ _ _ h => h) (Or.inl ⟨by rfl, by rintro w' ⟨s0, s1, s2, s3⟩; go_simp; with_reducible rfl⟩) hHeld (by simp only [Act.put, mD, mE, mF, i64_w, i32_w]; rfl) ?_; refine take_ (i := 2) (N := some 21) (mk_ 11 31) rfl rfl (take_ofW HT_.out HW_.out (by kernel_rfl)) (fun _ _ _ h => h) (Or.inl ⟨by rfl, by rintro w' ⟨s0, s1, s2, s3⟩; go_simp; with_reducible rfl⟩) hHeld (by simp only [Act.put, mD, mE, mF, i64_w, i32_w]; rfl) ?_; refine take_ (i := 5) (N := some 24) (mk_ 11 63) rfl rfl (take_ofW HT_.out HW_.out (by kernel_rfl)) (fun _ _ _ h => h) (Or.inl ⟨by rfl, by rintro w' ⟨s0, s1, s2, s3⟩; go_simp; with_reducible rfl⟩) hHeld (by simp only [Act.put, mD, mE, mF, i64_w, i32_w]; rfl) ?_; refine one_ (i := 6) (N := some 25) (mk_ 11 127) rfl rfl (one_of HT_.out (by kernel_rfl)) (by decide) (fun K hK => ?_); refine cS_ E100 rfl rfl rfl (spec_DigitsOf.calls kj2 a1 a0_0 t355 _ A15.out) (by simp only [mA, mB, mC]; rfl) ?_; rintro e w20 ⟨v356, rfl, ho0, hb⟩; refine ⟨_, rfl, ?_⟩; have n0_ := A_ (Kd.R_lower ho0 (below_size HB.out)); have n1_ := bb_ BK352 hb; have n2_ := bs_ HB hb; clear BK352 HB; have HO357 := n0_; have BK352 := n1_; have HB := n2_; clear n0_ n1_ n2_
     (try clear hb)
     (try clear hb2)
     (try clear hk)
     (try clear hi)
     (try clear ho0)
     obtain ⟨Ao21, co21, eo21⟩ := Kd.R_slice HO357.out
     (first | subst eo21 | (injection eo21 with f1_ f2_ f3_; have f4_ := f1_.symm; have f5_ := f3_.symm; clear f1_ f2_ f3_; subst f4_; subst f5_))
     refine hK.out _ _ ⟨(blk_cell BK352.out 0).trans rfl, (blk_cell BK352.out 1).trans rfl, (blk_cell BK352.out 2).trans rfl, ((HB.out.cell (World.block_lt_of_cell? w _ hw359_0)).trans hw359_0)⟩ (fun hHeld => ?_); clear hK K; refine norm_ (by show Act.put _ (some 25) _ = _; simp only [Act.put, mD, mE, mF, i64_w, i32_w]; rfl) ?_; refine one_ (i := 7) (N := some 26) (mk_ 11 255) rfl rfl (one_of HT_.out (by kernel_rfl)) (by decide) (fun K hK => ?_); refine cS_ E99 rfl rfl rfl (spec_StateAfter.calls kj2 a0_0 _ _ l0_1 _ _ l0_2 _ _ t355 t358 _ (Kd.C_below HR0_1.out HB.out) HC0_1.out (Kd.C_below HR0_2.out HB.out) HC0_2.out ((Kd.R_reads' HO357.out).2.2) ((Kd.R_reads' HO357.out).2.1) A16.out) (by simp only [mA, mB, mC]; rfl) ?_; rintro e w22 ⟨rfl, hb⟩; refine ⟨_, rfl, ?_⟩; have n0_ := A_ (Kd.R_below HO357.out hb); have n1_ := bb_ BK352 hb; have n2_ := bs_ HB hb; clear HO357 BK352 HB; have BK352 := n1_; have HB := n2_; clear n0_ n1_ n2_
     (try clear hb)
     (try clear hb2)
     (try clear hk)
     (try clear hi)
     refine hK.out _ _ ⟨(blk_cell BK352.out 0).trans rfl, (blk_cell BK352.out 1).trans rfl, (blk_cell BK352.out 2).trans rfl, ((HB.out.cell (World.block_lt_of_cell? w _ hw359_0)).trans hw359_0)⟩ (fun hHeld => ?_); clear hK K; refine norm_ (by show Act.put _ (some 26) _ = _; simp only [Act.put, mD, mE, mF, i64_w, i32_w]; rfl) ?_; refine pv_ 8 27 (mk_ 11 511) rfl rfl HT_.out (by kernel_rfl) (fun _ _ _ h => h) (by rfl) (by intro w'; go_simp; with_reducible rfl) (by simp only [Act.put, mD, mE, mF, i64_w, i32_w]; rfl) ?_; refine take_ (i := 9) (N := some 28) (mk_ 11 1023) rfl rfl (take_ofW HT_.out HW_.out (by kernel_rfl)) (fun _ _ _ h => h) (Or.inl ⟨by rfl, by rintro w' ⟨s0, s1, s2, s3⟩; go_simp; with_reducible rfl⟩) hHeld (by simp only [Act.put, mD, mE, mF, i64_w, i32_w]; rfl) ?_; refine pv_ 10 4 (mk_ 11 2047) rfl rfl HT_.out (by kernel_rfl) (fun _ _ _ h => h) (by rfl) (by intro w'; go_simp; with_reducible rfl) (by simp only [Act.put, mD, mE, mF, i64_w, i32_w]; rfl) ?_; refine done_ (done_of HT_.out (by kernel_rfl)) ?_
     try go_wp2
     go_ret
     exact ⟨by rfl, HB.out⟩
    rw [if_neg c18] at H
    cases H
   rw [if_neg c17] at H
   cases H

def spec_PrefixOf.l0 : Nat → Int → List Int → Int → Int → List (List Int) → List Int → Option (List Int)
 | 0, _, _, _, _, _, _ => none
 | k + 1, x1, x5, x6, x361000, x361001, x361002 => if x6 < x1 then (if x1 ≤ 256 then ((spec_IsSequence.f k x361000 x361001 x361002).bind fun t364 => (if t364 = true then ((spec_TermAt.f k x361000 x361001 x361002 x6).bind fun t365 => (if x5.length < 17592186044416 then (spec_PrefixOf.l0 k x1 (x5 ++ [t365]) (wrap64 (x6 + 1)) x361000 x361001 x361002) else (none))) else (some x5))) else (some x5)) else (some x5)
def spec_PrefixOf.f (k : Nat) (a0_0 : Int) (l0_1 : List (List Int)) (l0_2 : List Int) (a1 : Int) : Option (List Int) := spec_PrefixOf.l0 k a1 (([] : List Int)) 0 a0_0 l0_1 l0_2
theorem spec_PrefixOf.calls (k : Nat) (a0_0 : Int) (A0_1 : Option Addr) (c0_1 : Nat) (l0_1 : List (List Int)) (A0_2 : Option Addr) (c0_2 : Nat) (l0_2 : List Int) (a1 : Int) (r : List Int) (w : World) (hr0_1 : Kd.C (Kd.slice 3 (Kd.int .i64)) w A0_1 l0_1.length l0_1) (hc0_1 : l0_1.length ≤ c0_1) (hr0_2 : Kd.C (Kd.int .i64) w A0_2 l0_2.length l0_2) (hc0_2 : l0_2.length ≤ c0_2) (h : spec_PrefixOf.f k a0_0 l0_1 l0_2 a1 = some r) :
  Calls Tryz.prog 73 #[.agg #[.int .i64 a0_0, .slice A0_1 l0_1.length c0_1, .slice A0_2 l0_2.length c0_2], .int .i64 a1] w fun e w' => ∃ v0_ : Value, e = .returned (v0_) ∧ Kd.R (Kd.int .i64) 3 w' w.heap.size (fun _ => True) v0_ r ∧ Below w.heap.size w w' := by
 have HR0_1 := A_ hr0_1; have HC0_1 := A_ hc0_1; clear hr0_1 hc0_1; have HR0_2 := A_ hr0_2; have HC0_2 := A_ hc0_2; clear hr0_2 hc0_2; have HB := A_ (Below.refl w.heap.size w); unfold spec_PrefixOf.f at h; have H := h; clear h; obtain ⟨y361, hy361⟩ := ex_ ((([] : List Int)) : List Int); replace H : (spec_PrefixOf.l0 k a1 y361 0 a0_0 l0_1 l0_2) = some r := by (rw [hy361]; with_reducible exact H)
 have Ny361 := A_ hy361; clear hy361
 have H' := A_ H
 clear H; go_enter Tryz.func73, Tryz.ntmps73
 go_wp2_with (first | ((with_reducible refine gate_dst (N := 2) rfl ?_); refine box_event ?hg (N := 2) ?hd (cs := #[.int .i64 a0_0, .slice A0_1 l0_1.length c0_1, .slice A0_2 l0_2.length c0_2]) (t := 76) ?hr ?_; (case hd | hg => rfl); (case hr => go_simp; done); intro gb360 hg w3 hbox hb; have BK360 := A_ (hbox); replace HB := bs_ HB hb; clear hb hbox hg) | ((with_reducible refine gd_ 7 rfl ?_); refine RL_ 7 3 [] [] rfl rfl (by go_simp; done) rfl rfl ?_; rintro v362 w4 ho5 hb - -; (rw [← Ny361.out] at ho5); have HO363 := A_ (Kd.R_lower ho5 (below_size HB.out)); replace BK360 := bb_ BK360 hb; replace HB := bs_ HB hb; clear hb ho5))
 go_loopg [5, 6] k (fun kq v5 v6 w' => ∃ (x5_1 : List Int) (x6_1 : Int), v6 = .int .i64 x6_1 ∧ Aside0 (spec_PrefixOf.l0 kq a1 x5_1 x6_1 a0_0 l0_1 l0_2 = some r) ∧ Aside0 (kq ≤ k) ∧ Aside0 (Kd.R (Kd.int .i64) 3 w' w.heap.size (fun _ => True) v5 x5_1) ∧ Aside0 (w'.heap[gb360]? = some (.cells #[.int .i64 a0_0, (.slice A0_1 l0_1.length c0_1), (.slice A0_2 l0_2.length c0_2)] 76 (0, 0))) ∧ Aside0 (Below w.heap.size w w'))
 case atStart => exact ⟨(y361), (0), (by rfl), H', ⟨Nat.le_refl _⟩, ⟨HO363.out⟩, ⟨BK360.out⟩, ⟨HB.out⟩⟩
 case round =>
  clear H'; obtain ⟨x5_1, x6_1, rfl, HA, HK1, HO_5, BK360, HB⟩ := hrel
  cases gk with
  | zero => exact absurd HA.out (by simp [spec_PrefixOf.l0])
  | succ k1 =>
   have H := HA.out; clear HA; simp only [spec_PrefixOf.l0] at H
   by_cases c6 : x6_1 < a1
   ·rw [if_pos c6] at H; have c6b0 := decide_eq_true c6; clear c6
    by_cases c7 : a1 ≤ 256
    ·rw [if_pos c7] at H; have c7b0 := decide_eq_true c7; clear c7; replace H := bA_ H; obtain ⟨t364, A8, H⟩ := H
     by_cases c9 : t364 = true
     ·subst c9; rw [if_pos rfl] at H; replace H := bA_ H; obtain ⟨t365, A10, H⟩ := H
      by_cases c11 : x5_1.length < 17592186044416
      ·rw [if_pos c11] at H; have LMc11 := A_ c11; clear c11; obtain ⟨y366, hy366⟩ := ex_ ((x5_1 ++ [t365]) : List Int); replace H : (spec_PrefixOf.l0 k1 a1 y366 (wrap64 (x6_1 + 1)) a0_0 l0_1 l0_2) = some r := by (rw [hy366]; with_reducible exact H)
       have Ny366 := A_ hy366; clear hy366
       have H' := A_ H
       clear H; have hcz12_0 := bz0 BK360.out; have hcz12_1 := bz1 BK360.out; have hcz12_2 := bz2 BK360.out
       go_wp2_with (first | (go_at_call 90; (with_reducible refine (spec_IsSequence.calls k1 a0_0 _ _ l0_1 _ _ l0_2 true _ ?side1 ?side2 ?side3 ?side4 A8.out).mono ?_); (case side1 => exact (Kd.C_below HR0_1.out HB.out)); (case side2 => exact HC0_1.out); (case side3 => exact (Kd.C_below HR0_2.out HB.out)); (case side4 => exact HC0_2.out); rintro e w13 ⟨rfl, hb⟩; replace HO_5 := A_ (Kd.R_below HO_5.out hb); replace BK360 := bb_ BK360 hb; replace HB := bs_ HB hb; clear hb; have hcz14_0 := bz0 BK360.out; have hcz14_1 := bz1 BK360.out; have hcz14_2 := bz2 BK360.out) | ((with_reducible refine gc_ 91 rfl ?_); refine cL_ E91 24 rfl rfl rfl (spec_TermAt.calls k1 a0_0 _ _ l0_1 _ _ l0_2 x6_1 t365 _ (Kd.C_below HR0_1.out HB.out) HC0_1.out (Kd.C_below HR0_2.out HB.out) HC0_2.out A10.out) (by simp only [mA, mB, mC]; rfl) ?_; rintro e w15 ⟨rfl, hb⟩; refine ⟨_, rfl, ?_⟩; replace HO_5 := A_ (Kd.R_below HO_5.out hb); replace BK360 := bb_ BK360 hb; replace HB := bs_ HB hb; clear hb; (try clear hi)) | ((with_reducible refine gate_builtin (b := .append) (xs := #[.tmp 21, .tmp 25]) rfl ?_); at_builtin; refine Kd.R_append (Kd.int .i64) (w0 := w) w.heap.size rfl (.tmp 21) (.tmp 25) 24 3 (.int .i64 0) 8 rfl Tryz.underlying24 info3 rfl (by decide) (by omega) u5 x5_1 t365 [.int .i64 t365] (fun _ => True) (fun _ => False) rfl rfl ?aP (fun _ hk => hk.elim) ?aF ?aO ?aB ?aS ?aL ?_; (case aP => exact rfl); (case aB => exact HB.out); (case aF => exact (fun _ _ => trivial)); (case aO => exact HO_5.out); (case aS => exact (below_size HB.out)); (case aL => have := LMc11.out; omega); intro v367 w16 ho hb hg hat; rw [← Ny366.out] at ho; replace BK360 := A_ (blk_grown (g := gb360) (o := .cells #[.int .i64 a0_0, .slice A0_1 l0_1.length c0_1, .slice A0_2 l0_2.length c0_2] 76 (0, 0)) BK360.out hg (Kd.R_ne HO_5.out BK360.out (by decide))); replace HB := A_ (hb); have HO368 := A_ (ho); clear HO_5; clear ho hb hg hat))
       go_roundg k1
       case measure => have := HK1.out; omega
       case rel => exact ⟨(y366), (wrap64 (x6_1 + 1)), (by rfl), H', ⟨by have := HK1.out; omega⟩, ⟨HO368.out⟩, ⟨BK360.out⟩, ⟨HB.out⟩⟩
      rw [if_neg c11] at H
      cases H
     replace c9 := Bool.eq_false_iff.mpr c9; subst c9; rw [if_neg nf_] at H; obtain rfl := Option.some.inj H; have hcz17_0 := bz0 BK360.out; have hcz17_1 := bz1 BK360.out; have hcz17_2 := bz2 BK360.out
     go_wp2_with (first | (go_at_call 90; (with_reducible refine (spec_IsSequence.calls k1 a0_0 _ _ l0_1 _ _ l0_2 false _ ?side1 ?side2 ?side3 ?side4 A8.out).mono ?_); (case side1 => exact (Kd.C_below HR0_1.out HB.out)); (case side2 => exact HC0_1.out); (case side3 => exact (Kd.C_below HR0_2.out HB.out)); (case side4 => exact HC0_2.out); rintro e w18 ⟨rfl, hb⟩; replace HO_5 := A_ (Kd.R_below HO_5.out hb); replace BK360 := bb_ BK360 hb; replace HB := bs_ HB hb; clear hb; (try clear hi)))
     go_ret
     exact ⟨_, by rfl, HO_5.out, HB.out⟩
    rw [if_neg c7] at H; have c7b0 := decide_eq_false c7; clear c7; obtain rfl := Option.some.inj H
    go_wp2
    go_ret
    exact ⟨_, by rfl, HO_5.out, HB.out⟩
   rw [if_neg c6] at H; have c6b0 := decide_eq_false c6; clear c6; obtain rfl := Option.some.inj H
   go_wp2
   go_ret
   exact ⟨_, by rfl, HO_5.out, HB.out⟩

def spec_l1PickInt.f (s0_0 : List Int) (s0_1 : Int) (s0_2 : Int) (l1 : List Int) : Option (Int × Int × Int) := (spec_l1Below.f s0_0 s0_1 s0_2 (l1.length : Int)).bind fun bt369 => (if 0 ≤ bt369.1 then (if bt369.1 < (l1.length : Int) then (some (rd l1 bt369.1, bt369.2.1, bt369.2.2)) else (none)) else (none))
theorem spec_l1PickInt.calls (g : Nat) (s0_0 : List Int) (s0_1 : Int) (s0_2 : Int) (A1 : Option Addr) (c1 : Nat) (l1 : List Int) (r1 : Int) (r2 : Int) (r3 : Int) (w0 w : World) (hI : IsS57 w0 w g s0_0 s0_1 s0_2) (hB : Below w0.heap.size w0 w) (hr1 : Kd.C (Kd.int .i64) w A1 l1.length l1) (hc1 : l1.length ≤ c1) (hf1 : ∀ ad, A1 = some ad → 0 < l1.length → ad.block ≠ g) (h : spec_l1PickInt.f s0_0 s0_1 s0_2 l1 = some (r1, r2, r3)) :
  Calls Tryz.prog 65 #[.pointer (some ⟨g, 0, none⟩), .slice A1 l1.length c1] w fun e w' => e = .returned (.int .i64 r1) ∧ IsS57 w0 w' g s0_0 r2 r3 ∧ Below w0.heap.size w0 w' ∧ KeepBut w w' g none := by
 have HR1 := A_ hr1; clear hr1 hc1; have HI0 := A_ hI; have HK := A_ (KeepBut.refl w g none); clear hI; have HB := A_ hB; clear hB; unfold spec_l1PickInt.f at h; have H := h; clear h; replace H := bA_ H; obtain ⟨⟨t369, t370, t371⟩, A3, H⟩ := H; dsimp only at H
 by_cases c4 : 0 ≤ t369
 ·rw [if_pos c4] at H; have c4b0 := decide_eq_true c4; clear c4
  by_cases c5 : t369 < (l1.length : Int)
  ·rw [if_pos c5] at H; have c5b0 := decide_eq_true c5; clear c5; simp only [Option.some.injEq, Prod.mk.injEq] at H; obtain ⟨rfl, rfl, rfl⟩ := H; go_enter Tryz.func65, Tryz.ntmps65
   go_wp2_with (first | ((with_reducible refine gc_ 33 rfl ?_); refine cL_ E33 9 rfl rfl rfl (spec_l1Below.calls g s0_0 s0_1 s0_2 (l1.length : Int) t369 t370 t371 w0 _ HI0.out HB.out A3.out) (by simp only [mA, mB, mC]; rfl) ?_; rintro e w6 ⟨rfl, hi, hb, hk⟩; refine ⟨_, rfl, ?_⟩; replace HK := kt_ HK hk; replace HB := A_ (hb); replace HI0 := A_ (hi); clear hb hk hi; have p372 : 0 ≤ (t369 : Int) := od_ (by assumption); have q372 : t369 < (l1.length : Int) := od_ (by assumption); obtain ⟨ad372, e372, hx372_0⟩ := Kd.at_int HR1.out t369 p372 q372; cases e372; replace hx372_0 := keep_cell HK.out hx372_0 (by first | (rw [add_block]; exact hf1 _ rfl (by omega)) | exact hf1 _ rfl (by omega) | exact hf1 ad372 rfl (by omega)); replace p372 := eq_true p372; replace q372 := eq_true q372))
   go_ret
   exact ⟨by rfl, HI0.out, HB.out, HK.out⟩
  rw [if_neg c5] at H
  cases H
 rw [if_neg c4] at H
 cases H
theorem S_toN {α : Type} {d : Kd α} {e base : Nat} {w : World} {ok : Nat → Prop} {v : Value} {xs : List α} (h : Kd.S d e w base ok v xs) : Kd.N d e w base (fun k_ => base ≤ k_) v xs := Kd.N_mono (Kd.R_N (Kd.S_R (Kd.S_bound h))) (fun _ hk => hk.2.1)
mutual
def spec_l7Morphism.l0 : Nat → Int → Int → List Int → Int → Int → List (List Int) → Option ((List (List Int)) × Int × Int)
 | 0, _, _, _, _, _, _ => none
 | k + 1, x3, x5, x1000, x1001, x1002, x381000 => if x5 < x3 then ((spec_l1Below.f x1000 x1001 x1002 4).bind fun bt384 => (spec_l7Morphism.l1 k x3 x5 (([] : List Int)) bt384.1 x1000 bt384.2.1 bt384.2.2 x381000)) else ((spec_l1Once.f x1000 x1001 x1002 12).bind fun bt396 => (if bt396.1 = true then (if 0 < (x381000.length : Int) then ((spec_l1PickInt.f x1000 bt396.2.1 bt396.2.2 (([(-1), 4, 0] : List Int))).bind fun bt403 => (if (rd_L2 x381000 0).length < 17592186044416 then (some ((x381000.set (0 : Int).toNat ((rd_L2 x381000 0) ++ [bt403.1])), bt403.2.1, bt403.2.2)) else (none))) else (none)) else (some (x381000, bt396.2.1, bt396.2.2))))
def spec_l7Morphism.l1 : Nat → Int → Int → List Int → Int → List Int → Int → Int → List (List Int) → Option ((List (List Int)) × Int × Int)
 | 0, _, _, _, _, _, _, _, _ => none
 | k + 1, x3, x5, x6, x7, x1000, x1001, x1002, x381000 => if x7 > 0 then ((spec_l1Below.f x1000 x1001 x1002 x3).bind fun bt387 => (if x6.length < 17592186044416 then (spec_l7Morphism.l1 k x3 x5 (x6 ++ [bt387.1]) (wrap64 (x7 - 1)) x1000 bt387.2.1 bt387.2.2 x381000) else (none))) else (if x381000.length < 5864062014805 then (spec_l7Morphism.l0 k x3 (wrap64 (x5 + 1)) x1000 x1001 x1002 (x381000 ++ [x6])) else (none))
end
def spec_l7Morphism.f (k : Nat) (s0_0 : List Int) (s0_1 : Int) (s0_2 : Int) : Option ((List (List Int)) × Int × Int) := (spec_l1Below.f s0_0 s0_1 s0_2 5).bind fun bt411 => (if bt411.1 = 0 then (some ((([(([0, 1] : List Int)), (([1, 0] : List Int))] : List (List Int))), bt411.2.1, bt411.2.2)) else (if bt411.1 = 1 then (some ((([(([0, 1] : List Int)), (([0] : List Int))] : List (List Int))), bt411.2.1, bt411.2.2)) else (if bt411.1 = 2 then (some ((([(([0, 1, 2] : List Int)), (([0, 2] : List Int)), (([1] : List Int))] : List (List Int))), bt411.2.1, bt411.2.2)) else ((spec_l1Below.f s0_0 bt411.2.1 bt411.2.2 3).bind fun bt444 => (spec_l7Morphism.l0 k (wrap64 (1 + bt444.1)) 0 s0_0 bt444.2.1 bt444.2.2 ([] : List (List Int)))))))
def spec_l7Morphism.T20 : Bool × List (List Nat × List Nat) := (true, [([], []), ([0], [0]), ([], []), ([2], [2]), ([3], [3]), ([4], [4]), ([], []), ([], []), ([6, 7], [6, 7]), ([8], [8]), ([5, 9, 8], [5, 9]), ([1, 0, 1, 2, 3, 4, 5, 6, 7, 8, 9, 10], [1]), ([11, 10, 10, 0, 1, 2, 3, 4, 5, 6, 7, 8, 9, 10], [10, 11])])
def spec_l7Morphism.B20 : List Nat := [0, 1, 0, 4, 12, 28, 0, 0, 192, 448, 1020, 2047, 4095]
theorem spec_l7Morphism.tab20 : rtab .any (opsOf Tryz.f74 20) = spec_l7Morphism.T20 := by kernel_rfl
theorem spec_l7Morphism.bits20 : waitsOk spec_l7Morphism.T20.2 spec_l7Morphism.B20 = true := by kernel_rfl
theorem spec_l7Morphism.calls (k : Nat) (g : Nat) (s0_0 : List Int) (s0_1 : Int) (s0_2 : Int) (r1 : List (List Int)) (r2 : Int) (r3 : Int) (w0 w : World) (hI : IsS57 w0 w g s0_0 s0_1 s0_2) (hB : Below w0.heap.size w0 w) (h : spec_l7Morphism.f k s0_0 s0_1 s0_2 = some (r1, r2, r3)) :
  Calls Tryz.prog 74 #[.pointer (some ⟨g, 0, none⟩)] w fun e w' => ∃ v0_ : Value, e = .returned (.agg #[v0_]) ∧ Kd.N (Kd.slice 3 (Kd.int .i64)) 24 w' w.heap.size (fun k_ => (w.heap.size ≤ k_)) v0_ r1 ∧ IsS57 w0 w' g s0_0 r2 r3 ∧ Below w0.heap.size w0 w' ∧ KeepBut w w' g none := by
 have HI0 := A_ hI; have HK := A_ (KeepBut.refl w g none); have HL := A_ hB.size; clear hI; have HW0 := A_ hB.size; have HB := A_ hB; clear hB; unfold spec_l7Morphism.f at h; have H := h; clear h; replace H := bA_ H; obtain ⟨⟨t411, t412, t413⟩, A2, H⟩ := H; dsimp only at H
 by_cases c3 : t411 = 0
 ·rw [if_pos c3] at H
  have c3b0 : (t411 == 0) = true := beq_iff_eq.mpr c3
  clear c3; obtain ⟨y414, hy414⟩ := ex_ ((([0, 1] : List Int)) : List Int); replace H : (some ((([y414, (([1, 0] : List Int))] : List (List Int))), t412, t413)) = some (r1, r2, r3) := by (rw [hy414]; with_reducible exact H)
  have Ny414 := A_ hy414; clear hy414; obtain ⟨y417, hy417⟩ := ex_ ((([1, 0] : List Int)) : List Int); replace H : (some ((([y414, y417] : List (List Int))), t412, t413)) = some (r1, r2, r3) := by (rw [hy417]; with_reducible exact H)
  have Ny417 := A_ hy417; clear hy417; obtain ⟨y420, hy420⟩ := ex_ ((([y414, y417] : List (List Int))) : List (List Int)); replace H : (some (y420, t412, t413)) = some (r1, r2, r3) := by (rw [hy420]; with_reducible exact H)
  have Ny420 := A_ hy420; clear hy420; simp only [Option.some.injEq, Prod.mk.injEq] at H; obtain ⟨rfl, rfl, rfl⟩ := H; go_enter Tryz.func74, Tryz.ntmps74
  go_wp2_with (first | ((with_reducible refine gate_dst (N := 2) rfl ?_); refine box_event ?hg (N := 2) ?hd (cs := #[.slice none 0 0]) (t := 80) ?hr ?_; (case hd | hg => rfl); (case hr => go_simp; done); intro gb410 hg w4 hbox hb; replace HB := bs_ HB hb; have BK410 := A_ (hbox); have GW410 := A_ (lg_ (keep_size HK.out) hg); have GE410 := A_ (Nat.le_trans HW0.out (lg_ (keep_size HK.out) hg)); replace HK := kb_ HK hb; have NB0_410 := A_ (ln_ (IsS57.lt HI0.out) hg); have NB410_0 := A_ (Ne.symm (ln_ (IsS57.lt HI0.out) hg)); replace HI0 := A_ (IsS57.below HI0.out hb); clear hb hbox hg) | ((with_reducible refine gc_ 33 rfl ?_); refine cL_ E33 9 rfl rfl rfl (spec_l1Below.calls g s0_0 s0_1 s0_2 5 t411 t412 t413 w0 _ HI0.out HB.out A2.out) (by simp only [mA, mB, mC]; rfl) ?_; rintro e w5 ⟨rfl, hi, hb, hk⟩; refine ⟨_, rfl, ?_⟩; replace BK410 := A_ (KeepBut.blk hk BK410.out NB410_0.out (by simp)); replace HK := kt_ HK hk; replace HB := A_ (hb); replace HI0 := A_ (hi); clear hb hk; (try clear hi)) | ((with_reducible refine gd_ 12 rfl ?_); refine RL_ 12 3 [0, 1] [.int .i64 0, .int .i64 1] rfl rfl (by go_simp; done) rfl rfl ?_; rintro v415 w6 ho7 hb - -; (rw [← Ny414.out] at ho7); have HO416 := A_ (Kd.R_lower (Kd.R_newM (M := fun k_ => (w.heap.size ≤ k_)) ho7 (keep_size HK.out) (fun k_ h_ => h_)) (keep_size HK.out)); replace HI0 := A_ (IsS57.below HI0.out hb); replace BK410 := bb_ BK410 hb; replace HK := kb_ HK hb; replace HB := bs_ HB hb; clear hb ho7) | ((with_reducible refine gd_ 13 rfl ?_); refine RL_ 13 3 [1, 0] [.int .i64 1, .int .i64 0] rfl rfl (by go_simp; done) rfl rfl ?_; rintro v418 w8 ho9 hb - -; (rw [← Ny417.out] at ho9); have HO419 := A_ (Kd.R_lower (Kd.R_new' (Kd.R_newM (M := fun k_ => (w.heap.size ≤ k_)) ho9 (keep_size HK.out) (fun k_ h_ => h_)) (Kd.R_lt HO416.out)) (keep_size HK.out)); replace HO416 := A_ (Kd.R_elder' HO416.out (Kd.R_base ho9) hb); replace HI0 := A_ (IsS57.below HI0.out hb); replace BK410 := bb_ BK410 hb; replace HK := kb_ HK hb; replace HB := bs_ HB hb; clear hb ho9; obtain ⟨Ao10, co10, eo10⟩ := Kd.R_slice HO416.out; subst eo10; obtain ⟨Ao11, co11, eo11⟩ := Kd.R_slice HO419.out; subst eo11) | ((with_reducible refine gate_dst (N := 14) rfl ?_); refine Kd.N_lit (Kd.slice 3 (Kd.int .i64)) _ 24 ?hg (N' := 14) ?hd (xs := ([y414, y417] : List (List Int))) (inner := [.slice Ao10 y414.length co10, .slice Ao11 y417.length co11]) (ok := (fun k_ => (w.heap.size ≤ k_) ∧ k_ ≠ gb410 ∧ k_ ≠ g)) (okp := (fun k_ => (w.heap.size ≤ k_) ∧ k_ ≠ gb410 ∧ k_ ≠ g)) ?hr ?hp (fun _ hk => hk) ((show ∀ k_, w8.heap.size ≤ k_ → (fun k_ => (w.heap.size ≤ k_) ∧ k_ ≠ gb410 ∧ k_ ≠ g) k_ from fun k_ hk => ⟨(Nat.le_trans (keep_size HK.out) hk), Kd.freshB BK410.out k_ hk, IsS57.fresh HI0.out k_ hk⟩) _ (Nat.le_refl _)) (Below.refl _ _) (Nat.le_refl _) (by simp) ?_; (case hd | hg => rfl); (case hr => go_simp; done); (case hp => exact (Reps.one (show Kd.FK (Kd.slice 3 (Kd.int .i64)) _ _ y414 [.slice Ao10 y414.length co10] from (Kd.FK_slice_mk (Kd.R_reads' (Kd.R_mono (ok' := (fun k_ => (w.heap.size ≤ k_) ∧ k_ ≠ gb410 ∧ k_ ≠ g)) (IsS57.apart HI0.out (Kd.R_types (HO416.out) BK410.out (by decide)) (by decide)) (fun k_ hk => ⟨hk.1.1.1.1, ⟨hk.1.2, hk.2⟩⟩))).2.1 (Kd.R_F (Kd.R_mono (ok' := (fun k_ => (w.heap.size ≤ k_) ∧ k_ ≠ gb410 ∧ k_ ≠ g)) (IsS57.apart HI0.out (Kd.R_types (HO416.out) BK410.out (by decide)) (by decide)) (fun k_ hk => ⟨hk.1.1.1.1, ⟨hk.1.2, hk.2⟩⟩))))) (Reps.one (show Kd.FK (Kd.slice 3 (Kd.int .i64)) _ _ y417 [.slice Ao11 y417.length co11] from (Kd.FK_slice_mk (Kd.R_reads' (Kd.R_mono (ok' := (fun k_ => (w.heap.size ≤ k_) ∧ k_ ≠ gb410 ∧ k_ ≠ g)) (IsS57.apart HI0.out (Kd.R_types (HO419.out) BK410.out (by decide)) (by decide)) (fun k_ hk => ⟨hk.1.1.1.1, ⟨hk.1.2, hk.2⟩⟩))).2.1 (Kd.R_F (Kd.R_mono (ok' := (fun k_ => (w.heap.size ≤ k_) ∧ k_ ≠ gb410 ∧ k_ ≠ g)) (IsS57.apart HI0.out (Kd.R_types (HO419.out) BK410.out (by decide)) (by decide)) (fun k_ hk => ⟨hk.1.1.1.1, ⟨hk.1.2, hk.2⟩⟩))))) (Reps.none _ _)))); rintro v421 w12 ho13 hb - -; (rw [← Ny420.out] at ho13); have HO422 := A_ (Kd.N_lower ho13 (keep_size HK.out)); replace HI0 := A_ (IsS57.below HI0.out hb); replace BK410 := bb_ BK410 hb; replace HK := kb_ HK hb; replace HB := bs_ HB hb; clear HO416 HO419; clear hb ho13; obtain ⟨Ao14, co14, eo14⟩ := Kd.N_slice HO422.out; subst eo14; have hcz16_0 := bz0 BK410.out; have hfz16_0 := blk_frozen BK410.out 0))
  refine bodyPost_ret (results_cell_row rfl _ _ gb410 80 #[.slice Ao14 y420.length co14] (0, 0) _ rfl (by refine blk_put (cs := #[.slice none 0 0]) ?_ 0 _ rfl; exact BK410.out) Tryz.underlying80 rfl (by kernel_rfl)) rfl ?_; exact ⟨_, by rfl, by exact Kd.N_mono (Kd.N_far (p := ⟨gb410, 0, none⟩) (Kd.N_mono HO422.out (fun k_ hk => (⟨hk, hk.2.1⟩ : _ ∧ k_ ≠ gb410))) (fun _ hk => hk.2) (.slice Ao14 y420.length co14)) (fun _ hk => hk.1.1), by repeat (first | (with_reducible first | exact HI0.out | apply IsS57.alloc | apply IsS57.drewN | apply IsS57.drew | apply IsS57.set_1 | apply IsS57.set_2 | refine IsS57.far ?_ NB0_410.out _) | exact HI0.out), by repeat (first | (with_reducible first | exact HB.out | apply below_alloc | apply pw_below_drewN | apply below_drew1 | refine below_set ?_ (IsS57.ge HI0.out) | refine below_set ?_ GE410.out) | exact HB.out), by repeat (first | (with_reducible first | exact HK.out | apply KeepBut.set_ | apply keep_drewN | apply keep_drew | apply keep_alloc | refine keep_far ?_ GW410.out _) | exact HK.out)⟩
 rw [if_neg c3] at H
 have c3b0 : (t411 == 0) = false := beq_eq_false_iff_ne.mpr c3
 have c3b1 : (t411 != 0) = true := bne_iff_ne.mpr c3
 by_cases c17 : t411 = 1
 ·rw [if_pos c17] at H
  have c17b0 : (t411 == 1) = true := beq_iff_eq.mpr c17
  clear c17; obtain ⟨y423, hy423⟩ := ex_ ((([0, 1] : List Int)) : List Int); replace H : (some ((([y423, (([0] : List Int))] : List (List Int))), t412, t413)) = some (r1, r2, r3) := by (rw [hy423]; with_reducible exact H)
  have Ny423 := A_ hy423; clear hy423; obtain ⟨y426, hy426⟩ := ex_ ((([0] : List Int)) : List Int); replace H : (some ((([y423, y426] : List (List Int))), t412, t413)) = some (r1, r2, r3) := by (rw [hy426]; with_reducible exact H)
  have Ny426 := A_ hy426; clear hy426; obtain ⟨y429, hy429⟩ := ex_ ((([y423, y426] : List (List Int))) : List (List Int)); replace H : (some (y429, t412, t413)) = some (r1, r2, r3) := by (rw [hy429]; with_reducible exact H)
  have Ny429 := A_ hy429; clear hy429; simp only [Option.some.injEq, Prod.mk.injEq] at H; obtain ⟨rfl, rfl, rfl⟩ := H; go_enter Tryz.func74, Tryz.ntmps74
  go_wp2_with (first | ((with_reducible refine gate_dst (N := 2) rfl ?_); refine box_event ?hg (N := 2) ?hd (cs := #[.slice none 0 0]) (t := 80) ?hr ?_; (case hd | hg => rfl); (case hr => go_simp; done); intro gb410 hg w18 hbox hb; replace HB := bs_ HB hb; have BK410 := A_ (hbox); have GW410 := A_ (lg_ (keep_size HK.out) hg); have GE410 := A_ (Nat.le_trans HW0.out (lg_ (keep_size HK.out) hg)); replace HK := kb_ HK hb; have NB0_410 := A_ (ln_ (IsS57.lt HI0.out) hg); have NB410_0 := A_ (Ne.symm (ln_ (IsS57.lt HI0.out) hg)); replace HI0 := A_ (IsS57.below HI0.out hb); clear hb hbox hg) | ((with_reducible refine gc_ 33 rfl ?_); refine cL_ E33 9 rfl rfl rfl (spec_l1Below.calls g s0_0 s0_1 s0_2 5 t411 t412 t413 w0 _ HI0.out HB.out A2.out) (by simp only [mA, mB, mC]; rfl) ?_; rintro e w19 ⟨rfl, hi, hb, hk⟩; refine ⟨_, rfl, ?_⟩; replace BK410 := A_ (KeepBut.blk hk BK410.out NB410_0.out (by simp)); replace HK := kt_ HK hk; replace HB := A_ (hb); replace HI0 := A_ (hi); clear hb hk; (try clear hi)) | ((with_reducible refine gd_ 18 rfl ?_); refine RL_ 18 3 [0, 1] [.int .i64 0, .int .i64 1] rfl rfl (by go_simp; done) rfl rfl ?_; rintro v424 w20 ho21 hb - -; (rw [← Ny423.out] at ho21); have HO425 := A_ (Kd.R_lower (Kd.R_newM (M := fun k_ => (w.heap.size ≤ k_)) ho21 (keep_size HK.out) (fun k_ h_ => h_)) (keep_size HK.out)); replace HI0 := A_ (IsS57.below HI0.out hb); replace BK410 := bb_ BK410 hb; replace HK := kb_ HK hb; replace HB := bs_ HB hb; clear hb ho21) | ((with_reducible refine gd_ 19 rfl ?_); refine RL_ 19 3 [0] [.int .i64 0] rfl rfl (by go_simp; done) rfl rfl ?_; rintro v427 w22 ho23 hb - -; (rw [← Ny426.out] at ho23); have HO428 := A_ (Kd.R_lower (Kd.R_new' (Kd.R_newM (M := fun k_ => (w.heap.size ≤ k_)) ho23 (keep_size HK.out) (fun k_ h_ => h_)) (Kd.R_lt HO425.out)) (keep_size HK.out)); replace HO425 := A_ (Kd.R_elder' HO425.out (Kd.R_base ho23) hb); replace HI0 := A_ (IsS57.below HI0.out hb); replace BK410 := bb_ BK410 hb; replace HK := kb_ HK hb; replace HB := bs_ HB hb; clear hb ho23; obtain ⟨Ao24, co24, eo24⟩ := Kd.R_slice HO425.out; subst eo24; obtain ⟨Ao25, co25, eo25⟩ := Kd.R_slice HO428.out; subst eo25) | ((with_reducible refine gate_dst (N := 20) rfl ?_); refine Kd.N_lit (Kd.slice 3 (Kd.int .i64)) _ 24 ?hg (N' := 20) ?hd (xs := ([y423, y426] : List (List Int))) (inner := [.slice Ao24 y423.length co24, .slice Ao25 y426.length co25]) (ok := (fun k_ => (w.heap.size ≤ k_) ∧ k_ ≠ gb410 ∧ k_ ≠ g)) (okp := (fun k_ => (w.heap.size ≤ k_) ∧ k_ ≠ gb410 ∧ k_ ≠ g)) ?hr ?hp (fun _ hk => hk) ((show ∀ k_, w22.heap.size ≤ k_ → (fun k_ => (w.heap.size ≤ k_) ∧ k_ ≠ gb410 ∧ k_ ≠ g) k_ from fun k_ hk => ⟨(Nat.le_trans (keep_size HK.out) hk), Kd.freshB BK410.out k_ hk, IsS57.fresh HI0.out k_ hk⟩) _ (Nat.le_refl _)) (Below.refl _ _) (Nat.le_refl _) (by simp) ?_; (case hd | hg => rfl); (case hr => go_simp; done); (case hp => exact (Reps.one (show Kd.FK (Kd.slice 3 (Kd.int .i64)) _ _ y423 [.slice Ao24 y423.length co24] from (Kd.FK_slice_mk (Kd.R_reads' (Kd.R_mono (ok' := (fun k_ => (w.heap.size ≤ k_) ∧ k_ ≠ gb410 ∧ k_ ≠ g)) (IsS57.apart HI0.out (Kd.R_types (HO425.out) BK410.out (by decide)) (by decide)) (fun k_ hk => ⟨hk.1.1.1.1, ⟨hk.1.2, hk.2⟩⟩))).2.1 (Kd.R_F (Kd.R_mono (ok' := (fun k_ => (w.heap.size ≤ k_) ∧ k_ ≠ gb410 ∧ k_ ≠ g)) (IsS57.apart HI0.out (Kd.R_types (HO425.out) BK410.out (by decide)) (by decide)) (fun k_ hk => ⟨hk.1.1.1.1, ⟨hk.1.2, hk.2⟩⟩))))) (Reps.one (show Kd.FK (Kd.slice 3 (Kd.int .i64)) _ _ y426 [.slice Ao25 y426.length co25] from (Kd.FK_slice_mk (Kd.R_reads' (Kd.R_mono (ok' := (fun k_ => (w.heap.size ≤ k_) ∧ k_ ≠ gb410 ∧ k_ ≠ g)) (IsS57.apart HI0.out (Kd.R_types (HO428.out) BK410.out (by decide)) (by decide)) (fun k_ hk => ⟨hk.1.1.1.1, ⟨hk.1.2, hk.2⟩⟩))).2.1 (Kd.R_F (Kd.R_mono (ok' := (fun k_ => (w.heap.size ≤ k_) ∧ k_ ≠ gb410 ∧ k_ ≠ g)) (IsS57.apart HI0.out (Kd.R_types (HO428.out) BK410.out (by decide)) (by decide)) (fun k_ hk => ⟨hk.1.1.1.1, ⟨hk.1.2, hk.2⟩⟩))))) (Reps.none _ _)))); rintro v430 w26 ho27 hb - -; (rw [← Ny429.out] at ho27); have HO431 := A_ (Kd.N_lower ho27 (keep_size HK.out)); replace HI0 := A_ (IsS57.below HI0.out hb); replace BK410 := bb_ BK410 hb; replace HK := kb_ HK hb; replace HB := bs_ HB hb; clear HO425 HO428; clear hb ho27; obtain ⟨Ao28, co28, eo28⟩ := Kd.N_slice HO431.out; subst eo28; have hcz30_0 := bz0 BK410.out; have hfz30_0 := blk_frozen BK410.out 0))
  refine bodyPost_ret (results_cell_row rfl _ _ gb410 80 #[.slice Ao28 y429.length co28] (0, 0) _ rfl (by refine blk_put (cs := #[.slice none 0 0]) ?_ 0 _ rfl; exact BK410.out) Tryz.underlying80 rfl (by kernel_rfl)) rfl ?_; exact ⟨_, by rfl, by exact Kd.N_mono (Kd.N_far (p := ⟨gb410, 0, none⟩) (Kd.N_mono HO431.out (fun k_ hk => (⟨hk, hk.2.1⟩ : _ ∧ k_ ≠ gb410))) (fun _ hk => hk.2) (.slice Ao28 y429.length co28)) (fun _ hk => hk.1.1), by repeat (first | (with_reducible first | exact HI0.out | apply IsS57.alloc | apply IsS57.drewN | apply IsS57.drew | apply IsS57.set_1 | apply IsS57.set_2 | refine IsS57.far ?_ NB0_410.out _) | exact HI0.out), by repeat (first | (with_reducible first | exact HB.out | apply below_alloc | apply pw_below_drewN | apply below_drew1 | refine below_set ?_ (IsS57.ge HI0.out) | refine below_set ?_ GE410.out) | exact HB.out), by repeat (first | (with_reducible first | exact HK.out | apply KeepBut.set_ | apply keep_drewN | apply keep_drew | apply keep_alloc | refine keep_far ?_ GW410.out _) | exact HK.out)⟩
 rw [if_neg c17] at H
 have c17b0 : (t411 == 1) = false := beq_eq_false_iff_ne.mpr c17
 have c17b1 : (t411 != 1) = true := bne_iff_ne.mpr c17
 by_cases c31 : t411 = 2
 ·rw [if_pos c31] at H
  have c31b0 : (t411 == 2) = true := beq_iff_eq.mpr c31
  clear c31; obtain ⟨y432, hy432⟩ := ex_ ((([0, 1, 2] : List Int)) : List Int); replace H : (some ((([y432, (([0, 2] : List Int)), (([1] : List Int))] : List (List Int))), t412, t413)) = some (r1, r2, r3) := by (rw [hy432]; with_reducible exact H)
  have Ny432 := A_ hy432; clear hy432; obtain ⟨y435, hy435⟩ := ex_ ((([0, 2] : List Int)) : List Int); replace H : (some ((([y432, y435, (([1] : List Int))] : List (List Int))), t412, t413)) = some (r1, r2, r3) := by (rw [hy435]; with_reducible exact H)
  have Ny435 := A_ hy435; clear hy435; obtain ⟨y438, hy438⟩ := ex_ ((([1] : List Int)) : List Int); replace H : (some ((([y432, y435, y438] : List (List Int))), t412, t413)) = some (r1, r2, r3) := by (rw [hy438]; with_reducible exact H)
  have Ny438 := A_ hy438; clear hy438; obtain ⟨y441, hy441⟩ := ex_ ((([y432, y435, y438] : List (List Int))) : List (List Int)); replace H : (some (y441, t412, t413)) = some (r1, r2, r3) := by (rw [hy441]; with_reducible exact H)
  have Ny441 := A_ hy441; clear hy441; simp only [Option.some.injEq, Prod.mk.injEq] at H; obtain ⟨rfl, rfl, rfl⟩ := H; go_enter Tryz.func74, Tryz.ntmps74
  go_wp2_with (first | ((with_reducible refine gate_dst (N := 2) rfl ?_); refine box_event ?hg (N := 2) ?hd (cs := #[.slice none 0 0]) (t := 80) ?hr ?_; (case hd | hg => rfl); (case hr => go_simp; done); intro gb410 hg w32 hbox hb; replace HB := bs_ HB hb; have BK410 := A_ (hbox); have GW410 := A_ (lg_ (keep_size HK.out) hg); have GE410 := A_ (Nat.le_trans HW0.out (lg_ (keep_size HK.out) hg)); replace HK := kb_ HK hb; have NB0_410 := A_ (ln_ (IsS57.lt HI0.out) hg); have NB410_0 := A_ (Ne.symm (ln_ (IsS57.lt HI0.out) hg)); replace HI0 := A_ (IsS57.below HI0.out hb); clear hb hbox hg) | ((with_reducible refine gc_ 33 rfl ?_); refine cL_ E33 9 rfl rfl rfl (spec_l1Below.calls g s0_0 s0_1 s0_2 5 t411 t412 t413 w0 _ HI0.out HB.out A2.out) (by simp only [mA, mB, mC]; rfl) ?_; rintro e w33 ⟨rfl, hi, hb, hk⟩; refine ⟨_, rfl, ?_⟩; replace BK410 := A_ (KeepBut.blk hk BK410.out NB410_0.out (by simp)); replace HK := kt_ HK hk; replace HB := A_ (hb); replace HI0 := A_ (hi); clear hb hk; (try clear hi)) | ((with_reducible refine gd_ 24 rfl ?_); refine RL_ 24 3 [0, 1, 2] [.int .i64 0, .int .i64 1, .int .i64 2] rfl rfl (by go_simp; done) rfl rfl ?_; rintro v433 w34 ho35 hb - -; (rw [← Ny432.out] at ho35); have HO434 := A_ (Kd.R_lower (Kd.R_newM (M := fun k_ => (w.heap.size ≤ k_)) ho35 (keep_size HK.out) (fun k_ h_ => h_)) (keep_size HK.out)); replace HI0 := A_ (IsS57.below HI0.out hb); replace BK410 := bb_ BK410 hb; replace HK := kb_ HK hb; replace HB := bs_ HB hb; clear hb ho35) | ((with_reducible refine gd_ 25 rfl ?_); refine RL_ 25 3 [0, 2] [.int .i64 0, .int .i64 2] rfl rfl (by go_simp; done) rfl rfl ?_; rintro v436 w36 ho37 hb - -; (rw [← Ny435.out] at ho37); have HO437 := A_ (Kd.R_lower (Kd.R_new' (Kd.R_newM (M := fun k_ => (w.heap.size ≤ k_)) ho37 (keep_size HK.out) (fun k_ h_ => h_)) (Kd.R_lt HO434.out)) (keep_size HK.out)); replace HO434 := A_ (Kd.R_elder' HO434.out (Kd.R_base ho37) hb); replace HI0 := A_ (IsS57.below HI0.out hb); replace BK410 := bb_ BK410 hb; replace HK := kb_ HK hb; replace HB := bs_ HB hb; clear hb ho37) | ((with_reducible refine gd_ 26 rfl ?_); refine RL_ 26 3 [1] [.int .i64 1] rfl rfl (by go_simp; done) rfl rfl ?_; rintro v439 w38 ho39 hb - -; (rw [← Ny438.out] at ho39); have HO440 := A_ (Kd.R_lower (Kd.R_new' (Kd.R_new' (Kd.R_newM (M := fun k_ => (w.heap.size ≤ k_)) ho39 (keep_size HK.out) (fun k_ h_ => h_)) (Kd.R_lt HO434.out)) (Kd.R_lt HO437.out)) (keep_size HK.out)); replace HO434 := A_ (Kd.R_elder' HO434.out (Kd.R_base ho39) hb); replace HO437 := A_ (Kd.R_elder' HO437.out (Kd.R_base ho39) hb); replace HI0 := A_ (IsS57.below HI0.out hb); replace BK410 := bb_ BK410 hb; replace HK := kb_ HK hb; replace HB := bs_ HB hb; clear hb ho39; obtain ⟨Ao40, co40, eo40⟩ := Kd.R_slice HO434.out; subst eo40; obtain ⟨Ao41, co41, eo41⟩ := Kd.R_slice HO437.out; subst eo41; obtain ⟨Ao42, co42, eo42⟩ := Kd.R_slice HO440.out; subst eo42) | ((with_reducible refine gate_dst (N := 27) rfl ?_); refine Kd.N_lit (Kd.slice 3 (Kd.int .i64)) _ 24 ?hg (N' := 27) ?hd (xs := ([y432, y435, y438] : List (List Int))) (inner := [.slice Ao40 y432.length co40, .slice Ao41 y435.length co41, .slice Ao42 y438.length co42]) (ok := (fun k_ => (w.heap.size ≤ k_) ∧ k_ ≠ gb410 ∧ k_ ≠ g)) (okp := (fun k_ => (w.heap.size ≤ k_) ∧ k_ ≠ gb410 ∧ k_ ≠ g)) ?hr ?hp (fun _ hk => hk) ((show ∀ k_, w38.heap.size ≤ k_ → (fun k_ => (w.heap.size ≤ k_) ∧ k_ ≠ gb410 ∧ k_ ≠ g) k_ from fun k_ hk => ⟨(Nat.le_trans (keep_size HK.out) hk), Kd.freshB BK410.out k_ hk, IsS57.fresh HI0.out k_ hk⟩) _ (Nat.le_refl _)) (Below.refl _ _) (Nat.le_refl _) (by simp) ?_; (case hd | hg => rfl); (case hr => go_simp; done); (case hp => exact (Reps.one (show Kd.FK (Kd.slice 3 (Kd.int .i64)) _ _ y432 [.slice Ao40 y432.length co40] from (Kd.FK_slice_mk (Kd.R_reads' (Kd.R_mono (ok' := (fun k_ => (w.heap.size ≤ k_) ∧ k_ ≠ gb410 ∧ k_ ≠ g)) (IsS57.apart HI0.out (Kd.R_types (HO434.out) BK410.out (by decide)) (by decide)) (fun k_ hk => ⟨hk.1.1.1.1.1, ⟨hk.1.2, hk.2⟩⟩))).2.1 (Kd.R_F (Kd.R_mono (ok' := (fun k_ => (w.heap.size ≤ k_) ∧ k_ ≠ gb410 ∧ k_ ≠ g)) (IsS57.apart HI0.out (Kd.R_types (HO434.out) BK410.out (by decide)) (by decide)) (fun k_ hk => ⟨hk.1.1.1.1.1, ⟨hk.1.2, hk.2⟩⟩))))) (Reps.one (show Kd.FK (Kd.slice 3 (Kd.int .i64)) _ _ y435 [.slice Ao41 y435.length co41] from (Kd.FK_slice_mk (Kd.R_reads' (Kd.R_mono (ok' := (fun k_ => (w.heap.size ≤ k_) ∧ k_ ≠ gb410 ∧ k_ ≠ g)) (IsS57.apart HI0.out (Kd.R_types (HO437.out) BK410.out (by decide)) (by decide)) (fun k_ hk => ⟨hk.1.1.1.1.1, ⟨hk.1.2, hk.2⟩⟩))).2.1 (Kd.R_F (Kd.R_mono (ok' := (fun k_ => (w.heap.size ≤ k_) ∧ k_ ≠ gb410 ∧ k_ ≠ g)) (IsS57.apart HI0.out (Kd.R_types (HO437.out) BK410.out (by decide)) (by decide)) (fun k_ hk => ⟨hk.1.1.1.1.1, ⟨hk.1.2, hk.2⟩⟩))))) (Reps.one (show Kd.FK (Kd.slice 3 (Kd.int .i64)) _ _ y438 [.slice Ao42 y438.length co42] from (Kd.FK_slice_mk (Kd.R_reads' (Kd.R_mono (ok' := (fun k_ => (w.heap.size ≤ k_) ∧ k_ ≠ gb410 ∧ k_ ≠ g)) (IsS57.apart HI0.out (Kd.R_types (HO440.out) BK410.out (by decide)) (by decide)) (fun k_ hk => ⟨hk.1.1.1.1.1, ⟨hk.1.2, hk.2⟩⟩))).2.1 (Kd.R_F (Kd.R_mono (ok' := (fun k_ => (w.heap.size ≤ k_) ∧ k_ ≠ gb410 ∧ k_ ≠ g)) (IsS57.apart HI0.out (Kd.R_types (HO440.out) BK410.out (by decide)) (by decide)) (fun k_ hk => ⟨hk.1.1.1.1.1, ⟨hk.1.2, hk.2⟩⟩))))) (Reps.none _ _))))); rintro v442 w43 ho44 hb - -; (rw [← Ny441.out] at ho44); have HO443 := A_ (Kd.N_lower ho44 (keep_size HK.out)); replace HI0 := A_ (IsS57.below HI0.out hb); replace BK410 := bb_ BK410 hb; replace HK := kb_ HK hb; replace HB := bs_ HB hb; clear HO434 HO437 HO440; clear hb ho44; obtain ⟨Ao45, co45, eo45⟩ := Kd.N_slice HO443.out; subst eo45; have hcz47_0 := bz0 BK410.out; have hfz47_0 := blk_frozen BK410.out 0))
  refine bodyPost_ret (results_cell_row rfl _ _ gb410 80 #[.slice Ao45 y441.length co45] (0, 0) _ rfl (by refine blk_put (cs := #[.slice none 0 0]) ?_ 0 _ rfl; exact BK410.out) Tryz.underlying80 rfl (by kernel_rfl)) rfl ?_; exact ⟨_, by rfl, by exact Kd.N_mono (Kd.N_far (p := ⟨gb410, 0, none⟩) (Kd.N_mono HO443.out (fun k_ hk => (⟨hk, hk.2.1⟩ : _ ∧ k_ ≠ gb410))) (fun _ hk => hk.2) (.slice Ao45 y441.length co45)) (fun _ hk => hk.1.1), by repeat (first | (with_reducible first | exact HI0.out | apply IsS57.alloc | apply IsS57.drewN | apply IsS57.drew | apply IsS57.set_1 | apply IsS57.set_2 | refine IsS57.far ?_ NB0_410.out _) | exact HI0.out), by repeat (first | (with_reducible first | exact HB.out | apply below_alloc | apply pw_below_drewN | apply below_drew1 | refine below_set ?_ (IsS57.ge HI0.out) | refine below_set ?_ GE410.out) | exact HB.out), by repeat (first | (with_reducible first | exact HK.out | apply KeepBut.set_ | apply keep_drewN | apply keep_drew | apply keep_alloc | refine keep_far ?_ GW410.out _) | exact HK.out)⟩
 rw [if_neg c31] at H
 have c31b0 : (t411 == 2) = false := beq_eq_false_iff_ne.mpr c31
 replace H := bA_ H; obtain ⟨⟨t377, t378, t379⟩, A12, H⟩ := H; dsimp only at H
 have H' := A_ H
 clear H; go_enter Tryz.func74, Tryz.ntmps74
 go_wp2_with (first | ((with_reducible refine gate_dst (N := 2) rfl ?_); refine box_event ?hg (N := 2) ?hd (cs := #[.slice none 0 0]) (t := 80) ?hr ?_; (case hd | hg => rfl); (case hr => go_simp; done); intro gb373 hg w13 hbox hb; replace HB := bs_ HB hb; have BK373 := A_ (hbox); have GW373 := A_ (lg_ (keep_size HK.out) hg); have GE373 := A_ (Nat.le_trans HW0.out (lg_ (keep_size HK.out) hg)); replace HK := kb_ HK hb; have NB0_373 := A_ (ln_ (IsS57.lt HI0.out) hg); have NB373_0 := A_ (Ne.symm (ln_ (IsS57.lt HI0.out) hg)); replace HI0 := A_ (IsS57.below HI0.out hb); clear hb hbox hg) | ((with_reducible refine gc_ 33 rfl ?_); refine cL_ E33 9 rfl rfl rfl (spec_l1Below.calls g s0_0 s0_1 s0_2 5 t411 t412 t413 w0 _ HI0.out HB.out A2.out) (by (try simp only [mA, mB, mC]); first | done | rfl | (simp only [List.length_drop, List.length_take]; rfl)) ?_; rintro e w14 ⟨rfl, hi, hb, hk⟩; refine ⟨_, rfl, ?_⟩; replace BK373 := A_ (KeepBut.blk hk BK373.out NB373_0.out (by simp)); replace HK := kt_ HK hk; replace HB := A_ (hb); replace HI0 := A_ (hi); clear hb hk; (try clear hi)) | ((with_reducible refine gc_ 33 rfl ?_); refine cL_ E33 30 rfl rfl rfl (spec_l1Below.calls g s0_0 t412 t413 3 t377 t378 t379 w0 _ HI0.out HB.out A12.out) (by simp only [mA, mB, mC]; rfl) ?_; rintro e w15 ⟨rfl, hi, hb, hk⟩; refine ⟨_, rfl, ?_⟩; replace BK373 := A_ (KeepBut.blk hk BK373.out NB373_0.out (by simp)); replace HK := kt_ HK hk; replace HB := A_ (hb); replace HI0 := A_ (hi); clear hb hk; (try clear hi)) | ((with_reducible refine gate_dst (N := 4) rfl ?_); refine box_event ?hg (N := 4) ?hd (cs := #[.slice none 0 0]) (t := 80) ?hr ?_; (case hd | hg => rfl); (case hr => go_simp; done); intro gb380 hg w16 hbox hb; replace HB := bs_ HB hb; have BK380 := A_ (hbox); have GW380 := A_ (lg_ (keep_size HK.out) hg); have GE380 := A_ (Nat.le_trans HW0.out (lg_ (keep_size HK.out) hg)); replace HK := kb_ HK hb; have NB373_380 := A_ ((by rw [hg]; exact Nat.ne_of_lt (blk_lt (g := gb373) (o := .cells #[.slice none 0 0] 80 (0, 0)) BK373.out) : gb373 ≠ gb380)); have NB380_373 := A_ ((by rw [hg]; exact Nat.ne_of_gt (blk_lt (g := gb373) (o := .cells #[.slice none 0 0] 80 (0, 0)) BK373.out) : gb380 ≠ gb373)); replace BK373 := bb_ BK373 hb; have NB0_380 := A_ (ln_ (IsS57.lt HI0.out) hg); have NB380_0 := A_ (Ne.symm (ln_ (IsS57.lt HI0.out) hg)); replace HI0 := A_ (IsS57.below HI0.out hb); clear hb hbox hg; have hcz19_0 := bz0 BK380.out; have hfz19_0 := blk_frozen BK380.out 0))
 go_loopg [5] k (fun kq v5 w' => ∃ (x5_1 : Int) (x1001_1 : Int) (x1002_1 : Int) (x381000_1 : List (List Int)) (u381000 : Value), v5 = .int .i64 x5_1 ∧ Aside0 (spec_l7Morphism.l0 kq (wrap64 (1 + t377)) x5_1 s0_0 x1001_1 x1002_1 x381000_1 = some (r1, r2, r3)) ∧ Aside0 (kq ≤ k) ∧ Aside0 (Kd.S (Kd.slice 3 (Kd.int .i64)) 24 w' w.heap.size (fun _ => True) u381000 x381000_1) ∧ Aside0 (w'.heap[gb373]? = some (.cells #[(.slice none 0 0)] 80 (0, 0))) ∧ Aside0 (w'.heap[gb380]? = some (.cells #[u381000] 80 (0, 0))) ∧ Aside0 (IsS57 w0 w' g s0_0 x1001_1 x1002_1) ∧ Aside0 (KeepBut w w' g none) ∧ Aside0 (Below w0.heap.size w0 w'))
 case atStart => exact ⟨(0), (t378), (t379), (([] : List (List Int))), (.slice none 0 0), (by rfl), H', ⟨Nat.le_refl _⟩, ⟨by exact Kd.S_nil _ _ _ _ _⟩, ⟨by refine blk_far ?_ NB373_380.out _; exact BK373.out⟩, ⟨by refine blk_put (cs := #[.slice none 0 0]) ?_ 0 _ rfl; exact BK380.out⟩, ⟨by repeat (first | (with_reducible first | exact HI0.out | apply IsS57.alloc | apply IsS57.drewN | apply IsS57.drew | apply IsS57.set_1 | apply IsS57.set_2 | refine IsS57.far ?_ NB0_373.out _ | refine IsS57.far ?_ NB0_380.out _) | exact HI0.out)⟩, ⟨by repeat (first | (with_reducible first | exact HK.out | apply KeepBut.set_ | apply keep_drewN | apply keep_drew | apply keep_alloc | refine keep_far ?_ GW373.out _ | refine keep_far ?_ GW380.out _) | exact HK.out)⟩, ⟨by repeat (first | (with_reducible first | exact HB.out | apply below_alloc | apply pw_below_drewN | apply below_drew1 | refine below_set ?_ (IsS57.ge HI0.out) | refine below_set ?_ GE373.out | refine below_set ?_ GE380.out) | exact HB.out)⟩⟩
 case round =>
  clear H'
  try clear c3
  try skip
  try skip
  try clear c17
  try skip
  try skip
  obtain ⟨x5_1, x1001_1, x1002_1, x381000_1, u381000, rfl, HA, HK1, HO_381000, BK373, BK380, HI0, HK, HB⟩ := hrel
  cases gk with
  | zero => exact absurd HA.out (by simp [spec_l7Morphism.l0])
  | succ k1 =>
   have H := HA.out; clear HA; simp only [spec_l7Morphism.l0] at H
   by_cases c20 : x5_1 < (wrap64 (1 + t377))
   ·rw [if_pos c20] at H; have c20b0 := decide_eq_true c20; clear c20; obtain ⟨y381, hy381⟩ := ex_ ((([] : List Int)) : List Int); replace H : ((spec_l1Below.f s0_0 x1001_1 x1002_1 4).bind fun bt384 => (spec_l7Morphism.l1 k1 (wrap64 (1 + t377)) x5_1 y381 bt384.1 s0_0 bt384.2.1 bt384.2.2 x381000_1)) = some (r1, r2, r3) := by (rw [hy381]; with_reducible exact H)
    have Ny381 := A_ hy381; clear hy381; replace H := bA_ H; obtain ⟨⟨t384, t385, t386⟩, A21, H⟩ := H; dsimp only at H
    have H' := A_ H
    clear H
    go_wp2_with (first | ((with_reducible refine gd_ 38 rfl ?_); refine RL_ 38 3 [] [] rfl rfl (by go_simp; done) rfl rfl ?_; rintro v382 w22 ho23 hb - -; (rw [← Ny381.out] at ho23); replace HO_381000 := A_ (Kd.S_elder' HO_381000.out (Kd.R_base ho23) hb); have HO383 := A_ (Kd.R_lower ho23 (keep_size HK.out)); replace BK373 := bb_ BK373 hb; replace BK380 := bb_ BK380 hb; replace HI0 := A_ (IsS57.below HI0.out hb); replace HK := kb_ HK hb; replace HB := bs_ HB hb; clear hb ho23) | ((with_reducible refine gc_ 33 rfl ?_); refine cL_ E33 40 rfl rfl rfl (spec_l1Below.calls g s0_0 x1001_1 x1002_1 4 t384 t385 t386 w0 _ HI0.out HB.out A21.out) (by simp only [mA, mB, mC]; rfl) ?_; rintro e w24 ⟨rfl, hi, hb, hk⟩; refine ⟨_, rfl, ?_⟩; replace HO_381000 := A_ (Kd.S_mono (Kd.S_keep (IsS57.apartS HI0.out HO_381000.out (by decide)) hk (fun _ h => h.2)) (fun _ h => h.1)); replace BK373 := A_ (KeepBut.blk hk BK373.out NB373_0.out (by simp)); replace BK380 := A_ (KeepBut.blk hk BK380.out NB380_0.out (by simp)); replace HO383 := A_ (Kd.R_mono (Kd.R_keep (IsS57.apart HI0.out HO383.out (by decide)) hk (fun _ h => h.2)) (fun _ h => h.1)); replace HK := kt_ HK hk; replace HB := A_ (hb); replace HI0 := A_ (hi); clear hb hk; (try clear hi)))
    go_loopg [6, 7] k1 (fun kq v6 v7 w' => ∃ (x6_2 : List Int) (x7_2 : Int) (x1001_2 : Int) (x1002_2 : Int), v7 = .int .i64 x7_2 ∧ Aside0 (spec_l7Morphism.l1 kq (wrap64 (1 + t377)) x5_1 x6_2 x7_2 s0_0 x1001_2 x1002_2 x381000_1 = some (r1, r2, r3)) ∧ Aside0 (kq ≤ k1) ∧ Aside0 (Kd.R (Kd.int .i64) 3 w' w.heap.size (fun _ => True) v6 x6_2) ∧ Aside0 (Kd.S (Kd.slice 3 (Kd.int .i64)) 24 w' w.heap.size (fun k_ => some k_ ≠ (v6 : Value).ownBlock) u381000 x381000_1) ∧ Aside0 (w'.heap[gb373]? = some (.cells #[(.slice none 0 0)] 80 (0, 0))) ∧ Aside0 (w'.heap[gb380]? = some (.cells #[u381000] 80 (0, 0))) ∧ Aside0 (IsS57 w0 w' g s0_0 x1001_2 x1002_2) ∧ Aside0 (KeepBut w w' g none) ∧ Aside0 (Below w0.heap.size w0 w'))
    case atStart => exact ⟨(y381), (t384), (t385), (t386), (by rfl), H', ⟨Nat.le_refl _⟩, ⟨HO383.out⟩, ⟨by exact Kd.S_mono HO_381000.out (fun _ hk => hk.2)⟩, ⟨BK373.out⟩, ⟨BK380.out⟩, ⟨HI0.out⟩, ⟨HK.out⟩, ⟨HB.out⟩⟩
    case round =>
     clear H'
     try skip
     obtain ⟨x6_2, x7_2, x1001_2, x1002_2, rfl, HA, HK2, HO_6, HO_381000, BK373, BK380, HI0, HK, HB⟩ := hrel
     cases gk with
     | zero => exact absurd HA.out (by simp [spec_l7Morphism.l1])
     | succ k2 =>
      have H := HA.out; clear HA; simp only [spec_l7Morphism.l1] at H
      by_cases c25 : x7_2 > 0
      ·rw [if_pos c25] at H
       have c25b0 : decide (0 < x7_2) = true := decide_eq_true c25
       clear c25; replace H := bA_ H; obtain ⟨⟨t387, t388, t389⟩, A26, H⟩ := H; dsimp only at H
       by_cases c27 : x6_2.length < 17592186044416
       ·rw [if_pos c27] at H; have LMc27 := A_ c27; clear c27; obtain ⟨y390, hy390⟩ := ex_ ((x6_2 ++ [t387]) : List Int); replace H : (spec_l7Morphism.l1 k2 (wrap64 (1 + t377)) x5_1 y390 (wrap64 (x7_2 - 1)) s0_0 t388 t389 x381000_1) = some (r1, r2, r3) := by (rw [hy390]; with_reducible exact H)
        have Ny390 := A_ hy390; clear hy390
        have H' := A_ H
        clear H
        go_wp2_with (first | ((with_reducible refine gc_ 33 rfl ?_); refine cL_ E33 48 rfl rfl rfl (spec_l1Below.calls g s0_0 x1001_2 x1002_2 (wrap64 (1 + t377)) t387 t388 t389 w0 _ HI0.out HB.out A26.out) (by simp only [mA, mB, mC]; rfl) ?_; rintro e w28 ⟨rfl, hi, hb, hk⟩; refine ⟨_, rfl, ?_⟩; replace HO_6 := A_ (Kd.R_mono (Kd.R_keep (IsS57.apart HI0.out HO_6.out (by decide)) hk (fun _ h => h.2)) (fun _ h => h.1)); replace HO_381000 := A_ (Kd.S_mono (Kd.S_keep (IsS57.apartS HI0.out HO_381000.out (by decide)) hk (fun _ h => h.2)) (fun _ h => h.1)); replace BK373 := A_ (KeepBut.blk hk BK373.out NB373_0.out (by simp)); replace BK380 := A_ (KeepBut.blk hk BK380.out NB380_0.out (by simp)); replace HK := kt_ HK hk; replace HB := A_ (hb); replace HI0 := A_ (hi); clear hb hk; (try clear hi)) | ((with_reducible refine gate_builtin (b := .append) (xs := #[.tmp 45, .tmp 49]) rfl ?_); at_builtin; refine Kd.R_append (Kd.int .i64) w.heap.size rfl (.tmp 45) (.tmp 49) 24 3 (.int .i64 0) 8 rfl Tryz.underlying24 info3 rfl (by decide) (by omega) u6 x6_2 t387 [.int .i64 t387] (fun _ => True) (fun _ => False) rfl rfl ?aP (fun _ hk => hk.elim) ?aF ?aO (Below.refl _ _) ?aS ?aL ?_; (case aP => exact rfl); (case aF => exact (fun _ _ => trivial)); (case aO => exact HO_6.out); (case aS => exact (keep_size HK.out)); (case aL => have := LMc27.out; omega); intro v391 w29 ho hb hg hat; rw [← Ny390.out] at ho; replace HO_381000 := A_ (Kd.S_after (ok := (fun _ => True)) (by exact Kd.S_mono HO_381000.out (fun _ hk => ⟨trivial, hk⟩)) hg hat); replace BK373 := A_ (blk_grown (g := gb373) (o := .cells #[.slice none 0 0] 80 (0, 0)) BK373.out hg (Kd.R_ne HO_6.out BK373.out (by decide))); replace BK380 := A_ (blk_grown (g := gb380) (o := .cells #[u381000] 80 (0, 0)) BK380.out hg (Kd.R_ne HO_6.out BK380.out (by decide))); replace HI0 := A_ (IsS57.grown HI0.out hg (IsS57.own_ne HI0.out HO_6.out (by decide))); replace HB := A_ (below_weaken HB.out HL.out hb); replace HK := A_ (KeepBut.trans HK.out (KeepBut.of_grown hg g) (Kd.R_base2 HO_6.out)); have HO392 := A_ (ho); clear HO_6; clear ho hb hg hat))
        go_roundg k2
        case measure => have := HK1.out; have := HK2.out; omega
        case rel => exact ⟨(y390), (wrap64 (x7_2 - 1)), (t388), (t389), (by rfl), H', ⟨by have := HK1.out; have := HK2.out; omega⟩, ⟨HO392.out⟩, ⟨by exact Kd.S_mono HO_381000.out (fun _ hk => hk.2)⟩, ⟨BK373.out⟩, ⟨BK380.out⟩, ⟨HI0.out⟩, ⟨HK.out⟩, ⟨HB.out⟩⟩
       rw [if_neg c27] at H
       cases H
      rw [if_neg c25] at H
      have c25b0 : decide (0 < x7_2) = false := decide_eq_false c25
      clear c25
      by_cases c30 : x381000_1.length < 5864062014805
      ·rw [if_pos c30] at H; have LMc30 := A_ c30; clear c30; obtain ⟨y393, hy393⟩ := ex_ ((x381000_1 ++ [x6_2]) : List (List Int)); replace H : (spec_l7Morphism.l0 k2 (wrap64 (1 + t377)) (wrap64 (x5_1 + 1)) s0_0 x1001_2 x1002_2 y393) = some (r1, r2, r3) := by (rw [hy393]; with_reducible exact H)
       have Ny393 := A_ hy393; clear hy393
       have H' := A_ H
       clear H; have hcz33_0 := bz0 BK380.out; obtain ⟨Ao35, co35, eo35⟩ := Kd.R_slice HO_6.out; subst eo35
       go_wp2_with (first | ((with_reducible refine gate_builtin (b := .append) (xs := #[.tmp 52, .tmp 54]) rfl ?_); at_builtin; refine Kd.S_append (Kd.slice 3 (Kd.int .i64)) w.heap.size rfl (.tmp 52) (.tmp 54) 47 24 (.slice none 0 0) 24 rfl Tryz.underlying47 info24 rfl (by decide) (by omega) u381000 x381000_1 x6_2 [.slice Ao35 x6_2.length co35] (fun _ => True) (fun k_ => some k_ = (.slice Ao35 x6_2.length co35 : Value).ownBlock) rfl rfl ?aP (fun k_ hk_ => ((Kd.R_mono (ok' := fun k_ => ((fun _ => True)) k_ ∧ some k_ ≠ (u381000 : Value).ownBlock) (Kd.R_apart' (HO_6.out) (Kd.S_typed HO_381000.out) (by decide)) (fun k_ hk => ⟨trivial, hk.2⟩))).1 k_ hk_.symm) ?aF ?aO (Below.refl _ _) ?aS ?aL ?_; (case aP => exact Kd.M_row (Kd.R_mono (Kd.R_tight rfl (Kd.R_mono (ok' := fun k_ => ((fun _ => True)) k_ ∧ some k_ ≠ (u381000 : Value).ownBlock) (Kd.R_apart' (HO_6.out) (Kd.S_typed HO_381000.out) (by decide)) (fun k_ hk => ⟨trivial, hk.2⟩))) (fun _ h_ => h_))); (case aF => exact (fun _ _ => trivial)); (case aO => exact (by exact Kd.S_mono HO_381000.out (fun k_ hk => ⟨trivial, fun e_ => hk e_⟩))); (case aS => exact (keep_size HK.out)); (case aL => have := LMc30.out; omega); intro v394 w34 ho hb hg hat; rw [← Ny393.out] at ho; replace BK373 := A_ (blk_grown (g := gb373) (o := .cells #[.slice none 0 0] 80 (0, 0)) BK373.out hg (Kd.S_ne HO_381000.out BK373.out (by decide))); replace BK380 := A_ (blk_grown (g := gb380) (o := .cells #[u381000] 80 (0, 0)) BK380.out hg (Kd.S_ne HO_381000.out BK380.out (by decide))); replace HI0 := A_ (IsS57.grown HI0.out hg (IsS57.own_neS HI0.out HO_381000.out (by decide))); replace HB := A_ (below_weaken HB.out HL.out hb); replace HK := A_ (KeepBut.trans HK.out (KeepBut.of_grown hg g) (Kd.S_base2 HO_381000.out)); have HO395 := A_ (ho); clear HO_381000 HO_6; clear ho hb hg hat; obtain ⟨Ao36, co36, eo36⟩ := Kd.S_slice HO395.out; subst eo36; have hcz37_0 := bz0 BK380.out; have hfz37_0 := blk_frozen BK380.out 0))
       go_roundg k2
       case measure => have := HK1.out; have := HK2.out; omega
       case rel => exact ⟨(wrap64 (x5_1 + 1)), (x1001_2), (x1002_2), (y393), (.slice Ao36 y393.length co36), (by rfl), H', ⟨by have := HK1.out; have := HK2.out; omega⟩, ⟨by exact Kd.S_mono (Kd.S_far (p := ⟨gb380, 0, none⟩) (Kd.S_types HO395.out BK380.out (by decide)) (fun _ hk => hk.2) (.slice Ao36 y393.length co36)) (fun _ hk => trivial)⟩, ⟨by refine blk_far ?_ NB373_380.out _; exact BK373.out⟩, ⟨by refine blk_put (cs := #[u381000]) ?_ 0 _ rfl; exact BK380.out⟩, ⟨by repeat (first | (with_reducible first | exact HI0.out | apply IsS57.alloc | apply IsS57.drewN | apply IsS57.drew | apply IsS57.set_1 | apply IsS57.set_2 | refine IsS57.far ?_ NB0_373.out _ | refine IsS57.far ?_ NB0_380.out _) | exact HI0.out)⟩, ⟨by repeat (first | (with_reducible first | exact HK.out | apply KeepBut.set_ | apply keep_drewN | apply keep_drew | apply keep_alloc | refine keep_far ?_ GW373.out _ | refine keep_far ?_ GW380.out _) | exact HK.out)⟩, ⟨by repeat (first | (with_reducible first | exact HB.out | apply below_alloc | apply pw_below_drewN | apply below_drew1 | refine below_set ?_ (IsS57.ge HI0.out) | refine below_set ?_ GE373.out | refine below_set ?_ GE380.out) | exact HB.out)⟩⟩
      rw [if_neg c30] at H
      cases H
   rw [if_neg c20] at H; have c20b0 := decide_eq_false c20; clear c20; replace H := bA_ H; obtain ⟨⟨t396, t397, t398⟩, A38, H⟩ := H; dsimp only at H
   by_cases c39 : t396 = true
   ·subst c39; rw [if_pos rfl] at H
    by_cases c40 : 0 < (x381000_1.length : Int)
    ·rw [if_pos c40] at H; have c40b0 := decide_eq_true c40
     clear c40; obtain ⟨y400, hy400⟩ := ex_ ((([(-1), 4, 0] : List Int)) : List Int); replace H : ((spec_l1PickInt.f s0_0 t397 t398 y400).bind fun bt403 => (if (rd_L2 x381000_1 0).length < 17592186044416 then (some ((x381000_1.set (0 : Int).toNat ((rd_L2 x381000_1 0) ++ [bt403.1])), bt403.2.1, bt403.2.2)) else (none))) = some (r1, r2, r3) := by (rw [hy400]; with_reducible exact H)
     have Ny400 := A_ hy400; clear hy400; replace H := bA_ H; obtain ⟨⟨t403, t404, t405⟩, A41, H⟩ := H; dsimp only at H
     by_cases c42 : (rd_L2 x381000_1 0).length < 17592186044416
     ·rw [if_pos c42] at H; have LMc42 := A_ c42; clear c42; obtain ⟨y406, hy406⟩ := ex_ (((rd_L2 x381000_1 0) ++ [t403]) : List Int); replace H : (some ((x381000_1.set (0 : Int).toNat y406), t404, t405)) = some (r1, r2, r3) := by (rw [hy406]; with_reducible exact H)
      have Ny406 := A_ hy406; clear hy406; obtain ⟨y409, hy409⟩ := ex_ ((x381000_1.set (0 : Int).toNat y406) : List (List Int)); replace H : (some (y409, t404, t405)) = some (r1, r2, r3) := by (rw [hy409]; with_reducible exact H)
      have Ny409 := A_ hy409; clear hy409; simp only [Option.some.injEq, Prod.mk.injEq] at H; obtain ⟨rfl, rfl, rfl⟩ := H
      try go_wp2_with (first | ((with_reducible refine gc_ 64 rfl ?_); refine cL_ E64 58 rfl rfl rfl (spec_l1Once.calls g s0_0 x1001_1 x1002_1 12 true t397 t398 w0 _ HI0.out HB.out A38.out) (by simp only [mA, mB, mC]; rfl) ?_; rintro e w44 ⟨rfl, hi, hb, hk⟩; refine ⟨_, rfl, ?_⟩; replace HO_381000 := A_ (Kd.S_mono (Kd.S_keep (IsS57.apartS HI0.out HO_381000.out (by decide)) hk (fun _ h => h.2)) (fun _ h => h.1)); replace BK373 := A_ (KeepBut.blk hk BK373.out NB373_0.out (by simp)); replace BK380 := A_ (KeepBut.blk hk BK380.out NB380_0.out (by simp)); replace HK := kt_ HK hk; replace HB := A_ (hb); replace HI0 := A_ (hi); clear hb hk; (try clear hi)))
      have n0_ := A_ (Kd.S_drew HO_381000.out); have n1_ := A_ (blk_drew BK373.out); have n2_ := A_ (blk_drew BK380.out); have n3_ := A_ (IsS57.drew HI0.out); have n4_ := A_ (keep_drew HK.out); have n5_ := A_ (below_drew1 HB.out); clear HO_381000 BK373 BK380 HI0 HK HB; have HO_381000 := n0_; have BK373 := n1_; have BK380 := n2_; have HI0 := n3_; have HK := n4_; have HB := n5_; clear n0_ n1_ n2_ n3_ n4_ n5_; obtain ⟨Ao46, co46, eo46⟩ := Kd.S_slice HO_381000.out
      (first | subst eo46 | (injection eo46 with f1_ f2_ f3_; have f4_ := f1_.symm; have f5_ := f3_.symm; clear f1_ f2_ f3_; subst f4_; subst f5_))
      have p399 : 0 ≤ (0 : Int) := (by omega)
      have q399 : 0 < (x381000_1.length : Int) := od_ (by assumption)
      obtain ⟨ad399, A399_0, c399_0, e399, hx399_0, hl399_0, hi399_0⟩ := at_L2 (Kd.S_reads' HO_381000.out).2.2 0 p399 q399
      cases e399
      obtain ⟨ce399, hce399, hMe399, hcc399⟩ := Kd.S_get HO_381000.out [] 0 p399 (by exact q399); obtain ⟨ve399_0, rfl, ge399_0⟩ := hMe399; have hv399_0 := hcc399 0 _ rfl; rw [Nat.add_zero, show ((Kd.slice 3 (Kd.int .i64))).sz = 1 from rfl, Nat.mul_one] at hv399_0; replace hv399_0 := Option.some.inj (hv399_0.symm.trans hx399_0); rw [hv399_0] at ge399_0; have HL399_0 := A_ (show Kd.R (Kd.int .i64) 3 _ _ _ _ (rd_L2 x381000_1 0) from ge399_0); clear hv399_0 ge399_0; have HX399_0 := A_ hx399_0; clear hcc399 hce399
      have qi399 : (0 < x381000_1.length) = True := eq_true (by omega)
      (try rw [show ((0 : Int)).toNat = 0 from rfl] at hx399_0)
      (try rw [Addr.add_zero'] at hx399_0)
      have HR399_0 := A_ hi399_0; clear hi399_0 hl399_0; replace p399 := eq_true p399; replace q399 := eq_true q399; refine start_ (n := 13) (S := fun w' => w'.cell? ⟨gb380, 0, none⟩ = some (.slice (some ad399) x381000_1.length co46) ∧ w'.cell? ad399 = some (.slice A399_0 (rd_L2 x381000_1 0).length c399_0)) (ds := [12]) (mk_ 13 0) (by kernel_rfl) rfl rfl ⟨(blk_cell BK380.out 0).trans rfl, hx399_0⟩ (fun hHeld => ?_); refine with_tabW spec_l7Morphism.tab20 spec_l7Morphism.bits20 (fun HT_ HW_ => ?_)
      generalize w44.drew = w45 at HO_381000 BK373 BK380 HI0 HK HB HL399_0 HR399_0 HX399_0 hx399_0 hHeld ⊢
      refine pv_ 0 59 (mk_ 13 1) rfl rfl HT_.out (by kernel_rfl) (fun _ _ _ h => h) (by rfl) (by intro w'; go_simp; with_reducible rfl) (by simp only [Act.put, mD, mE, mF, i64_w, i32_w]; rfl) ?_; refine pv_ 2 61 (mk_ 13 5) rfl rfl HT_.out (by kernel_rfl) (fun _ _ _ h => h) (by rfl) (by intro w'; go_simp; with_reducible rfl) (by simp only [Act.put, mD, mE, mF, i64_w, i32_w]; rfl) ?_; refine pv_ 6 65 (mk_ 13 69) rfl rfl HT_.out (by kernel_rfl) (fun _ _ _ h => h) (by rfl) (by intro w'; go_simp; with_reducible rfl) (by simp only [Act.put, mD, mE, mF, i64_w, i32_w]; rfl) ?_; refine take_ (i := 1) (N := some 60) (mk_ 13 71) rfl rfl (take_ofW HT_.out HW_.out (by kernel_rfl)) (fun _ _ _ h => h) (Or.inl ⟨by rfl, by rintro w' ⟨s0, s1⟩; go_simp; with_reducible rfl⟩) hHeld (by simp only [Act.put, mD, mE, mF, i64_w, i32_w]; rfl) ?_; refine take_ (i := 3) (N := some 62) (mk_ 13 79) rfl rfl (take_ofW HT_.out HW_.out (by kernel_rfl)) (fun _ _ _ h => h) (Or.inl ⟨by rfl, by rintro w' ⟨s0, s1⟩; go_simp; with_reducible rfl⟩) hHeld (by simp only [Act.put, mD, mE, mF, i64_w, i32_w]; rfl) ?_; refine pv_ 4 63 (mk_ 13 95) rfl rfl HT_.out (by kernel_rfl) (fun _ _ _ h => h) (by rfl) (by intro w'; go_simp; with_reducible rfl) (by simp only [Act.put, mD, mE, mF, i64_w, i32_w]; rfl) ?_; refine take_ (i := 5) (N := some 64) (mk_ 13 127) rfl rfl (take_ofW HT_.out HW_.out (by kernel_rfl)) (fun _ _ _ h => h) (Or.inl ⟨by rfl, by rintro w' ⟨s0, s1⟩; go_simp; with_reducible rfl⟩) hHeld (by simp only [Act.put, mD, mE, mF, i64_w, i32_w]; rfl) ?_; refine one_ (i := 7) (N := some 66) (mk_ 13 255) rfl rfl (one_of HT_.out (by kernel_rfl)) (by decide) (fun K hK => ?_); refine Kd.R_lit_step (Kd.int .i64) _ 3 ?hg (N := 66) ?hd (xs := ([(-1), 4, 0] : List Int)) (inner := [.int .i64 (-1), .int .i64 4, .int .i64 0]) (ok := fun _ => True) (okp := fun _ => True) ?hr ?hp (fun _ hk => hk) trivial (Below.refl _ _) (Nat.le_refl _) (by simp) ?_; (case hd | hg => rfl); (case hr => go_simp; done); (case hp => exact (Reps.one (show Kd.M (Kd.int .i64) _ _ _ (-1) [.int .i64 (-1)] from rfl) (Reps.one (show Kd.M (Kd.int .i64) _ _ _ 4 [.int .i64 4] from rfl) (Reps.one (show Kd.M (Kd.int .i64) _ _ _ 0 [.int .i64 0] from rfl) (Reps.none _ _))))); intro v401 w47 ho48 hb hg_ hnew_; have HS1_ := (hb.cell (World.block_lt_of_cell? _ _ (hHeld.2))).trans (hHeld.2); clear hg_ hnew_
      (rw [← Ny400.out] at ho48)
      have n0_ := A_ (Kd.S_elder' HO_381000.out (Kd.R_base ho48) hb); have n1_ := A_ (Kd.R_elder' HL399_0.out (Kd.R_base ho48) hb); have n2_ := A_ (Kd.R_lower (Kd.R_new' ho48 (Kd.R_lt HL399_0.out)) (keep_size HK.out)); have n3_ := bb_ BK373 hb; have n4_ := bb_ BK380 hb; have n5_ := A_ (IsS57.below HI0.out hb); have n6_ := A_ (Kd.C_below (by repeat (first | (with_reducible exact HR399_0.out) | (with_reducible refine Kd.C_alloc ?_ _) | (with_reducible refine Kd.C_drewN ?_ _) | (with_reducible refine Kd.C_drew ?_) | exact HR399_0.out)) hb); have n7_ := A_ (pw_cell_below hb HX399_0.out); have n8_ := kb_ HK hb; have n9_ := bs_ HB hb; clear HO_381000 HL399_0 BK373 BK380 HI0 HR399_0 HX399_0 HK HB; have HO_381000 := n0_; have HL399_0 := n1_; have HO402 := n2_; have BK373 := n3_; have BK380 := n4_; have HI0 := n5_; have HX399_0 := n7_; have HK := n8_; have HB := n9_; clear n0_ n1_ n2_ n3_ n4_ n5_ n6_ n7_ n8_ n9_ hb ho48; obtain ⟨Ao49, co49, eo49⟩ := Kd.R_slice HO402.out
      (first | subst eo49 | (injection eo49 with f1_ f2_ f3_; have f4_ := f1_.symm; have f5_ := f3_.symm; clear f1_ f2_ f3_; subst f4_; subst f5_))
      refine hK.out _ _ ⟨(blk_cell BK380.out 0).trans rfl, HS1_⟩ (fun hHeld => ?_); clear hK K; refine norm_ (by show Act.put _ (some 66) _ = _; simp only [Act.put, mD, mE, mF, i64_w, i32_w]; rfl) ?_; refine one_ (i := 8) (N := some 67) (mk_ 13 511) rfl rfl (one_of HT_.out (by kernel_rfl)) (by decide) (fun K hK => ?_); refine cS_ E65 rfl rfl rfl (spec_l1PickInt.calls g s0_0 t397 t398 _ _ y400 t403 t404 t405 w0 _ HI0.out HB.out ((Kd.R_reads' HO402.out).2.2) ((Kd.R_reads' HO402.out).2.1) (far_slice (IsS57.own_ne HI0.out HO402.out (by decide))) A41.out) (by simp only [mA, mB, mC]; rfl) ?_; rintro e w50 ⟨rfl, hi, hb, hk⟩; have HS1_ := keep_cell hk (hHeld.2) (by first | (rw [add_block]; exact Kd.own_blk (IsS57.own_neS HI0.out HO_381000.out (by decide))) | (show (Addr.add _ _).block ≠ _; rw [add_block]; exact Kd.own_blk (IsS57.own_neS HI0.out HO_381000.out (by decide))) | exact Kd.own_blk (IsS57.own_neS HI0.out HO_381000.out (by decide))); refine ⟨_, rfl, ?_⟩; have n0_ := A_ (Kd.S_mono (Kd.S_keep (IsS57.apartS HI0.out HO_381000.out (by decide)) hk (fun _ h => h.2)) (fun _ h => h.1)); have n1_ := A_ (KeepBut.blk hk BK373.out NB373_0.out (by simp)); have n2_ := A_ (KeepBut.blk hk BK380.out NB380_0.out (by simp)); have n3_ := A_ (Kd.R_mono (Kd.R_keep (IsS57.apart HI0.out HL399_0.out (by decide)) hk (fun _ h => h.2)) (fun _ h => h.1)); have n4_ := A_ (keep_cell hk HX399_0.out (by first | (rw [add_block]; exact Kd.own_blk (IsS57.own_neS HI0.out HO_381000.out (by decide))) | (show (Addr.add _ _).block ≠ _; rw [add_block]; exact Kd.own_blk (IsS57.own_neS HI0.out HO_381000.out (by decide))) | exact Kd.own_blk (IsS57.own_neS HI0.out HO_381000.out (by decide)) | (dsimp only; exact Kd.own_blk (IsS57.own_neS HI0.out HO_381000.out (by decide))))); have n5_ := A_ (Kd.R_mono (Kd.R_keep (IsS57.apart HI0.out HO402.out (by decide)) hk (fun _ h => h.2)) (fun _ h => h.1)); have n6_ := kt_ HK hk; have n7_ := A_ (hb); have n8_ := A_ (hi); clear HO_381000 BK373 BK380 HL399_0 HX399_0 HO402 HK HB HI0; have HO_381000 := n0_; have BK373 := n1_; have BK380 := n2_; have HL399_0 := n3_; have HX399_0 := n4_; have HO402 := n5_; have HK := n6_; have HB := n7_; have HI0 := n8_; clear n0_ n1_ n2_ n3_ n4_ n5_ n6_ n7_ n8_
      (try clear hb)
      (try clear hb2)
      (try clear hk)
      (try clear hi)
      have n_ := A_ (Kd.S_mono (ok' := (fun k_ => some k_ ≠ (.slice Ao49 y400.length co49 : Value).ownBlock)) HO_381000.out (fun k_ hk => hk.2)); clear HO_381000; have HO_381000 := n_; clear n_; obtain ⟨go51, co51, eo51, gb51, gl51, cl51, HG51⟩ := Kd.S_form HO_381000.out (by have h_ : (0 : Int) < ((x381000_1.length : Int) : Int) := od_ (by assumption); omega)
      (first | cases eo51 | (injection eo51 with ea_ en_ ec_; (first | subst ea_ | (injection ea_ with ea_; subst ea_)); subst ec_; clear en_))
      have GB51 := A_ gb51; clear gb51 gl51 HG51
      (first | simp only [add_plain] at hx399_0 | skip)
      obtain ⟨oki51, ce51, hcl51, hM51, hcc51, _, _, hH51⟩ := Kd.S_elem HO_381000.out [] (0 : Int) (by omega) (by have h_ : (0 : Int) < ((x381000_1.length : Int) : Int) := od_ (by assumption); first | exact h_ | (have e_ := (Kd.S_reads' HO_381000.out).1; omega) | simpa using h_); obtain ⟨ve51_0, rfl, ge51_0⟩ := hM51; have hv51 := hcc51 0 _ rfl; have hX51 := HX399_0.out
      (try simp only [add_plain] at hX51)
      (try simp only [Nat.add_zero] at hv51)
      (try rw [show ((Kd.slice 3 (Kd.int .i64))).sz = 1 from rfl, Nat.mul_one] at hv51)
      replace hv51 := Option.some.inj (hv51.symm.trans hX51); subst hv51; clear hX51 hcc51 hcl51; have UU51 := A_ (show Kd.R (Kd.int .i64) 3 _ w.heap.size oki51 (.slice A399_0 (rd_L2 x381000_1 0).length c399_0) (rd_L2 x381000_1 0) from ge51_0); have HH51 := A_ hH51; have HN51 := A_ (Kd.S_reads' HO_381000.out).1; clear hH51 ge51_0; refine hK.out _ _ ⟨(blk_cell BK380.out 0).trans rfl, HS1_⟩ (fun hHeld => ?_); clear hK K; refine norm_ (by show Act.put _ (some 67) _ = _; simp only [Act.put, mD, mE, mF, i64_w, i32_w]; rfl) ?_; refine one_ (i := 9) (N := some 68) (mk_ 13 1023) rfl rfl (one_of HT_.out (by kernel_rfl)) (by decide) (fun K hK => ?_); refine value_ (w1 := ?_) (v := ?_) (by rfl) rfl ?_ ?_; rotate_left 2
      ·go_simp
       constructor
       ·rfl
       rfl
      refine hK.out _ _ ⟨(blk_cell (blk_alloc BK380.out _) 0).trans rfl, (World.cell?_alloc_lt _ _ _ (World.block_lt_of_cell? _ _ (hHeld.2))).trans (hHeld.2)⟩ (fun hHeld => ?_); clear hK K; refine norm_ (by show Act.put _ (some 68) _ = _; simp only [Act.put, mD, mE, mF, i64_w, i32_w]; rfl) ?_; refine one_ (i := 10) (N := some 69) (mk_ 13 2047) rfl rfl (one_of HT_.out (by kernel_rfl)) (by decide) (fun K hK => ?_); refine Kd.R_append_step (Kd.int .i64) w.heap.size (by rfl) (.tmp 64) (.tmp 68) 24 3 (.int .i64 0) 8 rfl Tryz.underlying24 info3 rfl (by decide) (by omega) (.slice A399_0 (rd_L2 x381000_1 0).length c399_0) (rd_L2 x381000_1 0) t403 [.int .i64 t403] (fun k_ => oki51 k_ ∨ ((fun k_ => some k_ ≠ (.slice Ao49 y400.length co49 : Value).ownBlock)) k_ ∧ w50.heap.size ≤ k_) (fun _ => False) rfl rfl ?aP (fun _ hk => hk.elim) ?aF ?aO (Below.refl _ _) ?aS ?aL ?_
      (case aP => exact rfl)
      (case aF => exact (fun k_ hk => .inr ⟨Kd.fresh' (Kd.R_lt HO402.out) k_ hk, hk⟩))
      (case aO => exact (by exact Kd.R_mono UU51.out (fun _ hk => .inl hk)))
      (case aS => exact (keep_size HK.out))
      (case aL => have := LMc42.out; omega)
      intro v407 w52 ho hb hg hat
      (first | have HS1_ := YtmjlmjhccpedmaaGreatW.PrintWords.cell_grown hg (hHeld.2) (by first | (rw [add_block]; exact (fun e_ => ((HL399_0.out.1 _ e_.symm).1.2) rfl)) | (show some (Addr.add _ _).block ≠ _; rw [add_block]; exact (fun e_ => ((HL399_0.out.1 _ e_.symm).1.2) rfl)) | exact (fun e_ => ((HL399_0.out.1 _ e_.symm).1.2) rfl)) | have HS1_ := YtmjlmjhccpedmaaGreatW.PrintWords.cell_grown hg (cell_unalloc (hHeld.2) (by first | (rw [add_block]; exact Kd.S_lt HO_381000.out _ rfl) | (show (Addr.add _ _).block < _; rw [add_block]; exact Kd.S_lt HO_381000.out _ rfl) | exact Kd.S_lt HO_381000.out _ rfl)) (by first | (rw [add_block]; exact (fun e_ => ((HL399_0.out.1 _ e_.symm).1.2) rfl)) | (show some (Addr.add _ _).block ≠ _; rw [add_block]; exact (fun e_ => ((HL399_0.out.1 _ e_.symm).1.2) rfl)) | exact (fun e_ => ((HL399_0.out.1 _ e_.symm).1.2) rfl)))
      rw [← Ny406.out] at ho; have n0_ := A_ (blk_grown (g := gb373) (o := .cells #[.slice none 0 0] 80 (0, 0)) BK373.out hg (Kd.R_ne HL399_0.out BK373.out (by decide))); have n1_ := A_ (blk_grown (g := gb380) (o := .cells #[.slice (some ⟨go51, 0, none⟩) x381000_1.length co46] 80 (0, 0)) BK380.out hg (Kd.R_ne HL399_0.out BK380.out (by decide))); have n2_ := A_ (IsS57.grown HI0.out hg (IsS57.own_ne HI0.out HL399_0.out (by decide))); have n3_ := A_ (Kd.R_grown2 HO402.out rfl hg (fun k_ e_ => (HL399_0.out.1 k_ e_).2)); have n4_ := A_ (below_weaken HB.out HL.out hb); have n5_ := A_ (KeepBut.trans HK.out (KeepBut.of_grown hg g) (Kd.R_base2 HL399_0.out)); have n6_ := A_ (Kd.H_grown (Kd.H_widen (by repeat (first | exact HH51.out | refine Kd.H_alloc ?_ _ | refine Kd.H_drewN ?_ _ | refine Kd.H_drew ?_))) hg (fun k_ e_ => .inl (UU51.out.1 k_ e_))); have n7_ := A_ (ho); clear BK373 BK380 HI0 HO402 HB HK HH51 HO_381000 UU51 HL399_0; have BK373 := n0_; have BK380 := n1_; have HI0 := n2_; have HO402 := n3_; have HB := n4_; have HK := n5_; have HH51 := n6_; have HO408 := n7_; clear n0_ n1_ n2_ n3_ n4_ n5_ n6_ n7_ ho hb hg hat
      have p43 : 0 ≤ (0 : Int) := (by omega)
      have q43 : (0 : Int) < ((x381000_1.length : Int) : Int) := od_ (by assumption)
      replace p43 := eq_true p43; replace q43 := eq_true q43; obtain ⟨Ao55, co55, eo55⟩ := Kd.R_slice HO408.out
      (first | subst eo55 | (injection eo55 with f1_ f2_ f3_; have f4_ := f1_.symm; have f5_ := f3_.symm; clear f1_ f2_ f3_; subst f4_; subst f5_))
      obtain ⟨_, _, hraw53, _, _, hcc53, _⟩ := Kd.H_raw HH51.out (by omega) (by have h_ : (0 : Int) < ((x381000_1.length : Int) : Int) := od_ (by assumption); first | exact h_ | (have e_ := (HN51.out); omega) | simpa using h_); obtain ⟨_, hfr53⟩ := Kd.H_at HH51.out (by omega) (by have h_ : (0 : Int) < ((x381000_1.length : Int) : Int) := od_ (by assumption); first | exact h_ | (have e_ := (HN51.out); omega) | simpa using h_); have hx53_0 := hcc53 0 _ rfl; have hf53_0 := hfr53 0
      (try simp only [Nat.add_zero] at hx53_0 hf53_0)
      (try rw [show ((Kd.slice 3 (Kd.int .i64))).sz = 1 from rfl, Nat.mul_one] at hx53_0)
      (try rw [show ((Kd.slice 3 (Kd.int .i64))).sz = 1 from rfl, Nat.mul_one] at hf53_0)
      (try rw [show ((0 : Int)).toNat = 0 from rfl] at hx53_0)
      (try simp only [Nat.reduceMul, Nat.zero_mul, Nat.zero_add, Nat.reduceAdd] at hx53_0)
      (try rw [show ((0 : Int)).toNat = 0 from rfl] at hf53_0)
      (try simp only [Nat.reduceMul, Nat.zero_mul, Nat.zero_add, Nat.reduceAdd] at hf53_0)
      have HP53 := Kd.S_seg0 HH51.out (by omega) (by have h_ : (0 : Int) < ((x381000_1.length : Int) : Int) := od_ (by assumption); first | exact h_ | (have e_ := (HN51.out); omega) | simpa using h_) (seg := [.slice Ao55 y406.length co55]) (j := 0) (show 1 ≤ 1 from by decide) (x' := y406) (Kd.M_row HO408.out) (fun _ hk => hk)
      (try simp only [show ((Kd.slice 3 (Kd.int .i64))).sz = 1 from rfl, Nat.mul_one, Nat.add_zero] at HP53)
      clear hcc53 hfr53; have HN0_go51 := A_ (show g ≠ go51 from by have h_ := IsS57.own_ne HI0.out hraw53 (by decide); intro e_; exact h_ (by rw [e_]; rfl)); have HNB373_go51 := A_ (show gb373 ≠ go51 from by have h_ := Kd.R_ne hraw53 BK373.out (by decide); intro e_; exact h_ (by rw [e_]; rfl)); have HNB380_go51 := A_ (show gb380 ≠ go51 from by have h_ := Kd.R_ne hraw53 BK380.out (by decide); intro e_; exact h_ (by rw [e_]; rfl)); have HS53 := HP53.1; rw [← Ny409.out] at HS53; have HQ53 := A_ HS53; obtain ⟨_, hgg53⟩ := Kd.R_typed hraw53 go51 rfl; have GG53_ := A_ hgg53; clear HP53 HS53 hgg53; refine hK.out _ _ ⟨(blk_cell BK380.out 0).trans rfl, HS1_⟩ (fun hHeld => ?_); clear hK K; refine norm_ (by show Act.put _ (some 69) _ = _; simp only [Act.put, mD, mE, mF, i64_w, i32_w]; rfl) ?_; refine pv_ 11 70 (mk_ 13 4095) rfl rfl HT_.out (by kernel_rfl) (fun _ _ _ h => h) (by rfl) (by intro w'; go_simp; with_reducible rfl) (by simp only [Act.put, mD, mE, mF, i64_w, i32_w]; rfl) ?_; refine last_ (i := 12) (N := none) (mk_ 13 8191) rfl rfl (one_of HT_.out (by kernel_rfl)) (by decide) (fun K hK => ?_); refine skip_ (w1 := ?_) (by rfl) rfl ?_ ?_; rotate_left
      ·go_simp
       rfl
      refine hK.out _ _ ?_; clear hK K; refine done_ (done_of HT_.out (by kernel_rfl)) ?_
      have n0_ : Aside0 (Kd.R (Kd.int .i64) 3 (w52.setCell ⟨go51, 0, none⟩ (.slice Ao55 y406.length co55)) w.heap.size (fun _ => True) (.slice Ao49 y400.length co49) y400) := ⟨by exact Kd.R_mono (Kd.R_far (p := ⟨go51, 0, none⟩) (Kd.R_types HO402.out GG53_.out (by decide)) (fun _ hk => hk.2) (.slice Ao55 y406.length co55)) (fun _ hk => trivial)⟩
      have n1_ : Aside0 (Kd.S (Kd.slice 3 (Kd.int .i64)) 24 (w52.setCell ⟨go51, 0, none⟩ (.slice Ao55 y406.length co55)) w.heap.size (fun k_ => some k_ ≠ (.slice Ao49 y400.length co49 : Value).ownBlock) (.slice (some ⟨go51, 0, none⟩) x381000_1.length co46) y409) := ⟨HQ53.out⟩
      have n2_ : Aside0 ((w52.setCell ⟨go51, 0, none⟩ (.slice Ao55 y406.length co55)).heap[gb373]? = some (.cells #[.slice none 0 0] 80 (0, 0))) := ⟨by refine blk_far ?_ HNB373_go51.out _; exact BK373.out⟩
      have n3_ : Aside0 ((w52.setCell ⟨go51, 0, none⟩ (.slice Ao55 y406.length co55)).heap[gb380]? = some (.cells #[.slice (some ⟨go51, 0, none⟩) x381000_1.length co46] 80 (0, 0))) := ⟨by refine blk_far ?_ HNB380_go51.out _; exact BK380.out⟩
      have n4_ : Aside0 (IsS57 w0 (w52.setCell ⟨go51, 0, none⟩ (.slice Ao55 y406.length co55)) g s0_0 t404 t405) := ⟨by repeat (first | (with_reducible first | exact HI0.out | apply IsS57.alloc | apply IsS57.drewN | apply IsS57.drew | apply IsS57.set_1 | apply IsS57.set_2 | refine IsS57.far ?_ HN0_go51.out _ | refine IsS57.far ?_ NB0_373.out _ | refine IsS57.far ?_ NB0_380.out _) | exact HI0.out)⟩
      have n5_ : Aside0 (KeepBut w (w52.setCell ⟨go51, 0, none⟩ (.slice Ao55 y406.length co55)) g none) := ⟨by repeat (first | (with_reducible first | exact HK.out | apply KeepBut.set_ | apply keep_drewN | apply keep_drew | apply keep_alloc | refine keep_far ?_ GB51.out _ | refine keep_far ?_ GW373.out _ | refine keep_far ?_ GW380.out _) | exact HK.out)⟩
      have n6_ : Aside0 (Below w0.heap.size w0 (w52.setCell ⟨go51, 0, none⟩ (.slice Ao55 y406.length co55))) := ⟨by repeat (first | (with_reducible first | exact HB.out | apply below_alloc | apply pw_below_drewN | apply below_drew1 | refine below_set ?_ (Nat.le_trans HL.out GB51.out) | refine below_set ?_ (IsS57.ge HI0.out) | refine below_set ?_ GE373.out | refine below_set ?_ GE380.out) | exact HB.out)⟩
      (try clear HO402)
      (try clear HO_381000)
      (try clear BK373)
      (try clear BK380)
      (try clear HI0)
      (try clear HK)
      (try clear HB)
      generalize (w52.setCell ⟨go51, 0, none⟩ (.slice Ao55 y406.length co55)) = w56 at n0_ n1_ n2_ n3_ n4_ n5_ n6_ ⊢
      have HO_381000 := n1_; have BK373 := n2_; have BK380 := n3_; have HI0 := n4_; have HK := n5_; have HB := n6_; clear n0_ n1_ n2_ n3_ n4_ n5_ n6_; have hcz59_0 := bz0 BK380.out; have hcz61_0 := bz0 BK373.out; have hfz61_0 := blk_frozen BK373.out 0
      try go_wp2
      refine bodyPost_ret (results_cell_row rfl _ _ gb373 80 #[.slice (some ⟨go51, 0, none⟩) x381000_1.length co46] (0, 0) _ rfl (by refine blk_put (cs := #[.slice none 0 0]) ?_ 0 _ rfl; exact BK373.out) Tryz.underlying80 rfl (by kernel_rfl)) rfl ?_; exact ⟨_, by rfl, S_toN (by exact Kd.S_mono (Kd.S_far (p := ⟨gb373, 0, none⟩) (Kd.S_types HO_381000.out BK373.out (by decide)) (fun _ hk => hk.2) (.slice (some ⟨go51, 0, none⟩) x381000_1.length co46)) (fun _ hk => trivial)), by repeat (first | (with_reducible first | exact HI0.out | apply IsS57.alloc | apply IsS57.drewN | apply IsS57.drew | apply IsS57.set_1 | apply IsS57.set_2 | refine IsS57.far ?_ NB0_373.out _ | refine IsS57.far ?_ NB0_380.out _) | exact HI0.out), by repeat (first | (with_reducible first | exact HB.out | apply below_alloc | apply pw_below_drewN | apply below_drew1 | refine below_set ?_ (IsS57.ge HI0.out) | refine below_set ?_ GE373.out | refine below_set ?_ GE380.out) | exact HB.out), by repeat (first | (with_reducible first | exact HK.out | apply KeepBut.set_ | apply keep_drewN | apply keep_drew | apply keep_alloc | refine keep_far ?_ GW373.out _ | refine keep_far ?_ GW380.out _) | exact HK.out)⟩
     rw [if_neg c42] at H
     cases H
    rw [if_neg c40] at H
    cases H
   replace c39 := Bool.eq_false_iff.mpr c39; subst c39; rw [if_neg nf_] at H; simp only [Option.some.injEq, Prod.mk.injEq] at H; obtain ⟨rfl, rfl, rfl⟩ := H
   go_wp2_with (first | ((with_reducible refine gc_ 64 rfl ?_); refine cL_ E64 58 rfl rfl rfl (spec_l1Once.calls g s0_0 x1001_1 x1002_1 12 false t397 t398 w0 _ HI0.out HB.out A38.out) (by simp only [mA, mB, mC]; rfl) ?_; rintro e w62 ⟨rfl, hi, hb, hk⟩; refine ⟨_, rfl, ?_⟩; replace HO_381000 := A_ (Kd.S_mono (Kd.S_keep (IsS57.apartS HI0.out HO_381000.out (by decide)) hk (fun _ h => h.2)) (fun _ h => h.1)); replace BK373 := A_ (KeepBut.blk hk BK373.out NB373_0.out (by simp)); replace BK380 := A_ (KeepBut.blk hk BK380.out NB380_0.out (by simp)); replace HK := kt_ HK hk; replace HB := A_ (hb); replace HI0 := A_ (hi); clear hb hk hi; have hcz65_0 := bz0 BK380.out; obtain ⟨Ao66, co66, eo66⟩ := Kd.S_slice HO_381000.out; subst eo66; have hcz68_0 := bz0 BK373.out; have hfz68_0 := blk_frozen BK373.out 0))
   refine bodyPost_ret (results_cell_row rfl _ _ gb373 80 #[.slice Ao66 x381000_1.length co66] (0, 0) _ rfl (by refine blk_put (cs := #[.slice none 0 0]) ?_ 0 _ rfl; exact BK373.out) Tryz.underlying80 rfl (by kernel_rfl)) rfl ?_; exact ⟨_, by rfl, S_toN (by exact Kd.S_mono (Kd.S_far (p := ⟨gb373, 0, none⟩) (Kd.S_types HO_381000.out BK373.out (by decide)) (fun _ hk => hk.2) (.slice Ao66 x381000_1.length co66)) (fun _ hk => trivial)), by repeat (first | (with_reducible first | exact HI0.out | apply IsS57.alloc | apply IsS57.drewN | apply IsS57.drew | apply IsS57.set_1 | apply IsS57.set_2 | refine IsS57.far ?_ NB0_373.out _ | refine IsS57.far ?_ NB0_380.out _) | exact HI0.out), by repeat (first | (with_reducible first | exact HB.out | apply below_alloc | apply pw_below_drewN | apply below_drew1 | refine below_set ?_ (IsS57.ge HI0.out) | refine below_set ?_ GE373.out | refine below_set ?_ GE380.out) | exact HB.out), by repeat (first | (with_reducible first | exact HK.out | apply KeepBut.set_ | apply keep_drewN | apply keep_drew | apply keep_alloc | refine keep_far ?_ GW373.out _ | refine keep_far ?_ GW380.out _) | exact HK.out)⟩

def spec_IsWord.l0 : Nat → List Int → Int → Int → Option (Bool)
 | 0, _, _, _ => none
 | k + 1, x0, x1, x5 => if x5 < (x0.length : Int) then (if 0 ≤ x5 then (if (rd x0 x5) < 0 then (some false) else (if (rd x0 x5) ≥ x1 then (some false) else (spec_IsWord.l0 k x0 x1 (wrap64 (x5 + 1))))) else (none)) else ((spec_l1In.f x1 1 16).bind fun t468 => (if t468 = true then (some (decide ((x0.length : Int) ≤ 400))) else (some false)))
def spec_IsWord.f (k : Nat) (l0 : List Int) (a1 : Int) : Option (Bool) := spec_IsWord.l0 k l0 a1 0
theorem spec_IsWord.calls (k : Nat) (A0 : Option Addr) (c0 : Nat) (l0 : List Int) (a1 : Int) (r : Bool) (w : World) (hr0 : Kd.C (Kd.int .i64) w A0 l0.length l0) (hc0 : l0.length ≤ c0) (h : spec_IsWord.f k l0 a1 = some r) :
  Calls Tryz.prog 31 #[.slice A0 l0.length c0, .int .i64 a1] w fun e w' => e = .returned (.bool r) ∧ Drawn0 w w' := by
 have HR0 := A_ hr0; clear hr0 hc0; unfold spec_IsWord.f at h; have H := h; clear h
 have H' := A_ H
 clear H; go_enter Tryz.func31, Tryz.ntmps31
 go_wp2
 go_loopg [5] k (fun kq v5 w' => ∃ (x5_1 : Int), v5 = .int .i64 x5_1 ∧ Aside0 (spec_IsWord.l0 kq l0 a1 x5_1 = some r) ∧ Aside0 (kq ≤ k) ∧ Drawn0 w w')
 case atStart => exact ⟨(0), (by rfl), H', ⟨Nat.le_refl _⟩, by repeat (first | exact Drawn0.refl _ | apply Drawn0.step)⟩
 case round =>
  clear H'; obtain ⟨x5_1, rfl, HA, HK1, ⟨m1, rfl⟩⟩ := hrel
  cases gk with
  | zero => exact absurd HA.out (by simp [spec_IsWord.l0])
  | succ k1 =>
   have H := HA.out; clear HA; simp only [spec_IsWord.l0] at H
   by_cases c3 : x5_1 < (l0.length : Int)
   ·rw [if_pos c3] at H; have c3b0 := decide_eq_true c3; clear c3
    by_cases c4 : 0 ≤ x5_1
    ·rw [if_pos c4] at H; have c4b0 := decide_eq_true c4; clear c4
     by_cases c5 : (rd l0 x5_1) < 0
     ·rw [if_pos c5] at H; have c5b0 := decide_eq_true c5; clear c5; obtain rfl := Option.some.inj H
      have p466 : 0 ≤ (x5_1 : Int) := od_ (by assumption)
      have q466 : x5_1 < (l0.length : Int) := od_ (by assumption)
      obtain ⟨ad466, e466, hx466_0⟩ := Kd.at_int HR0.out x5_1 p466 q466
      cases e466
      replace p466 := eq_true p466; replace q466 := eq_true q466
      go_wp2
      go_ret
      exact ⟨by rfl, by repeat (first | exact Drawn0.refl _ | apply Drawn0.step)⟩
     rw [if_neg c5] at H; have c5b0 := decide_eq_false c5; clear c5
     by_cases c6 : (rd l0 x5_1) ≥ a1
     ·rw [if_pos c6] at H
      have c6b0 : decide (a1 ≤ (rd l0 x5_1)) = true := decide_eq_true c6
      clear c6; obtain rfl := Option.some.inj H
      have p466 : 0 ≤ (x5_1 : Int) := od_ (by assumption)
      have q466 : x5_1 < (l0.length : Int) := od_ (by assumption)
      obtain ⟨ad466, e466, hx466_0⟩ := Kd.at_int HR0.out x5_1 p466 q466
      cases e466
      replace p466 := eq_true p466; replace q466 := eq_true q466
      have p467 : 0 ≤ (x5_1 : Int) := od_ (by assumption)
      have q467 : x5_1 < (l0.length : Int) := od_ (by assumption)
      obtain ⟨ad467, e467, hx467_0⟩ := Kd.at_int HR0.out x5_1 p467 q467; obtain rfl : ad466 = ad467 := (by injection e467); replace p467 := eq_true p467; replace q467 := eq_true q467
      go_wp2
      go_ret
      exact ⟨by rfl, by repeat (first | exact Drawn0.refl _ | apply Drawn0.step)⟩
     rw [if_neg c6] at H
     have c6b0 : decide (a1 ≤ (rd l0 x5_1)) = false := decide_eq_false c6
     clear c6
     have H' := A_ H
     clear H
     have p466 : 0 ≤ (x5_1 : Int) := od_ (by assumption)
     have q466 : x5_1 < (l0.length : Int) := od_ (by assumption)
     obtain ⟨ad466, e466, hx466_0⟩ := Kd.at_int HR0.out x5_1 p466 q466
     cases e466
     replace p466 := eq_true p466; replace q466 := eq_true q466
     have p467 : 0 ≤ (x5_1 : Int) := od_ (by assumption)
     have q467 : x5_1 < (l0.length : Int) := od_ (by assumption)
     obtain ⟨ad467, e467, hx467_0⟩ := Kd.at_int HR0.out x5_1 p467 q467; obtain rfl : ad466 = ad467 := (by injection e467); replace p467 := eq_true p467; replace q467 := eq_true q467
     go_wp2
     go_roundg k1
     case measure => have := HK1.out; omega
     case rel => exact ⟨(wrap64 (x5_1 + 1)), (by rfl), H', ⟨by have := HK1.out; omega⟩, by repeat (first | exact Drawn0.refl _ | apply Drawn0.step)⟩
    rw [if_neg c4] at H
    cases H
   rw [if_neg c3] at H; have c3b0 := decide_eq_false c3; clear c3; replace H := bA_ H; obtain ⟨t468, A7, H⟩ := H
   by_cases c8 : t468 = true
   ·subst c8; rw [if_pos rfl] at H; obtain rfl := Option.some.inj H
    go_wp2_with (first | ((with_reducible refine gc_ 36 rfl ?_); refine cD_ E36 26 rfl rfl rfl (spec_l1In.calls a1 1 16 true _ A7.out) (by simp only [mA, mB, mC]; rfl) fun nd => ?_))
    go_ret
    exact ⟨by rfl, by repeat (first | exact Drawn0.refl _ | apply Drawn0.step)⟩
   replace c8 := Bool.eq_false_iff.mpr c8; subst c8; rw [if_neg nf_] at H; obtain rfl := Option.some.inj H
   go_wp2_with (first | ((with_reducible refine gc_ 36 rfl ?_); refine cD_ E36 26 rfl rfl rfl (spec_l1In.calls a1 1 16 false _ A7.out) (by simp only [mA, mB, mC]; rfl) fun nd => ?_))
   go_ret
   exact ⟨by rfl, by repeat (first | exact Drawn0.refl _ | apply Drawn0.step)⟩
def spec_IsMorphism.l0 : Nat → Int → List (List Int) → Option (Bool)
 | 0, _, _ => none
 | k + 1, x3, x470000 => if x3 < (x470000.length : Int) then (if 0 ≤ x3 then ((spec_IsWord.f k (rd_L2 x470000 x3) (x470000.length : Int)).bind fun t471 => (if t471 = true then (if ((rd_L2 x470000 x3).length : Int) > 8 then (some false) else (spec_IsMorphism.l0 k (wrap64 (x3 + 1)) x470000)) else (some false))) else (none)) else ((spec_l1In.f (x470000.length : Int) 1 16).bind fun t473 => (some t473))
def spec_IsMorphism.f (k : Nat) (l0_0 : List (List Int)) : Option (Bool) := spec_IsMorphism.l0 k 0 l0_0
theorem spec_IsMorphism.calls (k : Nat) (A0_0 : Option Addr) (c0_0 : Nat) (l0_0 : List (List Int)) (r : Bool) (w : World) (hr0_0 : Kd.C (Kd.slice 3 (Kd.int .i64)) w A0_0 l0_0.length l0_0) (hc0_0 : l0_0.length ≤ c0_0) (h : spec_IsMorphism.f k l0_0 = some r) :
  Calls Tryz.prog 101 #[.agg #[.slice A0_0 l0_0.length c0_0]] w fun e w' => e = .returned (.bool r) ∧ Below w.heap.size w w' := by
 have HR0_0 := A_ hr0_0; clear hr0_0 hc0_0; have HB := A_ (Below.refl w.heap.size w); unfold spec_IsMorphism.f at h; have H := h; clear h
 have H' := A_ H
 clear H; go_enter Tryz.func101, Tryz.ntmps101
 go_wp2_with (first | ((with_reducible refine gate_dst (N := 1) rfl ?_); (try (refine gate_guard (by rfl) ?_; dsimp only)); refine box_event ?hg (N := 1) ?hd (cs := #[.slice A0_0 l0_0.length c0_0]) (t := 80) ?hr ?_; (case hd | hg => rfl); (case hr => go_simp; done); intro gb469 hg w2 hbox hb; have BK469 := A_ (hbox); replace HB := bs_ HB hb; clear hb hbox hg))
 repeat (go_quiet (first | ((with_reducible refine gate_dst (N := 1) rfl ?_); (try (refine gate_guard (by rfl) ?_; dsimp only)); refine box_event ?hg (N := 1) ?hd (cs := #[.slice A0_0 l0_0.length c0_0]) (t := 80) ?hr ?_; (case hd | hg => rfl); (case hr => first | (go_simp; done) | (go_simp; rfl)); intro gb469 hg w2 hbox hb; have BK469 := A_ (hbox); have GW469 := A_ (lg_ (below_size HB.out) hg); have GE469 := A_ (lg_ (below_size HB.out) hg); replace HB := bs_ HB hb; clear hb hbox hg)); try go_wp2_with (first | ((with_reducible refine gate_dst (N := 1) rfl ?_); (try (refine gate_guard (by rfl) ?_; dsimp only)); refine box_event ?hg (N := 1) ?hd (cs := #[.slice A0_0 l0_0.length c0_0]) (t := 80) ?hr ?_; (case hd | hg => rfl); (case hr => first | (go_simp; done) | (go_simp; rfl)); intro gb469 hg w2 hbox hb; have BK469 := A_ (hbox); have GW469 := A_ (lg_ (below_size HB.out) hg); have GE469 := A_ (lg_ (below_size HB.out) hg); replace HB := bs_ HB hb; clear hb hbox hg)))
 go_loopg [3] k (fun kq v3 w' => ∃ (x3_1 : Int), v3 = .int .i64 x3_1 ∧ Aside0 (spec_IsMorphism.l0 kq x3_1 l0_0 = some r) ∧ Aside0 (kq ≤ k) ∧ Aside0 (w'.heap[gb469]? = some (.cells #[(.slice A0_0 l0_0.length c0_0)] 80 (0, 0))) ∧ Aside0 (Below w.heap.size w w'))
 case atStart => exact ⟨(0), (by rfl), H', ⟨Nat.le_refl _⟩, ⟨BK469.out⟩, ⟨HB.out⟩⟩
 case round =>
  clear H'; obtain ⟨x3_1, rfl, HA, HK1, BK469, HB⟩ := hrel
  cases gk with
  | zero => exact absurd HA.out (by simp [spec_IsMorphism.l0])
  | succ k1 =>
   have H := HA.out; clear HA; simp only [spec_IsMorphism.l0] at H
   by_cases c3 : x3_1 < (l0_0.length : Int)
   ·rw [if_pos c3] at H; have c3b0 := decide_eq_true c3; clear c3
    by_cases c4 : 0 ≤ x3_1
    ·rw [if_pos c4] at H; have c4b0 := decide_eq_true c4; clear c4; replace H := bA_ H; obtain ⟨t471, A5, H⟩ := H
     by_cases c6 : t471 = true
     ·subst c6; rw [if_pos rfl] at H
      by_cases c7 : ((rd_L2 l0_0 x3_1).length : Int) > 8
      ·rw [if_pos c7] at H
       have c7b0 : decide (8 < ((rd_L2 l0_0 x3_1).length : Int)) = true := decide_eq_true c7
       clear c7; obtain rfl := Option.some.inj H; have hcz8_0 := bz0 BK469.out
       have p470 : 0 ≤ (x3_1 : Int) := od_ (by assumption)
       have q470 : x3_1 < (l0_0.length : Int) := od_ (by assumption)
       obtain ⟨ad470, A470_0, c470_0, e470, hx470_0, hl470_0, hi470_0⟩ := at_L2 HR0_0.out x3_1 p470 q470
       cases e470
       replace hx470_0 := (HB.out.cell (World.block_lt_of_cell? w _ hx470_0)).trans hx470_0; have HR470_0 := A_ hi470_0; have HC470_0 := A_ hl470_0; clear hi470_0 hl470_0; replace p470 := eq_true p470; replace q470 := eq_true q470
       go_wp2_with (first | (go_at_call 31; (with_reducible refine (spec_IsWord.calls k1 _ _ (rd_L2 l0_0 x3_1) (l0_0.length : Int) true _ ?side1 ?side2 A5.out).mono ?_); (case side1 => exact (Kd.C_below HR470_0.out HB.out)); (case side2 => exact HC470_0.out); rintro e w' ⟨rfl, ⟨nd, rfl⟩⟩; have p472 : 0 ≤ (x3_1 : Int) := od_ (by first | (with_reducible assumption) | assumption); have q472 : x3_1 < (l0_0.length : Int) := od_ (by first | (with_reducible assumption) | assumption); obtain ⟨ad472, A472_0, c472_0, e472, hx472_0, hl472_0, hi472_0⟩ := at_L2 HR0_0.out x3_1 p472 q472; obtain rfl : ad470 = ad472 := (by injection e472); replace hx472_0 := (HB.out.cell (World.block_lt_of_cell? w _ hx472_0)).trans hx472_0; have HR472_0 := A_ hi472_0; have HC472_0 := A_ hl472_0; clear hi472_0 hl472_0; replace p472 := eq_true p472; replace q472 := eq_true q472; have ea_ := Option.some.inj (hx470_0.symm.trans hx472_0); injection ea_ with ea_ en_ ec_; subst ea_; subst ec_; clear en_))
       repeat (go_quiet (first | (go_at_call 31; (with_reducible refine (spec_IsWord.calls k1 _ _ (rd_L2 l0_0 x3_1) (l0_0.length : Int) true _ ?side1 ?side2 A5.out).mono ?_); (case side1 => repeat (first | exact (Kd.C_below HR470_0.out HB.out) | (with_reducible refine Kd.C_alloc ?_ _) | (with_reducible refine Kd.C_drewN ?_ _) | (with_reducible refine Kd.C_drew ?_))); (case side2 => exact HC470_0.out); rintro e w' ⟨rfl, ⟨nd, rfl⟩⟩; exact ⟨rfl, _, World.drewN_drewN _ _ _⟩; have p472 : 0 ≤ (x3_1 : Int) := od_ (by assumption); have q472 : x3_1 < (l0_0.length : Int) := od_ (by assumption); obtain ⟨ad472, A472_0, c472_0, e472, hx472_0, hl472_0, hi472_0⟩ := at_L2 HR0_0.out x3_1 p472 q472; obtain rfl : ad470 = ad472 := (by injection e472); replace hx472_0 := (HB.out.cell (World.block_lt_of_cell? w _ hx472_0)).trans hx472_0; have HR472_0 := A_ hi472_0; have HC472_0 := A_ hl472_0; clear hi472_0 hl472_0; replace p472 := eq_true p472; replace q472 := eq_true q472; have ea_ := Option.some.inj (hx470_0.symm.trans hx472_0); injection ea_ with ea_ en_ ec_; subst ea_; subst ec_; clear en_)); try go_wp2_with (first | (go_at_call 31; (with_reducible refine (spec_IsWord.calls k1 _ _ (rd_L2 l0_0 x3_1) (l0_0.length : Int) true _ ?side1 ?side2 A5.out).mono ?_); (case side1 => exact (Kd.C_below HR470_0.out HB.out)); (case side2 => exact HC470_0.out); rintro e w' ⟨rfl, ⟨nd, rfl⟩⟩; have p472 : 0 ≤ (x3_1 : Int) := od_ (by first | (with_reducible assumption) | assumption); have q472 : x3_1 < (l0_0.length : Int) := od_ (by first | (with_reducible assumption) | assumption); obtain ⟨ad472, A472_0, c472_0, e472, hx472_0, hl472_0, hi472_0⟩ := at_L2 HR0_0.out x3_1 p472 q472; obtain rfl : ad470 = ad472 := (by injection e472); replace hx472_0 := (HB.out.cell (World.block_lt_of_cell? w _ hx472_0)).trans hx472_0; have HR472_0 := A_ hi472_0; have HC472_0 := A_ hl472_0; clear hi472_0 hl472_0; replace p472 := eq_true p472; replace q472 := eq_true q472; have ea_ := Option.some.inj (hx470_0.symm.trans hx472_0); injection ea_ with ea_ en_ ec_; subst ea_; subst ec_; clear en_)))
       go_ret
       exact ⟨by rfl, by repeat (first | (with_reducible first | exact HB.out | apply below_alloc | apply pw_below_drewN | apply below_drew1 | refine below_set ?_ GE469.out) | exact HB.out)⟩
      rw [if_neg c7] at H
      have c7b0 : decide (8 < ((rd_L2 l0_0 x3_1).length : Int)) = false := decide_eq_false c7
      clear c7
      have H' := A_ H
      clear H; have hcz9_0 := bz0 BK469.out
      have p470 : 0 ≤ (x3_1 : Int) := od_ (by assumption)
      have q470 : x3_1 < (l0_0.length : Int) := od_ (by assumption)
      obtain ⟨ad470, A470_0, c470_0, e470, hx470_0, hl470_0, hi470_0⟩ := at_L2 HR0_0.out x3_1 p470 q470
      cases e470
      replace hx470_0 := (HB.out.cell (World.block_lt_of_cell? w _ hx470_0)).trans hx470_0; have HR470_0 := A_ hi470_0; have HC470_0 := A_ hl470_0; clear hi470_0 hl470_0; replace p470 := eq_true p470; replace q470 := eq_true q470
      go_wp2_with (first | (go_at_call 31; (with_reducible refine (spec_IsWord.calls k1 _ _ (rd_L2 l0_0 x3_1) (l0_0.length : Int) true _ ?side1 ?side2 A5.out).mono ?_); (case side1 => exact (Kd.C_below HR470_0.out HB.out)); (case side2 => exact HC470_0.out); rintro e w' ⟨rfl, ⟨nd, rfl⟩⟩; have p472 : 0 ≤ (x3_1 : Int) := od_ (by first | (with_reducible assumption) | assumption); have q472 : x3_1 < (l0_0.length : Int) := od_ (by first | (with_reducible assumption) | assumption); obtain ⟨ad472, A472_0, c472_0, e472, hx472_0, hl472_0, hi472_0⟩ := at_L2 HR0_0.out x3_1 p472 q472; obtain rfl : ad470 = ad472 := (by injection e472); replace hx472_0 := (HB.out.cell (World.block_lt_of_cell? w _ hx472_0)).trans hx472_0; have HR472_0 := A_ hi472_0; have HC472_0 := A_ hl472_0; clear hi472_0 hl472_0; replace p472 := eq_true p472; replace q472 := eq_true q472; have ea_ := Option.some.inj (hx470_0.symm.trans hx472_0); injection ea_ with ea_ en_ ec_; subst ea_; subst ec_; clear en_))
      repeat (go_quiet (first | (go_at_call 31; (with_reducible refine (spec_IsWord.calls k1 _ _ (rd_L2 l0_0 x3_1) (l0_0.length : Int) true _ ?side1 ?side2 A5.out).mono ?_); (case side1 => repeat (first | exact (Kd.C_below HR470_0.out HB.out) | (with_reducible refine Kd.C_alloc ?_ _) | (with_reducible refine Kd.C_drewN ?_ _) | (with_reducible refine Kd.C_drew ?_))); (case side2 => exact HC470_0.out); rintro e w' ⟨rfl, ⟨nd, rfl⟩⟩; exact ⟨rfl, _, World.drewN_drewN _ _ _⟩; have p472 : 0 ≤ (x3_1 : Int) := od_ (by assumption); have q472 : x3_1 < (l0_0.length : Int) := od_ (by assumption); obtain ⟨ad472, A472_0, c472_0, e472, hx472_0, hl472_0, hi472_0⟩ := at_L2 HR0_0.out x3_1 p472 q472; obtain rfl : ad470 = ad472 := (by injection e472); replace hx472_0 := (HB.out.cell (World.block_lt_of_cell? w _ hx472_0)).trans hx472_0; have HR472_0 := A_ hi472_0; have HC472_0 := A_ hl472_0; clear hi472_0 hl472_0; replace p472 := eq_true p472; replace q472 := eq_true q472; have ea_ := Option.some.inj (hx470_0.symm.trans hx472_0); injection ea_ with ea_ en_ ec_; subst ea_; subst ec_; clear en_)); try go_wp2_with (first | (go_at_call 31; (with_reducible refine (spec_IsWord.calls k1 _ _ (rd_L2 l0_0 x3_1) (l0_0.length : Int) true _ ?side1 ?side2 A5.out).mono ?_); (case side1 => exact (Kd.C_below HR470_0.out HB.out)); (case side2 => exact HC470_0.out); rintro e w' ⟨rfl, ⟨nd, rfl⟩⟩; have p472 : 0 ≤ (x3_1 : Int) := od_ (by first | (with_reducible assumption) | assumption); have q472 : x3_1 < (l0_0.length : Int) := od_ (by first | (with_reducible assumption) | assumption); obtain ⟨ad472, A472_0, c472_0, e472, hx472_0, hl472_0, hi472_0⟩ := at_L2 HR0_0.out x3_1 p472 q472; obtain rfl : ad470 = ad472 := (by injection e472); replace hx472_0 := (HB.out.cell (World.block_lt_of_cell? w _ hx472_0)).trans hx472_0; have HR472_0 := A_ hi472_0; have HC472_0 := A_ hl472_0; clear hi472_0 hl472_0; replace p472 := eq_true p472; replace q472 := eq_true q472; have ea_ := Option.some.inj (hx470_0.symm.trans hx472_0); injection ea_ with ea_ en_ ec_; subst ea_; subst ec_; clear en_)))
      go_roundg k1
      case measure => have := HK1.out; omega
      case rel => exact ⟨(wrap64 (x3_1 + 1)), (by rfl), H', ⟨by have := HK1.out; omega⟩, ⟨by (with_reducible repeat (first | refine blk_drewN ?_ _ | refine blk_drew ?_ | refine blk_alloc ?_ _)); exact BK469.out⟩, ⟨by repeat (first | (with_reducible first | exact HB.out | apply below_alloc | apply pw_below_drewN | apply below_drew1 | refine below_set ?_ GE469.out) | exact HB.out)⟩⟩
     replace c6 := Bool.eq_false_iff.mpr c6; subst c6; rw [if_neg nf_] at H; obtain rfl := Option.some.inj H; have hcz10_0 := bz0 BK469.out
     have p470 : 0 ≤ (x3_1 : Int) := od_ (by assumption)
     have q470 : x3_1 < (l0_0.length : Int) := od_ (by assumption)
     obtain ⟨ad470, A470_0, c470_0, e470, hx470_0, hl470_0, hi470_0⟩ := at_L2 HR0_0.out x3_1 p470 q470
     cases e470
     replace hx470_0 := (HB.out.cell (World.block_lt_of_cell? w _ hx470_0)).trans hx470_0; have HR470_0 := A_ hi470_0; have HC470_0 := A_ hl470_0; clear hi470_0 hl470_0; replace p470 := eq_true p470; replace q470 := eq_true q470
     go_wp2_with (first | (go_at_call 31; (with_reducible refine (spec_IsWord.calls k1 _ _ (rd_L2 l0_0 x3_1) (l0_0.length : Int) false _ ?side1 ?side2 A5.out).mono ?_); (case side1 => exact (Kd.C_below HR470_0.out HB.out)); (case side2 => exact HC470_0.out); rintro e w' ⟨rfl, ⟨nd, rfl⟩⟩))
     repeat (go_quiet (first | (go_at_call 31; (with_reducible refine (spec_IsWord.calls k1 _ _ (rd_L2 l0_0 x3_1) (l0_0.length : Int) false _ ?side1 ?side2 A5.out).mono ?_); (case side1 => repeat (first | exact (Kd.C_below HR470_0.out HB.out) | (with_reducible refine Kd.C_alloc ?_ _) | (with_reducible refine Kd.C_drewN ?_ _) | (with_reducible refine Kd.C_drew ?_))); (case side2 => exact HC470_0.out); rintro e w' ⟨rfl, ⟨nd, rfl⟩⟩; exact ⟨rfl, _, World.drewN_drewN _ _ _⟩)); try go_wp2_with (first | (go_at_call 31; (with_reducible refine (spec_IsWord.calls k1 _ _ (rd_L2 l0_0 x3_1) (l0_0.length : Int) false _ ?side1 ?side2 A5.out).mono ?_); (case side1 => exact (Kd.C_below HR470_0.out HB.out)); (case side2 => exact HC470_0.out); rintro e w' ⟨rfl, ⟨nd, rfl⟩⟩)))
     go_ret
     exact ⟨by rfl, by repeat (first | (with_reducible first | exact HB.out | apply below_alloc | apply pw_below_drewN | apply below_drew1 | refine below_set ?_ GE469.out) | exact HB.out)⟩
    rw [if_neg c4] at H
    cases H
   rw [if_neg c3] at H; have c3b0 := decide_eq_false c3; clear c3; replace H := bA_ H; obtain ⟨t473, A11, H⟩ := H; obtain rfl := Option.some.inj H; have hcz12_0 := bz0 BK469.out
   go_wp2_with (first | (go_at_call 36; (with_reducible refine (spec_l1In.calls (l0_0.length : Int) 1 16 t473 _ A11.out).mono ?_); rintro e w' ⟨rfl, ⟨nd, rfl⟩⟩))
   repeat (go_quiet (first | (go_at_call 36; (with_reducible refine (spec_l1In.calls (l0_0.length : Int) 1 16 t473 _ A11.out).mono ?_); rintro e w' ⟨rfl, ⟨nd, rfl⟩⟩)); try go_wp2_with (first | (go_at_call 36; (with_reducible refine (spec_l1In.calls (l0_0.length : Int) 1 16 t473 _ A11.out).mono ?_); rintro e w' ⟨rfl, ⟨nd, rfl⟩⟩)))
   go_ret
   exact ⟨by rfl, by repeat (first | (with_reducible first | exact HB.out | apply below_alloc | apply pw_below_drewN | apply below_drew1 | refine below_set ?_ GE469.out) | exact HB.out)⟩

def spec_l4Has.l0 : Nat → List Int → Int → Int → Option (Bool)
 | 0, _, _, _ => none
 | k + 1, x0, x1, x5 => if x5 < (x0.length : Int) then (if 0 ≤ x5 then (if (rd x0 x5) = x1 then (some true) else (spec_l4Has.l0 k x0 x1 (wrap64 (x5 + 1)))) else (none)) else (some false)
def spec_l4Has.f (k : Nat) (l0 : List Int) (a1 : Int) : Option (Bool) := spec_l4Has.l0 k l0 a1 0
theorem spec_l4Has.calls (k : Nat) (A0 : Option Addr) (c0 : Nat) (l0 : List Int) (a1 : Int) (r : Bool) (w : World) (hr0 : Kd.C (Kd.int .i64) w A0 l0.length l0) (hc0 : l0.length ≤ c0) (h : spec_l4Has.f k l0 a1 = some r) :
  Calls Tryz.prog 102 #[.slice A0 l0.length c0, .int .i64 a1] w fun e w' => e = .returned (.bool r) ∧ Drawn0 w w' := by
 have HR0 := A_ hr0; clear hr0 hc0; unfold spec_l4Has.f at h; have H := h; clear h
 have H' := A_ H
 clear H; go_enter Tryz.func102, Tryz.ntmps102
 go_wp2
 go_loopg [5] k (fun kq v5 w' => ∃ (x5_1 : Int), v5 = .int .i64 x5_1 ∧ Aside0 (spec_l4Has.l0 kq l0 a1 x5_1 = some r) ∧ Aside0 (kq ≤ k) ∧ Drawn0 w w')
 case atStart => exact ⟨(0), (by rfl), H', ⟨Nat.le_refl _⟩, by repeat (first | exact Drawn0.refl _ | apply Drawn0.step)⟩
 case round =>
  clear H'; obtain ⟨x5_1, rfl, HA, HK1, ⟨m1, rfl⟩⟩ := hrel
  cases gk with
  | zero => exact absurd HA.out (by simp [spec_l4Has.l0])
  | succ k1 =>
   have H := HA.out; clear HA; simp only [spec_l4Has.l0] at H
   by_cases c3 : x5_1 < (l0.length : Int)
   ·rw [if_pos c3] at H; have c3b0 := decide_eq_true c3; clear c3
    by_cases c4 : 0 ≤ x5_1
    ·rw [if_pos c4] at H; have c4b0 := decide_eq_true c4; clear c4
     by_cases c5 : (rd l0 x5_1) = a1
     ·rw [if_pos c5] at H
      have c5b0 : ((rd l0 x5_1) == a1) = true := beq_iff_eq.mpr c5
      clear c5; obtain rfl := Option.some.inj H
      have p474 : 0 ≤ (x5_1 : Int) := od_ (by assumption)
      have q474 : x5_1 < (l0.length : Int) := od_ (by assumption)
      obtain ⟨ad474, e474, hx474_0⟩ := Kd.at_int HR0.out x5_1 p474 q474
      cases e474
      replace p474 := eq_true p474; replace q474 := eq_true q474
      go_wp2
      go_ret
      exact ⟨by rfl, by repeat (first | exact Drawn0.refl _ | apply Drawn0.step)⟩
     rw [if_neg c5] at H
     have c5b0 : ((rd l0 x5_1) == a1) = false := beq_eq_false_iff_ne.mpr c5
     have H' := A_ H
     clear H
     have p474 : 0 ≤ (x5_1 : Int) := od_ (by assumption)
     have q474 : x5_1 < (l0.length : Int) := od_ (by assumption)
     obtain ⟨ad474, e474, hx474_0⟩ := Kd.at_int HR0.out x5_1 p474 q474
     cases e474
     replace p474 := eq_true p474; replace q474 := eq_true q474
     go_wp2
     go_roundg k1
     case measure => have := HK1.out; omega
     case rel => exact ⟨(wrap64 (x5_1 + 1)), (by rfl), H', ⟨by have := HK1.out; omega⟩, by repeat (first | exact Drawn0.refl _ | apply Drawn0.step)⟩
    rw [if_neg c4] at H
    cases H
   rw [if_neg c3] at H; have c3b0 := decide_eq_false c3; clear c3; obtain rfl := Option.some.inj H
   go_wp2
   go_ret
   exact ⟨by rfl, by repeat (first | exact Drawn0.refl _ | apply Drawn0.step)⟩
end Go.Proofs.YtmjlmjhccpedmaaGreat.PFnBalance

