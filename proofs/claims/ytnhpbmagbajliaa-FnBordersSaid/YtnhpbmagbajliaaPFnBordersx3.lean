/- Walks of the functions that the law reaches. -/
import Derived.Test.YtnhpbmagbajliaaPFnBordersx2
namespace Go.Proofs.Ytnhpbmagbajliaa.PFnBorders
open Go.RowKit Go.Proofs.YtnhpbmagbajliaaW.PrintWords Go.Proofs.YtnhpbmagbajliaaW.PrintLast Go.Proofs.YtnhpbmagbajliaaW.PrintMore
attribute [local go_sem] max2_int min2_int max_two min_two max_three min_three max_four min_four
set_option linter.unusedVariables false
set_option maxHeartbeats 8000000
set_option maxRecDepth 100000
set_option linter.unusedSimpArgs false

mutual
def spec_IsSequence.l0 : Nat → Int → Int → List (List Int) → List Int → Option (Bool)
 | 0, _, _, _, _ => none
 | k + 1, x3, x294000, x294001, x294002 => if x3 < (x294001.length : Int) then (if 0 ≤ x3 then (if ((rd_L2 x294001 x3).length : Int) = x294000 then (spec_IsSequence.l1 k x3 0 x294000 x294001 x294002) else (some false)) else (none)) else (spec_IsSequence.l2 k 0 x294000 x294001 x294002)
def spec_IsSequence.l1 : Nat → Int → Int → Int → List (List Int) → List Int → Option (Bool)
 | 0, _, _, _, _, _ => none
 | k + 1, x3, x4, x294000, x294001, x294002 => if 0 ≤ x3 then (if x3 < (x294001.length : Int) then (if x4 < ((rd_L2 x294001 x3).length : Int) then (if 0 ≤ x4 then (if (rd (rd_L2 x294001 x3) x4) < 0 then (some false) else (if (rd (rd_L2 x294001 x3) x4) ≥ (x294001.length : Int) then (some false) else (spec_IsSequence.l1 k x3 (wrap64 (x4 + 1)) x294000 x294001 x294002))) else (none)) else (spec_IsSequence.l0 k (wrap64 (x3 + 1)) x294000 x294001 x294002)) else (none)) else (none)
def spec_IsSequence.l2 : Nat → Int → Int → List (List Int) → List Int → Option (Bool)
 | 0, _, _, _, _ => none
 | k + 1, x5, x294000, x294001, x294002 => if x5 < (x294002.length : Int) then (if 0 ≤ x5 then ((spec_l1In.f (rd x294002 x5) 0 3).bind fun t301 => (if t301 = true then (spec_IsSequence.l2 k (wrap64 (x5 + 1)) x294000 x294001 x294002) else (some false))) else (none)) else ((spec_l1In.f x294000 2 4).bind fun t302 => (if t302 = true then ((spec_l1In.f (x294001.length : Int) 1 16).bind fun t303 => (if t303 = true then (some ((x294002.length : Int) == (x294001.length : Int))) else (some false))) else (some false)))
end
def spec_IsSequence.f (k : Nat) (a0_0 : Int) (l0_1 : List (List Int)) (l0_2 : List Int) : Option (Bool) := spec_IsSequence.l0 k 0 a0_0 l0_1 l0_2
theorem spec_IsSequence.calls (k : Nat) (a0_0 : Int) (A0_1 : Option Addr) (c0_1 : Nat) (l0_1 : List (List Int)) (A0_2 : Option Addr) (c0_2 : Nat) (l0_2 : List Int) (r : Bool) (w : World) (hr0_1 : Kd.C (Kd.slice 3 (Kd.int .i64)) w A0_1 l0_1.length l0_1) (hc0_1 : l0_1.length ≤ c0_1) (hr0_2 : Kd.C (Kd.int .i64) w A0_2 l0_2.length l0_2) (hc0_2 : l0_2.length ≤ c0_2) (h : spec_IsSequence.f k a0_0 l0_1 l0_2 = some r) :
  Calls Try.prog 81 #[.agg #[.int .i64 a0_0, .slice A0_1 l0_1.length c0_1, .slice A0_2 l0_2.length c0_2]] w fun e w' => e = .returned (.bool r) ∧ Below w.heap.size w w' := by
 have hu58 := Try.underlying58; have HR0_1 := A_ hr0_1; have HC0_1 := A_ hc0_1; clear hr0_1 hc0_1; have HR0_2 := A_ hr0_2; have HC0_2 := A_ hc0_2; clear hr0_2 hc0_2; have HB := A_ (Below.refl w.heap.size w); unfold spec_IsSequence.f at h; have H := h; clear h
 have H' := A_ H
 clear H; go_enter Try.func81, Try.ntmps81
 go_wp2_with (first | ((with_reducible refine gate_dst (N := 1) rfl ?_); (try (refine gate_guard (by rfl) ?_; dsimp only)); refine box_event ?hg (N := 1) ?hd (cs := #[.int .i64 a0_0, .slice A0_1 l0_1.length c0_1, .slice A0_2 l0_2.length c0_2]) (t := 58) ?hr ?_; (case hd | hg => rfl); (case hr => go_simp; done); intro gb293 hg w2 hbox hb; have BK293 := A_ (hbox); have GW293 := A_ (lg_ (below_size HB.out) hg); have GE293 := A_ (lg_ (below_size HB.out) hg); replace HB := bs_ HB hb; clear hb hbox hg))
 repeat (go_quiet (first | ((with_reducible refine gate_dst (N := 1) rfl ?_); (try (refine gate_guard (by rfl) ?_; dsimp only)); refine box_event ?hg (N := 1) ?hd (cs := #[.int .i64 a0_0, .slice A0_1 l0_1.length c0_1, .slice A0_2 l0_2.length c0_2]) (t := 58) ?hr ?_; (case hd | hg => rfl); (case hr => first | (go_simp; done) | (go_simp; rfl)); intro gb293 hg w2 hbox hb; have BK293 := A_ (hbox); have GW293 := A_ (lg_ (below_size HB.out) hg); have GE293 := A_ (lg_ (below_size HB.out) hg); replace HB := bs_ HB hb; clear hb hbox hg)); try go_wp2_with (first | ((with_reducible refine gate_dst (N := 1) rfl ?_); (try (refine gate_guard (by rfl) ?_; dsimp only)); refine box_event ?hg (N := 1) ?hd (cs := #[.int .i64 a0_0, .slice A0_1 l0_1.length c0_1, .slice A0_2 l0_2.length c0_2]) (t := 58) ?hr ?_; (case hd | hg => rfl); (case hr => first | (go_simp; done) | (go_simp; rfl)); intro gb293 hg w2 hbox hb; have BK293 := A_ (hbox); have GW293 := A_ (lg_ (below_size HB.out) hg); have GE293 := A_ (lg_ (below_size HB.out) hg); replace HB := bs_ HB hb; clear hb hbox hg)))
 go_loopg [3] k (fun kq v3 w' => ∃ (x3_1 : Int), v3 = .int .i64 x3_1 ∧ Aside0 (spec_IsSequence.l0 kq x3_1 a0_0 l0_1 l0_2 = some r) ∧ Aside0 (kq ≤ k) ∧ Aside0 (w'.heap[gb293]? = some (.cells #[.int .i64 a0_0, (.slice A0_1 l0_1.length c0_1), (.slice A0_2 l0_2.length c0_2)] 58 (0, 0))) ∧ Aside0 (Below w.heap.size w w'))
 case atStart => exact ⟨(0), (by rfl), H', ⟨Nat.le_refl _⟩, ⟨BK293.out⟩, ⟨HB.out⟩⟩
 case round =>
  clear H'; obtain ⟨x3_1, rfl, HA, HK1, BK293, HB⟩ := hrel
  cases gk with
  | zero => exact absurd HA.out (by simp [spec_IsSequence.l0])
  | succ k1 =>
   have H := HA.out; clear HA; simp only [spec_IsSequence.l0] at H
   by_cases c3 : x3_1 < (l0_1.length : Int)
   ·rw [if_pos c3] at H; have c3b0 := decide_eq_true c3; clear c3
    by_cases c4 : 0 ≤ x3_1
    ·rw [if_pos c4] at H; have c4b0 := decide_eq_true c4; clear c4
     by_cases c5 : ((rd_L2 l0_1 x3_1).length : Int) = a0_0
     ·rw [if_pos c5] at H
      have c5b0 : (((rd_L2 l0_1 x3_1).length : Int) == a0_0) = true := beq_iff_eq.mpr c5
      have c5b1 : (((rd_L2 l0_1 x3_1).length : Int) != a0_0) = false := bne_eq_false_iff_eq.mpr c5
      clear c5
      have H' := A_ H
      clear H; have hcz6_0 := bz0 BK293.out; have hcz6_1 := bz1 BK293.out; have hcz6_2 := bz2 BK293.out; have hfz6_0 := blk_frozen BK293.out 0; have hfz6_1 := blk_frozen BK293.out 1; have hfz6_2 := blk_frozen BK293.out 2
      have p294 : 0 ≤ (x3_1 : Int) := od_ (by assumption)
      have q294 : x3_1 < (l0_1.length : Int) := od_ (by assumption)
      obtain ⟨ad294, A294_0, c294_0, e294, hx294_0, hl294_0, hi294_0⟩ := at_L2 HR0_1.out x3_1 p294 q294
      cases e294
      replace hx294_0 := (HB.out.cell (World.block_lt_of_cell? w _ hx294_0)).trans hx294_0; have HR294_0 := A_ hi294_0; have HC294_0 := A_ hl294_0; clear hi294_0 hl294_0; replace p294 := eq_true p294; replace q294 := eq_true q294
      go_wp2
      repeat (go_quiet (fail); try go_wp2)
      go_loopg [4] k1 (fun kq v4 w' => ∃ (x4_2 : Int), v4 = .int .i64 x4_2 ∧ Aside0 (spec_IsSequence.l1 kq x3_1 x4_2 a0_0 l0_1 l0_2 = some r) ∧ Aside0 (kq ≤ k1) ∧ Aside0 (w'.heap[gb293]? = some (.cells #[.int .i64 a0_0, (.slice (some ad294) l0_1.length c0_1), (.slice A0_2 l0_2.length c0_2)] 58 (0, 0))) ∧ Aside0 (Below w.heap.size w w'))
      case atStart => exact ⟨(0), (by rfl), H', ⟨Nat.le_refl _⟩, ⟨by (with_reducible repeat (first | refine blk_drewN ?_ _ | refine blk_drew ?_ | refine blk_alloc ?_ _)); exact BK293.out⟩, ⟨by repeat (first | (with_reducible first | exact HB.out | apply below_alloc | apply pw_below_drewN | apply below_drew1 | refine below_set ?_ GE293.out) | exact HB.out)⟩⟩
      case round =>
       clear H'
       try clear c3b0
       try clear c4b0
       try clear c5b0
       try clear c5b1
       try clear hcz6_0
       try clear hcz6_1
       try clear hcz6_2
       try clear hfz6_0
       try clear hfz6_1
       try clear hfz6_2
       try clear hx294_0
       try clear p294
       try clear q294
       obtain ⟨x4_2, rfl, HA, HK2, BK293, HB⟩ := hrel
       cases gk with
       | zero => exact absurd HA.out (by simp [spec_IsSequence.l1])
       | succ k2 =>
        have H := HA.out; clear HA; simp only [spec_IsSequence.l1] at H
        by_cases c7 : 0 ≤ x3_1
        ·rw [if_pos c7] at H; have c7b0 := decide_eq_true c7; clear c7
         by_cases c8 : x3_1 < (l0_1.length : Int)
         ·rw [if_pos c8] at H; have c8b0 := decide_eq_true c8; clear c8
          by_cases c9 : x4_2 < ((rd_L2 l0_1 x3_1).length : Int)
          ·rw [if_pos c9] at H; have c9b0 := decide_eq_true c9; clear c9
           by_cases c10 : 0 ≤ x4_2
           ·rw [if_pos c10] at H; have c10b0 := decide_eq_true c10; clear c10
            by_cases c11 : (rd (rd_L2 l0_1 x3_1) x4_2) < 0
            ·rw [if_pos c11] at H; have c11b0 := decide_eq_true c11; clear c11; obtain rfl := Option.some.inj H; have hcz12_0 := bz0 BK293.out; have hcz12_1 := bz1 BK293.out; have hcz12_2 := bz2 BK293.out; have hfz12_0 := blk_frozen BK293.out 0; have hfz12_1 := blk_frozen BK293.out 1; have hfz12_2 := blk_frozen BK293.out 2
             have p295 : 0 ≤ (x3_1 : Int) := od_ (by assumption)
             have q295 : x3_1 < (l0_1.length : Int) := od_ (by assumption)
             obtain ⟨ad295, A295_0, c295_0, e295, hx295_0, hl295_0, hi295_0⟩ := at_L2 HR0_1.out x3_1 p295 q295; obtain rfl : ad294 = ad295 := (by injection e295); replace hx295_0 := (HB.out.cell (World.block_lt_of_cell? w _ hx295_0)).trans hx295_0; have HR295_0 := A_ hi295_0; have HC295_0 := A_ hl295_0; clear hi295_0 hl295_0; replace p295 := eq_true p295; replace q295 := eq_true q295
             have p296 : 0 ≤ (x3_1 : Int) := od_ (by assumption)
             have q296 : x3_1 < (l0_1.length : Int) := od_ (by assumption)
             obtain ⟨ad296, A296_0, c296_0, e296, hx296_0, hl296_0, hi296_0⟩ := at_L2 HR0_1.out x3_1 p296 q296; obtain rfl : ad294 = ad296 := (by injection e296); replace hx296_0 := (HB.out.cell (World.block_lt_of_cell? w _ hx296_0)).trans hx296_0; have HR296_0 := A_ hi296_0; have HC296_0 := A_ hl296_0; clear hi296_0 hl296_0; replace p296 := eq_true p296; replace q296 := eq_true q296; have ea_ := Option.some.inj (hx295_0.symm.trans hx296_0)
             injection ea_ with ea_ en_ ec_
             subst ea_; subst ec_; clear en_
             have p297 : 0 ≤ (x4_2 : Int) := od_ (by assumption)
             have q297 : x4_2 < ((rd_L2 l0_1 x3_1).length : Int) := od_ (by assumption)
             obtain ⟨ad297, e297, hx297_0⟩ := Kd.at_int HR296_0.out x4_2 p297 q297
             cases e297
             replace hx297_0 := (HB.out.cell (World.block_lt_of_cell? w _ hx297_0)).trans hx297_0; replace p297 := eq_true p297; replace q297 := eq_true q297
             go_wp2
             repeat (go_quiet (fail); try go_wp2)
             go_ret
             exact ⟨by rfl, by repeat (first | (with_reducible first | exact HB.out | apply below_alloc | apply pw_below_drewN | apply below_drew1 | refine below_set ?_ GE293.out) | exact HB.out)⟩
            rw [if_neg c11] at H; have c11b0 := decide_eq_false c11; clear c11
            by_cases c13 : (rd (rd_L2 l0_1 x3_1) x4_2) ≥ (l0_1.length : Int)
            ·rw [if_pos c13] at H
             have c13b0 : decide ((l0_1.length : Int) ≤ (rd (rd_L2 l0_1 x3_1) x4_2)) = true := decide_eq_true c13
             clear c13; obtain rfl := Option.some.inj H; have hcz14_0 := bz0 BK293.out; have hcz14_1 := bz1 BK293.out; have hcz14_2 := bz2 BK293.out; have hfz14_0 := blk_frozen BK293.out 0; have hfz14_1 := blk_frozen BK293.out 1; have hfz14_2 := blk_frozen BK293.out 2
             have p295 : 0 ≤ (x3_1 : Int) := od_ (by assumption)
             have q295 : x3_1 < (l0_1.length : Int) := od_ (by assumption)
             obtain ⟨ad295, A295_0, c295_0, e295, hx295_0, hl295_0, hi295_0⟩ := at_L2 HR0_1.out x3_1 p295 q295; obtain rfl : ad294 = ad295 := (by injection e295); replace hx295_0 := (HB.out.cell (World.block_lt_of_cell? w _ hx295_0)).trans hx295_0; have HR295_0 := A_ hi295_0; have HC295_0 := A_ hl295_0; clear hi295_0 hl295_0; replace p295 := eq_true p295; replace q295 := eq_true q295
             have p296 : 0 ≤ (x3_1 : Int) := od_ (by assumption)
             have q296 : x3_1 < (l0_1.length : Int) := od_ (by assumption)
             obtain ⟨ad296, A296_0, c296_0, e296, hx296_0, hl296_0, hi296_0⟩ := at_L2 HR0_1.out x3_1 p296 q296; obtain rfl : ad294 = ad296 := (by injection e296); replace hx296_0 := (HB.out.cell (World.block_lt_of_cell? w _ hx296_0)).trans hx296_0; have HR296_0 := A_ hi296_0; have HC296_0 := A_ hl296_0; clear hi296_0 hl296_0; replace p296 := eq_true p296; replace q296 := eq_true q296; have ea_ := Option.some.inj (hx295_0.symm.trans hx296_0)
             injection ea_ with ea_ en_ ec_
             subst ea_; subst ec_; clear en_
             have p297 : 0 ≤ (x4_2 : Int) := od_ (by assumption)
             have q297 : x4_2 < ((rd_L2 l0_1 x3_1).length : Int) := od_ (by assumption)
             obtain ⟨ad297, e297, hx297_0⟩ := Kd.at_int HR296_0.out x4_2 p297 q297
             cases e297
             replace hx297_0 := (HB.out.cell (World.block_lt_of_cell? w _ hx297_0)).trans hx297_0; replace p297 := eq_true p297; replace q297 := eq_true q297
             have p298 : 0 ≤ (x3_1 : Int) := od_ (by assumption)
             have q298 : x3_1 < (l0_1.length : Int) := od_ (by assumption)
             obtain ⟨ad298, A298_0, c298_0, e298, hx298_0, hl298_0, hi298_0⟩ := at_L2 HR0_1.out x3_1 p298 q298; obtain rfl : ad294 = ad298 := (by injection e298); replace hx298_0 := (HB.out.cell (World.block_lt_of_cell? w _ hx298_0)).trans hx298_0; have HR298_0 := A_ hi298_0; have HC298_0 := A_ hl298_0; clear hi298_0 hl298_0; replace p298 := eq_true p298; replace q298 := eq_true q298; have ea_ := Option.some.inj (hx295_0.symm.trans hx298_0)
             injection ea_ with ea_ en_ ec_
             subst ea_; subst ec_; clear en_
             have p299 : 0 ≤ (x4_2 : Int) := od_ (by assumption)
             have q299 : x4_2 < ((rd_L2 l0_1 x3_1).length : Int) := od_ (by assumption)
             obtain ⟨ad299, e299, hx299_0⟩ := Kd.at_int HR298_0.out x4_2 p299 q299
             cases e299
             replace hx299_0 := (HB.out.cell (World.block_lt_of_cell? w _ hx299_0)).trans hx299_0; replace p299 := eq_true p299; replace q299 := eq_true q299
             go_wp2
             repeat (go_quiet (fail); try go_wp2)
             go_ret
             exact ⟨by rfl, by repeat (first | (with_reducible first | exact HB.out | apply below_alloc | apply pw_below_drewN | apply below_drew1 | refine below_set ?_ GE293.out) | exact HB.out)⟩
            rw [if_neg c13] at H
            have c13b0 : decide ((l0_1.length : Int) ≤ (rd (rd_L2 l0_1 x3_1) x4_2)) = false := decide_eq_false c13
            clear c13
            have H' := A_ H
            clear H; have hcz15_0 := bz0 BK293.out; have hcz15_1 := bz1 BK293.out; have hcz15_2 := bz2 BK293.out; have hfz15_0 := blk_frozen BK293.out 0; have hfz15_1 := blk_frozen BK293.out 1; have hfz15_2 := blk_frozen BK293.out 2
            have p295 : 0 ≤ (x3_1 : Int) := od_ (by assumption)
            have q295 : x3_1 < (l0_1.length : Int) := od_ (by assumption)
            obtain ⟨ad295, A295_0, c295_0, e295, hx295_0, hl295_0, hi295_0⟩ := at_L2 HR0_1.out x3_1 p295 q295; obtain rfl : ad294 = ad295 := (by injection e295); replace hx295_0 := (HB.out.cell (World.block_lt_of_cell? w _ hx295_0)).trans hx295_0; have HR295_0 := A_ hi295_0; have HC295_0 := A_ hl295_0; clear hi295_0 hl295_0; replace p295 := eq_true p295; replace q295 := eq_true q295
            have p296 : 0 ≤ (x3_1 : Int) := od_ (by assumption)
            have q296 : x3_1 < (l0_1.length : Int) := od_ (by assumption)
            obtain ⟨ad296, A296_0, c296_0, e296, hx296_0, hl296_0, hi296_0⟩ := at_L2 HR0_1.out x3_1 p296 q296; obtain rfl : ad294 = ad296 := (by injection e296); replace hx296_0 := (HB.out.cell (World.block_lt_of_cell? w _ hx296_0)).trans hx296_0; have HR296_0 := A_ hi296_0; have HC296_0 := A_ hl296_0; clear hi296_0 hl296_0; replace p296 := eq_true p296; replace q296 := eq_true q296; have ea_ := Option.some.inj (hx295_0.symm.trans hx296_0)
            injection ea_ with ea_ en_ ec_
            subst ea_; subst ec_; clear en_
            have p297 : 0 ≤ (x4_2 : Int) := od_ (by assumption)
            have q297 : x4_2 < ((rd_L2 l0_1 x3_1).length : Int) := od_ (by assumption)
            obtain ⟨ad297, e297, hx297_0⟩ := Kd.at_int HR296_0.out x4_2 p297 q297
            cases e297
            replace hx297_0 := (HB.out.cell (World.block_lt_of_cell? w _ hx297_0)).trans hx297_0; replace p297 := eq_true p297; replace q297 := eq_true q297
            have p298 : 0 ≤ (x3_1 : Int) := od_ (by assumption)
            have q298 : x3_1 < (l0_1.length : Int) := od_ (by assumption)
            obtain ⟨ad298, A298_0, c298_0, e298, hx298_0, hl298_0, hi298_0⟩ := at_L2 HR0_1.out x3_1 p298 q298; obtain rfl : ad294 = ad298 := (by injection e298); replace hx298_0 := (HB.out.cell (World.block_lt_of_cell? w _ hx298_0)).trans hx298_0; have HR298_0 := A_ hi298_0; have HC298_0 := A_ hl298_0; clear hi298_0 hl298_0; replace p298 := eq_true p298; replace q298 := eq_true q298; have ea_ := Option.some.inj (hx295_0.symm.trans hx298_0)
            injection ea_ with ea_ en_ ec_
            subst ea_; subst ec_; clear en_
            have p299 : 0 ≤ (x4_2 : Int) := od_ (by assumption)
            have q299 : x4_2 < ((rd_L2 l0_1 x3_1).length : Int) := od_ (by assumption)
            obtain ⟨ad299, e299, hx299_0⟩ := Kd.at_int HR298_0.out x4_2 p299 q299
            cases e299
            replace hx299_0 := (HB.out.cell (World.block_lt_of_cell? w _ hx299_0)).trans hx299_0; replace p299 := eq_true p299; replace q299 := eq_true q299
            go_wp2
            repeat (go_quiet (fail); try go_wp2)
            go_roundg k2
            case measure => have := HK1.out; have := HK2.out; omega
            case rel => exact ⟨(wrap64 (x4_2 + 1)), (by rfl), H', ⟨by have := HK1.out; have := HK2.out; omega⟩, ⟨by (with_reducible repeat (first | refine blk_drewN ?_ _ | refine blk_drew ?_ | refine blk_alloc ?_ _)); exact BK293.out⟩, ⟨by repeat (first | (with_reducible first | exact HB.out | apply below_alloc | apply pw_below_drewN | apply below_drew1 | refine below_set ?_ GE293.out) | exact HB.out)⟩⟩
           rw [if_neg c10] at H
           cases H
          rw [if_neg c9] at H; have c9b0 := decide_eq_false c9; clear c9
          have H' := A_ H
          clear H; have hcz16_0 := bz0 BK293.out; have hcz16_1 := bz1 BK293.out; have hcz16_2 := bz2 BK293.out; have hfz16_0 := blk_frozen BK293.out 0; have hfz16_1 := blk_frozen BK293.out 1; have hfz16_2 := blk_frozen BK293.out 2
          have p295 : 0 ≤ (x3_1 : Int) := od_ (by assumption)
          have q295 : x3_1 < (l0_1.length : Int) := od_ (by assumption)
          obtain ⟨ad295, A295_0, c295_0, e295, hx295_0, hl295_0, hi295_0⟩ := at_L2 HR0_1.out x3_1 p295 q295; obtain rfl : ad294 = ad295 := (by injection e295); replace hx295_0 := (HB.out.cell (World.block_lt_of_cell? w _ hx295_0)).trans hx295_0; have HR295_0 := A_ hi295_0; have HC295_0 := A_ hl295_0; clear hi295_0 hl295_0; replace p295 := eq_true p295; replace q295 := eq_true q295
          go_wp2
          repeat (go_quiet (fail); try go_wp2)
          go_roundg k2
          case measure => have := HK1.out; have := HK2.out; omega
          case rel => exact ⟨(wrap64 (x3_1 + 1)), (by rfl), H', ⟨by have := HK1.out; have := HK2.out; omega⟩, ⟨BK293.out⟩, ⟨HB.out⟩⟩
         rw [if_neg c8] at H
         cases H
        rw [if_neg c7] at H
        cases H
     rw [if_neg c5] at H
     have c5b0 : (((rd_L2 l0_1 x3_1).length : Int) == a0_0) = false := beq_eq_false_iff_ne.mpr c5
     have c5b1 : (((rd_L2 l0_1 x3_1).length : Int) != a0_0) = true := bne_iff_ne.mpr c5
     obtain rfl := Option.some.inj H; have hcz17_0 := bz0 BK293.out; have hcz17_1 := bz1 BK293.out; have hcz17_2 := bz2 BK293.out; have hfz17_0 := blk_frozen BK293.out 0; have hfz17_1 := blk_frozen BK293.out 1; have hfz17_2 := blk_frozen BK293.out 2
     have p294 : 0 ≤ (x3_1 : Int) := od_ (by assumption)
     have q294 : x3_1 < (l0_1.length : Int) := od_ (by assumption)
     obtain ⟨ad294, A294_0, c294_0, e294, hx294_0, hl294_0, hi294_0⟩ := at_L2 HR0_1.out x3_1 p294 q294
     cases e294
     replace hx294_0 := (HB.out.cell (World.block_lt_of_cell? w _ hx294_0)).trans hx294_0; have HR294_0 := A_ hi294_0; have HC294_0 := A_ hl294_0; clear hi294_0 hl294_0; replace p294 := eq_true p294; replace q294 := eq_true q294
     go_wp2
     repeat (go_quiet (fail); try go_wp2)
     go_ret
     exact ⟨by rfl, by repeat (first | (with_reducible first | exact HB.out | apply below_alloc | apply pw_below_drewN | apply below_drew1 | refine below_set ?_ GE293.out) | exact HB.out)⟩
    rw [if_neg c4] at H
    cases H
   rw [if_neg c3] at H; have c3b0 := decide_eq_false c3; clear c3
   have H' := A_ H
   clear H; have hcz18_0 := bz0 BK293.out; have hcz18_1 := bz1 BK293.out; have hcz18_2 := bz2 BK293.out; have hfz18_0 := blk_frozen BK293.out 0; have hfz18_1 := blk_frozen BK293.out 1; have hfz18_2 := blk_frozen BK293.out 2
   go_wp2
   repeat (go_quiet (fail); try go_wp2)
   go_loopg [5] k1 (fun kq v5 w' => ∃ (x5_2 : Int), v5 = .int .i64 x5_2 ∧ Aside0 (spec_IsSequence.l2 kq x5_2 a0_0 l0_1 l0_2 = some r) ∧ Aside0 (kq ≤ k1) ∧ Aside0 (w'.heap[gb293]? = some (.cells #[.int .i64 a0_0, (.slice A0_1 l0_1.length c0_1), (.slice A0_2 l0_2.length c0_2)] 58 (0, 0))) ∧ Aside0 (Below w.heap.size w w'))
   case atStart => exact ⟨(0), (by rfl), H', ⟨Nat.le_refl _⟩, ⟨BK293.out⟩, ⟨HB.out⟩⟩
   case round =>
    clear H'
    try clear c3b0
    try clear hcz18_0
    try clear hcz18_1
    try clear hcz18_2
    try clear hfz18_0
    try clear hfz18_1
    try clear hfz18_2
    obtain ⟨x5_2, rfl, HA, HK2, BK293, HB⟩ := hrel
    cases gk with
    | zero => exact absurd HA.out (by simp [spec_IsSequence.l2])
    | succ k2 =>
     have H := HA.out; clear HA; simp only [spec_IsSequence.l2] at H
     by_cases c19 : x5_2 < (l0_2.length : Int)
     ·rw [if_pos c19] at H; have c19b0 := decide_eq_true c19; clear c19
      by_cases c20 : 0 ≤ x5_2
      ·rw [if_pos c20] at H; have c20b0 := decide_eq_true c20; clear c20; replace H := bA_ H; obtain ⟨t301, A21, H⟩ := H
       by_cases c22 : t301 = true
       ·subst c22; rw [if_pos rfl] at H
        have H' := A_ H
        clear H; have hcz23_0 := bz0 BK293.out; have hcz23_1 := bz1 BK293.out; have hcz23_2 := bz2 BK293.out; have hfz23_0 := blk_frozen BK293.out 0; have hfz23_1 := blk_frozen BK293.out 1; have hfz23_2 := blk_frozen BK293.out 2
        have p300 : 0 ≤ (x5_2 : Int) := od_ (by assumption)
        have q300 : x5_2 < (l0_2.length : Int) := od_ (by assumption)
        obtain ⟨ad300, e300, hx300_0⟩ := Kd.at_int HR0_2.out x5_2 p300 q300
        cases e300
        replace hx300_0 := (HB.out.cell (World.block_lt_of_cell? w _ hx300_0)).trans hx300_0; replace p300 := eq_true p300; replace q300 := eq_true q300
        go_wp2_with (first | (go_at_call 60; (with_reducible refine (spec_l1In.calls (rd l0_2 x5_2) 0 3 true _ A21.out).mono ?_); rintro e w' ⟨rfl, ⟨nd, rfl⟩⟩; skip))
        repeat (go_quiet (first | (go_at_call 60; (with_reducible refine (spec_l1In.calls (rd l0_2 x5_2) 0 3 true _ A21.out).mono ?_); rintro e w' ⟨rfl, ⟨nd, rfl⟩⟩; skip)); try go_wp2_with (first | (go_at_call 60; (with_reducible refine (spec_l1In.calls (rd l0_2 x5_2) 0 3 true _ A21.out).mono ?_); rintro e w' ⟨rfl, ⟨nd, rfl⟩⟩; skip)))
        go_roundg k2
        case measure => have := HK1.out; have := HK2.out; omega
        case rel => exact ⟨(wrap64 (x5_2 + 1)), (by rfl), H', ⟨by have := HK1.out; have := HK2.out; omega⟩, ⟨by (with_reducible repeat (first | refine blk_drewN ?_ _ | refine blk_drew ?_ | refine blk_alloc ?_ _)); exact BK293.out⟩, ⟨by repeat (first | (with_reducible first | exact HB.out | apply below_alloc | apply pw_below_drewN | apply below_drew1 | refine below_set ?_ GE293.out) | exact HB.out)⟩⟩
       replace c22 := Bool.eq_false_iff.mpr c22; subst c22; rw [if_neg nf_] at H; obtain rfl := Option.some.inj H; have hcz24_0 := bz0 BK293.out; have hcz24_1 := bz1 BK293.out; have hcz24_2 := bz2 BK293.out; have hfz24_0 := blk_frozen BK293.out 0; have hfz24_1 := blk_frozen BK293.out 1; have hfz24_2 := blk_frozen BK293.out 2
       have p300 : 0 ≤ (x5_2 : Int) := od_ (by assumption)
       have q300 : x5_2 < (l0_2.length : Int) := od_ (by assumption)
       obtain ⟨ad300, e300, hx300_0⟩ := Kd.at_int HR0_2.out x5_2 p300 q300
       cases e300
       replace hx300_0 := (HB.out.cell (World.block_lt_of_cell? w _ hx300_0)).trans hx300_0; replace p300 := eq_true p300; replace q300 := eq_true q300
       go_wp2_with (first | (go_at_call 60; (with_reducible refine (spec_l1In.calls (rd l0_2 x5_2) 0 3 false _ A21.out).mono ?_); rintro e w' ⟨rfl, ⟨nd, rfl⟩⟩; skip))
       repeat (go_quiet (first | (go_at_call 60; (with_reducible refine (spec_l1In.calls (rd l0_2 x5_2) 0 3 false _ A21.out).mono ?_); rintro e w' ⟨rfl, ⟨nd, rfl⟩⟩; skip)); try go_wp2_with (first | (go_at_call 60; (with_reducible refine (spec_l1In.calls (rd l0_2 x5_2) 0 3 false _ A21.out).mono ?_); rintro e w' ⟨rfl, ⟨nd, rfl⟩⟩; skip)))
       go_ret
       exact ⟨by rfl, by repeat (first | (with_reducible first | exact HB.out | apply below_alloc | apply pw_below_drewN | apply below_drew1 | refine below_set ?_ GE293.out) | exact HB.out)⟩
      rw [if_neg c20] at H
      cases H
     rw [if_neg c19] at H; have c19b0 := decide_eq_false c19; clear c19; replace H := bA_ H; obtain ⟨t302, A25, H⟩ := H
     by_cases c26 : t302 = true
     ·subst c26; rw [if_pos rfl] at H; replace H := bA_ H; obtain ⟨t303, A27, H⟩ := H
      by_cases c28 : t303 = true
      ·subst c28; rw [if_pos rfl] at H; obtain rfl := Option.some.inj H; have hcz29_0 := bz0 BK293.out; have hcz29_1 := bz1 BK293.out; have hcz29_2 := bz2 BK293.out; have hfz29_0 := blk_frozen BK293.out 0; have hfz29_1 := blk_frozen BK293.out 1; have hfz29_2 := blk_frozen BK293.out 2
       go_wp2_with (first | (go_at_call 60; (with_reducible refine (spec_l1In.calls a0_0 2 4 true _ A25.out).mono ?_); rintro e w' ⟨rfl, ⟨nd, rfl⟩⟩; skip) | (go_at_call 60; (with_reducible refine (spec_l1In.calls (l0_1.length : Int) 1 16 true _ A27.out).mono ?_); rintro e w' ⟨rfl, ⟨nd, rfl⟩⟩; skip))
       repeat (go_quiet (first | (go_at_call 60; (with_reducible refine (spec_l1In.calls a0_0 2 4 true _ A25.out).mono ?_); rintro e w' ⟨rfl, ⟨nd, rfl⟩⟩; skip) | (go_at_call 60; (with_reducible refine (spec_l1In.calls (l0_1.length : Int) 1 16 true _ A27.out).mono ?_); rintro e w' ⟨rfl, ⟨nd, rfl⟩⟩; skip)); try go_wp2_with (first | (go_at_call 60; (with_reducible refine (spec_l1In.calls a0_0 2 4 true _ A25.out).mono ?_); rintro e w' ⟨rfl, ⟨nd, rfl⟩⟩; skip) | (go_at_call 60; (with_reducible refine (spec_l1In.calls (l0_1.length : Int) 1 16 true _ A27.out).mono ?_); rintro e w' ⟨rfl, ⟨nd, rfl⟩⟩; skip)))
       go_ret
       exact ⟨by rfl, by repeat (first | (with_reducible first | exact HB.out | apply below_alloc | apply pw_below_drewN | apply below_drew1 | refine below_set ?_ GE293.out) | exact HB.out)⟩
      replace c28 := Bool.eq_false_iff.mpr c28; subst c28; rw [if_neg nf_] at H; obtain rfl := Option.some.inj H; have hcz30_0 := bz0 BK293.out; have hcz30_1 := bz1 BK293.out; have hcz30_2 := bz2 BK293.out; have hfz30_0 := blk_frozen BK293.out 0; have hfz30_1 := blk_frozen BK293.out 1; have hfz30_2 := blk_frozen BK293.out 2
      go_wp2_with (first | (go_at_call 60; (with_reducible refine (spec_l1In.calls a0_0 2 4 true _ A25.out).mono ?_); rintro e w' ⟨rfl, ⟨nd, rfl⟩⟩; skip) | (go_at_call 60; (with_reducible refine (spec_l1In.calls (l0_1.length : Int) 1 16 false _ A27.out).mono ?_); rintro e w' ⟨rfl, ⟨nd, rfl⟩⟩; skip))
      repeat (go_quiet (first | (go_at_call 60; (with_reducible refine (spec_l1In.calls a0_0 2 4 true _ A25.out).mono ?_); rintro e w' ⟨rfl, ⟨nd, rfl⟩⟩; skip) | (go_at_call 60; (with_reducible refine (spec_l1In.calls (l0_1.length : Int) 1 16 false _ A27.out).mono ?_); rintro e w' ⟨rfl, ⟨nd, rfl⟩⟩; skip)); try go_wp2_with (first | (go_at_call 60; (with_reducible refine (spec_l1In.calls a0_0 2 4 true _ A25.out).mono ?_); rintro e w' ⟨rfl, ⟨nd, rfl⟩⟩; skip) | (go_at_call 60; (with_reducible refine (spec_l1In.calls (l0_1.length : Int) 1 16 false _ A27.out).mono ?_); rintro e w' ⟨rfl, ⟨nd, rfl⟩⟩; skip)))
      go_ret
      exact ⟨by rfl, by repeat (first | (with_reducible first | exact HB.out | apply below_alloc | apply pw_below_drewN | apply below_drew1 | refine below_set ?_ GE293.out) | exact HB.out)⟩
     replace c26 := Bool.eq_false_iff.mpr c26; subst c26; rw [if_neg nf_] at H; obtain rfl := Option.some.inj H; have hcz31_0 := bz0 BK293.out; have hcz31_1 := bz1 BK293.out; have hcz31_2 := bz2 BK293.out; have hfz31_0 := blk_frozen BK293.out 0; have hfz31_1 := blk_frozen BK293.out 1; have hfz31_2 := blk_frozen BK293.out 2
     go_wp2_with (first | (go_at_call 60; (with_reducible refine (spec_l1In.calls a0_0 2 4 false _ A25.out).mono ?_); rintro e w' ⟨rfl, ⟨nd, rfl⟩⟩; skip))
     repeat (go_quiet (first | (go_at_call 60; (with_reducible refine (spec_l1In.calls a0_0 2 4 false _ A25.out).mono ?_); rintro e w' ⟨rfl, ⟨nd, rfl⟩⟩; skip)); try go_wp2_with (first | (go_at_call 60; (with_reducible refine (spec_l1In.calls a0_0 2 4 false _ A25.out).mono ?_); rintro e w' ⟨rfl, ⟨nd, rfl⟩⟩; skip)))
     go_ret
     exact ⟨by rfl, by repeat (first | (with_reducible first | exact HB.out | apply below_alloc | apply pw_below_drewN | apply below_drew1 | refine below_set ?_ GE293.out) | exact HB.out)⟩

mutual
def spec_PowerOf.j0 : Nat → Int → Int → Bool → Option (Int)
 | 0, _, _, _ => none
 | k + 1, x0, x1, x14 => if x14 = true then (some 0) else (spec_PowerOf.l0 k x0 x1 1 0)
def spec_PowerOf.l0 : Nat → Int → Int → Int → Int → Option (Int)
 | 0, _, _, _, _ => none
 | k + 1, x0, x1, x5, x6 => if x6 < x1 then (spec_PowerOf.l0 k x0 x1 (wrap64 (x5 * x0)) (wrap64 (x6 + 1))) else (some x5)
end
def spec_PowerOf.f (k : Nat) (a0 : Int) (a1 : Int) : Option (Int) := (spec_l1In.f a0 2 4).bind fun t304 => (if t304 = true then ((spec_l1In.f a1 0 16).bind fun t305 => (spec_PowerOf.j0 k a0 a1 (!t305))) else (spec_PowerOf.j0 k a0 a1 true))
theorem spec_PowerOf.calls (k : Nat) (a0 : Int) (a1 : Int) (r : Int) (w : World) (h : spec_PowerOf.f k a0 a1 = some r) :
  Calls Try.prog 89 #[.int .i64 a0, .int .i64 a1] w fun e w' => e = .returned (.int .i64 r) ∧ Drawn0 w w' := by
 unfold spec_PowerOf.f at h; have H := h; clear h; have HC3 := A_ H; clear H; go_enter Try.func89, Try.ntmps89
 go_upto_region 1 with (fail)
 go_cut [14] (fun v14 wc => ∃ (kq : Nat) (x14_2 : Bool), v14 = .bool x14_2 ∧ Aside0 (spec_PowerOf.j0 kq a0 a1 x14_2 = some r) ∧ Aside0 (kq ≤ k) ∧ Drawn0 w wc)
 case first =>
  have H := HC3.out; clear HC3; replace H := bA_ H; obtain ⟨t304, A4, H⟩ := H
  by_cases c5 : t304 = true
  ·subst c5; rw [if_pos rfl] at H; replace H := bA_ H; obtain ⟨t305, A6, H⟩ := H
   have H' := A_ H
   clear H
   go_wp2_with (first | ((with_reducible refine gc_ 60 rfl ?_); refine cD_ E60 8 rfl rfl rfl (spec_l1In.calls a0 2 4 true _ A4.out) (by (try simp only [mA, mB, mC]); first | done | rfl | (simp only [List.length_drop, List.length_take]; rfl)) fun nd => ?_) | (go_at_call 60; (with_reducible refine (spec_l1In.calls a1 0 16 t305 _ A6.out).mono ?_); rintro e w' ⟨rfl, ⟨nd, rfl⟩⟩))
   go_meet
   case rel => exact ⟨_, (!t305), (by rfl), H', ⟨by omega⟩, by repeat (first | exact Drawn0.refl _ | apply Drawn0.step)⟩
  replace c5 := Bool.eq_false_iff.mpr c5; subst c5; rw [if_neg nf_] at H
  have H' := A_ H
  clear H
  go_wp2_with (first | ((with_reducible refine gc_ 60 rfl ?_); refine cD_ E60 8 rfl rfl rfl (spec_l1In.calls a0 2 4 false _ A4.out) (by simp only [mA, mB, mC]; rfl) fun nd => ?_))
  go_meet
  case rel => exact ⟨_, (true), (by rfl), H', ⟨by omega⟩, by repeat (first | exact Drawn0.refl _ | apply Drawn0.step)⟩
 case rest =>
  clear HC3; obtain ⟨kq, x14_2, rfl, HA, HJ2, ⟨mc2, rfl⟩⟩ := hcut
  cases kq with
  | zero => exact absurd HA.out (by simp [spec_PowerOf.j0])
  | succ kj2 =>
   have H := HA.out; clear HA; simp only [spec_PowerOf.j0] at H
   by_cases c7 : x14_2 = true
   ·subst c7; rw [if_pos rfl] at H; obtain rfl := Option.some.inj H
    go_wp2
    go_ret
    exact ⟨by rfl, by repeat (first | exact Drawn0.refl _ | apply Drawn0.step)⟩
   replace c7 := Bool.eq_false_iff.mpr c7; subst c7; rw [if_neg nf_] at H
   have H' := A_ H
   clear H
   go_wp2
   go_loopg [5, 6] kj2 (fun kq v5 v6 w' => ∃ (x5_2 : Int) (x6_2 : Int), v5 = .int .i64 x5_2 ∧ v6 = .int .i64 x6_2 ∧ Aside0 (spec_PowerOf.l0 kq a0 a1 x5_2 x6_2 = some r) ∧ Aside0 (kq ≤ kj2) ∧ Drawn0 w w')
   case atStart => exact ⟨(1), (0), (by rfl), (by rfl), H', ⟨Nat.le_refl _⟩, by repeat (first | exact Drawn0.refl _ | apply Drawn0.step)⟩
   case round =>
    clear H'; obtain ⟨x5_2, x6_2, rfl, rfl, HA, HK2, ⟨m2, rfl⟩⟩ := hrel
    cases gk with
    | zero => exact absurd HA.out (by simp [spec_PowerOf.l0])
    | succ k2 =>
     have H := HA.out; clear HA; simp only [spec_PowerOf.l0] at H
     by_cases c8 : x6_2 < a1
     ·rw [if_pos c8] at H; have c8b0 := decide_eq_true c8; clear c8
      have H' := A_ H
      clear H
      go_wp2
      go_roundg k2
      case measure => have := HJ2.out; have := HK2.out; omega
      case rel => exact ⟨(wrap64 (x5_2 * a0)), (wrap64 (x6_2 + 1)), (by rfl), (by rfl), H', ⟨by have := HJ2.out; have := HK2.out; omega⟩, by repeat (first | exact Drawn0.refl _ | apply Drawn0.step)⟩
     rw [if_neg c8] at H; have c8b0 := decide_eq_false c8; clear c8; obtain rfl := Option.some.inj H
     go_wp2
     go_ret
     exact ⟨by rfl, by repeat (first | exact Drawn0.refl _ | apply Drawn0.step)⟩

end Go.Proofs.Ytnhpbmagbajliaa.PFnBorders

