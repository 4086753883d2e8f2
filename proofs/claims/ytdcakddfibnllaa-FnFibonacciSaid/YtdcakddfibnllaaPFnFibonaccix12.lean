/- Written by this session's own program (wip/myprint.py): the machine side of one law, some contracts of it typed by hand. -/
import Derived.Test.YtdcakddfibnllaaPFnFibonaccix0
import Derived.Test.YtdcakddfibnllaaPFnFibonaccix1
namespace Go.Proofs.Ytdcakddfibnllaa.PFnFibonacci
open Go.RowKit Go.Proofs.YtdcakddfibnllaaW.PrintWords Go.Proofs.YtdcakddfibnllaaW.PrintLast Go.Proofs.YtdcakddfibnllaaW.PrintMore
attribute [local go_sem] max2_int min2_int max_two min_two max_three min_three max_four min_four   -- for this text's walks alone
set_option linter.unusedVariables false
set_option maxHeartbeats 8000000
set_option maxRecDepth 100000
set_option linter.unusedSimpArgs false

/-! ### spec_IsSequence: function 101 -/
mutual
def spec_IsSequence.l0 : Nat → Int → Int → List (List Int) → List Int → Option (Bool)
 | 0, _, _, _, _ => none
 | k + 1, x3, x557000, x557001, x557002 => if x3 < (x557001.length : Int) then (if 0 ≤ x3 then (if ((rd_L1 x557001 x3).length : Int) = x557000 then (spec_IsSequence.l1 k x3 0 x557000 x557001 x557002) else (some false)) else (none)) else (spec_IsSequence.l2 k 0 x557000 x557001 x557002)
def spec_IsSequence.l1 : Nat → Int → Int → Int → List (List Int) → List Int → Option (Bool)
 | 0, _, _, _, _, _ => none
 | k + 1, x3, x4, x557000, x557001, x557002 => if 0 ≤ x3 then (if x3 < (x557001.length : Int) then (if x4 < ((rd_L1 x557001 x3).length : Int) then (if 0 ≤ x4 then (if (rd (rd_L1 x557001 x3) x4) < 0 then (some false) else (if (rd (rd_L1 x557001 x3) x4) ≥ (x557001.length : Int) then (some false) else (spec_IsSequence.l1 k x3 (wrap64 (x4 + 1)) x557000 x557001 x557002))) else (none)) else (spec_IsSequence.l0 k (wrap64 (x3 + 1)) x557000 x557001 x557002)) else (none)) else (none)
def spec_IsSequence.l2 : Nat → Int → Int → List (List Int) → List Int → Option (Bool)
 | 0, _, _, _, _ => none
 | k + 1, x5, x557000, x557001, x557002 => if x5 < (x557002.length : Int) then (if 0 ≤ x5 then ((spec_l1In.f (rd x557002 x5) 0 3).bind fun t564 => (if t564 = true then (spec_IsSequence.l2 k (wrap64 (x5 + 1)) x557000 x557001 x557002) else (some false))) else (none)) else ((spec_l1In.f x557000 2 4).bind fun t565 => (if t565 = true then ((spec_l1In.f (x557001.length : Int) 1 16).bind fun t566 => (if t566 = true then (some ((x557002.length : Int) == (x557001.length : Int))) else (some false))) else (some false)))
end
def spec_IsSequence.f (k : Nat) (a0_0 : Int) (l0_1 : List (List Int)) (l0_2 : List Int) : Option (Bool) := spec_IsSequence.l0 k 0 a0_0 l0_1 l0_2
theorem spec_IsSequence.mono_l : ∀ k, (∀ y0 y1 y2 y3, LeO (spec_IsSequence.l0 k y0 y1 y2 y3) (spec_IsSequence.l0 (k + 1) y0 y1 y2 y3)) ∧ (∀ y0 y1 y2 y3 y4, LeO (spec_IsSequence.l1 k y0 y1 y2 y3 y4) (spec_IsSequence.l1 (k + 1) y0 y1 y2 y3 y4)) ∧ (∀ y0 y1 y2 y3, LeO (spec_IsSequence.l2 k y0 y1 y2 y3) (spec_IsSequence.l2 (k + 1) y0 y1 y2 y3))
 | 0 => ⟨fun _ _ _ _ r h => by simp [spec_IsSequence.l0] at h, fun _ _ _ _ _ r h => by simp [spec_IsSequence.l1] at h, fun _ _ _ _ r h => by simp [spec_IsSequence.l2] at h⟩
 | k + 1 => by
  obtain ⟨ih0, ih1, ih2⟩ := spec_IsSequence.mono_l k
  refine ⟨?_, ?_, ?_⟩
  ·intro y0 y1 y2 y3
   unfold spec_IsSequence.l0
   with_reducible repeat' first | exact ih0 _ _ _ _ | exact ih1 _ _ _ _ _ | exact ih2 _ _ _ _ | exact LeO.refl _ | exact LeO.none _ | refine LeO.ite ?_ ?_ | refine LeO.bind ?_ (fun _ => ?_)
  ·intro y0 y1 y2 y3 y4
   unfold spec_IsSequence.l1
   with_reducible repeat' first | exact ih0 _ _ _ _ | exact ih1 _ _ _ _ _ | exact ih2 _ _ _ _ | exact LeO.refl _ | exact LeO.none _ | refine LeO.ite ?_ ?_ | refine LeO.bind ?_ (fun _ => ?_)
  intro y0 y1 y2 y3
  unfold spec_IsSequence.l2
  with_reducible repeat' first | exact ih0 _ _ _ _ | exact ih1 _ _ _ _ _ | exact ih2 _ _ _ _ | exact LeO.refl _ | exact LeO.none _ | refine LeO.ite ?_ ?_ | refine LeO.bind ?_ (fun _ => ?_)
theorem spec_IsSequence.mono : ∀ a0 a1 a2 k, LeO (spec_IsSequence.f k a0 a1 a2) (spec_IsSequence.f (k + 1) a0 a1 a2) := by
 intro a0 a1 a2 k
 obtain ⟨ih0, ih1, ih2⟩ := spec_IsSequence.mono_l k
 unfold spec_IsSequence.f
 with_reducible repeat' first | exact ih0 _ _ _ _ | exact ih1 _ _ _ _ _ | exact ih2 _ _ _ _ | exact LeO.refl _ | exact LeO.none _ | refine LeO.ite ?_ ?_ | refine LeO.bind ?_ (fun _ => ?_)
theorem spec_IsSequence.calls (k : Nat) (a0_0 : Int) (A0_1 : Option Addr) (c0_1 : Nat) (l0_1 : List (List Int)) (A0_2 : Option Addr) (c0_2 : Nat) (l0_2 : List Int) (r : Bool) (w : World) (hr0_1 : Kd.C (Kd.slice 3 (Kd.int .i64)) w A0_1 l0_1.length l0_1) (hc0_1 : l0_1.length ≤ c0_1) (hr0_2 : Kd.C (Kd.int .i64) w A0_2 l0_2.length l0_2) (hc0_2 : l0_2.length ≤ c0_2) (h : spec_IsSequence.f k a0_0 l0_1 l0_2 = some r) :
  Calls Try.prog 101 #[.agg #[.int .i64 a0_0, .slice A0_1 l0_1.length c0_1, .slice A0_2 l0_2.length c0_2]] w fun e w' => e = .returned (.bool r) ∧ Below w.heap.size w w' := by
 have hu72 := Try.underlying72
 have HR0_1 := A_ hr0_1
 have HC0_1 := A_ hc0_1
 clear hr0_1 hc0_1
 have HR0_2 := A_ hr0_2
 have HC0_2 := A_ hc0_2
 clear hr0_2 hc0_2
 have HB := A_ (Below.refl w.heap.size w)
 unfold spec_IsSequence.f at h
 have H := h
 clear h
 have H' := A_ H
 clear H
 go_enter Try.func101, Try.ntmps101
 go_wp2_with (first | ((with_reducible refine gate_dst (N := 1) rfl ?_); (try (refine gate_guard (by rfl) ?_; dsimp only)); refine box_event ?hg (N := 1) ?hd (cs := #[.int .i64 a0_0, .slice A0_1 l0_1.length c0_1, .slice A0_2 l0_2.length c0_2]) (t := 72) ?hr ?_; (case hd | hg => rfl); (case hr => go_simp; done); intro gb556 hg w2 hbox hb; have n0_ := A_ (below_step HB.out hb); have n1_ := A_ (hbox); have n2_ := A_ ((by rw [hg]; exact (below_size HB.out) : w.heap.size ≤ gb556)); have n3_ := A_ ((by rw [hg]; exact (below_size HB.out) : w.heap.size ≤ gb556)); clear HB; revert n0_ n1_ n2_ n3_; intro HB BK556 GW556 GE556; clear hb hbox hg))
 repeat (go_quiet (first | ((with_reducible refine gate_dst (N := 1) rfl ?_); (try (refine gate_guard (by rfl) ?_; dsimp only)); refine box_event ?hg (N := 1) ?hd (cs := #[.int .i64 a0_0, .slice A0_1 l0_1.length c0_1, .slice A0_2 l0_2.length c0_2]) (t := 72) ?hr ?_; (case hd | hg => rfl); (case hr => first | (go_simp; done) | (go_simp; rfl)); intro gb556 hg w2 hbox hb; have n0_ := A_ (below_step HB.out hb); have n1_ := A_ (hbox); have n2_ := A_ ((by rw [hg]; exact (below_size HB.out) : w.heap.size ≤ gb556)); have n3_ := A_ ((by rw [hg]; exact (below_size HB.out) : w.heap.size ≤ gb556)); clear HB; revert n0_ n1_ n2_ n3_; intro HB BK556 GW556 GE556; clear hb hbox hg)); try go_wp2_with (first | ((with_reducible refine gate_dst (N := 1) rfl ?_); (try (refine gate_guard (by rfl) ?_; dsimp only)); refine box_event ?hg (N := 1) ?hd (cs := #[.int .i64 a0_0, .slice A0_1 l0_1.length c0_1, .slice A0_2 l0_2.length c0_2]) (t := 72) ?hr ?_; (case hd | hg => rfl); (case hr => first | (go_simp; done) | (go_simp; rfl)); intro gb556 hg w2 hbox hb; have n0_ := A_ (below_step HB.out hb); have n1_ := A_ (hbox); have n2_ := A_ ((by rw [hg]; exact (below_size HB.out) : w.heap.size ≤ gb556)); have n3_ := A_ ((by rw [hg]; exact (below_size HB.out) : w.heap.size ≤ gb556)); clear HB; revert n0_ n1_ n2_ n3_; intro HB BK556 GW556 GE556; clear hb hbox hg)))
 go_loopg [3] k (fun kq v3 w' => ∃ (x3_1 : Int), v3 = .int .i64 x3_1 ∧ Aside0 (spec_IsSequence.l0 kq x3_1 a0_0 l0_1 l0_2 = some r) ∧ Aside0 (kq ≤ k) ∧ Aside0 (w'.heap[gb556]? = some (.cells #[.int .i64 a0_0, (.slice A0_1 l0_1.length c0_1), (.slice A0_2 l0_2.length c0_2)] 72 (0, 0))) ∧ Aside0 (Below w.heap.size w w'))
 case atStart => exact ⟨(0), (by rfl), H', ⟨Nat.le_refl _⟩, ⟨BK556.out⟩, ⟨HB.out⟩⟩
 case round =>
  clear H'
  obtain ⟨x3_1, rfl, HA, HK1, BK556, HB⟩ := hrel
  cases gk with
  | zero => exact absurd HA.out (by simp [spec_IsSequence.l0])
  | succ k1 =>
   have H := HA.out
   clear HA
   simp only [spec_IsSequence.l0] at H
   by_cases c3 : x3_1 < (l0_1.length : Int)
   ·rw [if_pos c3] at H
    have c3b0 : decide (x3_1 < (l0_1.length : Int)) = true := decide_eq_true c3
    clear c3
    by_cases c4 : 0 ≤ x3_1
    ·rw [if_pos c4] at H
     have c4b0 : decide (0 ≤ x3_1) = true := decide_eq_true c4
     clear c4
     by_cases c5 : ((rd_L1 l0_1 x3_1).length : Int) = a0_0
     ·rw [if_pos c5] at H
      have c5b0 : (((rd_L1 l0_1 x3_1).length : Int) == a0_0) = true := beq_iff_eq.mpr c5
      have c5b1 : (((rd_L1 l0_1 x3_1).length : Int) != a0_0) = false := bne_eq_false_iff_eq.mpr c5
      clear c5
      have H' := A_ H
      clear H
      have hcz6_0 : wr.cell? ⟨gb556, 0, none⟩ = some (.int .i64 a0_0) := (blk_cell BK556.out 0).trans rfl
      have hcz6_1 : wr.cell? ⟨gb556, 1, none⟩ = some (.slice A0_1 l0_1.length c0_1) := (blk_cell BK556.out 1).trans rfl
      have hcz6_2 : wr.cell? ⟨gb556, 2, none⟩ = some (.slice A0_2 l0_2.length c0_2) := (blk_cell BK556.out 2).trans rfl
      have hfz6_0 := blk_frozen BK556.out 0
      have hfz6_1 := blk_frozen BK556.out 1
      have hfz6_2 := blk_frozen BK556.out 2
      have p557 : 0 ≤ (x3_1 : Int) := of_decide_eq_true (by first | (with_reducible assumption) | assumption)
      have q557 : x3_1 < (l0_1.length : Int) := of_decide_eq_true (by first | (with_reducible assumption) | assumption)
      obtain ⟨ad557, A557_0, c557_0, e557, hx557_0, hl557_0, hi557_0⟩ := at_L1 HR0_1.out x3_1 p557 q557
      cases e557
      replace hx557_0 := (HB.out.cell (World.block_lt_of_cell? w _ hx557_0)).trans hx557_0
      have HR557_0 := A_ hi557_0
      have HC557_0 := A_ hl557_0
      clear hi557_0 hl557_0
      replace p557 := eq_true p557
      replace q557 := eq_true q557
      go_wp2
      repeat (go_quiet (fail); try go_wp2)
      go_loopg [4] k1 (fun kq v4 w' => ∃ (x4_2 : Int), v4 = .int .i64 x4_2 ∧ Aside0 (spec_IsSequence.l1 kq x3_1 x4_2 a0_0 l0_1 l0_2 = some r) ∧ Aside0 (kq ≤ k1) ∧ Aside0 (w'.heap[gb556]? = some (.cells #[.int .i64 a0_0, (.slice (some ad557) l0_1.length c0_1), (.slice A0_2 l0_2.length c0_2)] 72 (0, 0))) ∧ Aside0 (Below w.heap.size w w'))
      case atStart => exact ⟨(0), (by rfl), H', ⟨Nat.le_refl _⟩, ⟨by (with_reducible repeat (first | refine blk_drewN ?_ _ | refine blk_drew ?_ | refine blk_alloc ?_ _)); exact BK556.out⟩, ⟨by repeat (first | (with_reducible first | exact HB.out | apply below_alloc | apply pw_below_drewN | apply below_drew1 | refine below_set ?_ GE556.out) | exact HB.out)⟩⟩
      case round =>
       clear H'
       try clear c3b0
       try clear c4b0
       try clear c5b0
       try clear c5b1
       try clear hcz6_0
       try clear hcz6_1
       try clear hcz6_2
       try clear hfz6_0
       try clear hfz6_1
       try clear hfz6_2
       try clear hx557_0
       try clear p557
       try clear q557
       obtain ⟨x4_2, rfl, HA, HK2, BK556, HB⟩ := hrel
       cases gk with
       | zero => exact absurd HA.out (by simp [spec_IsSequence.l1])
       | succ k2 =>
        have H := HA.out
        clear HA
        simp only [spec_IsSequence.l1] at H
        by_cases c7 : 0 ≤ x3_1
        ·rw [if_pos c7] at H
         have c7b0 : decide (0 ≤ x3_1) = true := decide_eq_true c7
         clear c7
         by_cases c8 : x3_1 < (l0_1.length : Int)
         ·rw [if_pos c8] at H
          have c8b0 : decide (x3_1 < (l0_1.length : Int)) = true := decide_eq_true c8
          clear c8
          by_cases c9 : x4_2 < ((rd_L1 l0_1 x3_1).length : Int)
          ·rw [if_pos c9] at H
           have c9b0 : decide (x4_2 < ((rd_L1 l0_1 x3_1).length : Int)) = true := decide_eq_true c9
           clear c9
           by_cases c10 : 0 ≤ x4_2
           ·rw [if_pos c10] at H
            have c10b0 : decide (0 ≤ x4_2) = true := decide_eq_true c10
            clear c10
            by_cases c11 : (rd (rd_L1 l0_1 x3_1) x4_2) < 0
            ·rw [if_pos c11] at H
             have c11b0 : decide ((rd (rd_L1 l0_1 x3_1) x4_2) < 0) = true := decide_eq_true c11
             clear c11
             obtain rfl := Option.some.inj H
             have hcz12_0 : wr.cell? ⟨gb556, 0, none⟩ = some (.int .i64 a0_0) := (blk_cell BK556.out 0).trans rfl
             have hcz12_1 : wr.cell? ⟨gb556, 1, none⟩ = some (.slice (some ad557) l0_1.length c0_1) := (blk_cell BK556.out 1).trans rfl
             have hcz12_2 : wr.cell? ⟨gb556, 2, none⟩ = some (.slice A0_2 l0_2.length c0_2) := (blk_cell BK556.out 2).trans rfl
             have hfz12_0 := blk_frozen BK556.out 0
             have hfz12_1 := blk_frozen BK556.out 1
             have hfz12_2 := blk_frozen BK556.out 2
             have p558 : 0 ≤ (x3_1 : Int) := of_decide_eq_true (by first | (with_reducible assumption) | assumption)
             have q558 : x3_1 < (l0_1.length : Int) := of_decide_eq_true (by first | (with_reducible assumption) | assumption)
             obtain ⟨ad558, A558_0, c558_0, e558, hx558_0, hl558_0, hi558_0⟩ := at_L1 HR0_1.out x3_1 p558 q558
             obtain rfl : ad557 = ad558 := (by injection e558)
             replace hx558_0 := (HB.out.cell (World.block_lt_of_cell? w _ hx558_0)).trans hx558_0
             have HR558_0 := A_ hi558_0
             have HC558_0 := A_ hl558_0
             clear hi558_0 hl558_0
             replace p558 := eq_true p558
             replace q558 := eq_true q558
             have p559 : 0 ≤ (x3_1 : Int) := of_decide_eq_true (by first | (with_reducible assumption) | assumption)
             have q559 : x3_1 < (l0_1.length : Int) := of_decide_eq_true (by first | (with_reducible assumption) | assumption)
             obtain ⟨ad559, A559_0, c559_0, e559, hx559_0, hl559_0, hi559_0⟩ := at_L1 HR0_1.out x3_1 p559 q559
             obtain rfl : ad557 = ad559 := (by injection e559)
             replace hx559_0 := (HB.out.cell (World.block_lt_of_cell? w _ hx559_0)).trans hx559_0
             have HR559_0 := A_ hi559_0
             have HC559_0 := A_ hl559_0
             clear hi559_0 hl559_0
             replace p559 := eq_true p559
             replace q559 := eq_true q559
             have ea_ := Option.some.inj (hx558_0.symm.trans hx559_0)
             injection ea_ with ea_ en_ ec_
             subst ea_
             subst ec_
             clear en_
             have p560 : 0 ≤ (x4_2 : Int) := of_decide_eq_true (by first | (with_reducible assumption) | assumption)
             have q560 : x4_2 < ((rd_L1 l0_1 x3_1).length : Int) := of_decide_eq_true (by first | (with_reducible assumption) | assumption)
             obtain ⟨ad560, e560, hx560_0⟩ := Kd.at_int HR559_0.out x4_2 p560 q560
             cases e560
             replace hx560_0 := (HB.out.cell (World.block_lt_of_cell? w _ hx560_0)).trans hx560_0
             replace p560 := eq_true p560
             replace q560 := eq_true q560
             go_wp2
             repeat (go_quiet (fail); try go_wp2)
             go_ret
             exact ⟨by rfl, by repeat (first | (with_reducible first | exact HB.out | apply below_alloc | apply pw_below_drewN | apply below_drew1 | refine below_set ?_ GE556.out) | exact HB.out)⟩
            rw [if_neg c11] at H
            have c11b0 : decide ((rd (rd_L1 l0_1 x3_1) x4_2) < 0) = false := decide_eq_false c11
            clear c11
            by_cases c13 : (rd (rd_L1 l0_1 x3_1) x4_2) ≥ (l0_1.length : Int)
            ·rw [if_pos c13] at H
             have c13b0 : decide ((l0_1.length : Int) ≤ (rd (rd_L1 l0_1 x3_1) x4_2)) = true := decide_eq_true c13
             clear c13
             obtain rfl := Option.some.inj H
             have hcz14_0 : wr.cell? ⟨gb556, 0, none⟩ = some (.int .i64 a0_0) := (blk_cell BK556.out 0).trans rfl
             have hcz14_1 : wr.cell? ⟨gb556, 1, none⟩ = some (.slice (some ad557) l0_1.length c0_1) := (blk_cell BK556.out 1).trans rfl
             have hcz14_2 : wr.cell? ⟨gb556, 2, none⟩ = some (.slice A0_2 l0_2.length c0_2) := (blk_cell BK556.out 2).trans rfl
             have hfz14_0 := blk_frozen BK556.out 0
             have hfz14_1 := blk_frozen BK556.out 1
             have hfz14_2 := blk_frozen BK556.out 2
             have p558 : 0 ≤ (x3_1 : Int) := of_decide_eq_true (by first | (with_reducible assumption) | assumption)
             have q558 : x3_1 < (l0_1.length : Int) := of_decide_eq_true (by first | (with_reducible assumption) | assumption)
             obtain ⟨ad558, A558_0, c558_0, e558, hx558_0, hl558_0, hi558_0⟩ := at_L1 HR0_1.out x3_1 p558 q558
             obtain rfl : ad557 = ad558 := (by injection e558)
             replace hx558_0 := (HB.out.cell (World.block_lt_of_cell? w _ hx558_0)).trans hx558_0
             have HR558_0 := A_ hi558_0
             have HC558_0 := A_ hl558_0
             clear hi558_0 hl558_0
             replace p558 := eq_true p558
             replace q558 := eq_true q558
             have p559 : 0 ≤ (x3_1 : Int) := of_decide_eq_true (by first | (with_reducible assumption) | assumption)
             have q559 : x3_1 < (l0_1.length : Int) := of_decide_eq_true (by first | (with_reducible assumption) | assumption)
             obtain ⟨ad559, A559_0, c559_0, e559, hx559_0, hl559_0, hi559_0⟩ := at_L1 HR0_1.out x3_1 p559 q559
             obtain rfl : ad557 = ad559 := (by injection e559)
             replace hx559_0 := (HB.out.cell (World.block_lt_of_cell? w _ hx559_0)).trans hx559_0
             have HR559_0 := A_ hi559_0
             have HC559_0 := A_ hl559_0
             clear hi559_0 hl559_0
             replace p559 := eq_true p559
             replace q559 := eq_true q559
             have ea_ := Option.some.inj (hx558_0.symm.trans hx559_0)
             injection ea_ with ea_ en_ ec_
             subst ea_
             subst ec_
             clear en_
             have p560 : 0 ≤ (x4_2 : Int) := of_decide_eq_true (by first | (with_reducible assumption) | assumption)
             have q560 : x4_2 < ((rd_L1 l0_1 x3_1).length : Int) := of_decide_eq_true (by first | (with_reducible assumption) | assumption)
             obtain ⟨ad560, e560, hx560_0⟩ := Kd.at_int HR559_0.out x4_2 p560 q560
             cases e560
             replace hx560_0 := (HB.out.cell (World.block_lt_of_cell? w _ hx560_0)).trans hx560_0
             replace p560 := eq_true p560
             replace q560 := eq_true q560
             have p561 : 0 ≤ (x3_1 : Int) := of_decide_eq_true (by first | (with_reducible assumption) | assumption)
             have q561 : x3_1 < (l0_1.length : Int) := of_decide_eq_true (by first | (with_reducible assumption) | assumption)
             obtain ⟨ad561, A561_0, c561_0, e561, hx561_0, hl561_0, hi561_0⟩ := at_L1 HR0_1.out x3_1 p561 q561
             obtain rfl : ad557 = ad561 := (by injection e561)
             replace hx561_0 := (HB.out.cell (World.block_lt_of_cell? w _ hx561_0)).trans hx561_0
             have HR561_0 := A_ hi561_0
             have HC561_0 := A_ hl561_0
             clear hi561_0 hl561_0
             replace p561 := eq_true p561
             replace q561 := eq_true q561
             have ea_ := Option.some.inj (hx558_0.symm.trans hx561_0)
             injection ea_ with ea_ en_ ec_
             subst ea_
             subst ec_
             clear en_
             have p562 : 0 ≤ (x4_2 : Int) := of_decide_eq_true (by first | (with_reducible assumption) | assumption)
             have q562 : x4_2 < ((rd_L1 l0_1 x3_1).length : Int) := of_decide_eq_true (by first | (with_reducible assumption) | assumption)
             obtain ⟨ad562, e562, hx562_0⟩ := Kd.at_int HR561_0.out x4_2 p562 q562
             cases e562
             replace hx562_0 := (HB.out.cell (World.block_lt_of_cell? w _ hx562_0)).trans hx562_0
             replace p562 := eq_true p562
             replace q562 := eq_true q562
             go_wp2
             repeat (go_quiet (fail); try go_wp2)
             go_ret
             exact ⟨by rfl, by repeat (first | (with_reducible first | exact HB.out | apply below_alloc | apply pw_below_drewN | apply below_drew1 | refine below_set ?_ GE556.out) | exact HB.out)⟩
            rw [if_neg c13] at H
            have c13b0 : decide ((l0_1.length : Int) ≤ (rd (rd_L1 l0_1 x3_1) x4_2)) = false := decide_eq_false c13
            clear c13
            have H' := A_ H
            clear H
            have hcz15_0 : wr.cell? ⟨gb556, 0, none⟩ = some (.int .i64 a0_0) := (blk_cell BK556.out 0).trans rfl
            have hcz15_1 : wr.cell? ⟨gb556, 1, none⟩ = some (.slice (some ad557) l0_1.length c0_1) := (blk_cell BK556.out 1).trans rfl
            have hcz15_2 : wr.cell? ⟨gb556, 2, none⟩ = some (.slice A0_2 l0_2.length c0_2) := (blk_cell BK556.out 2).trans rfl
            have hfz15_0 := blk_frozen BK556.out 0
            have hfz15_1 := blk_frozen BK556.out 1
            have hfz15_2 := blk_frozen BK556.out 2
            have p558 : 0 ≤ (x3_1 : Int) := of_decide_eq_true (by first | (with_reducible assumption) | assumption)
            have q558 : x3_1 < (l0_1.length : Int) := of_decide_eq_true (by first | (with_reducible assumption) | assumption)
            obtain ⟨ad558, A558_0, c558_0, e558, hx558_0, hl558_0, hi558_0⟩ := at_L1 HR0_1.out x3_1 p558 q558
            obtain rfl : ad557 = ad558 := (by injection e558)
            replace hx558_0 := (HB.out.cell (World.block_lt_of_cell? w _ hx558_0)).trans hx558_0
            have HR558_0 := A_ hi558_0
            have HC558_0 := A_ hl558_0
            clear hi558_0 hl558_0
            replace p558 := eq_true p558
            replace q558 := eq_true q558
            have p559 : 0 ≤ (x3_1 : Int) := of_decide_eq_true (by first | (with_reducible assumption) | assumption)
            have q559 : x3_1 < (l0_1.length : Int) := of_decide_eq_true (by first | (with_reducible assumption) | assumption)
            obtain ⟨ad559, A559_0, c559_0, e559, hx559_0, hl559_0, hi559_0⟩ := at_L1 HR0_1.out x3_1 p559 q559
            obtain rfl : ad557 = ad559 := (by injection e559)
            replace hx559_0 := (HB.out.cell (World.block_lt_of_cell? w _ hx559_0)).trans hx559_0
            have HR559_0 := A_ hi559_0
            have HC559_0 := A_ hl559_0
            clear hi559_0 hl559_0
            replace p559 := eq_true p559
            replace q559 := eq_true q559
            have ea_ := Option.some.inj (hx558_0.symm.trans hx559_0)
            injection ea_ with ea_ en_ ec_
            subst ea_
            subst ec_
            clear en_
            have p560 : 0 ≤ (x4_2 : Int) := of_decide_eq_true (by first | (with_reducible assumption) | assumption)
            have q560 : x4_2 < ((rd_L1 l0_1 x3_1).length : Int) := of_decide_eq_true (by first | (with_reducible assumption) | assumption)
            obtain ⟨ad560, e560, hx560_0⟩ := Kd.at_int HR559_0.out x4_2 p560 q560
            cases e560
            replace hx560_0 := (HB.out.cell (World.block_lt_of_cell? w _ hx560_0)).trans hx560_0
            replace p560 := eq_true p560
            replace q560 := eq_true q560
            have p561 : 0 ≤ (x3_1 : Int) := of_decide_eq_true (by first | (with_reducible assumption) | assumption)
            have q561 : x3_1 < (l0_1.length : Int) := of_decide_eq_true (by first | (with_reducible assumption) | assumption)
            obtain ⟨ad561, A561_0, c561_0, e561, hx561_0, hl561_0, hi561_0⟩ := at_L1 HR0_1.out x3_1 p561 q561
            obtain rfl : ad557 = ad561 := (by injection e561)
            replace hx561_0 := (HB.out.cell (World.block_lt_of_cell? w _ hx561_0)).trans hx561_0
            have HR561_0 := A_ hi561_0
            have HC561_0 := A_ hl561_0
            clear hi561_0 hl561_0
            replace p561 := eq_true p561
            replace q561 := eq_true q561
            have ea_ := Option.some.inj (hx558_0.symm.trans hx561_0)
            injection ea_ with ea_ en_ ec_
            subst ea_
            subst ec_
            clear en_
            have p562 : 0 ≤ (x4_2 : Int) := of_decide_eq_true (by first | (with_reducible assumption) | assumption)
            have q562 : x4_2 < ((rd_L1 l0_1 x3_1).length : Int) := of_decide_eq_true (by first | (with_reducible assumption) | assumption)
            obtain ⟨ad562, e562, hx562_0⟩ := Kd.at_int HR561_0.out x4_2 p562 q562
            cases e562
            replace hx562_0 := (HB.out.cell (World.block_lt_of_cell? w _ hx562_0)).trans hx562_0
            replace p562 := eq_true p562
            replace q562 := eq_true q562
            go_wp2
            repeat (go_quiet (fail); try go_wp2)
            go_roundg k2
            case measure => have := HK1.out; have := HK2.out; omega
            case rel => exact ⟨(wrap64 (x4_2 + 1)), (by rfl), H', ⟨by have := HK1.out; have := HK2.out; omega⟩, ⟨by (with_reducible repeat (first | refine blk_drewN ?_ _ | refine blk_drew ?_ | refine blk_alloc ?_ _)); exact BK556.out⟩, ⟨by repeat (first | (with_reducible first | exact HB.out | apply below_alloc | apply pw_below_drewN | apply below_drew1 | refine below_set ?_ GE556.out) | exact HB.out)⟩⟩
           rw [if_neg c10] at H
           exact absurd H (by simp)
          rw [if_neg c9] at H
          have c9b0 : decide (x4_2 < ((rd_L1 l0_1 x3_1).length : Int)) = false := decide_eq_false c9
          clear c9
          have H' := A_ H
          clear H
          have hcz16_0 : wr.cell? ⟨gb556, 0, none⟩ = some (.int .i64 a0_0) := (blk_cell BK556.out 0).trans rfl
          have hcz16_1 : wr.cell? ⟨gb556, 1, none⟩ = some (.slice (some ad557) l0_1.length c0_1) := (blk_cell BK556.out 1).trans rfl
          have hcz16_2 : wr.cell? ⟨gb556, 2, none⟩ = some (.slice A0_2 l0_2.length c0_2) := (blk_cell BK556.out 2).trans rfl
          have hfz16_0 := blk_frozen BK556.out 0
          have hfz16_1 := blk_frozen BK556.out 1
          have hfz16_2 := blk_frozen BK556.out 2
          have p558 : 0 ≤ (x3_1 : Int) := of_decide_eq_true (by first | (with_reducible assumption) | assumption)
          have q558 : x3_1 < (l0_1.length : Int) := of_decide_eq_true (by first | (with_reducible assumption) | assumption)
          obtain ⟨ad558, A558_0, c558_0, e558, hx558_0, hl558_0, hi558_0⟩ := at_L1 HR0_1.out x3_1 p558 q558
          obtain rfl : ad557 = ad558 := (by injection e558)
          replace hx558_0 := (HB.out.cell (World.block_lt_of_cell? w _ hx558_0)).trans hx558_0
          have HR558_0 := A_ hi558_0
          have HC558_0 := A_ hl558_0
          clear hi558_0 hl558_0
          replace p558 := eq_true p558
          replace q558 := eq_true q558
          go_wp2
          repeat (go_quiet (fail); try go_wp2)
          go_roundg k2
          case measure => have := HK1.out; have := HK2.out; omega
          case rel => exact ⟨(wrap64 (x3_1 + 1)), (by rfl), H', ⟨by have := HK1.out; have := HK2.out; omega⟩, ⟨BK556.out⟩, ⟨HB.out⟩⟩
         rw [if_neg c8] at H
         exact absurd H (by simp)
        rw [if_neg c7] at H
        exact absurd H (by simp)
     rw [if_neg c5] at H
     have c5b0 : (((rd_L1 l0_1 x3_1).length : Int) == a0_0) = false := beq_eq_false_iff_ne.mpr c5
     have c5b1 : (((rd_L1 l0_1 x3_1).length : Int) != a0_0) = true := bne_iff_ne.mpr c5
     obtain rfl := Option.some.inj H
     have hcz17_0 : wr.cell? ⟨gb556, 0, none⟩ = some (.int .i64 a0_0) := (blk_cell BK556.out 0).trans rfl
     have hcz17_1 : wr.cell? ⟨gb556, 1, none⟩ = some (.slice A0_1 l0_1.length c0_1) := (blk_cell BK556.out 1).trans rfl
     have hcz17_2 : wr.cell? ⟨gb556, 2, none⟩ = some (.slice A0_2 l0_2.length c0_2) := (blk_cell BK556.out 2).trans rfl
     have hfz17_0 := blk_frozen BK556.out 0
     have hfz17_1 := blk_frozen BK556.out 1
     have hfz17_2 := blk_frozen BK556.out 2
     have p557 : 0 ≤ (x3_1 : Int) := of_decide_eq_true (by first | (with_reducible assumption) | assumption)
     have q557 : x3_1 < (l0_1.length : Int) := of_decide_eq_true (by first | (with_reducible assumption) | assumption)
     obtain ⟨ad557, A557_0, c557_0, e557, hx557_0, hl557_0, hi557_0⟩ := at_L1 HR0_1.out x3_1 p557 q557
     cases e557
     replace hx557_0 := (HB.out.cell (World.block_lt_of_cell? w _ hx557_0)).trans hx557_0
     have HR557_0 := A_ hi557_0
     have HC557_0 := A_ hl557_0
     clear hi557_0 hl557_0
     replace p557 := eq_true p557
     replace q557 := eq_true q557
     go_wp2
     repeat (go_quiet (fail); try go_wp2)
     go_ret
     exact ⟨by rfl, by repeat (first | (with_reducible first | exact HB.out | apply below_alloc | apply pw_below_drewN | apply below_drew1 | refine below_set ?_ GE556.out) | exact HB.out)⟩
    rw [if_neg c4] at H
    exact absurd H (by simp)
   rw [if_neg c3] at H
   have c3b0 : decide (x3_1 < (l0_1.length : Int)) = false := decide_eq_false c3
   clear c3
   have H' := A_ H
   clear H
   have hcz18_0 : wr.cell? ⟨gb556, 0, none⟩ = some (.int .i64 a0_0) := (blk_cell BK556.out 0).trans rfl
   have hcz18_1 : wr.cell? ⟨gb556, 1, none⟩ = some (.slice A0_1 l0_1.length c0_1) := (blk_cell BK556.out 1).trans rfl
   have hcz18_2 : wr.cell? ⟨gb556, 2, none⟩ = some (.slice A0_2 l0_2.length c0_2) := (blk_cell BK556.out 2).trans rfl
   have hfz18_0 := blk_frozen BK556.out 0
   have hfz18_1 := blk_frozen BK556.out 1
   have hfz18_2 := blk_frozen BK556.out 2
   go_wp2
   repeat (go_quiet (fail); try go_wp2)
   go_loopg [5] k1 (fun kq v5 w' => ∃ (x5_2 : Int), v5 = .int .i64 x5_2 ∧ Aside0 (spec_IsSequence.l2 kq x5_2 a0_0 l0_1 l0_2 = some r) ∧ Aside0 (kq ≤ k1) ∧ Aside0 (w'.heap[gb556]? = some (.cells #[.int .i64 a0_0, (.slice A0_1 l0_1.length c0_1), (.slice A0_2 l0_2.length c0_2)] 72 (0, 0))) ∧ Aside0 (Below w.heap.size w w'))
   case atStart => exact ⟨(0), (by rfl), H', ⟨Nat.le_refl _⟩, ⟨BK556.out⟩, ⟨HB.out⟩⟩
   case round =>
    clear H'
    try clear c3b0
    try clear hcz18_0
    try clear hcz18_1
    try clear hcz18_2
    try clear hfz18_0
    try clear hfz18_1
    try clear hfz18_2
    obtain ⟨x5_2, rfl, HA, HK2, BK556, HB⟩ := hrel
    cases gk with
    | zero => exact absurd HA.out (by simp [spec_IsSequence.l2])
    | succ k2 =>
     have H := HA.out
     clear HA
     simp only [spec_IsSequence.l2] at H
     by_cases c19 : x5_2 < (l0_2.length : Int)
     ·rw [if_pos c19] at H
      have c19b0 : decide (x5_2 < (l0_2.length : Int)) = true := decide_eq_true c19
      clear c19
      by_cases c20 : 0 ≤ x5_2
      ·rw [if_pos c20] at H
       have c20b0 : decide (0 ≤ x5_2) = true := decide_eq_true c20
       clear c20
       replace H := Option.bind_eq_some_iff.mp H
       obtain ⟨t564, A210, H⟩ := H
       have A21 := A_ A210
       clear A210
       by_cases c22 : t564 = true
       ·subst c22
        rw [if_pos rfl] at H
        have H' := A_ H
        clear H
        have hcz23_0 : wr.cell? ⟨gb556, 0, none⟩ = some (.int .i64 a0_0) := (blk_cell BK556.out 0).trans rfl
        have hcz23_1 : wr.cell? ⟨gb556, 1, none⟩ = some (.slice A0_1 l0_1.length c0_1) := (blk_cell BK556.out 1).trans rfl
        have hcz23_2 : wr.cell? ⟨gb556, 2, none⟩ = some (.slice A0_2 l0_2.length c0_2) := (blk_cell BK556.out 2).trans rfl
        have hfz23_0 := blk_frozen BK556.out 0
        have hfz23_1 := blk_frozen BK556.out 1
        have hfz23_2 := blk_frozen BK556.out 2
        have p563 : 0 ≤ (x5_2 : Int) := of_decide_eq_true (by first | (with_reducible assumption) | assumption)
        have q563 : x5_2 < (l0_2.length : Int) := of_decide_eq_true (by first | (with_reducible assumption) | assumption)
        obtain ⟨ad563, e563, hx563_0⟩ := Kd.at_int HR0_2.out x5_2 p563 q563
        cases e563
        replace hx563_0 := (HB.out.cell (World.block_lt_of_cell? w _ hx563_0)).trans hx563_0
        replace p563 := eq_true p563
        replace q563 := eq_true q563
        go_wp2_with (first | (go_at_call 62; (with_reducible refine (spec_l1In.calls (rd l0_2 x5_2) 0 3 true _ A21.out).mono ?_); rintro e w' ⟨rfl, ⟨nd, rfl⟩⟩; (try first | exact ⟨rfl, _, World.drewN_drewN _ _ _⟩ | exact ⟨rfl, _, Eq.trans (World.drewN_drewN _ _ _) (congrArg (World.drewN _) (Nat.add_assoc _ _ _))⟩)))
        repeat (go_quiet (first | (go_at_call 62; (with_reducible refine (spec_l1In.calls (rd l0_2 x5_2) 0 3 true _ A21.out).mono ?_); rintro e w' ⟨rfl, ⟨nd, rfl⟩⟩; (try first | exact ⟨rfl, _, World.drewN_drewN _ _ _⟩ | exact ⟨rfl, _, Eq.trans (World.drewN_drewN _ _ _) (congrArg (World.drewN _) (Nat.add_assoc _ _ _))⟩))); try go_wp2_with (first | (go_at_call 62; (with_reducible refine (spec_l1In.calls (rd l0_2 x5_2) 0 3 true _ A21.out).mono ?_); rintro e w' ⟨rfl, ⟨nd, rfl⟩⟩; (try first | exact ⟨rfl, _, World.drewN_drewN _ _ _⟩ | exact ⟨rfl, _, Eq.trans (World.drewN_drewN _ _ _) (congrArg (World.drewN _) (Nat.add_assoc _ _ _))⟩))))
        go_roundg k2
        case measure => have := HK1.out; have := HK2.out; omega
        case rel => exact ⟨(wrap64 (x5_2 + 1)), (by rfl), H', ⟨by have := HK1.out; have := HK2.out; omega⟩, ⟨by (with_reducible repeat (first | refine blk_drewN ?_ _ | refine blk_drew ?_ | refine blk_alloc ?_ _)); exact BK556.out⟩, ⟨by repeat (first | (with_reducible first | exact HB.out | apply below_alloc | apply pw_below_drewN | apply below_drew1 | refine below_set ?_ GE556.out) | exact HB.out)⟩⟩
       replace c22 := Bool.eq_false_iff.mpr c22
       subst c22
       rw [if_neg (show ¬ (false = true) by decide)] at H
       obtain rfl := Option.some.inj H
       have hcz24_0 : wr.cell? ⟨gb556, 0, none⟩ = some (.int .i64 a0_0) := (blk_cell BK556.out 0).trans rfl
       have hcz24_1 : wr.cell? ⟨gb556, 1, none⟩ = some (.slice A0_1 l0_1.length c0_1) := (blk_cell BK556.out 1).trans rfl
       have hcz24_2 : wr.cell? ⟨gb556, 2, none⟩ = some (.slice A0_2 l0_2.length c0_2) := (blk_cell BK556.out 2).trans rfl
       have hfz24_0 := blk_frozen BK556.out 0
       have hfz24_1 := blk_frozen BK556.out 1
       have hfz24_2 := blk_frozen BK556.out 2
       have p563 : 0 ≤ (x5_2 : Int) := of_decide_eq_true (by first | (with_reducible assumption) | assumption)
       have q563 : x5_2 < (l0_2.length : Int) := of_decide_eq_true (by first | (with_reducible assumption) | assumption)
       obtain ⟨ad563, e563, hx563_0⟩ := Kd.at_int HR0_2.out x5_2 p563 q563
       cases e563
       replace hx563_0 := (HB.out.cell (World.block_lt_of_cell? w _ hx563_0)).trans hx563_0
       replace p563 := eq_true p563
       replace q563 := eq_true q563
       go_wp2_with (first | (go_at_call 62; (with_reducible refine (spec_l1In.calls (rd l0_2 x5_2) 0 3 false _ A21.out).mono ?_); rintro e w' ⟨rfl, ⟨nd, rfl⟩⟩; (try first | exact ⟨rfl, _, World.drewN_drewN _ _ _⟩ | exact ⟨rfl, _, Eq.trans (World.drewN_drewN _ _ _) (congrArg (World.drewN _) (Nat.add_assoc _ _ _))⟩)))
       repeat (go_quiet (first | (go_at_call 62; (with_reducible refine (spec_l1In.calls (rd l0_2 x5_2) 0 3 false _ A21.out).mono ?_); rintro e w' ⟨rfl, ⟨nd, rfl⟩⟩; (try first | exact ⟨rfl, _, World.drewN_drewN _ _ _⟩ | exact ⟨rfl, _, Eq.trans (World.drewN_drewN _ _ _) (congrArg (World.drewN _) (Nat.add_assoc _ _ _))⟩))); try go_wp2_with (first | (go_at_call 62; (with_reducible refine (spec_l1In.calls (rd l0_2 x5_2) 0 3 false _ A21.out).mono ?_); rintro e w' ⟨rfl, ⟨nd, rfl⟩⟩; (try first | exact ⟨rfl, _, World.drewN_drewN _ _ _⟩ | exact ⟨rfl, _, Eq.trans (World.drewN_drewN _ _ _) (congrArg (World.drewN _) (Nat.add_assoc _ _ _))⟩))))
       go_ret
       exact ⟨by rfl, by repeat (first | (with_reducible first | exact HB.out | apply below_alloc | apply pw_below_drewN | apply below_drew1 | refine below_set ?_ GE556.out) | exact HB.out)⟩
      rw [if_neg c20] at H
      exact absurd H (by simp)
     rw [if_neg c19] at H
     have c19b0 : decide (x5_2 < (l0_2.length : Int)) = false := decide_eq_false c19
     clear c19
     replace H := Option.bind_eq_some_iff.mp H
     obtain ⟨t565, A250, H⟩ := H
     have A25 := A_ A250
     clear A250
     by_cases c26 : t565 = true
     ·subst c26
      rw [if_pos rfl] at H
      replace H := Option.bind_eq_some_iff.mp H
      obtain ⟨t566, A270, H⟩ := H
      have A27 := A_ A270
      clear A270
      by_cases c28 : t566 = true
      ·subst c28
       rw [if_pos rfl] at H
       obtain rfl := Option.some.inj H
       have hcz29_0 : wr.cell? ⟨gb556, 0, none⟩ = some (.int .i64 a0_0) := (blk_cell BK556.out 0).trans rfl
       have hcz29_1 : wr.cell? ⟨gb556, 1, none⟩ = some (.slice A0_1 l0_1.length c0_1) := (blk_cell BK556.out 1).trans rfl
       have hcz29_2 : wr.cell? ⟨gb556, 2, none⟩ = some (.slice A0_2 l0_2.length c0_2) := (blk_cell BK556.out 2).trans rfl
       have hfz29_0 := blk_frozen BK556.out 0
       have hfz29_1 := blk_frozen BK556.out 1
       have hfz29_2 := blk_frozen BK556.out 2
       go_wp2_with (first | (go_at_call 62; (with_reducible refine (spec_l1In.calls a0_0 2 4 true _ A25.out).mono ?_); rintro e w' ⟨rfl, ⟨nd, rfl⟩⟩; (try first | exact ⟨rfl, _, World.drewN_drewN _ _ _⟩ | exact ⟨rfl, _, Eq.trans (World.drewN_drewN _ _ _) (congrArg (World.drewN _) (Nat.add_assoc _ _ _))⟩)) | (go_at_call 62; (with_reducible refine (spec_l1In.calls (l0_1.length : Int) 1 16 true _ A27.out).mono ?_); rintro e w' ⟨rfl, ⟨nd, rfl⟩⟩; (try first | exact ⟨rfl, _, World.drewN_drewN _ _ _⟩ | exact ⟨rfl, _, Eq.trans (World.drewN_drewN _ _ _) (congrArg (World.drewN _) (Nat.add_assoc _ _ _))⟩)))
       repeat (go_quiet (first | (go_at_call 62; (with_reducible refine (spec_l1In.calls a0_0 2 4 true _ A25.out).mono ?_); rintro e w' ⟨rfl, ⟨nd, rfl⟩⟩; (try first | exact ⟨rfl, _, World.drewN_drewN _ _ _⟩ | exact ⟨rfl, _, Eq.trans (World.drewN_drewN _ _ _) (congrArg (World.drewN _) (Nat.add_assoc _ _ _))⟩)) | (go_at_call 62; (with_reducible refine (spec_l1In.calls (l0_1.length : Int) 1 16 true _ A27.out).mono ?_); rintro e w' ⟨rfl, ⟨nd, rfl⟩⟩; (try first | exact ⟨rfl, _, World.drewN_drewN _ _ _⟩ | exact ⟨rfl, _, Eq.trans (World.drewN_drewN _ _ _) (congrArg (World.drewN _) (Nat.add_assoc _ _ _))⟩))); try go_wp2_with (first | (go_at_call 62; (with_reducible refine (spec_l1In.calls a0_0 2 4 true _ A25.out).mono ?_); rintro e w' ⟨rfl, ⟨nd, rfl⟩⟩; (try first | exact ⟨rfl, _, World.drewN_drewN _ _ _⟩ | exact ⟨rfl, _, Eq.trans (World.drewN_drewN _ _ _) (congrArg (World.drewN _) (Nat.add_assoc _ _ _))⟩)) | (go_at_call 62; (with_reducible refine (spec_l1In.calls (l0_1.length : Int) 1 16 true _ A27.out).mono ?_); rintro e w' ⟨rfl, ⟨nd, rfl⟩⟩; (try first | exact ⟨rfl, _, World.drewN_drewN _ _ _⟩ | exact ⟨rfl, _, Eq.trans (World.drewN_drewN _ _ _) (congrArg (World.drewN _) (Nat.add_assoc _ _ _))⟩))))
       go_ret
       exact ⟨by rfl, by repeat (first | (with_reducible first | exact HB.out | apply below_alloc | apply pw_below_drewN | apply below_drew1 | refine below_set ?_ GE556.out) | exact HB.out)⟩
      replace c28 := Bool.eq_false_iff.mpr c28
      subst c28
      rw [if_neg (show ¬ (false = true) by decide)] at H
      obtain rfl := Option.some.inj H
      have hcz30_0 : wr.cell? ⟨gb556, 0, none⟩ = some (.int .i64 a0_0) := (blk_cell BK556.out 0).trans rfl
      have hcz30_1 : wr.cell? ⟨gb556, 1, none⟩ = some (.slice A0_1 l0_1.length c0_1) := (blk_cell BK556.out 1).trans rfl
      have hcz30_2 : wr.cell? ⟨gb556, 2, none⟩ = some (.slice A0_2 l0_2.length c0_2) := (blk_cell BK556.out 2).trans rfl
      have hfz30_0 := blk_frozen BK556.out 0
      have hfz30_1 := blk_frozen BK556.out 1
      have hfz30_2 := blk_frozen BK556.out 2
      go_wp2_with (first | (go_at_call 62; (with_reducible refine (spec_l1In.calls a0_0 2 4 true _ A25.out).mono ?_); rintro e w' ⟨rfl, ⟨nd, rfl⟩⟩; (try first | exact ⟨rfl, _, World.drewN_drewN _ _ _⟩ | exact ⟨rfl, _, Eq.trans (World.drewN_drewN _ _ _) (congrArg (World.drewN _) (Nat.add_assoc _ _ _))⟩)) | (go_at_call 62; (with_reducible refine (spec_l1In.calls (l0_1.length : Int) 1 16 false _ A27.out).mono ?_); rintro e w' ⟨rfl, ⟨nd, rfl⟩⟩; (try first | exact ⟨rfl, _, World.drewN_drewN _ _ _⟩ | exact ⟨rfl, _, Eq.trans (World.drewN_drewN _ _ _) (congrArg (World.drewN _) (Nat.add_assoc _ _ _))⟩)))
      repeat (go_quiet (first | (go_at_call 62; (with_reducible refine (spec_l1In.calls a0_0 2 4 true _ A25.out).mono ?_); rintro e w' ⟨rfl, ⟨nd, rfl⟩⟩; (try first | exact ⟨rfl, _, World.drewN_drewN _ _ _⟩ | exact ⟨rfl, _, Eq.trans (World.drewN_drewN _ _ _) (congrArg (World.drewN _) (Nat.add_assoc _ _ _))⟩)) | (go_at_call 62; (with_reducible refine (spec_l1In.calls (l0_1.length : Int) 1 16 false _ A27.out).mono ?_); rintro e w' ⟨rfl, ⟨nd, rfl⟩⟩; (try first | exact ⟨rfl, _, World.drewN_drewN _ _ _⟩ | exact ⟨rfl, _, Eq.trans (World.drewN_drewN _ _ _) (congrArg (World.drewN _) (Nat.add_assoc _ _ _))⟩))); try go_wp2_with (first | (go_at_call 62; (with_reducible refine (spec_l1In.calls a0_0 2 4 true _ A25.out).mono ?_); rintro e w' ⟨rfl, ⟨nd, rfl⟩⟩; (try first | exact ⟨rfl, _, World.drewN_drewN _ _ _⟩ | exact ⟨rfl, _, Eq.trans (World.drewN_drewN _ _ _) (congrArg (World.drewN _) (Nat.add_assoc _ _ _))⟩)) | (go_at_call 62; (with_reducible refine (spec_l1In.calls (l0_1.length : Int) 1 16 false _ A27.out).mono ?_); rintro e w' ⟨rfl, ⟨nd, rfl⟩⟩; (try first | exact ⟨rfl, _, World.drewN_drewN _ _ _⟩ | exact ⟨rfl, _, Eq.trans (World.drewN_drewN _ _ _) (congrArg (World.drewN _) (Nat.add_assoc _ _ _))⟩))))
      go_ret
      exact ⟨by rfl, by repeat (first | (with_reducible first | exact HB.out | apply below_alloc | apply pw_below_drewN | apply below_drew1 | refine below_set ?_ GE556.out) | exact HB.out)⟩
     replace c26 := Bool.eq_false_iff.mpr c26
     subst c26
     rw [if_neg (show ¬ (false = true) by decide)] at H
     obtain rfl := Option.some.inj H
     have hcz31_0 : wr.cell? ⟨gb556, 0, none⟩ = some (.int .i64 a0_0) := (blk_cell BK556.out 0).trans rfl
     have hcz31_1 : wr.cell? ⟨gb556, 1, none⟩ = some (.slice A0_1 l0_1.length c0_1) := (blk_cell BK556.out 1).trans rfl
     have hcz31_2 : wr.cell? ⟨gb556, 2, none⟩ = some (.slice A0_2 l0_2.length c0_2) := (blk_cell BK556.out 2).trans rfl
     have hfz31_0 := blk_frozen BK556.out 0
     have hfz31_1 := blk_frozen BK556.out 1
     have hfz31_2 := blk_frozen BK556.out 2
     go_wp2_with (first | (go_at_call 62; (with_reducible refine (spec_l1In.calls a0_0 2 4 false _ A25.out).mono ?_); rintro e w' ⟨rfl, ⟨nd, rfl⟩⟩; (try first | exact ⟨rfl, _, World.drewN_drewN _ _ _⟩ | exact ⟨rfl, _, Eq.trans (World.drewN_drewN _ _ _) (congrArg (World.drewN _) (Nat.add_assoc _ _ _))⟩)))
     repeat (go_quiet (first | (go_at_call 62; (with_reducible refine (spec_l1In.calls a0_0 2 4 false _ A25.out).mono ?_); rintro e w' ⟨rfl, ⟨nd, rfl⟩⟩; (try first | exact ⟨rfl, _, World.drewN_drewN _ _ _⟩ | exact ⟨rfl, _, Eq.trans (World.drewN_drewN _ _ _) (congrArg (World.drewN _) (Nat.add_assoc _ _ _))⟩))); try go_wp2_with (first | (go_at_call 62; (with_reducible refine (spec_l1In.calls a0_0 2 4 false _ A25.out).mono ?_); rintro e w' ⟨rfl, ⟨nd, rfl⟩⟩; (try first | exact ⟨rfl, _, World.drewN_drewN _ _ _⟩ | exact ⟨rfl, _, Eq.trans (World.drewN_drewN _ _ _) (congrArg (World.drewN _) (Nat.add_assoc _ _ _))⟩))))
     go_ret
     exact ⟨by rfl, by repeat (first | (with_reducible first | exact HB.out | apply below_alloc | apply pw_below_drewN | apply below_drew1 | refine below_set ?_ GE556.out) | exact HB.out)⟩

/-! ### spec_PowerOf: function 106 -/
mutual
def spec_PowerOf.j0 : Nat → Int → Int → Bool → Option (Int)
 | 0, _, _, _ => none
 | k + 1, x0, x1, x14 => if x14 = true then (some 0) else (spec_PowerOf.l0 k x0 x1 1 0)
def spec_PowerOf.l0 : Nat → Int → Int → Int → Int → Option (Int)
 | 0, _, _, _, _ => none
 | k + 1, x0, x1, x5, x6 => if x6 < x1 then (spec_PowerOf.l0 k x0 x1 (wrap64 (x5 * x0)) (wrap64 (x6 + 1))) else (some x5)
end
def spec_PowerOf.f (k : Nat) (a0 : Int) (a1 : Int) : Option (Int) := (spec_l1In.f a0 2 4).bind fun t567 => (if t567 = true then ((spec_l1In.f a1 0 16).bind fun t568 => (spec_PowerOf.j0 k a0 a1 (!t568))) else (spec_PowerOf.j0 k a0 a1 true))
theorem spec_PowerOf.mono_l : ∀ k, (∀ y0 y1 y2, LeO (spec_PowerOf.j0 k y0 y1 y2) (spec_PowerOf.j0 (k + 1) y0 y1 y2)) ∧ (∀ y0 y1 y2 y3, LeO (spec_PowerOf.l0 k y0 y1 y2 y3) (spec_PowerOf.l0 (k + 1) y0 y1 y2 y3))
 | 0 => ⟨fun _ _ _ r h => by simp [spec_PowerOf.j0] at h, fun _ _ _ _ r h => by simp [spec_PowerOf.l0] at h⟩
 | k + 1 => by
  obtain ⟨ih0, ih1⟩ := spec_PowerOf.mono_l k
  refine ⟨?_, ?_⟩
  ·intro y0 y1 y2
   unfold spec_PowerOf.j0
   with_reducible repeat' first | exact ih0 _ _ _ | exact ih1 _ _ _ _ | exact LeO.refl _ | exact LeO.none _ | refine LeO.ite ?_ ?_ | refine LeO.bind ?_ (fun _ => ?_)
  intro y0 y1 y2 y3
  unfold spec_PowerOf.l0
  with_reducible repeat' first | exact ih0 _ _ _ | exact ih1 _ _ _ _ | exact LeO.refl _ | exact LeO.none _ | refine LeO.ite ?_ ?_ | refine LeO.bind ?_ (fun _ => ?_)
theorem spec_PowerOf.mono : ∀ a0 a1 k, LeO (spec_PowerOf.f k a0 a1) (spec_PowerOf.f (k + 1) a0 a1) := by
 intro a0 a1 k
 obtain ⟨ih0, ih1⟩ := spec_PowerOf.mono_l k
 unfold spec_PowerOf.f
 with_reducible repeat' first | exact ih0 _ _ _ | exact ih1 _ _ _ _ | exact LeO.refl _ | exact LeO.none _ | refine LeO.ite ?_ ?_ | refine LeO.bind ?_ (fun _ => ?_)
theorem spec_PowerOf.calls (k : Nat) (a0 : Int) (a1 : Int) (r : Int) (w : World) (h : spec_PowerOf.f k a0 a1 = some r) :
  Calls Try.prog 106 #[.int .i64 a0, .int .i64 a1] w fun e w' => e = .returned (.int .i64 r) ∧ Drawn0 w w' := by
 unfold spec_PowerOf.f at h
 have H := h
 clear h
 have HC3 := A_ H
 clear H
 go_enter Try.func106, Try.ntmps106
 go_upto_region 1 with (fail)
 go_cut [14] (fun v14 wc => ∃ (kq : Nat) (x14_2 : Bool), v14 = .bool x14_2 ∧ Aside0 (spec_PowerOf.j0 kq a0 a1 x14_2 = some r) ∧ Aside0 (kq ≤ k) ∧ Drawn0 w wc)
 case first =>
  have H := HC3.out
  clear HC3
  replace H := Option.bind_eq_some_iff.mp H
  obtain ⟨t567, A40, H⟩ := H
  have A4 := A_ A40
  clear A40
  by_cases c5 : t567 = true
  ·subst c5
   rw [if_pos rfl] at H
   replace H := Option.bind_eq_some_iff.mp H
   obtain ⟨t568, A60, H⟩ := H
   have A6 := A_ A60
   clear A60
   have H' := A_ H
   clear H
   go_wp2_with (first | ((with_reducible refine gate_callee (f := 62) rfl ?_); refine goesL_ (some 8) rfl rfl Try.func62 (by kernel_rfl) rfl #[.int .i64 a0, .int .i64 2, .int .i64 4] rfl (by (try simp only [mA, mB, mC]); first | done | rfl | (simp only [List.length_drop, List.length_take]; rfl)) ?_; (with_reducible refine (spec_l1In.calls a0 2 4 true _ A4.out).mono ?_); rintro e w' ⟨rfl, ⟨nd, rfl⟩⟩; refine ⟨_, rfl, ?_⟩) | (go_at_call 62; (with_reducible refine (spec_l1In.calls a1 0 16 t568 _ A6.out).mono ?_); rintro e w' ⟨rfl, ⟨nd, rfl⟩⟩))
   go_meet
   case rel => exact ⟨_, (!t568), (by rfl), H', ⟨by first | omega | exact Nat.le_refl _⟩, by repeat (first | exact Drawn0.refl _ | apply Drawn0.step)⟩
  replace c5 := Bool.eq_false_iff.mpr c5
  subst c5
  rw [if_neg (show ¬ (false = true) by decide)] at H
  have H' := A_ H
  clear H
  go_wp2_with (first | ((with_reducible refine gate_callee (f := 62) rfl ?_); refine goesL_ (some 8) rfl rfl Try.func62 (by kernel_rfl) rfl #[.int .i64 a0, .int .i64 2, .int .i64 4] rfl (by (try simp only [mA, mB, mC]); first | done | rfl | (simp only [List.length_drop, List.length_take]; rfl)) ?_; (with_reducible refine (spec_l1In.calls a0 2 4 false _ A4.out).mono ?_); rintro e w' ⟨rfl, ⟨nd, rfl⟩⟩; refine ⟨_, rfl, ?_⟩))
  go_meet
  case rel => exact ⟨_, (true), (by rfl), H', ⟨by first | omega | exact Nat.le_refl _⟩, by repeat (first | exact Drawn0.refl _ | apply Drawn0.step)⟩
 case rest =>
  clear HC3
  obtain ⟨kq, x14_2, rfl, HA, HJ2, ⟨mc2, rfl⟩⟩ := hcut
  cases kq with
  | zero => exact absurd HA.out (by simp [spec_PowerOf.j0])
  | succ kj2 =>
   have H := HA.out
   clear HA
   simp only [spec_PowerOf.j0] at H
   by_cases c7 : x14_2 = true
   ·subst c7
    rw [if_pos rfl] at H
    obtain rfl := Option.some.inj H
    go_wp2
    go_ret
    exact ⟨by rfl, by repeat (first | exact Drawn0.refl _ | apply Drawn0.step)⟩
   replace c7 := Bool.eq_false_iff.mpr c7
   subst c7
   rw [if_neg (show ¬ (false = true) by decide)] at H
   have H' := A_ H
   clear H
   go_wp2
   go_loopg [5, 6] kj2 (fun kq v5 v6 w' => ∃ (x5_2 : Int) (x6_2 : Int), v5 = .int .i64 x5_2 ∧ v6 = .int .i64 x6_2 ∧ Aside0 (spec_PowerOf.l0 kq a0 a1 x5_2 x6_2 = some r) ∧ Aside0 (kq ≤ kj2) ∧ Drawn0 w w')
   case atStart => exact ⟨(1), (0), (by rfl), (by rfl), H', ⟨Nat.le_refl _⟩, by repeat (first | exact Drawn0.refl _ | apply Drawn0.step)⟩
   case round =>
    clear H'
    obtain ⟨x5_2, x6_2, rfl, rfl, HA, HK2, ⟨m2, rfl⟩⟩ := hrel
    cases gk with
    | zero => exact absurd HA.out (by simp [spec_PowerOf.l0])
    | succ k2 =>
     have H := HA.out
     clear HA
     simp only [spec_PowerOf.l0] at H
     by_cases c8 : x6_2 < a1
     ·rw [if_pos c8] at H
      have c8b0 : decide (x6_2 < a1) = true := decide_eq_true c8
      clear c8
      have H' := A_ H
      clear H
      go_wp2
      go_roundg k2
      case measure => have := HJ2.out; have := HK2.out; omega
      case rel => exact ⟨(wrap64 (x5_2 * a0)), (wrap64 (x6_2 + 1)), (by rfl), (by rfl), H', ⟨by have := HJ2.out; have := HK2.out; omega⟩, by repeat (first | exact Drawn0.refl _ | apply Drawn0.step)⟩
     rw [if_neg c8] at H
     have c8b0 : decide (x6_2 < a1) = false := decide_eq_false c8
     clear c8
     obtain rfl := Option.some.inj H
     go_wp2
     go_ret
     exact ⟨by rfl, by repeat (first | exact Drawn0.refl _ | apply Drawn0.step)⟩

end Go.Proofs.Ytdcakddfibnllaa.PFnFibonacci
