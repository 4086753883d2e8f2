/- Walks of the functions that the law reaches. -/
import Derived.Test.YtnhpbmagbajliaaPFnBordersx6
namespace Go.Proofs.Ytnhpbmagbajliaa.PFnBorders
open Go.RowKit Go.Proofs.YtnhpbmagbajliaaW.PrintWords Go.Proofs.YtnhpbmagbajliaaW.PrintLast Go.Proofs.YtnhpbmagbajliaaW.PrintMore
attribute [local go_sem] max2_int min2_int max_two min_two max_three min_three max_four min_four
set_option linter.unusedVariables false
set_option maxHeartbeats 8000000
set_option maxRecDepth 100000
set_option linter.unusedSimpArgs false

def spec_IsMorphism.l0 : Nat → Int → List (List Int) → Option (Bool)
 | 0, _, _ => none
 | k + 1, x3, x444000 => if x3 < (x444000.length : Int) then (if 0 ≤ x3 then ((spec_IsWord.f k (rd_L2 x444000 x3) (x444000.length : Int)).bind fun t445 => (if t445 = true then (if ((rd_L2 x444000 x3).length : Int) > 8 then (some false) else (spec_IsMorphism.l0 k (wrap64 (x3 + 1)) x444000)) else (some false))) else (none)) else ((spec_l1In.f (x444000.length : Int) 1 16).bind fun t447 => (some t447))
def spec_IsMorphism.f (k : Nat) (l0_0 : List (List Int)) : Option (Bool) := spec_IsMorphism.l0 k 0 l0_0
theorem spec_IsMorphism.calls (k : Nat) (A0_0 : Option Addr) (c0_0 : Nat) (l0_0 : List (List Int)) (r : Bool) (w : World) (hr0_0 : Kd.C (Kd.slice 3 (Kd.int .i64)) w A0_0 l0_0.length l0_0) (hc0_0 : l0_0.length ≤ c0_0) (h : spec_IsMorphism.f k l0_0 = some r) :
  Calls Try.prog 92 #[.agg #[.slice A0_0 l0_0.length c0_0]] w fun e w' => e = .returned (.bool r) ∧ Below w.heap.size w w' := by
 have hu62 := Try.underlying62; have HR0_0 := A_ hr0_0; have HC0_0 := A_ hc0_0; clear hr0_0 hc0_0; have HB := A_ (Below.refl w.heap.size w); unfold spec_IsMorphism.f at h; have H := h; clear h
 have H' := A_ H
 clear H; go_enter Try.func92, Try.ntmps92
 go_wp2_with (first | ((with_reducible refine gate_dst (N := 1) rfl ?_); (try (refine gate_guard (by rfl) ?_; dsimp only)); refine box_event ?hg (N := 1) ?hd (cs := #[.slice A0_0 l0_0.length c0_0]) (t := 62) ?hr ?_; (case hd | hg => rfl); (case hr => go_simp; done); intro gb443 hg w2 hbox hb; have BK443 := A_ (hbox); have GW443 := A_ (lg_ (below_size HB.out) hg); have GE443 := A_ (lg_ (below_size HB.out) hg); replace HB := bs_ HB hb; clear hb hbox hg))
 repeat (go_quiet (first | ((with_reducible refine gate_dst (N := 1) rfl ?_); (try (refine gate_guard (by rfl) ?_; dsimp only)); refine box_event ?hg (N := 1) ?hd (cs := #[.slice A0_0 l0_0.length c0_0]) (t := 62) ?hr ?_; (case hd | hg => rfl); (case hr => first | (go_simp; done) | (go_simp; rfl)); intro gb443 hg w2 hbox hb; have BK443 := A_ (hbox); have GW443 := A_ (lg_ (below_size HB.out) hg); have GE443 := A_ (lg_ (below_size HB.out) hg); replace HB := bs_ HB hb; clear hb hbox hg)); try go_wp2_with (first | ((with_reducible refine gate_dst (N := 1) rfl ?_); (try (refine gate_guard (by rfl) ?_; dsimp only)); refine box_event ?hg (N := 1) ?hd (cs := #[.slice A0_0 l0_0.length c0_0]) (t := 62) ?hr ?_; (case hd | hg => rfl); (case hr => first | (go_simp; done) | (go_simp; rfl)); intro gb443 hg w2 hbox hb; have BK443 := A_ (hbox); have GW443 := A_ (lg_ (below_size HB.out) hg); have GE443 := A_ (lg_ (below_size HB.out) hg); replace HB := bs_ HB hb; clear hb hbox hg)))
 go_loopg [3] k (fun kq v3 w' => ∃ (x3_1 : Int), v3 = .int .i64 x3_1 ∧ Aside0 (spec_IsMorphism.l0 kq x3_1 l0_0 = some r) ∧ Aside0 (kq ≤ k) ∧ Aside0 (w'.heap[gb443]? = some (.cells #[(.slice A0_0 l0_0.length c0_0)] 62 (0, 0))) ∧ Aside0 (Below w.heap.size w w'))
 case atStart => exact ⟨(0), (by rfl), H', ⟨Nat.le_refl _⟩, ⟨BK443.out⟩, ⟨HB.out⟩⟩
 case round =>
  clear H'; obtain ⟨x3_1, rfl, HA, HK1, BK443, HB⟩ := hrel
  cases gk with
  | zero => exact absurd HA.out (by simp [spec_IsMorphism.l0])
  | succ k1 =>
   have H := HA.out; clear HA; simp only [spec_IsMorphism.l0] at H
   by_cases c3 : x3_1 < (l0_0.length : Int)
   ·rw [if_pos c3] at H; have c3b0 := decide_eq_true c3; clear c3
    by_cases c4 : 0 ≤ x3_1
    ·rw [if_pos c4] at H; have c4b0 := decide_eq_true c4; clear c4; replace H := bA_ H; obtain ⟨t445, A5, H⟩ := H
     by_cases c6 : t445 = true
     ·subst c6; rw [if_pos rfl] at H
      by_cases c7 : ((rd_L2 l0_0 x3_1).length : Int) > 8
      ·rw [if_pos c7] at H
       have c7b0 : decide (8 < ((rd_L2 l0_0 x3_1).length : Int)) = true := decide_eq_true c7
       have c7b1 : decide (8 < (rd_L2 l0_0 x3_1).length) = true := decide_eq_true (by omega)
       clear c7; obtain rfl := Option.some.inj H; have hcz8_0 := bz0 BK443.out; have hfz8_0 := blk_frozen BK443.out 0
       have p444 : 0 ≤ (x3_1 : Int) := od_ (by assumption)
       have q444 : x3_1 < (l0_0.length : Int) := od_ (by assumption)
       obtain ⟨ad444, A444_0, c444_0, e444, hx444_0, hl444_0, hi444_0⟩ := at_L2 HR0_0.out x3_1 p444 q444
       cases e444
       replace hx444_0 := (HB.out.cell (World.block_lt_of_cell? w _ hx444_0)).trans hx444_0; have HR444_0 := A_ hi444_0; have HC444_0 := A_ hl444_0; clear hi444_0 hl444_0; replace p444 := eq_true p444; replace q444 := eq_true q444
       go_wp2_with (first | (go_at_call 48; (with_reducible refine (spec_IsWord.calls k1 _ _ (rd_L2 l0_0 x3_1) (l0_0.length : Int) true _ ?side1 ?side2 A5.out).mono ?_); (case side1 => exact (Kd.C_below HR444_0.out HB.out)); (case side2 => exact HC444_0.out); rintro e w' ⟨rfl, ⟨nd, rfl⟩⟩; skip; have p446 : 0 ≤ (x3_1 : Int) := od_ (by first | (with_reducible assumption) | assumption); have q446 : x3_1 < (l0_0.length : Int) := od_ (by first | (with_reducible assumption) | assumption); obtain ⟨ad446, A446_0, c446_0, e446, hx446_0, hl446_0, hi446_0⟩ := at_L2 HR0_0.out x3_1 p446 q446; obtain rfl : ad444 = ad446 := (by injection e446); replace hx446_0 := (HB.out.cell (World.block_lt_of_cell? w _ hx446_0)).trans hx446_0; have HR446_0 := A_ hi446_0; have HC446_0 := A_ hl446_0; clear hi446_0 hl446_0; replace p446 := eq_true p446; replace q446 := eq_true q446; have ea_ := Option.some.inj (hx444_0.symm.trans hx446_0); injection ea_ with ea_ en_ ec_; subst ea_; subst ec_; clear en_))
       repeat (go_quiet (first | (go_at_call 48; (with_reducible refine (spec_IsWord.calls k1 _ _ (rd_L2 l0_0 x3_1) (l0_0.length : Int) true _ ?side1 ?side2 A5.out).mono ?_); (case side1 => repeat (first | exact (Kd.C_below HR444_0.out HB.out) | (with_reducible refine Kd.C_alloc ?_ _) | (with_reducible refine Kd.C_drewN ?_ _) | (with_reducible refine Kd.C_drew ?_))); (case side2 => exact HC444_0.out); rintro e w' ⟨rfl, ⟨nd, rfl⟩⟩; exact ⟨rfl, _, World.drewN_drewN _ _ _⟩; have p446 : 0 ≤ (x3_1 : Int) := od_ (by assumption); have q446 : x3_1 < (l0_0.length : Int) := od_ (by assumption); obtain ⟨ad446, A446_0, c446_0, e446, hx446_0, hl446_0, hi446_0⟩ := at_L2 HR0_0.out x3_1 p446 q446; obtain rfl : ad444 = ad446 := (by injection e446); replace hx446_0 := (HB.out.cell (World.block_lt_of_cell? w _ hx446_0)).trans hx446_0; have HR446_0 := A_ hi446_0; have HC446_0 := A_ hl446_0; clear hi446_0 hl446_0; replace p446 := eq_true p446; replace q446 := eq_true q446; have ea_ := Option.some.inj (hx444_0.symm.trans hx446_0); injection ea_ with ea_ en_ ec_; subst ea_; subst ec_; clear en_)); try go_wp2_with (first | (go_at_call 48; (with_reducible refine (spec_IsWord.calls k1 _ _ (rd_L2 l0_0 x3_1) (l0_0.length : Int) true _ ?side1 ?side2 A5.out).mono ?_); (case side1 => exact (Kd.C_below HR444_0.out HB.out)); (case side2 => exact HC444_0.out); rintro e w' ⟨rfl, ⟨nd, rfl⟩⟩; skip; have p446 : 0 ≤ (x3_1 : Int) := od_ (by first | (with_reducible assumption) | assumption); have q446 : x3_1 < (l0_0.length : Int) := od_ (by first | (with_reducible assumption) | assumption); obtain ⟨ad446, A446_0, c446_0, e446, hx446_0, hl446_0, hi446_0⟩ := at_L2 HR0_0.out x3_1 p446 q446; obtain rfl : ad444 = ad446 := (by injection e446); replace hx446_0 := (HB.out.cell (World.block_lt_of_cell? w _ hx446_0)).trans hx446_0; have HR446_0 := A_ hi446_0; have HC446_0 := A_ hl446_0; clear hi446_0 hl446_0; replace p446 := eq_true p446; replace q446 := eq_true q446; have ea_ := Option.some.inj (hx444_0.symm.trans hx446_0); injection ea_ with ea_ en_ ec_; subst ea_; subst ec_; clear en_)))
       go_ret
       exact ⟨by rfl, by repeat (first | (with_reducible first | exact HB.out | apply below_alloc | apply pw_below_drewN | apply below_drew1 | refine below_set ?_ GE443.out) | exact HB.out)⟩
      rw [if_neg c7] at H
      have c7b0 : decide (8 < ((rd_L2 l0_0 x3_1).length : Int)) = false := decide_eq_false c7
      have c7b1 : decide (8 < (rd_L2 l0_0 x3_1).length) = false := decide_eq_false (by omega)
      clear c7
      have H' := A_ H
      clear H; have hcz9_0 := bz0 BK443.out; have hfz9_0 := blk_frozen BK443.out 0
      have p444 : 0 ≤ (x3_1 : Int) := od_ (by assumption)
      have q444 : x3_1 < (l0_0.length : Int) := od_ (by assumption)
      obtain ⟨ad444, A444_0, c444_0, e444, hx444_0, hl444_0, hi444_0⟩ := at_L2 HR0_0.out x3_1 p444 q444
      cases e444
      replace hx444_0 := (HB.out.cell (World.block_lt_of_cell? w _ hx444_0)).trans hx444_0; have HR444_0 := A_ hi444_0; have HC444_0 := A_ hl444_0; clear hi444_0 hl444_0; replace p444 := eq_true p444; replace q444 := eq_true q444
      go_wp2_with (first | (go_at_call 48; (with_reducible refine (spec_IsWord.calls k1 _ _ (rd_L2 l0_0 x3_1) (l0_0.length : Int) true _ ?side1 ?side2 A5.out).mono ?_); (case side1 => exact (Kd.C_below HR444_0.out HB.out)); (case side2 => exact HC444_0.out); rintro e w' ⟨rfl, ⟨nd, rfl⟩⟩; skip; have p446 : 0 ≤ (x3_1 : Int) := od_ (by first | (with_reducible assumption) | assumption); have q446 : x3_1 < (l0_0.length : Int) := od_ (by first | (with_reducible assumption) | assumption); obtain ⟨ad446, A446_0, c446_0, e446, hx446_0, hl446_0, hi446_0⟩ := at_L2 HR0_0.out x3_1 p446 q446; obtain rfl : ad444 = ad446 := (by injection e446); replace hx446_0 := (HB.out.cell (World.block_lt_of_cell? w _ hx446_0)).trans hx446_0; have HR446_0 := A_ hi446_0; have HC446_0 := A_ hl446_0; clear hi446_0 hl446_0; replace p446 := eq_true p446; replace q446 := eq_true q446; have ea_ := Option.some.inj (hx444_0.symm.trans hx446_0); injection ea_ with ea_ en_ ec_; subst ea_; subst ec_; clear en_))
      repeat (go_quiet (first | (go_at_call 48; (with_reducible refine (spec_IsWord.calls k1 _ _ (rd_L2 l0_0 x3_1) (l0_0.length : Int) true _ ?side1 ?side2 A5.out).mono ?_); (case side1 => repeat (first | exact (Kd.C_below HR444_0.out HB.out) | (with_reducible refine Kd.C_alloc ?_ _) | (with_reducible refine Kd.C_drewN ?_ _) | (with_reducible refine Kd.C_drew ?_))); (case side2 => exact HC444_0.out); rintro e w' ⟨rfl, ⟨nd, rfl⟩⟩; exact ⟨rfl, _, World.drewN_drewN _ _ _⟩; have p446 : 0 ≤ (x3_1 : Int) := od_ (by assumption); have q446 : x3_1 < (l0_0.length : Int) := od_ (by assumption); obtain ⟨ad446, A446_0, c446_0, e446, hx446_0, hl446_0, hi446_0⟩ := at_L2 HR0_0.out x3_1 p446 q446; obtain rfl : ad444 = ad446 := (by injection e446); replace hx446_0 := (HB.out.cell (World.block_lt_of_cell? w _ hx446_0)).trans hx446_0; have HR446_0 := A_ hi446_0; have HC446_0 := A_ hl446_0; clear hi446_0 hl446_0; replace p446 := eq_true p446; replace q446 := eq_true q446; have ea_ := Option.some.inj (hx444_0.symm.trans hx446_0); injection ea_ with ea_ en_ ec_; subst ea_; subst ec_; clear en_)); try go_wp2_with (first | (go_at_call 48; (with_reducible refine (spec_IsWord.calls k1 _ _ (rd_L2 l0_0 x3_1) (l0_0.length : Int) true _ ?side1 ?side2 A5.out).mono ?_); (case side1 => exact (Kd.C_below HR444_0.out HB.out)); (case side2 => exact HC444_0.out); rintro e w' ⟨rfl, ⟨nd, rfl⟩⟩; skip; have p446 : 0 ≤ (x3_1 : Int) := od_ (by first | (with_reducible assumption) | assumption); have q446 : x3_1 < (l0_0.length : Int) := od_ (by first | (with_reducible assumption) | assumption); obtain ⟨ad446, A446_0, c446_0, e446, hx446_0, hl446_0, hi446_0⟩ := at_L2 HR0_0.out x3_1 p446 q446; obtain rfl : ad444 = ad446 := (by injection e446); replace hx446_0 := (HB.out.cell (World.block_lt_of_cell? w _ hx446_0)).trans hx446_0; have HR446_0 := A_ hi446_0; have HC446_0 := A_ hl446_0; clear hi446_0 hl446_0; replace p446 := eq_true p446; replace q446 := eq_true q446; have ea_ := Option.some.inj (hx444_0.symm.trans hx446_0); injection ea_ with ea_ en_ ec_; subst ea_; subst ec_; clear en_)))
      go_roundg k1
      case measure => have := HK1.out; omega
      case rel => exact ⟨(wrap64 (x3_1 + 1)), (by rfl), H', ⟨by have := HK1.out; omega⟩, ⟨by (with_reducible repeat (first | refine blk_drewN ?_ _ | refine blk_drew ?_ | refine blk_alloc ?_ _)); exact BK443.out⟩, ⟨by repeat (first | (with_reducible first | exact HB.out | apply below_alloc | apply pw_below_drewN | apply below_drew1 | refine below_set ?_ GE443.out) | exact HB.out)⟩⟩
     replace c6 := Bool.eq_false_iff.mpr c6; subst c6; rw [if_neg nf_] at H; obtain rfl := Option.some.inj H; have hcz10_0 := bz0 BK443.out; have hfz10_0 := blk_frozen BK443.out 0
     have p444 : 0 ≤ (x3_1 : Int) := od_ (by assumption)
     have q444 : x3_1 < (l0_0.length : Int) := od_ (by assumption)
     obtain ⟨ad444, A444_0, c444_0, e444, hx444_0, hl444_0, hi444_0⟩ := at_L2 HR0_0.out x3_1 p444 q444
     cases e444
     replace hx444_0 := (HB.out.cell (World.block_lt_of_cell? w _ hx444_0)).trans hx444_0; have HR444_0 := A_ hi444_0; have HC444_0 := A_ hl444_0; clear hi444_0 hl444_0; replace p444 := eq_true p444; replace q444 := eq_true q444
     go_wp2_with (first | (go_at_call 48; (with_reducible refine (spec_IsWord.calls k1 _ _ (rd_L2 l0_0 x3_1) (l0_0.length : Int) false _ ?side1 ?side2 A5.out).mono ?_); (case side1 => exact (Kd.C_below HR444_0.out HB.out)); (case side2 => exact HC444_0.out); rintro e w' ⟨rfl, ⟨nd, rfl⟩⟩; skip))
     repeat (go_quiet (first | (go_at_call 48; (with_reducible refine (spec_IsWord.calls k1 _ _ (rd_L2 l0_0 x3_1) (l0_0.length : Int) false _ ?side1 ?side2 A5.out).mono ?_); (case side1 => repeat (first | exact (Kd.C_below HR444_0.out HB.out) | (with_reducible refine Kd.C_alloc ?_ _) | (with_reducible refine Kd.C_drewN ?_ _) | (with_reducible refine Kd.C_drew ?_))); (case side2 => exact HC444_0.out); rintro e w' ⟨rfl, ⟨nd, rfl⟩⟩; exact ⟨rfl, _, World.drewN_drewN _ _ _⟩)); try go_wp2_with (first | (go_at_call 48; (with_reducible refine (spec_IsWord.calls k1 _ _ (rd_L2 l0_0 x3_1) (l0_0.length : Int) false _ ?side1 ?side2 A5.out).mono ?_); (case side1 => exact (Kd.C_below HR444_0.out HB.out)); (case side2 => exact HC444_0.out); rintro e w' ⟨rfl, ⟨nd, rfl⟩⟩; skip)))
     go_ret
     exact ⟨by rfl, by repeat (first | (with_reducible first | exact HB.out | apply below_alloc | apply pw_below_drewN | apply below_drew1 | refine below_set ?_ GE443.out) | exact HB.out)⟩
    rw [if_neg c4] at H
    cases H
   rw [if_neg c3] at H; have c3b0 := decide_eq_false c3; clear c3; replace H := bA_ H; obtain ⟨t447, A11, H⟩ := H; obtain rfl := Option.some.inj H; have hcz12_0 := bz0 BK443.out; have hfz12_0 := blk_frozen BK443.out 0
   go_wp2_with (first | (go_at_call 60; (with_reducible refine (spec_l1In.calls (l0_0.length : Int) 1 16 t447 _ A11.out).mono ?_); rintro e w' ⟨rfl, ⟨nd, rfl⟩⟩; skip))
   repeat (go_quiet (first | (go_at_call 60; (with_reducible refine (spec_l1In.calls (l0_0.length : Int) 1 16 t447 _ A11.out).mono ?_); rintro e w' ⟨rfl, ⟨nd, rfl⟩⟩; skip)); try go_wp2_with (first | (go_at_call 60; (with_reducible refine (spec_l1In.calls (l0_0.length : Int) 1 16 t447 _ A11.out).mono ?_); rintro e w' ⟨rfl, ⟨nd, rfl⟩⟩; skip)))
   go_ret
   exact ⟨by rfl, by repeat (first | (with_reducible first | exact HB.out | apply below_alloc | apply pw_below_drewN | apply below_drew1 | refine below_set ?_ GE443.out) | exact HB.out)⟩

def spec_l4Has.l0 : Nat → List Int → Int → Int → Option (Bool)
 | 0, _, _, _ => none
 | k + 1, x0, x1, x5 => if x5 < (x0.length : Int) then (if 0 ≤ x5 then (if (rd x0 x5) = x1 then (some true) else (spec_l4Has.l0 k x0 x1 (wrap64 (x5 + 1)))) else (none)) else (some false)
def spec_l4Has.f (k : Nat) (l0 : List Int) (a1 : Int) : Option (Bool) := spec_l4Has.l0 k l0 a1 0
theorem spec_l4Has.calls (k : Nat) (A0 : Option Addr) (c0 : Nat) (l0 : List Int) (a1 : Int) (r : Bool) (w : World) (hr0 : Kd.C (Kd.int .i64) w A0 l0.length l0) (hc0 : l0.length ≤ c0) (h : spec_l4Has.f k l0 a1 = some r) :
  Calls Try.prog 93 #[.slice A0 l0.length c0, .int .i64 a1] w fun e w' => e = .returned (.bool r) ∧ Drawn0 w w' := by
 have HR0 := A_ hr0; have HC0 := A_ hc0; clear hr0 hc0; unfold spec_l4Has.f at h; have H := h; clear h
 have H' := A_ H
 clear H; go_enter Try.func93, Try.ntmps93
 go_wp2
 go_loopg [5] k (fun kq v5 w' => ∃ (x5_1 : Int), v5 = .int .i64 x5_1 ∧ Aside0 (spec_l4Has.l0 kq l0 a1 x5_1 = some r) ∧ Aside0 (kq ≤ k) ∧ Drawn0 w w')
 case atStart => exact ⟨(0), (by rfl), H', ⟨Nat.le_refl _⟩, by repeat (first | exact Drawn0.refl _ | apply Drawn0.step)⟩
 case round =>
  clear H'; obtain ⟨x5_1, rfl, HA, HK1, ⟨m1, rfl⟩⟩ := hrel
  cases gk with
  | zero => exact absurd HA.out (by simp [spec_l4Has.l0])
  | succ k1 =>
   have H := HA.out; clear HA; simp only [spec_l4Has.l0] at H
   by_cases c3 : x5_1 < (l0.length : Int)
   ·rw [if_pos c3] at H; have c3b0 := decide_eq_true c3; clear c3
    by_cases c4 : 0 ≤ x5_1
    ·rw [if_pos c4] at H; have c4b0 := decide_eq_true c4; clear c4
     by_cases c5 : (rd l0 x5_1) = a1
     ·rw [if_pos c5] at H
      have c5b0 : ((rd l0 x5_1) == a1) = true := beq_iff_eq.mpr c5
      have c5b1 : ((rd l0 x5_1) != a1) = false := bne_eq_false_iff_eq.mpr c5
      clear c5; obtain rfl := Option.some.inj H
      have p448 : 0 ≤ (x5_1 : Int) := od_ (by assumption)
      have q448 : x5_1 < (l0.length : Int) := od_ (by assumption)
      obtain ⟨ad448, e448, hx448_0⟩ := Kd.at_int HR0.out x5_1 p448 q448
      cases e448
      replace p448 := eq_true p448; replace q448 := eq_true q448
      go_wp2
      go_ret
      exact ⟨by rfl, by repeat (first | exact Drawn0.refl _ | apply Drawn0.step)⟩
     rw [if_neg c5] at H
     have c5b0 : ((rd l0 x5_1) == a1) = false := beq_eq_false_iff_ne.mpr c5
     have c5b1 : ((rd l0 x5_1) != a1) = true := bne_iff_ne.mpr c5
     have H' := A_ H
     clear H
     have p448 : 0 ≤ (x5_1 : Int) := od_ (by assumption)
     have q448 : x5_1 < (l0.length : Int) := od_ (by assumption)
     obtain ⟨ad448, e448, hx448_0⟩ := Kd.at_int HR0.out x5_1 p448 q448
     cases e448
     replace p448 := eq_true p448; replace q448 := eq_true q448
     go_wp2
     go_roundg k1
     case measure => have := HK1.out; omega
     case rel => exact ⟨(wrap64 (x5_1 + 1)), (by rfl), H', ⟨by have := HK1.out; omega⟩, by repeat (first | exact Drawn0.refl _ | apply Drawn0.step)⟩
    rw [if_neg c4] at H
    cases H
   rw [if_neg c3] at H; have c3b0 := decide_eq_false c3; clear c3; obtain rfl := Option.some.inj H
   go_wp2
   go_ret
   exact ⟨by rfl, by repeat (first | exact Drawn0.refl _ | apply Drawn0.step)⟩

end Go.Proofs.Ytnhpbmagbajliaa.PFnBorders

