/- Walks of the functions that the law reaches. -/
import Derived.Test.YtnhpbmagbajliaaPFnBordersx7
namespace Go.Proofs.Ytnhpbmagbajliaa.PFnBorders
open Go.RowKit Go.Proofs.YtnhpbmagbajliaaW.PrintWords Go.Proofs.YtnhpbmagbajliaaW.PrintLast Go.Proofs.YtnhpbmagbajliaaW.PrintMore
attribute [local go_sem] max2_int min2_int max_two min_two max_three min_three max_four min_four
set_option linter.unusedVariables false
set_option maxHeartbeats 8000000
set_option maxRecDepth 100000
set_option linter.unusedSimpArgs false

mutual
def spec_IsGrowing.j0 : Nat → Int → Bool → List (List Int) → Option (Bool)
 | 0, _, _, _ => none
 | k + 1, x1, x43, x450000 => if x43 = true then (some false) else (if 0 ≤ x1 then (if x1 < (x450000.length : Int) then (if 1 ≤ ((rd_L2 x450000 x1).length : Int) then (spec_IsGrowing.l0 k ((rd_L2 x450000 x1).drop 1) 0 x450000) else (none)) else (none)) else (none))
def spec_IsGrowing.l0 : Nat → List Int → Int → List (List Int) → Option (Bool)
 | 0, _, _, _ => none
 | k + 1, x5, x6, x450000 => if x6 ≤ (x450000.length : Int) then (spec_IsGrowing.l1 k x5 x6 (([] : List Int)) 0 x450000) else (some (decide ((x5.length : Int) > 0)))
def spec_IsGrowing.l1 : Nat → List Int → Int → List Int → Int → List (List Int) → Option (Bool)
 | 0, _, _, _, _, _ => none
 | k + 1, x5, x6, x7, x8, x450000 => if x8 < (x5.length : Int) then (spec_IsGrowing.l2 k x5 x6 x7 x8 0 x450000) else (spec_IsGrowing.l0 k x7 (wrap64 (x6 + 1)) x450000)
def spec_IsGrowing.l2 : Nat → List Int → Int → List Int → Int → Int → List (List Int) → Option (Bool)
 | 0, _, _, _, _, _, _ => none
 | k + 1, x5, x6, x7, x8, x9, x450000 => if 0 ≤ x8 then (if x8 < (x5.length : Int) then (if 0 ≤ (rd x5 x8) then (if (rd x5 x8) < (x450000.length : Int) then (if x9 < ((rd_L2 x450000 (rd x5 x8)).length : Int) then (if 0 ≤ x9 then ((spec_l4Has.f k x7 (rd (rd_L2 x450000 (rd x5 x8)) x9)).bind fun t468 => (if t468 = true then (spec_IsGrowing.l2 k x5 x6 x7 x8 (wrap64 (x9 + 1)) x450000) else (if x7.length < 17592186044416 then (spec_IsGrowing.l2 k x5 x6 (x7 ++ [rd (rd_L2 x450000 (rd x5 x8)) x9]) x8 (wrap64 (x9 + 1)) x450000) else (none)))) else (none)) else (spec_IsGrowing.l1 k x5 x6 x7 (wrap64 (x8 + 1)) x450000)) else (none)) else (none)) else (none)) else (none)
end
def spec_IsGrowing.f (k : Nat) (l0_0 : List (List Int)) (a1 : Int) : Option (Bool) := (spec_IsMorphism.f k l0_0).bind fun t450 => (if t450 = true then (if a1 < 0 then (spec_IsGrowing.j0 k a1 true l0_0) else (if a1 ≥ (l0_0.length : Int) then (spec_IsGrowing.j0 k a1 true l0_0) else (if 0 ≤ a1 then (if a1 < (l0_0.length : Int) then (if ((rd_L2 l0_0 a1).length : Int) < 2 then (spec_IsGrowing.j0 k a1 true l0_0) else (if 0 < ((rd_L2 l0_0 a1).length : Int) then (spec_IsGrowing.j0 k a1 ((rd (rd_L2 l0_0 a1) 0) != a1) l0_0) else (none))) else (none)) else (none)))) else (spec_IsGrowing.j0 k a1 true l0_0))
def spec_IsGrowing.T12 : Bool × List (List Nat × List Nat) := (true, [([], []), ([], []), ([1], [1]), ([], []), ([], []), ([3, 4], [3, 4]), ([5], [5]), ([2, 6], [2, 6]), ([7], [7]), ([8], [8]), ([0, 9], [0, 9])])
def spec_IsGrowing.B12 : List Nat := [0, 0, 2, 0, 0, 24, 56, 126, 254, 510, 1023]
theorem spec_IsGrowing.tab12 : rtab .any (opsOf Try.f83 12) = spec_IsGrowing.T12 := by kernel_rfl
theorem spec_IsGrowing.bits12 : waitsOk spec_IsGrowing.T12.2 spec_IsGrowing.B12 = true := by kernel_rfl
def spec_IsGrowing.T14 : Bool × List (List Nat × List Nat) := (true, [([], []), ([], []), ([1], [1]), ([], []), ([], []), ([3, 4], [3, 4]), ([5], [5]), ([2, 6], [2, 6]), ([7], [7]), ([], []), ([8, 9], [8, 9]), ([10], [10]), ([0, 11], [0, 11]), ([12], [12])])
def spec_IsGrowing.B14 : List Nat := [0, 0, 2, 0, 0, 24, 56, 126, 254, 0, 1022, 2046, 4095, 8191]
theorem spec_IsGrowing.tab14 : rtab .any (opsOf Try.f83 14) = spec_IsGrowing.T14 := by kernel_rfl
theorem spec_IsGrowing.bits14 : waitsOk spec_IsGrowing.T14.2 spec_IsGrowing.B14 = true := by kernel_rfl
def spec_IsGrowing.T15 : Bool × List (List Nat × List Nat) := (true, [([], []), ([], []), ([1], [1]), ([], []), ([], []), ([3, 4], [3, 4]), ([5], [5]), ([2, 6], [2, 6]), ([7], [7]), ([], []), ([8, 9], [8, 9]), ([10], [10]), ([11], [11]), ([0, 12], [0, 12]), ([13, 13, 0, 1, 2, 3, 4, 5, 6, 7, 8, 9, 10, 11, 12, 13], [0, 13])])
def spec_IsGrowing.B15 : List Nat := [0, 0, 2, 0, 0, 24, 56, 126, 254, 0, 1022, 2046, 4094, 8191, 16383]
theorem spec_IsGrowing.tab15 : rtab .any (opsOf Try.f83 15) = spec_IsGrowing.T15 := by kernel_rfl
theorem spec_IsGrowing.bits15 : waitsOk spec_IsGrowing.T15.2 spec_IsGrowing.B15 = true := by kernel_rfl
theorem spec_IsGrowing.calls (k : Nat) (P0_0_ : Nat → Prop) (A0_0 : Option Addr) (c0_0 : Nat) (l0_0 : List (List Int)) (a1 : Int) (r : Bool) (w : World) (hs0_0 : Kd.V (Kd.slice 3 (Kd.int .i64)) 24 w w.heap.size (fun k_ => P0_0_ k_) (.slice A0_0 l0_0.length c0_0) l0_0) (h : spec_IsGrowing.f k l0_0 a1 = some r) :
  Calls Try.prog 83 #[.agg #[.slice A0_0 l0_0.length c0_0], .int .i64 a1] w fun e w' => e = .returned (.bool r) ∧ Below w.heap.size w w' := by
 have hu62 := Try.underlying62; have HO0_0 := A_ (show Kd.V (Kd.slice 3 (Kd.int .i64)) 24 w w.heap.size (fun k_ => (P0_0_ k_ ∨ w.heap.size ≤ k_)) (.slice A0_0 l0_0.length c0_0) l0_0 from Kd.V_mono hs0_0 (fun k_ hk => .inl hk)); have HB := A_ (Below.refl w.heap.size w); unfold spec_IsGrowing.f at h; have H := h; clear h; have HC3 := A_ H; clear H; go_enter Try.func83, Try.ntmps83
 go_upto_region 1 with (first | ((with_reducible refine gate_dst (N := 2) rfl ?_); (try (refine gate_guard (by rfl) ?_; dsimp only)); refine box_event ?hg (N := 2) ?hd (cs := #[.slice A0_0 l0_0.length c0_0]) (t := 62) ?hr ?_; (case hd | hg => rfl); (case hr => go_simp; done); intro gb449 hg w4 hbox hb; replace HO0_0 := A_ (Kd.V_below (Kd.V_elderB HO0_0.out gb449 (Nat.le_of_eq hg.symm)) hb); have BK449 := A_ (hbox); have GW449 := A_ (lg_ (below_size HB.out) hg); have GE449 := A_ (lg_ (below_size HB.out) hg); replace HB := bs_ HB hb; clear hb hbox hg))
 (try simp only [Act.put, mD, mE, mF])
 go_cut [43] (fun v43 wc => ∃ (kq : Nat) (x43_2 : Bool), v43 = .bool x43_2 ∧ Aside0 (spec_IsGrowing.j0 kq a1 x43_2 l0_0 = some r) ∧ Aside0 (kq ≤ k) ∧ Aside0 (Kd.V (Kd.slice 3 (Kd.int .i64)) 24 wc w.heap.size (fun k_ => (P0_0_ k_ ∨ w.heap.size ≤ k_) ∧ k_ ≠ gb449) (.slice A0_0 l0_0.length c0_0) l0_0) ∧ Aside0 (wc.heap[gb449]? = some (.cells #[(.slice A0_0 l0_0.length c0_0)] 62 (0, 0))) ∧ Aside0 (Below w.heap.size w wc))
 case first =>
  have H := HC3.out; clear HC3; replace H := bA_ H; obtain ⟨t450, A5, H⟩ := H
  by_cases c6 : t450 = true
  ·subst c6; rw [if_pos rfl] at H
   by_cases c7 : a1 < 0
   ·rw [if_pos c7] at H; have c7b0 := decide_eq_true c7; clear c7
    (skip)
    have H' := A_ H
    clear H; have hcz8_0 := bz0 BK449.out; have hfz8_0 := blk_frozen BK449.out 0
    go_wp2_with (first | ((with_reducible refine gc_ 92 rfl ?_); refine cL_ E92 11 rfl rfl rfl (spec_IsMorphism.calls k _ _ l0_0 true _ ((Kd.V_reads' HO0_0.out).2.2) ((Kd.V_reads' HO0_0.out).2.1) A5.out) (by simp only [mA, mB, mC]; rfl) ?_; rintro e w9 ⟨rfl, hb⟩; refine ⟨_, rfl, ?_⟩; replace HO0_0 := A_ (Kd.V_below HO0_0.out hb); replace BK449 := bb_ BK449 hb; replace HB := bs_ HB hb; clear hb; (try clear hi)))
    go_meet
    case rel => exact ⟨_, (true), (by rfl), H', ⟨by omega⟩, ⟨HO0_0.out⟩, ⟨BK449.out⟩, ⟨HB.out⟩⟩
   rw [if_neg c7] at H; have c7b0 := decide_eq_false c7; clear c7
   (skip)
   by_cases c10 : a1 ≥ (l0_0.length : Int)
   ·rw [if_pos c10] at H
    have c10b0 : decide ((l0_0.length : Int) ≤ a1) = true := decide_eq_true c10
    clear c10
    have H' := A_ H
    clear H; have hcz11_0 := bz0 BK449.out; have hfz11_0 := blk_frozen BK449.out 0
    go_wp2_with (first | ((with_reducible refine gc_ 92 rfl ?_); refine cL_ E92 11 rfl rfl rfl (spec_IsMorphism.calls k _ _ l0_0 true _ ((Kd.V_reads' HO0_0.out).2.2) ((Kd.V_reads' HO0_0.out).2.1) A5.out) (by simp only [mA, mB, mC]; rfl) ?_; rintro e w12 ⟨rfl, hb⟩; refine ⟨_, rfl, ?_⟩; replace HO0_0 := A_ (Kd.V_below HO0_0.out hb); replace BK449 := bb_ BK449 hb; replace HB := bs_ HB hb; clear hb; have hcz13_0 := bz0 BK449.out; have hfz13_0 := blk_frozen BK449.out 0))
    go_meet
    case rel => exact ⟨_, (true), (by rfl), H', ⟨by omega⟩, ⟨HO0_0.out⟩, ⟨BK449.out⟩, ⟨HB.out⟩⟩
   rw [if_neg c10] at H
   have c10b0 : decide ((l0_0.length : Int) ≤ a1) = false := decide_eq_false c10
   clear c10
   by_cases c14 : 0 ≤ a1
   ·rw [if_pos c14] at H; have c14b0 := decide_eq_true c14; clear c14
    by_cases c15 : a1 < (l0_0.length : Int)
    ·rw [if_pos c15] at H; have c15b0 := decide_eq_true c15; clear c15
     by_cases c16 : ((rd_L2 l0_0 a1).length : Int) < 2
     ·rw [if_pos c16] at H; have c16b0 := decide_eq_true c16
      have c16b1 : decide ((rd_L2 l0_0 a1).length < 2) = true := decide_eq_true (by omega)
      clear c16
      have H' := A_ H
      clear H; have hcz17_0 := bz0 BK449.out; have hfz17_0 := blk_frozen BK449.out 0
      go_wp2_with (first | ((with_reducible refine gc_ 92 rfl ?_); refine cL_ E92 11 rfl rfl rfl (spec_IsMorphism.calls k _ _ l0_0 true _ ((Kd.V_reads' HO0_0.out).2.2) ((Kd.V_reads' HO0_0.out).2.1) A5.out) (by simp only [mA, mB, mC]; rfl) ?_; rintro e w18 ⟨rfl, hb⟩; refine ⟨_, rfl, ?_⟩; replace HO0_0 := A_ (Kd.V_below HO0_0.out hb); replace BK449 := bb_ BK449 hb; replace HB := bs_ HB hb; clear hb; have hcz19_0 := bz0 BK449.out; have hfz19_0 := blk_frozen BK449.out 0; have p451 : 0 ≤ (a1 : Int) := od_ (by assumption); have q451 : a1 < (l0_0.length : Int) := od_ (by assumption); obtain ⟨ad451, A451_0, c451_0, e451, hx451_0, hl451_0, hi451_0⟩ := at_L2 (Kd.V_reads' HO0_0.out).2.2 a1 p451 q451; cases e451; obtain ⟨ce451, hce451, hMe451, hcc451⟩ := Kd.V_get HO0_0.out [] a1 p451 (by exact q451); obtain ⟨ua451_0, uc451_0, rfl, ul451_0, ge451_0⟩ := Kd.FK_slice_open hMe451; have hv451_0 := hcc451 0 _ rfl; rw [Nat.add_zero, show ((Kd.slice 3 (Kd.int .i64))).sz = 1 from rfl, Nat.mul_one] at hv451_0; replace hv451_0 := Option.some.inj (hv451_0.symm.trans hx451_0); injection hv451_0 with hva_ hvn_ hvc_; rw [hva_] at ge451_0; rw [hvc_] at ul451_0; have HL451_0 := A_ (show Kd.V (Kd.int .i64) 3 _ w.heap.size _ _ (rd_L2 l0_0 a1) from Kd.V_mk ul451_0 ge451_0); clear hva_ hvn_ hvc_ ge451_0 ul451_0; clear hcc451 hce451; have HR451_0 := A_ hi451_0; have HC451_0 := A_ hl451_0; clear hi451_0 hl451_0; replace p451 := eq_true p451; replace q451 := eq_true q451))
      go_meet
      case rel => exact ⟨_, (true), (by rfl), H', ⟨by omega⟩, ⟨HO0_0.out⟩, ⟨BK449.out⟩, ⟨HB.out⟩⟩
     rw [if_neg c16] at H; have c16b0 := decide_eq_false c16
     have c16b1 : decide ((rd_L2 l0_0 a1).length < 2) = false := decide_eq_false (by omega)
     clear c16
     by_cases c20 : 0 < ((rd_L2 l0_0 a1).length : Int)
     ·rw [if_pos c20] at H; have c20b0 := decide_eq_true c20
      have c20b1 : decide (0 < (rd_L2 l0_0 a1).length) = true := decide_eq_true (by omega)
      clear c20
      have H' := A_ H
      clear H; have hcz21_0 := bz0 BK449.out; have hfz21_0 := blk_frozen BK449.out 0
      go_wp2_with (first | ((with_reducible refine gc_ 92 rfl ?_); refine cL_ E92 11 rfl rfl rfl (spec_IsMorphism.calls k _ _ l0_0 true _ ((Kd.V_reads' HO0_0.out).2.2) ((Kd.V_reads' HO0_0.out).2.1) A5.out) (by simp only [mA, mB, mC]; rfl) ?_; rintro e w22 ⟨rfl, hb⟩; refine ⟨_, rfl, ?_⟩; replace HO0_0 := A_ (Kd.V_below HO0_0.out hb); replace BK449 := bb_ BK449 hb; replace HB := bs_ HB hb; clear hb; have hcz23_0 := bz0 BK449.out; have hfz23_0 := blk_frozen BK449.out 0; have p451 : 0 ≤ (a1 : Int) := od_ (by assumption); have q451 : a1 < (l0_0.length : Int) := od_ (by assumption); obtain ⟨ad451, A451_0, c451_0, e451, hx451_0, hl451_0, hi451_0⟩ := at_L2 (Kd.V_reads' HO0_0.out).2.2 a1 p451 q451; cases e451; obtain ⟨ce451, hce451, hMe451, hcc451⟩ := Kd.V_get HO0_0.out [] a1 p451 (by exact q451); obtain ⟨ua451_0, uc451_0, rfl, ul451_0, ge451_0⟩ := Kd.FK_slice_open hMe451; have hv451_0 := hcc451 0 _ rfl; rw [Nat.add_zero, show ((Kd.slice 3 (Kd.int .i64))).sz = 1 from rfl, Nat.mul_one] at hv451_0; replace hv451_0 := Option.some.inj (hv451_0.symm.trans hx451_0); injection hv451_0 with hva_ hvn_ hvc_; rw [hva_] at ge451_0; rw [hvc_] at ul451_0; have HL451_0 := A_ (show Kd.V (Kd.int .i64) 3 _ w.heap.size _ _ (rd_L2 l0_0 a1) from Kd.V_mk ul451_0 ge451_0); clear hva_ hvn_ hvc_ ge451_0 ul451_0; clear hcc451 hce451; have HR451_0 := A_ hi451_0; have HC451_0 := A_ hl451_0; clear hi451_0 hl451_0; replace p451 := eq_true p451; replace q451 := eq_true q451; have p452 : 0 ≤ (a1 : Int) := od_ (by assumption); have q452 : a1 < (l0_0.length : Int) := od_ (by assumption); obtain ⟨ad452, A452_0, c452_0, e452, hx452_0, hl452_0, hi452_0⟩ := at_L2 (Kd.V_reads' HO0_0.out).2.2 a1 p452 q452; obtain rfl : ad451 = ad452 := (by injection e452); obtain ⟨ce452, hce452, hMe452, hcc452⟩ := Kd.V_get HO0_0.out [] a1 p452 (by exact q452); obtain ⟨ua452_0, uc452_0, rfl, ul452_0, ge452_0⟩ := Kd.FK_slice_open hMe452; have hv452_0 := hcc452 0 _ rfl; rw [Nat.add_zero, show ((Kd.slice 3 (Kd.int .i64))).sz = 1 from rfl, Nat.mul_one] at hv452_0; replace hv452_0 := Option.some.inj (hv452_0.symm.trans hx452_0); injection hv452_0 with hva_ hvn_ hvc_; rw [hva_] at ge452_0; rw [hvc_] at ul452_0; have HL452_0 := A_ (show Kd.V (Kd.int .i64) 3 _ w.heap.size _ _ (rd_L2 l0_0 a1) from Kd.V_mk ul452_0 ge452_0); clear hva_ hvn_ hvc_ ge452_0 ul452_0; clear hcc452 hce452; have HR452_0 := A_ hi452_0; have HC452_0 := A_ hl452_0; clear hi452_0 hl452_0; replace p452 := eq_true p452; replace q452 := eq_true q452; have ea_ := Option.some.inj (hx451_0.symm.trans hx452_0); injection ea_ with ea_ en_ ec_; subst ea_; subst ec_; clear en_; have p453 : 0 ≤ (0 : Int) := (by omega); have q453 : 0 < ((rd_L2 l0_0 a1).length : Int) := od_ (by assumption); obtain ⟨ad453, e453, hx453_0⟩ := Kd.at_int (by repeat (first | (with_reducible exact HR452_0.out) | (with_reducible refine Kd.C_alloc ?_ _) | (with_reducible refine Kd.C_drewN ?_ _) | (with_reducible refine Kd.C_drew ?_) | exact HR452_0.out)) 0 p453 q453; cases e453; have qi453 : (0 < (rd_L2 l0_0 a1).length) = True := eq_true (by omega); (try rw [show ((0 : Int)).toNat = 0 from rfl] at hx453_0); (try rw [Addr.add_zero'] at hx453_0); replace p453 := eq_true p453; replace q453 := eq_true q453))
      go_meet
      case rel => exact ⟨_, (((rd (rd_L2 l0_0 a1) 0) != a1)), (by rfl), H', ⟨by omega⟩, ⟨HO0_0.out⟩, ⟨BK449.out⟩, ⟨HB.out⟩⟩
     rw [if_neg c20] at H
     cases H
    rw [if_neg c15] at H
    cases H
   rw [if_neg c14] at H
   cases H
  replace c6 := Bool.eq_false_iff.mpr c6; subst c6; rw [if_neg nf_] at H
  have H' := A_ H
  clear H; have hcz24_0 := bz0 BK449.out; have hfz24_0 := blk_frozen BK449.out 0
  go_wp2_with (first | ((with_reducible refine gc_ 92 rfl ?_); refine cL_ E92 11 rfl rfl rfl (spec_IsMorphism.calls k _ _ l0_0 false _ ((Kd.V_reads' HO0_0.out).2.2) ((Kd.V_reads' HO0_0.out).2.1) A5.out) (by simp only [mA, mB, mC]; rfl) ?_; rintro e w25 ⟨rfl, hb⟩; refine ⟨_, rfl, ?_⟩; replace HO0_0 := A_ (Kd.V_below HO0_0.out hb); replace BK449 := bb_ BK449 hb; replace HB := bs_ HB hb; clear hb; (try clear hi)))
  go_meet
  case rel => exact ⟨_, (true), (by rfl), H', ⟨by omega⟩, ⟨HO0_0.out⟩, ⟨BK449.out⟩, ⟨HB.out⟩⟩
 case rest =>
  clear HC3; obtain ⟨kq, x43_2, rfl, HA, HJ2, HO_450000, BK449, HB⟩ := hcut
  cases kq with
  | zero => exact absurd HA.out (by simp [spec_IsGrowing.j0])
  | succ kj2 =>
   have H := HA.out; clear HA; simp only [spec_IsGrowing.j0] at H
   by_cases c26 : x43_2 = true
   ·subst c26; rw [if_pos rfl] at H; obtain rfl := Option.some.inj H
    go_wp2
    go_ret
    exact ⟨by rfl, HB.out⟩
   replace c26 := Bool.eq_false_iff.mpr c26; subst c26; rw [if_neg nf_] at H
   by_cases c27 : 0 ≤ a1
   ·rw [if_pos c27] at H; have c27b0 := decide_eq_true c27; clear c27
    by_cases c28 : a1 < (l0_0.length : Int)
    ·rw [if_pos c28] at H; have c28b0 := decide_eq_true c28; clear c28
     by_cases c29 : 1 ≤ ((rd_L2 l0_0 a1).length : Int)
     ·rw [if_pos c29] at H; have c29b0 := eq_true c29; have c29b1 := decide_eq_true c29; clear c29; obtain ⟨y455, hy455⟩ := ex_ (((rd_L2 l0_0 a1).drop 1) : List Int); replace H : (spec_IsGrowing.l0 kj2 y455 0 l0_0) = some r := by (rw [hy455]; with_reducible exact H)
      have Ny455 := A_ hy455; clear hy455
      have H' := A_ H
      clear H; have hcz30_0 := bz0 BK449.out; have hfz30_0 := blk_frozen BK449.out 0
      have p454 : 0 ≤ (a1 : Int) := od_ (by assumption)
      have q454 : a1 < (l0_0.length : Int) := od_ (by assumption)
      obtain ⟨ad454, A454_0, c454_0, e454, hx454_0, hl454_0, hi454_0⟩ := at_L2 (Kd.V_reads' HO_450000.out).2.2 a1 p454 q454
      cases e454
      obtain ⟨ce454, hce454, hMe454, hcc454⟩ := Kd.V_get HO_450000.out [] a1 p454 (by exact q454); obtain ⟨ua454_0, uc454_0, rfl, ul454_0, ge454_0⟩ := Kd.FK_slice_open hMe454; have hv454_0 := hcc454 0 _ rfl; rw [Nat.add_zero, show ((Kd.slice 3 (Kd.int .i64))).sz = 1 from rfl, Nat.mul_one] at hv454_0; replace hv454_0 := Option.some.inj (hv454_0.symm.trans hx454_0)
      injection hv454_0 with hva_ hvn_ hvc_
      rw [hva_] at ge454_0; rw [hvc_] at ul454_0; have HL454_0 := A_ (show Kd.V (Kd.int .i64) 3 _ w.heap.size _ _ (rd_L2 l0_0 a1) from Kd.V_mk ul454_0 ge454_0); clear hva_ hvn_ hvc_ ge454_0 ul454_0 hcc454 hce454; have HR454_0 := A_ hi454_0; have HC454_0 := A_ hl454_0; clear hi454_0 hl454_0; replace p454 := eq_true p454; replace q454 := eq_true q454
      have q31 : (1 : Int) ≤ (((rd_L2 l0_0 a1).length : Int) : Int) := od_ (by assumption)
      obtain ⟨i031, hi031, _, hsz31, _⟩ := info_parts info3
      have hroom31 : (rd_L2 l0_0 a1).length ≤ c454_0 := HC454_0.out
      have hC31 : Kd.F (Kd.int .i64) _ _ A454_0 (rd_L2 l0_0 a1).length (rd_L2 l0_0 a1) := (Kd.V_at (base := w.heap.size) HL454_0.out).2.2
      have hcut31 := cut_from (P := Try.prog) 24 3 .i64 Try.underlying24 hi031 1 hsz31 A454_0 (rd_L2 l0_0 a1).length c454_0 1 (by omega) q31; have hr31 := Kd.F_cut (m := (1 : Int).toNat) (c := c454_0) hC31 (by omega) hroom31; obtain ⟨A31, hA31⟩ : ∃ A1, A1 = (if c454_0 = (1 : Int).toNat then A454_0 else (A454_0 : Option Addr).map (·.add ((1 : Int).toNat * 1))) := ⟨_, rfl⟩; obtain ⟨c31, hc31⟩ : ∃ c1, c1 = c454_0 - (1 : Int).toNat := ⟨_, rfl⟩
      have hy31 : y455.length = (rd_L2 l0_0 a1).length - (1 : Int).toNat := (by rw [Ny455.out, List.length_drop] <;> omega)
      rw [show (rd_L2 l0_0 a1).drop (1 : Int).toNat = y455 from Ny455.out.symm] at hr31; replace hr31 : Kd.F (Kd.int .i64) _ _ A31 y455.length y455 := (by rw [hA31]; exact hr31); rw [← hy31, ← hA31, ← hc31] at hcut31; have HO459 := A_ (show Kd.V (Kd.int .i64) 3 _ w.heap.size _ (.slice A31 y455.length c31) y455 from Kd.V_mk (by rw [hy31, hc31]; exact Nat.sub_le_sub_right hroom31 _) hr31); have HC459 := A_ (show y455.length ≤ c31 from by rw [hy31, hc31]; exact Nat.sub_le_sub_right hroom31 _); clear hr31 hC31 hroom31 hi031 hsz31 hc31; have KY31 := A_ hy31; have KA31 := A_ hA31; clear hy31 hA31; replace q31 := eq_true q31
      go_wp2
      go_loopg [5, 6] kj2 (fun kq v5 v6 w' => ∃ (x5_2 : List Int) (x6_2 : Int), v6 = .int .i64 x6_2 ∧ Aside0 (spec_IsGrowing.l0 kq x5_2 x6_2 l0_0 = some r) ∧ Aside0 (kq ≤ kj2) ∧ Aside0 (Kd.V (Kd.int .i64) 3 w' w.heap.size (fun k_ => (P0_0_ k_ ∨ w.heap.size ≤ k_) ∧ k_ ≠ gb449) v5 x5_2) ∧ Aside0 (Kd.V (Kd.slice 3 (Kd.int .i64)) 24 w' w.heap.size (fun k_ => (P0_0_ k_ ∨ w.heap.size ≤ k_) ∧ k_ ≠ gb449) (.slice (some ad454) l0_0.length c0_0) l0_0) ∧ Aside0 (w'.heap[gb449]? = some (.cells #[(.slice (some ad454) l0_0.length c0_0)] 62 (0, 0))) ∧ Aside0 (Below w.heap.size w w'))
      case atStart => exact ⟨(y455), (0), (by rfl), H', ⟨Nat.le_refl _⟩, ⟨HO459.out⟩, ⟨HO_450000.out⟩, ⟨BK449.out⟩, ⟨HB.out⟩⟩
      case round =>
       clear H'
       try clear c27b0
       try clear c28b0
       try clear c29b0
       try clear c29b1
       try clear q31
       try clear hcz30_0
       try clear hfz30_0
       try clear hx454_0
       try clear p454
       try clear q454
       obtain ⟨x5_2, x6_2, rfl, HA, HK2, HO_5, HO_450000, BK449, HB⟩ := hrel
       cases gk with
       | zero => exact absurd HA.out (by simp [spec_IsGrowing.l0])
       | succ k2 =>
        have H := HA.out; clear HA; simp only [spec_IsGrowing.l0] at H
        by_cases c32 : x6_2 ≤ (l0_0.length : Int)
        ·rw [if_pos c32] at H; have c32b0 := decide_eq_true c32; clear c32; obtain ⟨y460, hy460⟩ := ex_ ((([] : List Int)) : List Int); replace H : (spec_IsGrowing.l1 k2 x5_2 x6_2 y460 0 l0_0) = some r := by (rw [hy460]; with_reducible exact H)
         have Ny460 := A_ hy460; clear hy460
         have H' := A_ H
         clear H; have hcz33_0 := bz0 BK449.out; have hfz33_0 := blk_frozen BK449.out 0
         go_wp2_with (first | ((with_reducible refine gate_dst (N := 57) rfl ?_); (try (refine gate_guard (by rfl) ?_; dsimp only)); refine Kd.R_lit (Kd.int .i64) _ 3 ?hg (N := 57) ?hd (xs := ([] : List Int)) (inner := []) (ok := fun _ => True) (okp := fun _ => True) ?hr ?hp (fun _ hk => hk) trivial (Below.refl _ _) (Nat.le_refl _) (by simp) ?_; (case hd | hg => rfl); (case hr => go_simp; done); (case hp => exact (Reps.none _ _)); rintro v461 w34 ho35 hb - -; (rw [← Ny460.out] at ho35); replace HO_5 := A_ (Kd.V_elder' HO_5.out (Kd.R_base ho35) hb); replace HO_450000 := A_ (Kd.V_elder' HO_450000.out (Kd.R_base ho35) hb); have HO462 := A_ (Kd.R_lower (Kd.R_newM (M := fun k_ => (w.heap.size ≤ k_)) ho35 (below_size HB.out) (fun k_ h_ => h_)) (below_size HB.out)); replace BK449 := bb_ BK449 hb; replace HB := bs_ HB hb; clear hb ho35))
         go_loopg [7, 8] k2 (fun kq v7 v8 w' => ∃ (x7_3 : List Int) (x8_3 : Int), v8 = .int .i64 x8_3 ∧ Aside0 (spec_IsGrowing.l1 kq x5_2 x6_2 x7_3 x8_3 l0_0 = some r) ∧ Aside0 (kq ≤ k2) ∧ Aside0 (Kd.V (Kd.int .i64) 3 w' w.heap.size (fun k_ => (P0_0_ k_ ∨ w.heap.size ≤ k_) ∧ some k_ ≠ (v7 : Value).ownBlock ∧ k_ ≠ gb449) u5 x5_2) ∧ Aside0 (Kd.R (Kd.int .i64) 3 w' w.heap.size (fun k_ => (w.heap.size ≤ k_)) v7 x7_3) ∧ Aside0 (Kd.V (Kd.slice 3 (Kd.int .i64)) 24 w' w.heap.size (fun k_ => (P0_0_ k_ ∨ w.heap.size ≤ k_) ∧ some k_ ≠ (v7 : Value).ownBlock ∧ k_ ≠ gb449) (.slice (some ad454) l0_0.length c0_0) l0_0) ∧ Aside0 (w'.heap[gb449]? = some (.cells #[(.slice (some ad454) l0_0.length c0_0)] 62 (0, 0))) ∧ Aside0 (Below w.heap.size w w'))
         case atStart => exact ⟨(y460), (0), (by rfl), H', ⟨Nat.le_refl _⟩, ⟨by exact Kd.V_mono HO_5.out (fun _ hk => ⟨hk.1.1, ⟨hk.2, hk.1.2⟩⟩)⟩, ⟨by exact Kd.R_mono HO462.out (fun _ hk => hk.1)⟩, ⟨by exact Kd.V_mono HO_450000.out (fun _ hk => ⟨hk.1.1, ⟨hk.2, hk.1.2⟩⟩)⟩, ⟨BK449.out⟩, ⟨HB.out⟩⟩
         case round =>
          clear H'
          try clear c32b0
          try clear hcz33_0
          try clear hfz33_0
          obtain ⟨x7_3, x8_3, rfl, HA, HK3, HO_5, HO_7, HO_450000, BK449, HB⟩ := hrel
          cases gk with
          | zero => exact absurd HA.out (by simp [spec_IsGrowing.l1])
          | succ k3 =>
           have H := HA.out; clear HA; simp only [spec_IsGrowing.l1] at H
           by_cases c36 : x8_3 < (x5_2.length : Int)
           ·rw [if_pos c36] at H; have c36b0 := decide_eq_true c36; clear c36
            have H' := A_ H
            clear H; obtain ⟨Ao37, co37, eo37⟩ := Kd.V_slice HO_5.out; subst eo37
            go_wp2
            go_loopg [7, 9] k3 (fun kq v7 v9 w' => ∃ (x7_4 : List Int) (x9_4 : Int), v9 = .int .i64 x9_4 ∧ Aside0 (spec_IsGrowing.l2 kq x5_2 x6_2 x7_4 x8_3 x9_4 l0_0 = some r) ∧ Aside0 (kq ≤ k3) ∧ Aside0 (Kd.V (Kd.int .i64) 3 w' w.heap.size (fun k_ => (P0_0_ k_ ∨ w.heap.size ≤ k_) ∧ some k_ ≠ (v7 : Value).ownBlock ∧ k_ ≠ gb449) (.slice Ao37 x5_2.length co37) x5_2) ∧ Aside0 (Kd.R (Kd.int .i64) 3 w' w.heap.size (fun k_ => (w.heap.size ≤ k_)) v7 x7_4) ∧ Aside0 (Kd.V (Kd.slice 3 (Kd.int .i64)) 24 w' w.heap.size (fun k_ => (P0_0_ k_ ∨ w.heap.size ≤ k_) ∧ some k_ ≠ (v7 : Value).ownBlock ∧ k_ ≠ gb449) (.slice (some ad454) l0_0.length c0_0) l0_0) ∧ Aside0 (w'.heap[gb449]? = some (.cells #[(.slice (some ad454) l0_0.length c0_0)] 62 (0, 0))) ∧ Aside0 (Below w.heap.size w w'))
            case atStart => exact ⟨(x7_3), (0), (by rfl), H', ⟨Nat.le_refl _⟩, ⟨HO_5.out⟩, ⟨HO_7.out⟩, ⟨HO_450000.out⟩, ⟨BK449.out⟩, ⟨HB.out⟩⟩
            case round =>
             clear H'
             try clear c36b0
             obtain ⟨x7_4, x9_4, rfl, HA, HK4, HO_5, HO_7, HO_450000, BK449, HB⟩ := hrel
             cases gk with
             | zero => exact absurd HA.out (by simp [spec_IsGrowing.l2])
             | succ k4 =>
              have H := HA.out; clear HA; simp only [spec_IsGrowing.l2] at H
              by_cases c38 : 0 ≤ x8_3
              ·rw [if_pos c38] at H; have c38b0 := decide_eq_true c38; clear c38
               by_cases c39 : x8_3 < (x5_2.length : Int)
               ·rw [if_pos c39] at H; have c39b0 := decide_eq_true c39; clear c39
                by_cases c40 : 0 ≤ (rd x5_2 x8_3)
                ·rw [if_pos c40] at H; have c40b0 := decide_eq_true c40; clear c40
                 by_cases c41 : (rd x5_2 x8_3) < (l0_0.length : Int)
                 ·rw [if_pos c41] at H; have c41b0 := decide_eq_true c41; clear c41
                  by_cases c42 : x9_4 < ((rd_L2 l0_0 (rd x5_2 x8_3)).length : Int)
                  ·rw [if_pos c42] at H; have c42b0 := decide_eq_true c42; clear c42
                   by_cases c43 : 0 ≤ x9_4
                   ·rw [if_pos c43] at H; have c43b0 := decide_eq_true c43; clear c43; replace H := bA_ H; obtain ⟨t468, A44, H⟩ := H
                    by_cases c45 : t468 = true
                    ·subst c45; rw [if_pos rfl] at H
                     have H' := A_ H
                     clear H
                     try go_wp2
                     have n0_ := A_ (Kd.V_drew HO_5.out); have n1_ := A_ (Kd.R_drew HO_7.out); have n2_ := A_ (Kd.V_drew HO_450000.out); have n3_ := A_ (blk_drew BK449.out); have n4_ := A_ (below_drew1 HB.out); clear HO_5 HO_7 HO_450000 BK449 HB; have HO_5 := n0_; have HO_7 := n1_; have HO_450000 := n2_; have BK449 := n3_; have HB := n4_; clear n0_ n1_ n2_ n3_ n4_
                     have p463 : 0 ≤ (x8_3 : Int) := od_ (by assumption)
                     have q463 : x8_3 < (x5_2.length : Int) := od_ (by assumption)
                     obtain ⟨ad463, e463, hx463_0⟩ := Kd.at_int (Kd.V_reads' HO_5.out).2.2 x8_3 p463 q463
                     cases e463
                     replace p463 := eq_true p463; replace q463 := eq_true q463
                     have p464 : 0 ≤ ((rd x5_2 x8_3) : Int) := od_ (by assumption)
                     have q464 : (rd x5_2 x8_3) < (l0_0.length : Int) := od_ (by assumption)
                     obtain ⟨ad464, A464_0, c464_0, e464, hx464_0, hl464_0, hi464_0⟩ := at_L2 (Kd.V_reads' HO_450000.out).2.2 (rd x5_2 x8_3) p464 q464; obtain rfl : ad454 = ad464 := (by injection e464); obtain ⟨ce464, hce464, hMe464, hcc464⟩ := Kd.V_get HO_450000.out [] (rd x5_2 x8_3) p464 (by exact q464); obtain ⟨ua464_0, uc464_0, rfl, ul464_0, ge464_0⟩ := Kd.FK_slice_open hMe464; have hv464_0 := hcc464 0 _ rfl; rw [Nat.add_zero, show ((Kd.slice 3 (Kd.int .i64))).sz = 1 from rfl, Nat.mul_one] at hv464_0; replace hv464_0 := Option.some.inj (hv464_0.symm.trans hx464_0)
                     injection hv464_0 with hva_ hvn_ hvc_
                     rw [hva_] at ge464_0; rw [hvc_] at ul464_0; have HL464_0 := A_ (show Kd.V (Kd.int .i64) 3 _ w.heap.size _ _ (rd_L2 l0_0 (rd x5_2 x8_3)) from Kd.V_mk ul464_0 ge464_0); clear hva_ hvn_ hvc_ ge464_0 ul464_0 hcc464 hce464; have HR464_0 := A_ hi464_0; have HC464_0 := A_ hl464_0; clear hi464_0 hl464_0; replace p464 := eq_true p464; replace q464 := eq_true q464; refine start_ (n := 11) (S := fun w' => w'.cell? ⟨gb449, 0, none⟩ = some (.slice (some ad454) l0_0.length c0_0) ∧ w'.cell? (ad463.add (x8_3).toNat) = some (.int .i64 (rd x5_2 x8_3)) ∧ w'.cell? (ad454.add ((rd x5_2 x8_3)).toNat) = some (.slice A464_0 (rd_L2 l0_0 (rd x5_2 x8_3)).length c464_0)) (ds := []) (mk_ 11 0) (by kernel_rfl) rfl rfl ⟨(blk_cell BK449.out 0).trans rfl, hx463_0, hx464_0⟩ (fun hHeld => ?_); refine with_tabW spec_IsGrowing.tab12 spec_IsGrowing.bits12 (fun HT_ HW_ => ?_)
                     generalize wr.drew = w46 at HO_5 HO_7 HO_450000 BK449 HB HL464_0 HR464_0 hx463_0 hx464_0 hHeld ⊢
                     refine pv_ 0 64 (mk_ 11 1) rfl rfl HT_.out (by kernel_rfl) (fun _ _ _ h => h) (by rfl) (by intro w'; go_simp; with_reducible rfl) (by simp only [Act.put, mD, mE, mF, i64_w, i32_w]; rfl) ?_; refine pv_ 1 65 (mk_ 11 3) rfl rfl HT_.out (by kernel_rfl) (fun _ _ _ h => h) (by rfl) (by intro w'; go_simp; with_reducible rfl) (by simp only [Act.put, mD, mE, mF, i64_w, i32_w]; rfl) ?_; refine pv_ 3 67 (mk_ 11 11) rfl rfl HT_.out (by kernel_rfl) (fun _ _ _ h => h) (by rfl) (by intro w'; go_simp; with_reducible rfl) (by simp only [Act.put, mD, mE, mF, i64_w, i32_w]; rfl) ?_; refine pv_ 4 68 (mk_ 11 27) rfl rfl HT_.out (by kernel_rfl) (fun _ _ _ h => h) (by rfl) (by intro w'; go_simp; with_reducible rfl) (by simp only [Act.put, mD, mE, mF, i64_w, i32_w]; rfl) ?_; refine pv_ 5 69 (mk_ 11 59) rfl rfl HT_.out (by kernel_rfl) (fun _ _ _ h => h) (by rfl) (by intro w'; go_simp; with_reducible rfl) (by simp only [Act.put, mD, mE, mF, i64_w, i32_w]; rfl) ?_; refine take_ (i := 2) (N := some 66) (mk_ 11 63) rfl rfl (take_ofW HT_.out HW_.out (by kernel_rfl)) (fun _ _ _ h => h) (Or.inl ⟨by rfl, by rintro w' ⟨s0, s1, s2⟩; go_simp; with_reducible rfl⟩) hHeld (by simp only [Act.put, mD, mE, mF, i64_w, i32_w]; rfl) ?_; refine take_ (i := 6) (N := some 70) (mk_ 11 127) rfl rfl (take_ofW HT_.out HW_.out (by kernel_rfl)) (fun _ _ _ h => h) (Or.inl ⟨by rfl, by rintro w' ⟨s0, s1, s2⟩; go_simp; with_reducible rfl⟩) hHeld (by simp only [Act.put, mD, mE, mF, i64_w, i32_w]; rfl) ?_; refine pv_ 7 71 (mk_ 11 255) rfl rfl HT_.out (by kernel_rfl) (fun _ _ _ h => h) (by rfl) (by intro w'; go_simp; with_reducible rfl) (by simp only [Act.put, mD, mE, mF, i64_w, i32_w]; rfl) ?_; refine take_ (i := 8) (N := some 72) (mk_ 11 511) rfl rfl (take_ofW HT_.out HW_.out (by kernel_rfl)) (fun _ _ _ h => h) (Or.inl ⟨by rfl, by rintro w' ⟨s0, s1, s2⟩; go_simp; with_reducible rfl⟩) hHeld (by simp only [Act.put, mD, mE, mF, i64_w, i32_w]; rfl) ?_; refine pv_ 9 73 (mk_ 11 1023) rfl rfl HT_.out (by kernel_rfl) (fun _ _ _ h => h) (by rfl) (by intro w'; go_simp; with_reducible rfl) (by simp only [Act.put, mD, mE, mF, i64_w, i32_w]; rfl) ?_; refine pv_ 10 74 (mk_ 11 2047) rfl rfl HT_.out (by kernel_rfl) (fun _ _ _ h => h) (by rfl) (by intro w'; go_simp; with_reducible rfl) (by simp only [Act.put, mD, mE, mF, i64_w, i32_w]; rfl) ?_; refine done_ (done_of HT_.out (by kernel_rfl)) ?_
                     try go_wp2
                     have n0_ := A_ (Kd.V_drew HO_5.out); have n1_ := A_ (Kd.R_drew HO_7.out); have n2_ := A_ (Kd.V_drew HO_450000.out); have n3_ := A_ (Kd.V_drew HL464_0.out); have n4_ := A_ (blk_drew BK449.out); have n5_ := A_ (Kd.C_drew HR464_0.out); have n6_ := A_ (below_drew1 HB.out); clear HO_5 HO_7 HO_450000 HL464_0 BK449 HR464_0 HB; have HO_5 := n0_; have HO_7 := n1_; have HO_450000 := n2_; have HL464_0 := n3_; have BK449 := n4_; have HR464_0 := n5_; have HB := n6_; clear n0_ n1_ n2_ n3_ n4_ n5_ n6_
                     have p465 : 0 ≤ (x8_3 : Int) := od_ (by assumption)
                     have q465 : x8_3 < (x5_2.length : Int) := od_ (by assumption)
                     obtain ⟨ad465, e465, hx465_0⟩ := Kd.at_int (Kd.V_reads' HO_5.out).2.2 x8_3 p465 q465; obtain rfl : ad463 = ad465 := (by injection e465); replace p465 := eq_true p465; replace q465 := eq_true q465
                     have p466 : 0 ≤ ((rd x5_2 x8_3) : Int) := od_ (by assumption)
                     have q466 : (rd x5_2 x8_3) < (l0_0.length : Int) := od_ (by assumption)
                     obtain ⟨ad466, A466_0, c466_0, e466, hx466_0, hl466_0, hi466_0⟩ := at_L2 (Kd.V_reads' HO_450000.out).2.2 (rd x5_2 x8_3) p466 q466; obtain rfl : ad454 = ad466 := (by injection e466); obtain ⟨ce466, hce466, hMe466, hcc466⟩ := Kd.V_get HO_450000.out [] (rd x5_2 x8_3) p466 (by exact q466); obtain ⟨ua466_0, uc466_0, rfl, ul466_0, ge466_0⟩ := Kd.FK_slice_open hMe466; have hv466_0 := hcc466 0 _ rfl; rw [Nat.add_zero, show ((Kd.slice 3 (Kd.int .i64))).sz = 1 from rfl, Nat.mul_one] at hv466_0; replace hv466_0 := Option.some.inj (hv466_0.symm.trans hx466_0)
                     injection hv466_0 with hva_ hvn_ hvc_
                     rw [hva_] at ge466_0; rw [hvc_] at ul466_0; have HL466_0 := A_ (show Kd.V (Kd.int .i64) 3 _ w.heap.size _ _ (rd_L2 l0_0 (rd x5_2 x8_3)) from Kd.V_mk ul466_0 ge466_0); clear hva_ hvn_ hvc_ ge466_0 ul466_0 hcc466 hce466; have HR466_0 := A_ hi466_0; have HC466_0 := A_ hl466_0; clear hi466_0 hl466_0; replace p466 := eq_true p466; replace q466 := eq_true q466
                     have p467 : 0 ≤ (x9_4 : Int) := od_ (by assumption)
                     have q467 : x9_4 < ((rd_L2 l0_0 (rd x5_2 x8_3)).length : Int) := od_ (by assumption)
                     obtain ⟨ad467, e467, hx467_0⟩ := Kd.at_int (by repeat (first | (with_reducible exact HR466_0.out) | (with_reducible refine Kd.C_alloc ?_ _) | (with_reducible refine Kd.C_drewN ?_ _) | (with_reducible refine Kd.C_drew ?_) | exact HR466_0.out)) x9_4 p467 q467
                     cases e467
                     replace p467 := eq_true p467; replace q467 := eq_true q467; obtain ⟨Ao48, co48, eo48⟩ := Kd.R_slice HO_7.out
                     (first | subst eo48 | (injection eo48 with f1_ f2_ f3_; have f4_ := f1_.symm; have f5_ := f3_.symm; clear f1_ f2_ f3_; subst f4_; subst f5_))
                     refine start_ (n := 14) (S := fun w' => w'.cell? ⟨gb449, 0, none⟩ = some (.slice (some ad454) l0_0.length c0_0) ∧ w'.cell? (ad463.add (x8_3).toNat) = some (.int .i64 (rd x5_2 x8_3)) ∧ w'.cell? (ad454.add ((rd x5_2 x8_3)).toNat) = some (.slice (some ad467) (rd_L2 l0_0 (rd x5_2 x8_3)).length c466_0) ∧ w'.cell? (ad467.add (x9_4).toNat) = some (.int .i64 (rd (rd_L2 l0_0 (rd x5_2 x8_3)) x9_4))) (ds := []) (mk_ 14 0) (by kernel_rfl) rfl rfl ⟨(blk_cell BK449.out 0).trans rfl, hx465_0, hx466_0, hx467_0⟩ (fun hHeld => ?_); refine with_tabW spec_IsGrowing.tab14 spec_IsGrowing.bits14 (fun HT_ HW_ => ?_)
                     generalize w46.drew = w47 at HO_5 HO_7 HO_450000 HL464_0 BK449 HR464_0 HB HL466_0 HR466_0 hx465_0 hx466_0 hx467_0 hHeld ⊢
                     refine pv_ 0 77 (mk_ 14 1) rfl rfl HT_.out (by kernel_rfl) (fun _ _ _ h => h) (by rfl) (by intro w'; go_simp; with_reducible rfl) (by simp only [Act.put, mD, mE, mF, i64_w, i32_w]; rfl) ?_; refine pv_ 1 78 (mk_ 14 3) rfl rfl HT_.out (by kernel_rfl) (fun _ _ _ h => h) (by rfl) (by intro w'; go_simp; with_reducible rfl) (by simp only [Act.put, mD, mE, mF, i64_w, i32_w]; rfl) ?_; refine pv_ 3 80 (mk_ 14 11) rfl rfl HT_.out (by kernel_rfl) (fun _ _ _ h => h) (by rfl) (by intro w'; go_simp; with_reducible rfl) (by simp only [Act.put, mD, mE, mF, i64_w, i32_w]; rfl) ?_; refine pv_ 4 81 (mk_ 14 27) rfl rfl HT_.out (by kernel_rfl) (fun _ _ _ h => h) (by rfl) (by intro w'; go_simp; with_reducible rfl) (by simp only [Act.put, mD, mE, mF, i64_w, i32_w]; rfl) ?_; refine pv_ 5 82 (mk_ 14 59) rfl rfl HT_.out (by kernel_rfl) (fun _ _ _ h => h) (by rfl) (by intro w'; go_simp; with_reducible rfl) (by simp only [Act.put, mD, mE, mF, i64_w, i32_w]; rfl) ?_; refine pv_ 9 86 (mk_ 14 571) rfl rfl HT_.out (by kernel_rfl) (fun _ _ _ h => h) (by rfl) (by intro w'; go_simp; with_reducible rfl) (by simp only [Act.put, mD, mE, mF, i64_w, i32_w]; rfl) ?_; refine take_ (i := 2) (N := some 79) (mk_ 14 575) rfl rfl (take_ofW HT_.out HW_.out (by kernel_rfl)) (fun _ _ _ h => h) (Or.inl ⟨by rfl, by rintro w' ⟨s0, s1, s2, s3⟩; go_simp; with_reducible rfl⟩) hHeld (by simp only [Act.put, mD, mE, mF, i64_w, i32_w]; rfl) ?_; refine take_ (i := 6) (N := some 83) (mk_ 14 639) rfl rfl (take_ofW HT_.out HW_.out (by kernel_rfl)) (fun _ _ _ h => h) (Or.inl ⟨by rfl, by rintro w' ⟨s0, s1, s2, s3⟩; go_simp; with_reducible rfl⟩) hHeld (by simp only [Act.put, mD, mE, mF, i64_w, i32_w]; rfl) ?_; refine pv_ 7 84 (mk_ 14 767) rfl rfl HT_.out (by kernel_rfl) (fun _ _ _ h => h) (by rfl) (by intro w'; go_simp; with_reducible rfl) (by simp only [Act.put, mD, mE, mF, i64_w, i32_w]; rfl) ?_; refine take_ (i := 8) (N := some 85) (mk_ 14 1023) rfl rfl (take_ofW HT_.out HW_.out (by kernel_rfl)) (fun _ _ _ h => h) (Or.inl ⟨by rfl, by rintro w' ⟨s0, s1, s2, s3⟩; go_simp; with_reducible rfl⟩) hHeld (by simp only [Act.put, mD, mE, mF, i64_w, i32_w]; rfl) ?_; refine pv_ 10 87 (mk_ 14 2047) rfl rfl HT_.out (by kernel_rfl) (fun _ _ _ h => h) (by rfl) (by intro w'; go_simp; with_reducible rfl) (by simp only [Act.put, mD, mE, mF, i64_w, i32_w]; rfl) ?_; refine take_ (i := 11) (N := some 88) (mk_ 14 4095) rfl rfl (take_ofW HT_.out HW_.out (by kernel_rfl)) (fun _ _ _ h => h) (Or.inl ⟨by rfl, by rintro w' ⟨s0, s1, s2, s3⟩; go_simp; with_reducible rfl⟩) hHeld (by simp only [Act.put, mD, mE, mF, i64_w, i32_w]; rfl) ?_; refine one_ (i := 12) (N := some 89) (mk_ 14 8191) rfl rfl (one_of HT_.out (by kernel_rfl)) (by decide) (fun K hK => ?_); refine cE_ E93 rfl rfl rfl (spec_l4Has.calls k4 _ _ x7_4 (rd (rd_L2 l0_0 (rd x5_2 x8_3)) x9_4) true _ ((Kd.R_reads' HO_7.out).2.2) ((Kd.R_reads' HO_7.out).2.1) A44.out) (by simp only [mA, mB, mC]; rfl) fun nd => ?_; refine hK.out _ _ ⟨(blk_cell BK449.out 0).trans rfl, hHeld.2.1, hHeld.2.2.1, hHeld.2.2.2⟩ (fun hHeld => ?_); clear hK K; refine norm_ (by show Act.put _ (some 89) _ = _; simp only [Act.put, mD, mE, mF, i64_w, i32_w]; rfl) ?_; refine pv_ 13 90 (mk_ 14 16383) rfl rfl HT_.out (by kernel_rfl) (fun _ _ _ h => h) (by rfl) (by intro w'; go_simp; with_reducible rfl) (by simp only [Act.put, mD, mE, mF, i64_w, i32_w]; rfl) ?_; refine done_ (done_of HT_.out (by kernel_rfl)) ?_
                     try go_wp2
                     go_roundg k4
                     case measure => have := HJ2.out; have := HK2.out; have := HK3.out; have := HK4.out; omega
                     case rel => exact ⟨(x7_4), (wrap64 (x9_4 + 1)), (by rfl), H', ⟨by have := HJ2.out; have := HK2.out; have := HK3.out; have := HK4.out; omega⟩, ⟨by (with_reducible repeat (first | apply Kd.V_alloc | apply Kd.V_drewN | apply Kd.V_drew)); exact HO_5.out⟩, ⟨by (with_reducible repeat (first | apply Kd.R_alloc | apply Kd.R_drewN | apply Kd.R_drew)); exact HO_7.out⟩, ⟨by (with_reducible repeat (first | apply Kd.V_alloc | apply Kd.V_drewN | apply Kd.V_drew)); exact HO_450000.out⟩, ⟨by (with_reducible repeat (first | refine blk_drewN ?_ _ | refine blk_drew ?_ | refine blk_alloc ?_ _)); exact BK449.out⟩, ⟨by repeat (first | (with_reducible first | exact HB.out | apply below_alloc | apply pw_below_drewN | apply below_drew1 | refine below_set ?_ GE449.out) | exact HB.out)⟩⟩
                    replace c45 := Bool.eq_false_iff.mpr c45; subst c45; rw [if_neg nf_] at H
                    by_cases c49 : x7_4.length < 17592186044416
                    ·rw [if_pos c49] at H; have LMc49 := A_ c49; clear c49; obtain ⟨y472, hy472⟩ := ex_ ((x7_4 ++ [rd (rd_L2 l0_0 (rd x5_2 x8_3)) x9_4]) : List Int); replace H : (spec_IsGrowing.l2 k4 x5_2 x6_2 y472 x8_3 (wrap64 (x9_4 + 1)) l0_0) = some r := by (rw [hy472]; with_reducible exact H)
                     have Ny472 := A_ hy472; clear hy472
                     have H' := A_ H
                     clear H
                     try go_wp2
                     have n0_ := A_ (Kd.V_drew HO_5.out); have n1_ := A_ (Kd.R_drew HO_7.out); have n2_ := A_ (Kd.V_drew HO_450000.out); have n3_ := A_ (blk_drew BK449.out); have n4_ := A_ (below_drew1 HB.out); clear HO_5 HO_7 HO_450000 BK449 HB; have HO_5 := n0_; have HO_7 := n1_; have HO_450000 := n2_; have BK449 := n3_; have HB := n4_; clear n0_ n1_ n2_ n3_ n4_
                     have p463 : 0 ≤ (x8_3 : Int) := od_ (by assumption)
                     have q463 : x8_3 < (x5_2.length : Int) := od_ (by assumption)
                     obtain ⟨ad463, e463, hx463_0⟩ := Kd.at_int (Kd.V_reads' HO_5.out).2.2 x8_3 p463 q463
                     cases e463
                     replace p463 := eq_true p463; replace q463 := eq_true q463
                     have p464 : 0 ≤ ((rd x5_2 x8_3) : Int) := od_ (by assumption)
                     have q464 : (rd x5_2 x8_3) < (l0_0.length : Int) := od_ (by assumption)
                     obtain ⟨ad464, A464_0, c464_0, e464, hx464_0, hl464_0, hi464_0⟩ := at_L2 (Kd.V_reads' HO_450000.out).2.2 (rd x5_2 x8_3) p464 q464; obtain rfl : ad454 = ad464 := (by injection e464); obtain ⟨ce464, hce464, hMe464, hcc464⟩ := Kd.V_get HO_450000.out [] (rd x5_2 x8_3) p464 (by exact q464); obtain ⟨ua464_0, uc464_0, rfl, ul464_0, ge464_0⟩ := Kd.FK_slice_open hMe464; have hv464_0 := hcc464 0 _ rfl; rw [Nat.add_zero, show ((Kd.slice 3 (Kd.int .i64))).sz = 1 from rfl, Nat.mul_one] at hv464_0; replace hv464_0 := Option.some.inj (hv464_0.symm.trans hx464_0)
                     injection hv464_0 with hva_ hvn_ hvc_
                     rw [hva_] at ge464_0; rw [hvc_] at ul464_0; have HL464_0 := A_ (show Kd.V (Kd.int .i64) 3 _ w.heap.size _ _ (rd_L2 l0_0 (rd x5_2 x8_3)) from Kd.V_mk ul464_0 ge464_0); clear hva_ hvn_ hvc_ ge464_0 ul464_0 hcc464 hce464; have HR464_0 := A_ hi464_0; have HC464_0 := A_ hl464_0; clear hi464_0 hl464_0; replace p464 := eq_true p464; replace q464 := eq_true q464; refine start_ (n := 11) (S := fun w' => w'.cell? ⟨gb449, 0, none⟩ = some (.slice (some ad454) l0_0.length c0_0) ∧ w'.cell? (ad463.add (x8_3).toNat) = some (.int .i64 (rd x5_2 x8_3)) ∧ w'.cell? (ad454.add ((rd x5_2 x8_3)).toNat) = some (.slice A464_0 (rd_L2 l0_0 (rd x5_2 x8_3)).length c464_0)) (ds := []) (mk_ 11 0) (by kernel_rfl) rfl rfl ⟨(blk_cell BK449.out 0).trans rfl, hx463_0, hx464_0⟩ (fun hHeld => ?_); refine with_tabW spec_IsGrowing.tab12 spec_IsGrowing.bits12 (fun HT_ HW_ => ?_)
                     generalize wr.drew = w50 at HO_5 HO_7 HO_450000 BK449 HB HL464_0 HR464_0 hx463_0 hx464_0 hHeld ⊢
                     refine pv_ 0 64 (mk_ 11 1) rfl rfl HT_.out (by kernel_rfl) (fun _ _ _ h => h) (by rfl) (by intro w'; go_simp; with_reducible rfl) (by simp only [Act.put, mD, mE, mF, i64_w, i32_w]; rfl) ?_; refine pv_ 1 65 (mk_ 11 3) rfl rfl HT_.out (by kernel_rfl) (fun _ _ _ h => h) (by rfl) (by intro w'; go_simp; with_reducible rfl) (by simp only [Act.put, mD, mE, mF, i64_w, i32_w]; rfl) ?_; refine pv_ 3 67 (mk_ 11 11) rfl rfl HT_.out (by kernel_rfl) (fun _ _ _ h => h) (by rfl) (by intro w'; go_simp; with_reducible rfl) (by simp only [Act.put, mD, mE, mF, i64_w, i32_w]; rfl) ?_; refine pv_ 4 68 (mk_ 11 27) rfl rfl HT_.out (by kernel_rfl) (fun _ _ _ h => h) (by rfl) (by intro w'; go_simp; with_reducible rfl) (by simp only [Act.put, mD, mE, mF, i64_w, i32_w]; rfl) ?_; refine pv_ 5 69 (mk_ 11 59) rfl rfl HT_.out (by kernel_rfl) (fun _ _ _ h => h) (by rfl) (by intro w'; go_simp; with_reducible rfl) (by simp only [Act.put, mD, mE, mF, i64_w, i32_w]; rfl) ?_; refine take_ (i := 2) (N := some 66) (mk_ 11 63) rfl rfl (take_ofW HT_.out HW_.out (by kernel_rfl)) (fun _ _ _ h => h) (Or.inl ⟨by rfl, by rintro w' ⟨s0, s1, s2⟩; go_simp; with_reducible rfl⟩) hHeld (by simp only [Act.put, mD, mE, mF, i64_w, i32_w]; rfl) ?_; refine take_ (i := 6) (N := some 70) (mk_ 11 127) rfl rfl (take_ofW HT_.out HW_.out (by kernel_rfl)) (fun _ _ _ h => h) (Or.inl ⟨by rfl, by rintro w' ⟨s0, s1, s2⟩; go_simp; with_reducible rfl⟩) hHeld (by simp only [Act.put, mD, mE, mF, i64_w, i32_w]; rfl) ?_; refine pv_ 7 71 (mk_ 11 255) rfl rfl HT_.out (by kernel_rfl) (fun _ _ _ h => h) (by rfl) (by intro w'; go_simp; with_reducible rfl) (by simp only [Act.put, mD, mE, mF, i64_w, i32_w]; rfl) ?_; refine take_ (i := 8) (N := some 72) (mk_ 11 511) rfl rfl (take_ofW HT_.out HW_.out (by kernel_rfl)) (fun _ _ _ h => h) (Or.inl ⟨by rfl, by rintro w' ⟨s0, s1, s2⟩; go_simp; with_reducible rfl⟩) hHeld (by simp only [Act.put, mD, mE, mF, i64_w, i32_w]; rfl) ?_; refine pv_ 9 73 (mk_ 11 1023) rfl rfl HT_.out (by kernel_rfl) (fun _ _ _ h => h) (by rfl) (by intro w'; go_simp; with_reducible rfl) (by simp only [Act.put, mD, mE, mF, i64_w, i32_w]; rfl) ?_; refine pv_ 10 74 (mk_ 11 2047) rfl rfl HT_.out (by kernel_rfl) (fun _ _ _ h => h) (by rfl) (by intro w'; go_simp; with_reducible rfl) (by simp only [Act.put, mD, mE, mF, i64_w, i32_w]; rfl) ?_; refine done_ (done_of HT_.out (by kernel_rfl)) ?_
                     try go_wp2
                     have n0_ := A_ (Kd.V_drew HO_5.out); have n1_ := A_ (Kd.R_drew HO_7.out); have n2_ := A_ (Kd.V_drew HO_450000.out); have n3_ := A_ (Kd.V_drew HL464_0.out); have n4_ := A_ (blk_drew BK449.out); have n5_ := A_ (Kd.C_drew HR464_0.out); have n6_ := A_ (below_drew1 HB.out); clear HO_5 HO_7 HO_450000 HL464_0 BK449 HR464_0 HB; have HO_5 := n0_; have HO_7 := n1_; have HO_450000 := n2_; have HL464_0 := n3_; have BK449 := n4_; have HR464_0 := n5_; have HB := n6_; clear n0_ n1_ n2_ n3_ n4_ n5_ n6_
                     have p465 : 0 ≤ (x8_3 : Int) := od_ (by assumption)
                     have q465 : x8_3 < (x5_2.length : Int) := od_ (by assumption)
                     obtain ⟨ad465, e465, hx465_0⟩ := Kd.at_int (Kd.V_reads' HO_5.out).2.2 x8_3 p465 q465; obtain rfl : ad463 = ad465 := (by injection e465); replace p465 := eq_true p465; replace q465 := eq_true q465
                     have p466 : 0 ≤ ((rd x5_2 x8_3) : Int) := od_ (by assumption)
                     have q466 : (rd x5_2 x8_3) < (l0_0.length : Int) := od_ (by assumption)
                     obtain ⟨ad466, A466_0, c466_0, e466, hx466_0, hl466_0, hi466_0⟩ := at_L2 (Kd.V_reads' HO_450000.out).2.2 (rd x5_2 x8_3) p466 q466; obtain rfl : ad454 = ad466 := (by injection e466); obtain ⟨ce466, hce466, hMe466, hcc466⟩ := Kd.V_get HO_450000.out [] (rd x5_2 x8_3) p466 (by exact q466); obtain ⟨ua466_0, uc466_0, rfl, ul466_0, ge466_0⟩ := Kd.FK_slice_open hMe466; have hv466_0 := hcc466 0 _ rfl; rw [Nat.add_zero, show ((Kd.slice 3 (Kd.int .i64))).sz = 1 from rfl, Nat.mul_one] at hv466_0; replace hv466_0 := Option.some.inj (hv466_0.symm.trans hx466_0)
                     injection hv466_0 with hva_ hvn_ hvc_
                     rw [hva_] at ge466_0; rw [hvc_] at ul466_0; have HL466_0 := A_ (show Kd.V (Kd.int .i64) 3 _ w.heap.size _ _ (rd_L2 l0_0 (rd x5_2 x8_3)) from Kd.V_mk ul466_0 ge466_0); clear hva_ hvn_ hvc_ ge466_0 ul466_0 hcc466 hce466; have HR466_0 := A_ hi466_0; have HC466_0 := A_ hl466_0; clear hi466_0 hl466_0; replace p466 := eq_true p466; replace q466 := eq_true q466
                     have p467 : 0 ≤ (x9_4 : Int) := od_ (by assumption)
                     have q467 : x9_4 < ((rd_L2 l0_0 (rd x5_2 x8_3)).length : Int) := od_ (by assumption)
                     obtain ⟨ad467, e467, hx467_0⟩ := Kd.at_int (by repeat (first | (with_reducible exact HR466_0.out) | (with_reducible refine Kd.C_alloc ?_ _) | (with_reducible refine Kd.C_drewN ?_ _) | (with_reducible refine Kd.C_drew ?_) | exact HR466_0.out)) x9_4 p467 q467
                     cases e467
                     replace p467 := eq_true p467; replace q467 := eq_true q467; obtain ⟨Ao52, co52, eo52⟩ := Kd.R_slice HO_7.out
                     (first | subst eo52 | (injection eo52 with f1_ f2_ f3_; have f4_ := f1_.symm; have f5_ := f3_.symm; clear f1_ f2_ f3_; subst f4_; subst f5_))
                     refine start_ (n := 14) (S := fun w' => w'.cell? ⟨gb449, 0, none⟩ = some (.slice (some ad454) l0_0.length c0_0) ∧ w'.cell? (ad463.add (x8_3).toNat) = some (.int .i64 (rd x5_2 x8_3)) ∧ w'.cell? (ad454.add ((rd x5_2 x8_3)).toNat) = some (.slice (some ad467) (rd_L2 l0_0 (rd x5_2 x8_3)).length c466_0) ∧ w'.cell? (ad467.add (x9_4).toNat) = some (.int .i64 (rd (rd_L2 l0_0 (rd x5_2 x8_3)) x9_4))) (ds := []) (mk_ 14 0) (by kernel_rfl) rfl rfl ⟨(blk_cell BK449.out 0).trans rfl, hx465_0, hx466_0, hx467_0⟩ (fun hHeld => ?_); refine with_tabW spec_IsGrowing.tab14 spec_IsGrowing.bits14 (fun HT_ HW_ => ?_)
                     generalize w50.drew = w51 at HO_5 HO_7 HO_450000 HL464_0 BK449 HR464_0 HB HL466_0 HR466_0 hx465_0 hx466_0 hx467_0 hHeld ⊢
                     refine pv_ 0 77 (mk_ 14 1) rfl rfl HT_.out (by kernel_rfl) (fun _ _ _ h => h) (by rfl) (by intro w'; go_simp; with_reducible rfl) (by simp only [Act.put, mD, mE, mF, i64_w, i32_w]; rfl) ?_; refine pv_ 1 78 (mk_ 14 3) rfl rfl HT_.out (by kernel_rfl) (fun _ _ _ h => h) (by rfl) (by intro w'; go_simp; with_reducible rfl) (by simp only [Act.put, mD, mE, mF, i64_w, i32_w]; rfl) ?_; refine pv_ 3 80 (mk_ 14 11) rfl rfl HT_.out (by kernel_rfl) (fun _ _ _ h => h) (by rfl) (by intro w'; go_simp; with_reducible rfl) (by simp only [Act.put, mD, mE, mF, i64_w, i32_w]; rfl) ?_; refine pv_ 4 81 (mk_ 14 27) rfl rfl HT_.out (by kernel_rfl) (fun _ _ _ h => h) (by rfl) (by intro w'; go_simp; with_reducible rfl) (by simp only [Act.put, mD, mE, mF, i64_w, i32_w]; rfl) ?_; refine pv_ 5 82 (mk_ 14 59) rfl rfl HT_.out (by kernel_rfl) (fun _ _ _ h => h) (by rfl) (by intro w'; go_simp; with_reducible rfl) (by simp only [Act.put, mD, mE, mF, i64_w, i32_w]; rfl) ?_; refine pv_ 9 86 (mk_ 14 571) rfl rfl HT_.out (by kernel_rfl) (fun _ _ _ h => h) (by rfl) (by intro w'; go_simp; with_reducible rfl) (by simp only [Act.put, mD, mE, mF, i64_w, i32_w]; rfl) ?_; refine take_ (i := 2) (N := some 79) (mk_ 14 575) rfl rfl (take_ofW HT_.out HW_.out (by kernel_rfl)) (fun _ _ _ h => h) (Or.inl ⟨by rfl, by rintro w' ⟨s0, s1, s2, s3⟩; go_simp; with_reducible rfl⟩) hHeld (by simp only [Act.put, mD, mE, mF, i64_w, i32_w]; rfl) ?_; refine take_ (i := 6) (N := some 83) (mk_ 14 639) rfl rfl (take_ofW HT_.out HW_.out (by kernel_rfl)) (fun _ _ _ h => h) (Or.inl ⟨by rfl, by rintro w' ⟨s0, s1, s2, s3⟩; go_simp; with_reducible rfl⟩) hHeld (by simp only [Act.put, mD, mE, mF, i64_w, i32_w]; rfl) ?_; refine pv_ 7 84 (mk_ 14 767) rfl rfl HT_.out (by kernel_rfl) (fun _ _ _ h => h) (by rfl) (by intro w'; go_simp; with_reducible rfl) (by simp only [Act.put, mD, mE, mF, i64_w, i32_w]; rfl) ?_; refine take_ (i := 8) (N := some 85) (mk_ 14 1023) rfl rfl (take_ofW HT_.out HW_.out (by kernel_rfl)) (fun _ _ _ h => h) (Or.inl ⟨by rfl, by rintro w' ⟨s0, s1, s2, s3⟩; go_simp; with_reducible rfl⟩) hHeld (by simp only [Act.put, mD, mE, mF, i64_w, i32_w]; rfl) ?_; refine pv_ 10 87 (mk_ 14 2047) rfl rfl HT_.out (by kernel_rfl) (fun _ _ _ h => h) (by rfl) (by intro w'; go_simp; with_reducible rfl) (by simp only [Act.put, mD, mE, mF, i64_w, i32_w]; rfl) ?_; refine take_ (i := 11) (N := some 88) (mk_ 14 4095) rfl rfl (take_ofW HT_.out HW_.out (by kernel_rfl)) (fun _ _ _ h => h) (Or.inl ⟨by rfl, by rintro w' ⟨s0, s1, s2, s3⟩; go_simp; with_reducible rfl⟩) hHeld (by simp only [Act.put, mD, mE, mF, i64_w, i32_w]; rfl) ?_; refine one_ (i := 12) (N := some 89) (mk_ 14 8191) rfl rfl (one_of HT_.out (by kernel_rfl)) (by decide) (fun K hK => ?_); refine cE_ E93 rfl rfl rfl (spec_l4Has.calls k4 _ _ x7_4 (rd (rd_L2 l0_0 (rd x5_2 x8_3)) x9_4) false _ ((Kd.R_reads' HO_7.out).2.2) ((Kd.R_reads' HO_7.out).2.1) A44.out) (by simp only [mA, mB, mC]; rfl) fun nd => ?_; refine hK.out _ _ ⟨(blk_cell BK449.out 0).trans rfl, hHeld.2.1, hHeld.2.2.1, hHeld.2.2.2⟩ (fun hHeld => ?_); clear hK K; refine norm_ (by show Act.put _ (some 89) _ = _; simp only [Act.put, mD, mE, mF, i64_w, i32_w]; rfl) ?_; refine pv_ 13 90 (mk_ 14 16383) rfl rfl HT_.out (by kernel_rfl) (fun _ _ _ h => h) (by rfl) (by intro w'; go_simp; with_reducible rfl) (by simp only [Act.put, mD, mE, mF, i64_w, i32_w]; rfl) ?_; refine done_ (done_of HT_.out (by kernel_rfl)) ?_
                     try go_wp2
                     (try (rw [drewN_self w51]; generalize hq_ : World.drewN w51 _ = w51; have n0_ : Aside0 (Kd.V (Kd.int .i64) 3 w51 w.heap.size (fun k_ => (P0_0_ k_ ∨ w.heap.size ≤ k_) ∧ some k_ ≠ (.slice Ao52 x7_4.length co52 : Value).ownBlock ∧ k_ ≠ gb449) (.slice A464_0 (rd_L2 l0_0 (rd x5_2 x8_3)).length c464_0) (rd_L2 l0_0 (rd x5_2 x8_3))) := ⟨by rw [← hq_]; exact (by (with_reducible repeat (first | apply Kd.V_alloc | apply Kd.V_drewN | apply Kd.V_drew)); exact HL464_0.out)⟩; have n1_ : Aside0 (Kd.V (Kd.int .i64) 3 w51 w.heap.size (fun k_ => (P0_0_ k_ ∨ w.heap.size ≤ k_) ∧ some k_ ≠ (.slice Ao52 x7_4.length co52 : Value).ownBlock ∧ k_ ≠ gb449) (.slice (some ad467) (rd_L2 l0_0 (rd x5_2 x8_3)).length c466_0) (rd_L2 l0_0 (rd x5_2 x8_3))) := ⟨by rw [← hq_]; exact (by (with_reducible repeat (first | apply Kd.V_alloc | apply Kd.V_drewN | apply Kd.V_drew)); exact HL466_0.out)⟩; have n2_ : Aside0 (Kd.V (Kd.slice 3 (Kd.int .i64)) 24 w51 w.heap.size (fun k_ => (P0_0_ k_ ∨ w.heap.size ≤ k_) ∧ some k_ ≠ (.slice Ao52 x7_4.length co52 : Value).ownBlock ∧ k_ ≠ gb449) (.slice (some ad454) l0_0.length c0_0) l0_0) := ⟨by rw [← hq_]; exact (by (with_reducible repeat (first | apply Kd.V_alloc | apply Kd.V_drewN | apply Kd.V_drew)); exact HO_450000.out)⟩; have n3_ : Aside0 (Kd.V (Kd.int .i64) 3 w51 w.heap.size (fun k_ => (P0_0_ k_ ∨ w.heap.size ≤ k_) ∧ some k_ ≠ (.slice Ao52 x7_4.length co52 : Value).ownBlock ∧ k_ ≠ gb449) (.slice (some ad463) x5_2.length co37) x5_2) := ⟨by rw [← hq_]; exact (by (with_reducible repeat (first | apply Kd.V_alloc | apply Kd.V_drewN | apply Kd.V_drew)); exact HO_5.out)⟩; have n4_ : Aside0 (Kd.R (Kd.int .i64) 3 w51 w.heap.size (fun k_ => (w.heap.size ≤ k_)) (.slice Ao52 x7_4.length co52) x7_4) := ⟨by rw [← hq_]; exact (by (with_reducible repeat (first | apply Kd.R_alloc | apply Kd.R_drewN | apply Kd.R_drew)); exact HO_7.out)⟩; have n5_ : Aside0 (w51.heap[gb449]? = some (.cells #[.slice (some ad454) l0_0.length c0_0] 62 (0, 0))) := ⟨by rw [← hq_]; exact (by (with_reducible repeat (first | refine blk_drewN ?_ _ | refine blk_drew ?_ | refine blk_alloc ?_ _)); exact BK449.out)⟩; have n6_ : Aside0 (Below w.heap.size w w51) := ⟨by rw [← hq_]; exact (by repeat (first | (with_reducible first | exact HB.out | apply below_alloc | apply pw_below_drewN | apply below_drew1 | refine below_set ?_ GE449.out) | exact HB.out))⟩; have n7_ : Aside0 (Kd.C (Kd.int .i64) w51 A464_0 (rd_L2 l0_0 (rd x5_2 x8_3)).length (rd_L2 l0_0 (rd x5_2 x8_3))) := ⟨by rw [← hq_]; exact (by repeat (first | (with_reducible exact HR464_0.out) | (with_reducible refine Kd.C_alloc ?_ _) | (with_reducible refine Kd.C_drewN ?_ _) | (with_reducible refine Kd.C_drew ?_) | exact HR464_0.out))⟩; have n8_ : Aside0 (Kd.C (Kd.int .i64) w51 (some ad467) (rd_L2 l0_0 (rd x5_2 x8_3)).length (rd_L2 l0_0 (rd x5_2 x8_3))) := ⟨by rw [← hq_]; exact (by repeat (first | (with_reducible exact HR466_0.out) | (with_reducible refine Kd.C_alloc ?_ _) | (with_reducible refine Kd.C_drewN ?_ _) | (with_reducible refine Kd.C_drew ?_) | exact HR466_0.out))⟩; clear HL464_0 HL466_0 HO_450000 HO_5 HO_7 BK449 HB HR464_0 HR466_0 hq_; revert n0_ n1_ n2_ n3_ n4_ n5_ n6_ n7_ n8_; intro HL464_0 HL466_0 HO_450000 HO_5 HO_7 BK449 HB HR464_0 HR466_0))
                     have n0_ := A_ (Kd.V_drew HO_5.out); have n1_ := A_ (Kd.R_drew HO_7.out); have n2_ := A_ (Kd.V_drew HO_450000.out); have n3_ := A_ (Kd.V_drew HL464_0.out); have n4_ := A_ (Kd.V_drew HL466_0.out); have n5_ := A_ (blk_drew BK449.out); have n6_ := A_ (Kd.C_drew HR464_0.out); have n7_ := A_ (Kd.C_drew HR466_0.out); have n8_ := A_ (below_drew1 HB.out); clear HO_5 HO_7 HO_450000 HL464_0 HL466_0 BK449 HR464_0 HR466_0 HB; have HO_5 := n0_; have HO_7 := n1_; have HO_450000 := n2_; have HL464_0 := n3_; have HL466_0 := n4_; have BK449 := n5_; have HR464_0 := n6_; have HR466_0 := n7_; have HB := n8_; clear n0_ n1_ n2_ n3_ n4_ n5_ n6_ n7_ n8_
                     have p469 : 0 ≤ (x8_3 : Int) := od_ (by assumption)
                     have q469 : x8_3 < (x5_2.length : Int) := od_ (by assumption)
                     obtain ⟨ad469, e469, hx469_0⟩ := Kd.at_int (Kd.V_reads' HO_5.out).2.2 x8_3 p469 q469; obtain rfl : ad463 = ad469 := (by injection e469); replace p469 := eq_true p469; replace q469 := eq_true q469
                     have p470 : 0 ≤ ((rd x5_2 x8_3) : Int) := od_ (by assumption)
                     have q470 : (rd x5_2 x8_3) < (l0_0.length : Int) := od_ (by assumption)
                     obtain ⟨ad470, A470_0, c470_0, e470, hx470_0, hl470_0, hi470_0⟩ := at_L2 (Kd.V_reads' HO_450000.out).2.2 (rd x5_2 x8_3) p470 q470; obtain rfl : ad454 = ad470 := (by injection e470); obtain ⟨ce470, hce470, hMe470, hcc470⟩ := Kd.V_get HO_450000.out [] (rd x5_2 x8_3) p470 (by exact q470); obtain ⟨ua470_0, uc470_0, rfl, ul470_0, ge470_0⟩ := Kd.FK_slice_open hMe470; have hv470_0 := hcc470 0 _ rfl; rw [Nat.add_zero, show ((Kd.slice 3 (Kd.int .i64))).sz = 1 from rfl, Nat.mul_one] at hv470_0; replace hv470_0 := Option.some.inj (hv470_0.symm.trans hx470_0)
                     injection hv470_0 with hva_ hvn_ hvc_
                     rw [hva_] at ge470_0; rw [hvc_] at ul470_0; have HL470_0 := A_ (show Kd.V (Kd.int .i64) 3 _ w.heap.size _ _ (rd_L2 l0_0 (rd x5_2 x8_3)) from Kd.V_mk ul470_0 ge470_0); clear hva_ hvn_ hvc_ ge470_0 ul470_0 hcc470 hce470; have HR470_0 := A_ hi470_0; have HC470_0 := A_ hl470_0; clear hi470_0 hl470_0; replace p470 := eq_true p470; replace q470 := eq_true q470
                     have p471 : 0 ≤ (x9_4 : Int) := od_ (by assumption)
                     have q471 : x9_4 < ((rd_L2 l0_0 (rd x5_2 x8_3)).length : Int) := od_ (by assumption)
                     obtain ⟨ad471, e471, hx471_0⟩ := Kd.at_int (by repeat (first | (with_reducible exact HR470_0.out) | (with_reducible refine Kd.C_alloc ?_ _) | (with_reducible refine Kd.C_drewN ?_ _) | (with_reducible refine Kd.C_drew ?_) | exact HR470_0.out)) x9_4 p471 q471
                     cases e471
                     replace p471 := eq_true p471; replace q471 := eq_true q471; refine start_ (n := 15) (S := fun w' => w'.cell? ⟨gb449, 0, none⟩ = some (.slice (some ad454) l0_0.length c0_0) ∧ w'.cell? (ad463.add (x8_3).toNat) = some (.int .i64 (rd x5_2 x8_3)) ∧ w'.cell? (ad454.add ((rd x5_2 x8_3)).toNat) = some (.slice (some ad471) (rd_L2 l0_0 (rd x5_2 x8_3)).length c470_0) ∧ w'.cell? (ad471.add (x9_4).toNat) = some (.int .i64 (rd (rd_L2 l0_0 (rd x5_2 x8_3)) x9_4))) (ds := [12, 13]) (mk_ 15 0) (by kernel_rfl) rfl rfl ⟨(blk_cell BK449.out 0).trans rfl, hx469_0, hx470_0, hx471_0⟩ (fun hHeld => ?_); refine with_tabW spec_IsGrowing.tab15 spec_IsGrowing.bits15 (fun HT_ HW_ => ?_)
                     generalize w51.drew = w53 at HO_5 HO_7 HO_450000 HL464_0 HL466_0 BK449 HR464_0 HR466_0 HB HL470_0 HR470_0 hx469_0 hx470_0 hx471_0 hHeld ⊢
                     refine pv_ 0 91 (mk_ 15 1) rfl rfl HT_.out (by kernel_rfl) (fun _ _ _ h => h) (by rfl) (by intro w'; go_simp; with_reducible rfl) (by simp only [Act.put, mD, mE, mF, i64_w, i32_w]; rfl) ?_; refine pv_ 1 92 (mk_ 15 3) rfl rfl HT_.out (by kernel_rfl) (fun _ _ _ h => h) (by rfl) (by intro w'; go_simp; with_reducible rfl) (by simp only [Act.put, mD, mE, mF, i64_w, i32_w]; rfl) ?_; refine pv_ 3 94 (mk_ 15 11) rfl rfl HT_.out (by kernel_rfl) (fun _ _ _ h => h) (by rfl) (by intro w'; go_simp; with_reducible rfl) (by simp only [Act.put, mD, mE, mF, i64_w, i32_w]; rfl) ?_; refine pv_ 4 95 (mk_ 15 27) rfl rfl HT_.out (by kernel_rfl) (fun _ _ _ h => h) (by rfl) (by intro w'; go_simp; with_reducible rfl) (by simp only [Act.put, mD, mE, mF, i64_w, i32_w]; rfl) ?_; refine pv_ 5 96 (mk_ 15 59) rfl rfl HT_.out (by kernel_rfl) (fun _ _ _ h => h) (by rfl) (by intro w'; go_simp; with_reducible rfl) (by simp only [Act.put, mD, mE, mF, i64_w, i32_w]; rfl) ?_; refine pv_ 9 100 (mk_ 15 571) rfl rfl HT_.out (by kernel_rfl) (fun _ _ _ h => h) (by rfl) (by intro w'; go_simp; with_reducible rfl) (by simp only [Act.put, mD, mE, mF, i64_w, i32_w]; rfl) ?_; refine take_ (i := 2) (N := some 93) (mk_ 15 575) rfl rfl (take_ofW HT_.out HW_.out (by kernel_rfl)) (fun _ _ _ h => h) (Or.inl ⟨by rfl, by rintro w' ⟨s0, s1, s2, s3⟩; go_simp; with_reducible rfl⟩) hHeld (by simp only [Act.put, mD, mE, mF, i64_w, i32_w]; rfl) ?_; refine take_ (i := 6) (N := some 97) (mk_ 15 639) rfl rfl (take_ofW HT_.out HW_.out (by kernel_rfl)) (fun _ _ _ h => h) (Or.inl ⟨by rfl, by rintro w' ⟨s0, s1, s2, s3⟩; go_simp; with_reducible rfl⟩) hHeld (by simp only [Act.put, mD, mE, mF, i64_w, i32_w]; rfl) ?_; refine pv_ 7 98 (mk_ 15 767) rfl rfl HT_.out (by kernel_rfl) (fun _ _ _ h => h) (by rfl) (by intro w'; go_simp; with_reducible rfl) (by simp only [Act.put, mD, mE, mF, i64_w, i32_w]; rfl) ?_; refine take_ (i := 8) (N := some 99) (mk_ 15 1023) rfl rfl (take_ofW HT_.out HW_.out (by kernel_rfl)) (fun _ _ _ h => h) (Or.inl ⟨by rfl, by rintro w' ⟨s0, s1, s2, s3⟩; go_simp; with_reducible rfl⟩) hHeld (by simp only [Act.put, mD, mE, mF, i64_w, i32_w]; rfl) ?_; refine pv_ 10 101 (mk_ 15 2047) rfl rfl HT_.out (by kernel_rfl) (fun _ _ _ h => h) (by rfl) (by intro w'; go_simp; with_reducible rfl) (by simp only [Act.put, mD, mE, mF, i64_w, i32_w]; rfl) ?_; refine take_ (i := 11) (N := some 102) (mk_ 15 4095) rfl rfl (take_ofW HT_.out HW_.out (by kernel_rfl)) (fun _ _ _ h => h) (Or.inl ⟨by rfl, by rintro w' ⟨s0, s1, s2, s3⟩; go_simp; with_reducible rfl⟩) hHeld (by simp only [Act.put, mD, mE, mF, i64_w, i32_w]; rfl) ?_; refine last_ (i := 12) (N := some 103) (mk_ 15 8191) rfl rfl (one_of HT_.out (by kernel_rfl)) (by decide) (fun K hK => ?_); refine value_ (w1 := ?_) (v := ?_) (by rfl) rfl ?_ ?_; rotate_left 2
                     ·go_simp
                      constructor
                      ·rfl
                      rfl
                     refine hK.out _ _ ?_; clear hK K; refine norm_ (by show Act.put _ (some 103) _ = _; simp only [Act.put, mD, mE, mF, i64_w, i32_w]; rfl) ?_; refine last_ (i := 13) (N := some 104) (mk_ 15 16383) rfl rfl (one_of HT_.out (by kernel_rfl)) (by decide) (fun K hK => ?_); refine Kd.R_append_step (Kd.int .i64) (w0 := w) w.heap.size (by rfl) (.tmp 91) (.tmp 103) 24 3 (.int .i64 0) 8 rfl Try.underlying24 info3 rfl (by decide) (by omega) (.slice Ao52 x7_4.length co52) x7_4 (rd (rd_L2 l0_0 (rd x5_2 x8_3)) x9_4) [.int .i64 (rd (rd_L2 l0_0 (rd x5_2 x8_3)) x9_4)] (fun k_ => (w.heap.size ≤ k_)) (fun _ => False) rfl rfl ?aP (fun _ hk => hk.elim) ?aF ?aO ?aB ?aS ?aL ?_
                     (case aP => exact rfl)
                     (case aB => exact HB.out)
                     (case aF => exact (fun k_ hk => (Nat.le_trans (below_size HB.out) hk)))
                     (case aO => exact HO_7.out)
                     (case aS => exact (below_size HB.out))
                     (case aL => have := LMc49.out; omega)
                     intro v473 w54 ho hb hg hat; rw [← Ny472.out] at ho; have n0_ := A_ (Kd.V_afterv (ok := (fun k_ => (P0_0_ k_ ∨ w.heap.size ≤ k_) ∧ k_ ≠ gb449)) (by exact Kd.V_mono HO_5.out (fun _ hk => ⟨⟨hk.1, hk.2.2⟩, hk.2.1⟩)) hg hat); have n1_ := A_ (Kd.V_afterv (ok := (fun k_ => (P0_0_ k_ ∨ w.heap.size ≤ k_) ∧ k_ ≠ gb449)) (by exact Kd.V_mono HO_450000.out (fun _ hk => ⟨⟨hk.1, hk.2.2⟩, hk.2.1⟩)) hg hat); have n2_ := A_ (blk_grown (g := gb449) (o := .cells #[.slice (some ad454) l0_0.length c0_0] 62 (0, 0)) BK449.out hg (Kd.R_ne HO_7.out BK449.out (by decide))); have n3_ := A_ (Kd.V_afterv (ok := (fun k_ => (P0_0_ k_ ∨ w.heap.size ≤ k_) ∧ k_ ≠ gb449)) (by exact Kd.V_mono HL464_0.out (fun _ hk => ⟨⟨hk.1, hk.2.2⟩, hk.2.1⟩)) hg hat); have n4_ := A_ (Kd.V_afterv (ok := (fun k_ => (P0_0_ k_ ∨ w.heap.size ≤ k_) ∧ k_ ≠ gb449)) (by exact Kd.V_mono HL466_0.out (fun _ hk => ⟨⟨hk.1, hk.2.2⟩, hk.2.1⟩)) hg hat); have n5_ := A_ (Kd.V_afterv (ok := (fun k_ => (P0_0_ k_ ∨ w.heap.size ≤ k_) ∧ k_ ≠ gb449)) (by exact Kd.V_mono HL470_0.out (fun _ hk => ⟨⟨hk.1, hk.2.2⟩, hk.2.1⟩)) hg hat); have n6_ := A_ (hb); have n7_ := A_ (ho); clear HO_5 HO_450000 BK449 HL464_0 HL466_0 HL470_0 HB HO_7; have HO_5 := n0_; have HO_450000 := n1_; have BK449 := n2_; have HL464_0 := n3_; have HL466_0 := n4_; have HL470_0 := n5_; have HB := n6_; have HO474 := n7_; clear n0_ n1_ n2_ n3_ n4_ n5_ n6_ n7_ ho hb hg hat; refine hK.out _ _ ?_; clear hK K; refine norm_ (by show Act.put _ (some 104) _ = _; simp only [Act.put, mD, mE, mF, i64_w, i32_w]; rfl) ?_; refine pv_ 14 7 (mk_ 15 32767) rfl rfl HT_.out (by kernel_rfl) (fun _ _ _ h => h) (by rfl) (by intro w'; go_simp; with_reducible rfl) (by simp only [Act.put, mD, mE, mF, i64_w, i32_w]; rfl) ?_; refine done_ (done_of HT_.out (by kernel_rfl)) ?_
                     try go_wp2
                     go_roundg k4
                     case measure => have := HJ2.out; have := HK2.out; have := HK3.out; have := HK4.out; omega
                     case rel => exact ⟨(y472), (wrap64 (x9_4 + 1)), (by rfl), H', ⟨by have := HJ2.out; have := HK2.out; have := HK3.out; have := HK4.out; omega⟩, ⟨by exact Kd.V_mono HO_5.out (fun _ hk => ⟨hk.1.1, ⟨hk.2, hk.1.2⟩⟩)⟩, ⟨HO474.out⟩, ⟨by exact Kd.V_mono HO_450000.out (fun _ hk => ⟨hk.1.1, ⟨hk.2, hk.1.2⟩⟩)⟩, ⟨BK449.out⟩, ⟨HB.out⟩⟩
                    rw [if_neg c49] at H
                    cases H
                   rw [if_neg c43] at H
                   cases H
                  rw [if_neg c42] at H; have c42b0 := decide_eq_false c42; clear c42
                  have H' := A_ H
                  clear H
                  try go_wp2
                  have n0_ := A_ (Kd.V_drew HO_5.out); have n1_ := A_ (Kd.R_drew HO_7.out); have n2_ := A_ (Kd.V_drew HO_450000.out); have n3_ := A_ (blk_drew BK449.out); have n4_ := A_ (below_drew1 HB.out); clear HO_5 HO_7 HO_450000 BK449 HB; have HO_5 := n0_; have HO_7 := n1_; have HO_450000 := n2_; have BK449 := n3_; have HB := n4_; clear n0_ n1_ n2_ n3_ n4_
                  have p463 : 0 ≤ (x8_3 : Int) := od_ (by assumption)
                  have q463 : x8_3 < (x5_2.length : Int) := od_ (by assumption)
                  obtain ⟨ad463, e463, hx463_0⟩ := Kd.at_int (Kd.V_reads' HO_5.out).2.2 x8_3 p463 q463
                  cases e463
                  replace p463 := eq_true p463; replace q463 := eq_true q463
                  have p464 : 0 ≤ ((rd x5_2 x8_3) : Int) := od_ (by assumption)
                  have q464 : (rd x5_2 x8_3) < (l0_0.length : Int) := od_ (by assumption)
                  obtain ⟨ad464, A464_0, c464_0, e464, hx464_0, hl464_0, hi464_0⟩ := at_L2 (Kd.V_reads' HO_450000.out).2.2 (rd x5_2 x8_3) p464 q464; obtain rfl : ad454 = ad464 := (by injection e464); obtain ⟨ce464, hce464, hMe464, hcc464⟩ := Kd.V_get HO_450000.out [] (rd x5_2 x8_3) p464 (by exact q464); obtain ⟨ua464_0, uc464_0, rfl, ul464_0, ge464_0⟩ := Kd.FK_slice_open hMe464; have hv464_0 := hcc464 0 _ rfl; rw [Nat.add_zero, show ((Kd.slice 3 (Kd.int .i64))).sz = 1 from rfl, Nat.mul_one] at hv464_0; replace hv464_0 := Option.some.inj (hv464_0.symm.trans hx464_0)
                  injection hv464_0 with hva_ hvn_ hvc_
                  rw [hva_] at ge464_0; rw [hvc_] at ul464_0; have HL464_0 := A_ (show Kd.V (Kd.int .i64) 3 _ w.heap.size _ _ (rd_L2 l0_0 (rd x5_2 x8_3)) from Kd.V_mk ul464_0 ge464_0); clear hva_ hvn_ hvc_ ge464_0 ul464_0 hcc464 hce464; have HR464_0 := A_ hi464_0; have HC464_0 := A_ hl464_0; clear hi464_0 hl464_0; replace p464 := eq_true p464; replace q464 := eq_true q464; refine start_ (n := 11) (S := fun w' => w'.cell? ⟨gb449, 0, none⟩ = some (.slice (some ad454) l0_0.length c0_0) ∧ w'.cell? (ad463.add (x8_3).toNat) = some (.int .i64 (rd x5_2 x8_3)) ∧ w'.cell? (ad454.add ((rd x5_2 x8_3)).toNat) = some (.slice A464_0 (rd_L2 l0_0 (rd x5_2 x8_3)).length c464_0)) (ds := []) (mk_ 11 0) (by kernel_rfl) rfl rfl ⟨(blk_cell BK449.out 0).trans rfl, hx463_0, hx464_0⟩ (fun hHeld => ?_); refine with_tabW spec_IsGrowing.tab12 spec_IsGrowing.bits12 (fun HT_ HW_ => ?_)
                  generalize wr.drew = w55 at HO_5 HO_7 HO_450000 BK449 HB HL464_0 HR464_0 hx463_0 hx464_0 hHeld ⊢
                  refine pv_ 0 64 (mk_ 11 1) rfl rfl HT_.out (by kernel_rfl) (fun _ _ _ h => h) (by rfl) (by intro w'; go_simp; with_reducible rfl) (by simp only [Act.put, mD, mE, mF, i64_w, i32_w]; rfl) ?_; refine pv_ 1 65 (mk_ 11 3) rfl rfl HT_.out (by kernel_rfl) (fun _ _ _ h => h) (by rfl) (by intro w'; go_simp; with_reducible rfl) (by simp only [Act.put, mD, mE, mF, i64_w, i32_w]; rfl) ?_; refine pv_ 3 67 (mk_ 11 11) rfl rfl HT_.out (by kernel_rfl) (fun _ _ _ h => h) (by rfl) (by intro w'; go_simp; with_reducible rfl) (by simp only [Act.put, mD, mE, mF, i64_w, i32_w]; rfl) ?_; refine pv_ 4 68 (mk_ 11 27) rfl rfl HT_.out (by kernel_rfl) (fun _ _ _ h => h) (by rfl) (by intro w'; go_simp; with_reducible rfl) (by simp only [Act.put, mD, mE, mF, i64_w, i32_w]; rfl) ?_; refine pv_ 5 69 (mk_ 11 59) rfl rfl HT_.out (by kernel_rfl) (fun _ _ _ h => h) (by rfl) (by intro w'; go_simp; with_reducible rfl) (by simp only [Act.put, mD, mE, mF, i64_w, i32_w]; rfl) ?_; refine take_ (i := 2) (N := some 66) (mk_ 11 63) rfl rfl (take_ofW HT_.out HW_.out (by kernel_rfl)) (fun _ _ _ h => h) (Or.inl ⟨by rfl, by rintro w' ⟨s0, s1, s2⟩; go_simp; with_reducible rfl⟩) hHeld (by simp only [Act.put, mD, mE, mF, i64_w, i32_w]; rfl) ?_; refine take_ (i := 6) (N := some 70) (mk_ 11 127) rfl rfl (take_ofW HT_.out HW_.out (by kernel_rfl)) (fun _ _ _ h => h) (Or.inl ⟨by rfl, by rintro w' ⟨s0, s1, s2⟩; go_simp; with_reducible rfl⟩) hHeld (by simp only [Act.put, mD, mE, mF, i64_w, i32_w]; rfl) ?_; refine pv_ 7 71 (mk_ 11 255) rfl rfl HT_.out (by kernel_rfl) (fun _ _ _ h => h) (by rfl) (by intro w'; go_simp; with_reducible rfl) (by simp only [Act.put, mD, mE, mF, i64_w, i32_w]; rfl) ?_; refine take_ (i := 8) (N := some 72) (mk_ 11 511) rfl rfl (take_ofW HT_.out HW_.out (by kernel_rfl)) (fun _ _ _ h => h) (Or.inl ⟨by rfl, by rintro w' ⟨s0, s1, s2⟩; go_simp; with_reducible rfl⟩) hHeld (by simp only [Act.put, mD, mE, mF, i64_w, i32_w]; rfl) ?_; refine pv_ 9 73 (mk_ 11 1023) rfl rfl HT_.out (by kernel_rfl) (fun _ _ _ h => h) (by rfl) (by intro w'; go_simp; with_reducible rfl) (by simp only [Act.put, mD, mE, mF, i64_w, i32_w]; rfl) ?_; refine pv_ 10 74 (mk_ 11 2047) rfl rfl HT_.out (by kernel_rfl) (fun _ _ _ h => h) (by rfl) (by intro w'; go_simp; with_reducible rfl) (by simp only [Act.put, mD, mE, mF, i64_w, i32_w]; rfl) ?_; refine done_ (done_of HT_.out (by kernel_rfl)) ?_
                  try go_wp2
                  go_roundg k4
                  case measure => have := HJ2.out; have := HK2.out; have := HK3.out; have := HK4.out; omega
                  case rel => exact ⟨(x7_4), (wrap64 (x8_3 + 1)), (by rfl), H', ⟨by have := HJ2.out; have := HK2.out; have := HK3.out; have := HK4.out; omega⟩, ⟨HO_5.out⟩, ⟨HO_7.out⟩, ⟨HO_450000.out⟩, ⟨BK449.out⟩, ⟨HB.out⟩⟩
                 rw [if_neg c41] at H
                 cases H
                rw [if_neg c40] at H
                cases H
               rw [if_neg c39] at H
               cases H
              rw [if_neg c38] at H
              cases H
           rw [if_neg c36] at H; have c36b0 := decide_eq_false c36; clear c36
           have H' := A_ H
           clear H; obtain ⟨Ao56, co56, eo56⟩ := Kd.V_slice HO_5.out; subst eo56
           go_wp2
           go_roundg k3
           case measure => have := HJ2.out; have := HK2.out; have := HK3.out; omega
           case rel => exact ⟨(x7_3), (wrap64 (x6_2 + 1)), (by rfl), H', ⟨by have := HJ2.out; have := HK2.out; have := HK3.out; omega⟩, ⟨Kd.V_mono (Kd.R_V (by exact (Kd.R_types HO_7.out BK449.out (by decide)))) (fun k_ hk => by first | exact ⟨(.inr (hk.1)), hk.2⟩ | exact (.inr (hk)))⟩, ⟨by exact Kd.V_mono HO_450000.out (fun _ hk => ⟨hk.1, hk.2.2⟩)⟩, ⟨BK449.out⟩, ⟨HB.out⟩⟩
        rw [if_neg c32] at H; have c32b0 := decide_eq_false c32; clear c32; obtain rfl := Option.some.inj H; have hcz57_0 := bz0 BK449.out; have hfz57_0 := blk_frozen BK449.out 0; obtain ⟨Ao58, co58, eo58⟩ := Kd.V_slice HO_5.out; subst eo58
        go_wp2
        go_ret
        exact ⟨by rfl, HB.out⟩
     rw [if_neg c29] at H
     cases H
    rw [if_neg c28] at H
    cases H
   rw [if_neg c27] at H
   cases H

end Go.Proofs.Ytnhpbmagbajliaa.PFnBorders

