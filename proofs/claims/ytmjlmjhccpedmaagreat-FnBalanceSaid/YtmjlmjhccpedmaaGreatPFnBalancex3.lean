/- Walks of the functions that the law reaches. -/
import Derived.Test.YtmjlmjhccpedmaaGreatPFnBalancex2
import Derived.Test.YtmjlmjhccpedmaaGreatPFnBalancex1
namespace Go.Proofs.YtmjlmjhccpedmaaGreat.PFnBalance
open Go.RowKit Go.Proofs.YtmjlmjhccpedmaaGreatW.PrintWords Go.Proofs.YtmjlmjhccpedmaaGreatW.PrintLast Go.Proofs.YtmjlmjhccpedmaaGreatW.PrintMore
attribute [local go_sem] max2_int min2_int max_two min_two max_three min_three max_four min_four
set_option linter.unusedVariables false
set_option maxHeartbeats 8000000
set_option maxRecDepth 100000
set_option linter.unusedSimpArgs false

mutual
def spec_IsGrowing.j0 : Nat → Int → Bool → List (List Int) → Option (Bool)
 | 0, _, _, _ => none
 | k + 1, x1, x43, x476000 => if x43 = true then (some false) else (if 0 ≤ x1 then (if x1 < (x476000.length : Int) then (if 1 ≤ ((rd_L2 x476000 x1).length : Int) then (spec_IsGrowing.l0 k ((rd_L2 x476000 x1).drop 1) 0 x476000) else (none)) else (none)) else (none))
def spec_IsGrowing.l0 : Nat → List Int → Int → List (List Int) → Option (Bool)
 | 0, _, _, _ => none
 | k + 1, x5, x6, x476000 => if x6 ≤ (x476000.length : Int) then (spec_IsGrowing.l1 k x5 x6 (([] : List Int)) 0 x476000) else (some (decide ((x5.length : Int) > 0)))
def spec_IsGrowing.l1 : Nat → List Int → Int → List Int → Int → List (List Int) → Option (Bool)
 | 0, _, _, _, _, _ => none
 | k + 1, x5, x6, x7, x8, x476000 => if x8 < (x5.length : Int) then (spec_IsGrowing.l2 k x5 x6 x7 x8 0 x476000) else (spec_IsGrowing.l0 k x7 (wrap64 (x6 + 1)) x476000)
def spec_IsGrowing.l2 : Nat → List Int → Int → List Int → Int → Int → List (List Int) → Option (Bool)
 | 0, _, _, _, _, _, _ => none
 | k + 1, x5, x6, x7, x8, x9, x476000 => if 0 ≤ x8 then (if x8 < (x5.length : Int) then (if 0 ≤ (rd x5 x8) then (if (rd x5 x8) < (x476000.length : Int) then (if x9 < ((rd_L2 x476000 (rd x5 x8)).length : Int) then (if 0 ≤ x9 then ((spec_l4Has.f k x7 (rd (rd_L2 x476000 (rd x5 x8)) x9)).bind fun t494 => (if t494 = true then (spec_IsGrowing.l2 k x5 x6 x7 x8 (wrap64 (x9 + 1)) x476000) else (if x7.length < 17592186044416 then (spec_IsGrowing.l2 k x5 x6 (x7 ++ [rd (rd_L2 x476000 (rd x5 x8)) x9]) x8 (wrap64 (x9 + 1)) x476000) else (none)))) else (none)) else (spec_IsGrowing.l1 k x5 x6 x7 (wrap64 (x8 + 1)) x476000)) else (none)) else (none)) else (none)) else (none)
end
def spec_IsGrowing.f (k : Nat) (l0_0 : List (List Int)) (a1 : Int) : Option (Bool) := (spec_IsMorphism.f k l0_0).bind fun t476 => (if t476 = true then (if a1 < 0 then (spec_IsGrowing.j0 k a1 true l0_0) else (if a1 ≥ (l0_0.length : Int) then (spec_IsGrowing.j0 k a1 true l0_0) else (if 0 ≤ a1 then (if a1 < (l0_0.length : Int) then (if ((rd_L2 l0_0 a1).length : Int) < 2 then (spec_IsGrowing.j0 k a1 true l0_0) else (if 0 < ((rd_L2 l0_0 a1).length : Int) then (spec_IsGrowing.j0 k a1 ((rd (rd_L2 l0_0 a1) 0) != a1) l0_0) else (none))) else (none)) else (none)))) else (spec_IsGrowing.j0 k a1 true l0_0))
def spec_IsGrowing.T12 : Bool × List (List Nat × List Nat) := (true, [([], []), ([], []), ([1], [1]), ([], []), ([], []), ([3, 4], [3, 4]), ([5], [5]), ([2, 6], [2, 6]), ([7], [7]), ([8], [8]), ([0, 9], [0, 9])])
def spec_IsGrowing.B12 : List Nat := [0, 0, 2, 0, 0, 24, 56, 126, 254, 510, 1023]
theorem spec_IsGrowing.tab12 : rtab .any (opsOf Tryz.f92 12) = spec_IsGrowing.T12 := by kernel_rfl
theorem spec_IsGrowing.bits12 : waitsOk spec_IsGrowing.T12.2 spec_IsGrowing.B12 = true := by kernel_rfl
def spec_IsGrowing.T14 : Bool × List (List Nat × List Nat) := (true, [([], []), ([], []), ([1], [1]), ([], []), ([], []), ([3, 4], [3, 4]), ([5], [5]), ([2, 6], [2, 6]), ([7], [7]), ([], []), ([8, 9], [8, 9]), ([10], [10]), ([0, 11], [0, 11]), ([12], [12])])
def spec_IsGrowing.B14 : List Nat := [0, 0, 2, 0, 0, 24, 56, 126, 254, 0, 1022, 2046, 4095, 8191]
theorem spec_IsGrowing.tab14 : rtab .any (opsOf Tryz.f92 14) = spec_IsGrowing.T14 := by kernel_rfl
theorem spec_IsGrowing.bits14 : waitsOk spec_IsGrowing.T14.2 spec_IsGrowing.B14 = true := by kernel_rfl
def spec_IsGrowing.T15 : Bool × List (List Nat × List Nat) := (true, [([], []), ([], []), ([1], [1]), ([], []), ([], []), ([3, 4], [3, 4]), ([5], [5]), ([2, 6], [2, 6]), ([7], [7]), ([], []), ([8, 9], [8, 9]), ([10], [10]), ([11], [11]), ([0, 12], [0, 12]), ([13, 13, 0, 1, 2, 3, 4, 5, 6, 7, 8, 9, 10, 11, 12, 13], [0, 13])])
def spec_IsGrowing.B15 : List Nat := [0, 0, 2, 0, 0, 24, 56, 126, 254, 0, 1022, 2046, 4094, 8191, 16383]
theorem spec_IsGrowing.tab15 : rtab .any (opsOf Tryz.f92 15) = spec_IsGrowing.T15 := by kernel_rfl
theorem spec_IsGrowing.bits15 : waitsOk spec_IsGrowing.T15.2 spec_IsGrowing.B15 = true := by kernel_rfl
theorem spec_IsGrowing.calls (k : Nat) (P0_0_ : Nat → Prop) (A0_0 : Option Addr) (c0_0 : Nat) (l0_0 : List (List Int)) (a1 : Int) (r : Bool) (w : World) (hs0_0 : Kd.V (Kd.slice 3 (Kd.int .i64)) 24 w w.heap.size (fun k_ => P0_0_ k_) (.slice A0_0 l0_0.length c0_0) l0_0) (h : spec_IsGrowing.f k l0_0 a1 = some r) :
  Calls Tryz.prog 92 #[.agg #[.slice A0_0 l0_0.length c0_0], .int .i64 a1] w fun e w' => e = .returned (.bool r) ∧ Below w.heap.size w w' := by
 have HO0_0 := A_ (show Kd.V (Kd.slice 3 (Kd.int .i64)) 24 w w.heap.size (fun k_ => (P0_0_ k_ ∨ w.heap.size ≤ k_)) (.slice A0_0 l0_0.length c0_0) l0_0 from Kd.V_mono hs0_0 (fun k_ hk => .inl hk)); have HB := A_ (Below.refl w.heap.size w); unfold spec_IsGrowing.f at h; have H := h; clear h; have HC3 := A_ H; clear H; go_enter Tryz.func92, Tryz.ntmps92
 go_upto_region 1 with (first | ((with_reducible refine gate_dst (N := 2) rfl ?_); (try (refine gate_guard (by rfl) ?_; dsimp only)); refine box_event ?hg (N := 2) ?hd (cs := #[.slice A0_0 l0_0.length c0_0]) (t := 80) ?hr ?_; (case hd | hg => rfl); (case hr => go_simp; done); intro gb475 hg w4 hbox hb; replace HO0_0 := A_ (Kd.V_below (Kd.V_elderB HO0_0.out gb475 (Nat.le_of_eq hg.symm)) hb); have BK475 := A_ (hbox); replace HB := bs_ HB hb; clear hb hbox hg))
 (try simp only [Act.put, mD, mE, mF])
 go_cut [43] (fun v43 wc => ∃ (kq : Nat) (x43_2 : Bool), v43 = .bool x43_2 ∧ Aside0 (spec_IsGrowing.j0 kq a1 x43_2 l0_0 = some r) ∧ Aside0 (kq ≤ k) ∧ Aside0 (Kd.V (Kd.slice 3 (Kd.int .i64)) 24 wc w.heap.size (fun k_ => (P0_0_ k_ ∨ w.heap.size ≤ k_) ∧ k_ ≠ gb475) (.slice A0_0 l0_0.length c0_0) l0_0) ∧ Aside0 (wc.heap[gb475]? = some (.cells #[(.slice A0_0 l0_0.length c0_0)] 80 (0, 0))) ∧ Aside0 (Below w.heap.size w wc))
 case first =>
  have H := HC3.out; clear HC3; replace H := bA_ H; obtain ⟨t476, A5, H⟩ := H
  by_cases c6 : t476 = true
  ·subst c6; rw [if_pos rfl] at H
   by_cases c7 : a1 < 0
   ·rw [if_pos c7] at H; have c7b0 := decide_eq_true c7; clear c7
    (skip)
    have H' := A_ H
    clear H; have hcz8_0 := bz0 BK475.out
    go_wp2_with (first | ((with_reducible refine gc_ 101 rfl ?_); refine cL_ E101 11 rfl rfl rfl (spec_IsMorphism.calls k _ _ l0_0 true _ ((Kd.V_reads' HO0_0.out).2.2) ((Kd.V_reads' HO0_0.out).2.1) A5.out) (by simp only [mA, mB, mC]; rfl) ?_; rintro e w9 ⟨rfl, hb⟩; refine ⟨_, rfl, ?_⟩; replace HO0_0 := A_ (Kd.V_below HO0_0.out hb); replace BK475 := bb_ BK475 hb; replace HB := bs_ HB hb; clear hb; (try clear hi)))
    go_meet
    case rel => exact ⟨_, (true), (by rfl), H', ⟨by omega⟩, ⟨HO0_0.out⟩, ⟨BK475.out⟩, ⟨HB.out⟩⟩
   rw [if_neg c7] at H; have c7b0 := decide_eq_false c7; clear c7
   (skip)
   by_cases c10 : a1 ≥ (l0_0.length : Int)
   ·rw [if_pos c10] at H
    have c10b0 : decide ((l0_0.length : Int) ≤ a1) = true := decide_eq_true c10
    clear c10
    have H' := A_ H
    clear H; have hcz11_0 := bz0 BK475.out
    go_wp2_with (first | ((with_reducible refine gc_ 101 rfl ?_); refine cL_ E101 11 rfl rfl rfl (spec_IsMorphism.calls k _ _ l0_0 true _ ((Kd.V_reads' HO0_0.out).2.2) ((Kd.V_reads' HO0_0.out).2.1) A5.out) (by simp only [mA, mB, mC]; rfl) ?_; rintro e w12 ⟨rfl, hb⟩; refine ⟨_, rfl, ?_⟩; replace HO0_0 := A_ (Kd.V_below HO0_0.out hb); replace BK475 := bb_ BK475 hb; replace HB := bs_ HB hb; clear hb; have hcz13_0 := bz0 BK475.out))
    go_meet
    case rel => exact ⟨_, (true), (by rfl), H', ⟨by omega⟩, ⟨HO0_0.out⟩, ⟨BK475.out⟩, ⟨HB.out⟩⟩
   rw [if_neg c10] at H
   have c10b0 : decide ((l0_0.length : Int) ≤ a1) = false := decide_eq_false c10
   clear c10
   by_cases c14 : 0 ≤ a1
   ·rw [if_pos c14] at H; have c14b0 := decide_eq_true c14; clear c14
    by_cases c15 : a1 < (l0_0.length : Int)
    ·rw [if_pos c15] at H; have c15b0 := decide_eq_true c15; clear c15
     by_cases c16 : ((rd_L2 l0_0 a1).length : Int) < 2
     ·rw [if_pos c16] at H; have c16b0 := decide_eq_true c16
      clear c16
      have H' := A_ H
      clear H; have hcz17_0 := bz0 BK475.out
      go_wp2_with (first | ((with_reducible refine gc_ 101 rfl ?_); refine cL_ E101 11 rfl rfl rfl (spec_IsMorphism.calls k _ _ l0_0 true _ ((Kd.V_reads' HO0_0.out).2.2) ((Kd.V_reads' HO0_0.out).2.1) A5.out) (by simp only [mA, mB, mC]; rfl) ?_; rintro e w18 ⟨rfl, hb⟩; refine ⟨_, rfl, ?_⟩; replace HO0_0 := A_ (Kd.V_below HO0_0.out hb); replace BK475 := bb_ BK475 hb; replace HB := bs_ HB hb; clear hb; have hcz19_0 := bz0 BK475.out; have p477 : 0 ≤ (a1 : Int) := od_ (by assumption); have q477 : a1 < (l0_0.length : Int) := od_ (by assumption); obtain ⟨ad477, A477_0, c477_0, e477, hx477_0, hl477_0, hi477_0⟩ := at_L2 (Kd.V_reads' HO0_0.out).2.2 a1 p477 q477; cases e477; obtain ⟨ce477, hce477, hMe477, hcc477⟩ := Kd.V_get HO0_0.out [] a1 p477 (by exact q477); obtain ⟨ua477_0, uc477_0, rfl, ul477_0, ge477_0⟩ := Kd.FK_slice_open hMe477; have hv477_0 := hcc477 0 _ rfl; rw [Nat.add_zero, show ((Kd.slice 3 (Kd.int .i64))).sz = 1 from rfl, Nat.mul_one] at hv477_0; replace hv477_0 := Option.some.inj (hv477_0.symm.trans hx477_0); injection hv477_0 with hva_ hvn_ hvc_; rw [hva_] at ge477_0; rw [hvc_] at ul477_0; clear hva_ hvn_ hvc_ ge477_0 ul477_0; clear hcc477 hce477; clear hi477_0 hl477_0; replace p477 := eq_true p477; replace q477 := eq_true q477))
      go_meet
      case rel => exact ⟨_, (true), (by rfl), H', ⟨by omega⟩, ⟨HO0_0.out⟩, ⟨BK475.out⟩, ⟨HB.out⟩⟩
     rw [if_neg c16] at H; have c16b0 := decide_eq_false c16
     have c16b1 : decide ((rd_L2 l0_0 a1).length < 2) = false := decide_eq_false (by omega)
     clear c16
     by_cases c20 : 0 < ((rd_L2 l0_0 a1).length : Int)
     ·rw [if_pos c20] at H; have c20b0 := decide_eq_true c20
      clear c20
      have H' := A_ H
      clear H; have hcz21_0 := bz0 BK475.out
      go_wp2_with (first | ((with_reducible refine gc_ 101 rfl ?_); refine cL_ E101 11 rfl rfl rfl (spec_IsMorphism.calls k _ _ l0_0 true _ ((Kd.V_reads' HO0_0.out).2.2) ((Kd.V_reads' HO0_0.out).2.1) A5.out) (by simp only [mA, mB, mC]; rfl) ?_; rintro e w22 ⟨rfl, hb⟩; refine ⟨_, rfl, ?_⟩; replace HO0_0 := A_ (Kd.V_below HO0_0.out hb); replace BK475 := bb_ BK475 hb; replace HB := bs_ HB hb; clear hb; have hcz23_0 := bz0 BK475.out; have p477 : 0 ≤ (a1 : Int) := od_ (by assumption); have q477 : a1 < (l0_0.length : Int) := od_ (by assumption); obtain ⟨ad477, A477_0, c477_0, e477, hx477_0, hl477_0, hi477_0⟩ := at_L2 (Kd.V_reads' HO0_0.out).2.2 a1 p477 q477; cases e477; obtain ⟨ce477, hce477, hMe477, hcc477⟩ := Kd.V_get HO0_0.out [] a1 p477 (by exact q477); obtain ⟨ua477_0, uc477_0, rfl, ul477_0, ge477_0⟩ := Kd.FK_slice_open hMe477; have hv477_0 := hcc477 0 _ rfl; rw [Nat.add_zero, show ((Kd.slice 3 (Kd.int .i64))).sz = 1 from rfl, Nat.mul_one] at hv477_0; replace hv477_0 := Option.some.inj (hv477_0.symm.trans hx477_0); injection hv477_0 with hva_ hvn_ hvc_; rw [hva_] at ge477_0; rw [hvc_] at ul477_0; have HL477_0 := A_ (show Kd.V (Kd.int .i64) 3 _ w.heap.size _ _ (rd_L2 l0_0 a1) from Kd.V_mk ul477_0 ge477_0); clear hva_ hvn_ hvc_ ge477_0 ul477_0; clear hcc477 hce477; have HR477_0 := A_ hi477_0; clear hi477_0 hl477_0; replace p477 := eq_true p477; replace q477 := eq_true q477; have p478 : 0 ≤ (a1 : Int) := od_ (by assumption); have q478 : a1 < (l0_0.length : Int) := od_ (by assumption); obtain ⟨ad478, A478_0, c478_0, e478, hx478_0, hl478_0, hi478_0⟩ := at_L2 (Kd.V_reads' HO0_0.out).2.2 a1 p478 q478; obtain rfl : ad477 = ad478 := (by injection e478); obtain ⟨ce478, hce478, hMe478, hcc478⟩ := Kd.V_get HO0_0.out [] a1 p478 (by exact q478); obtain ⟨ua478_0, uc478_0, rfl, ul478_0, ge478_0⟩ := Kd.FK_slice_open hMe478; have hv478_0 := hcc478 0 _ rfl; rw [Nat.add_zero, show ((Kd.slice 3 (Kd.int .i64))).sz = 1 from rfl, Nat.mul_one] at hv478_0; replace hv478_0 := Option.some.inj (hv478_0.symm.trans hx478_0); injection hv478_0 with hva_ hvn_ hvc_; rw [hva_] at ge478_0; rw [hvc_] at ul478_0; have HL478_0 := A_ (show Kd.V (Kd.int .i64) 3 _ w.heap.size _ _ (rd_L2 l0_0 a1) from Kd.V_mk ul478_0 ge478_0); clear hva_ hvn_ hvc_ ge478_0 ul478_0; clear hcc478 hce478; have HR478_0 := A_ hi478_0; have HC478_0 := A_ hl478_0; clear hi478_0 hl478_0; replace p478 := eq_true p478; replace q478 := eq_true q478; have ea_ := Option.some.inj (hx477_0.symm.trans hx478_0); injection ea_ with ea_ en_ ec_; subst ea_; subst ec_; clear en_; have p479 : 0 ≤ (0 : Int) := (by omega); have q479 : 0 < ((rd_L2 l0_0 a1).length : Int) := od_ (by assumption); obtain ⟨ad479, e479, hx479_0⟩ := Kd.at_int (by repeat (first | (with_reducible exact HR478_0.out) | (with_reducible refine Kd.C_alloc ?_ _) | (with_reducible refine Kd.C_drewN ?_ _) | (with_reducible refine Kd.C_drew ?_) | exact HR478_0.out)) 0 p479 q479; cases e479; have qi479 : (0 < (rd_L2 l0_0 a1).length) = True := eq_true (by omega); (try rw [show ((0 : Int)).toNat = 0 from rfl] at hx479_0); (try rw [Addr.add_zero'] at hx479_0); replace p479 := eq_true p479; replace q479 := eq_true q479))
      go_meet
      case rel => exact ⟨_, (((rd (rd_L2 l0_0 a1) 0) != a1)), (by rfl), H', ⟨by omega⟩, ⟨HO0_0.out⟩, ⟨BK475.out⟩, ⟨HB.out⟩⟩
     rw [if_neg c20] at H
     cases H
    rw [if_neg c15] at H
    cases H
   rw [if_neg c14] at H
   cases H
  replace c6 := Bool.eq_false_iff.mpr c6; subst c6; rw [if_neg nf_] at H
  have H' := A_ H
  clear H; have hcz24_0 := bz0 BK475.out
  go_wp2_with (first | ((with_reducible refine gc_ 101 rfl ?_); refine cL_ E101 11 rfl rfl rfl (spec_IsMorphism.calls k _ _ l0_0 false _ ((Kd.V_reads' HO0_0.out).2.2) ((Kd.V_reads' HO0_0.out).2.1) A5.out) (by simp only [mA, mB, mC]; rfl) ?_; rintro e w25 ⟨rfl, hb⟩; refine ⟨_, rfl, ?_⟩; replace HO0_0 := A_ (Kd.V_below HO0_0.out hb); replace BK475 := bb_ BK475 hb; replace HB := bs_ HB hb; clear hb; (try clear hi)))
  go_meet
  case rel => exact ⟨_, (true), (by rfl), H', ⟨by omega⟩, ⟨HO0_0.out⟩, ⟨BK475.out⟩, ⟨HB.out⟩⟩
 case rest =>
  clear HC3; obtain ⟨kq, x43_2, rfl, HA, HJ2, HO_476000, BK475, HB⟩ := hcut
  cases kq with
  | zero => exact absurd HA.out (by simp [spec_IsGrowing.j0])
  | succ kj2 =>
   have H := HA.out; clear HA; simp only [spec_IsGrowing.j0] at H
   by_cases c26 : x43_2 = true
   ·subst c26; rw [if_pos rfl] at H; obtain rfl := Option.some.inj H
    go_wp2
    go_ret
    exact ⟨by rfl, HB.out⟩
   replace c26 := Bool.eq_false_iff.mpr c26; subst c26; rw [if_neg nf_] at H
   by_cases c27 : 0 ≤ a1
   ·rw [if_pos c27] at H; have c27b0 := decide_eq_true c27; clear c27
    by_cases c28 : a1 < (l0_0.length : Int)
    ·rw [if_pos c28] at H; have c28b0 := decide_eq_true c28; clear c28
     by_cases c29 : 1 ≤ ((rd_L2 l0_0 a1).length : Int)
     ·rw [if_pos c29] at H; have c29b1 := decide_eq_true c29; clear c29; obtain ⟨y481, hy481⟩ := ex_ (((rd_L2 l0_0 a1).drop 1) : List Int); replace H : (spec_IsGrowing.l0 kj2 y481 0 l0_0) = some r := by (rw [hy481]; with_reducible exact H)
      have Ny481 := A_ hy481; clear hy481
      have H' := A_ H
      clear H; have hcz30_0 := bz0 BK475.out
      have p480 : 0 ≤ (a1 : Int) := od_ (by assumption)
      have q480 : a1 < (l0_0.length : Int) := od_ (by assumption)
      obtain ⟨ad480, A480_0, c480_0, e480, hx480_0, hl480_0, hi480_0⟩ := at_L2 (Kd.V_reads' HO_476000.out).2.2 a1 p480 q480
      cases e480
      obtain ⟨ce480, hce480, hMe480, hcc480⟩ := Kd.V_get HO_476000.out [] a1 p480 (by exact q480); obtain ⟨ua480_0, uc480_0, rfl, ul480_0, ge480_0⟩ := Kd.FK_slice_open hMe480; have hv480_0 := hcc480 0 _ rfl; rw [Nat.add_zero, show ((Kd.slice 3 (Kd.int .i64))).sz = 1 from rfl, Nat.mul_one] at hv480_0; replace hv480_0 := Option.some.inj (hv480_0.symm.trans hx480_0)
      injection hv480_0 with hva_ hvn_ hvc_
      rw [hva_] at ge480_0; rw [hvc_] at ul480_0; have HL480_0 := A_ (show Kd.V (Kd.int .i64) 3 _ w.heap.size _ _ (rd_L2 l0_0 a1) from Kd.V_mk ul480_0 ge480_0); clear hva_ hvn_ hvc_ ge480_0 ul480_0 hcc480 hce480; have HC480_0 := A_ hl480_0; clear hi480_0 hl480_0; replace p480 := eq_true p480; replace q480 := eq_true q480
      have q31 : (1 : Int) ≤ (((rd_L2 l0_0 a1).length : Int) : Int) := od_ (by assumption)
      obtain ⟨i031, hi031, _, hsz31, _⟩ := info_parts info3
      have hroom31 : (rd_L2 l0_0 a1).length ≤ c480_0 := HC480_0.out
      have hC31 : Kd.F (Kd.int .i64) _ _ A480_0 (rd_L2 l0_0 a1).length (rd_L2 l0_0 a1) := (Kd.V_at (base := w.heap.size) HL480_0.out).2.2
      have hcut31 := cut_from (P := Tryz.prog) 24 3 .i64 Tryz.underlying24 hi031 1 hsz31 A480_0 (rd_L2 l0_0 a1).length c480_0 1 (by omega) q31; have hr31 := Kd.F_cut (m := (1 : Int).toNat) (c := c480_0) hC31 (by omega) hroom31; obtain ⟨A31, hA31⟩ : ∃ A1, A1 = (if c480_0 = (1 : Int).toNat then A480_0 else (A480_0 : Option Addr).map (·.add ((1 : Int).toNat * 1))) := ⟨_, rfl⟩; obtain ⟨c31, hc31⟩ : ∃ c1, c1 = c480_0 - (1 : Int).toNat := ⟨_, rfl⟩
      have hy31 : y481.length = (rd_L2 l0_0 a1).length - (1 : Int).toNat := (by rw [Ny481.out, List.length_drop] <;> omega)
      rw [show (rd_L2 l0_0 a1).drop (1 : Int).toNat = y481 from Ny481.out.symm] at hr31; replace hr31 : Kd.F (Kd.int .i64) _ _ A31 y481.length y481 := (by rw [hA31]; exact hr31); rw [← hy31, ← hA31, ← hc31] at hcut31; have HO485 := A_ (show Kd.V (Kd.int .i64) 3 _ w.heap.size _ (.slice A31 y481.length c31) y481 from Kd.V_mk (by rw [hy31, hc31]; exact Nat.sub_le_sub_right hroom31 _) hr31); clear hr31 hC31 hroom31 hi031 hsz31 hc31; clear hy31 hA31; replace q31 := eq_true q31
      go_wp2
      go_loopg [5, 6] kj2 (fun kq v5 v6 w' => ∃ (x5_2 : List Int) (x6_2 : Int), v6 = .int .i64 x6_2 ∧ Aside0 (spec_IsGrowing.l0 kq x5_2 x6_2 l0_0 = some r) ∧ Aside0 (kq ≤ kj2) ∧ Aside0 (Kd.V (Kd.int .i64) 3 w' w.heap.size (fun k_ => (P0_0_ k_ ∨ w.heap.size ≤ k_) ∧ k_ ≠ gb475) v5 x5_2) ∧ Aside0 (Kd.V (Kd.slice 3 (Kd.int .i64)) 24 w' w.heap.size (fun k_ => (P0_0_ k_ ∨ w.heap.size ≤ k_) ∧ k_ ≠ gb475) (.slice (some ad480) l0_0.length c0_0) l0_0) ∧ Aside0 (w'.heap[gb475]? = some (.cells #[(.slice (some ad480) l0_0.length c0_0)] 80 (0, 0))) ∧ Aside0 (Below w.heap.size w w'))
      case atStart => exact ⟨(y481), (0), (by rfl), H', ⟨Nat.le_refl _⟩, ⟨HO485.out⟩, ⟨HO_476000.out⟩, ⟨BK475.out⟩, ⟨HB.out⟩⟩
      case round =>
       clear H'
       try skip
       try skip
       try skip
       try skip
       try skip
       try skip
       try skip
       try clear hx480_0
       try skip
       try skip
       obtain ⟨x5_2, x6_2, rfl, HA, HK2, HO_5, HO_476000, BK475, HB⟩ := hrel
       cases gk with
       | zero => exact absurd HA.out (by simp [spec_IsGrowing.l0])
       | succ k2 =>
        have H := HA.out; clear HA; simp only [spec_IsGrowing.l0] at H
        by_cases c32 : x6_2 ≤ (l0_0.length : Int)
        ·rw [if_pos c32] at H; have c32b0 := decide_eq_true c32; clear c32; obtain ⟨y486, hy486⟩ := ex_ ((([] : List Int)) : List Int); replace H : (spec_IsGrowing.l1 k2 x5_2 x6_2 y486 0 l0_0) = some r := by (rw [hy486]; with_reducible exact H)
         have Ny486 := A_ hy486; clear hy486
         have H' := A_ H
         clear H; have hcz33_0 := bz0 BK475.out
         go_wp2_with (first | ((with_reducible refine gate_dst (N := 57) rfl ?_); (try (refine gate_guard (by rfl) ?_; dsimp only)); refine Kd.R_lit (Kd.int .i64) _ 3 ?hg (N := 57) ?hd (xs := ([] : List Int)) (inner := []) (ok := fun _ => True) (okp := fun _ => True) ?hr ?hp (fun _ hk => hk) trivial (Below.refl _ _) (Nat.le_refl _) (by simp) ?_; (case hd | hg => rfl); (case hr => go_simp; done); (case hp => exact (Reps.none _ _)); rintro v487 w34 ho35 hb - -; (rw [← Ny486.out] at ho35); replace HO_5 := A_ (Kd.V_elder' HO_5.out (Kd.R_base ho35) hb); replace HO_476000 := A_ (Kd.V_elder' HO_476000.out (Kd.R_base ho35) hb); have HO488 := A_ (Kd.R_lower (Kd.R_newM (M := fun k_ => (w.heap.size ≤ k_)) ho35 (below_size HB.out) (fun k_ h_ => h_)) (below_size HB.out)); replace BK475 := bb_ BK475 hb; replace HB := bs_ HB hb; clear hb ho35))
         go_loopg [7, 8] k2 (fun kq v7 v8 w' => ∃ (x7_3 : List Int) (x8_3 : Int), v8 = .int .i64 x8_3 ∧ Aside0 (spec_IsGrowing.l1 kq x5_2 x6_2 x7_3 x8_3 l0_0 = some r) ∧ Aside0 (kq ≤ k2) ∧ Aside0 (Kd.V (Kd.int .i64) 3 w' w.heap.size (fun k_ => (P0_0_ k_ ∨ w.heap.size ≤ k_) ∧ some k_ ≠ (v7 : Value).ownBlock ∧ k_ ≠ gb475) u5 x5_2) ∧ Aside0 (Kd.R (Kd.int .i64) 3 w' w.heap.size (fun k_ => (w.heap.size ≤ k_)) v7 x7_3) ∧ Aside0 (Kd.V (Kd.slice 3 (Kd.int .i64)) 24 w' w.heap.size (fun k_ => (P0_0_ k_ ∨ w.heap.size ≤ k_) ∧ some k_ ≠ (v7 : Value).ownBlock ∧ k_ ≠ gb475) (.slice (some ad480) l0_0.length c0_0) l0_0) ∧ Aside0 (w'.heap[gb475]? = some (.cells #[(.slice (some ad480) l0_0.length c0_0)] 80 (0, 0))) ∧ Aside0 (Below w.heap.size w w'))
         case atStart => exact ⟨(y486), (0), (by rfl), H', ⟨Nat.le_refl _⟩, ⟨by exact Kd.V_mono HO_5.out (fun _ hk => ⟨hk.1.1, ⟨hk.2, hk.1.2⟩⟩)⟩, ⟨by exact Kd.R_mono HO488.out (fun _ hk => hk.1)⟩, ⟨by exact Kd.V_mono HO_476000.out (fun _ hk => ⟨hk.1.1, ⟨hk.2, hk.1.2⟩⟩)⟩, ⟨BK475.out⟩, ⟨HB.out⟩⟩
         case round =>
          clear H'
          try skip
          try skip
          try skip
          obtain ⟨x7_3, x8_3, rfl, HA, HK3, HO_5, HO_7, HO_476000, BK475, HB⟩ := hrel
          cases gk with
          | zero => exact absurd HA.out (by simp [spec_IsGrowing.l1])
          | succ k3 =>
           have H := HA.out; clear HA; simp only [spec_IsGrowing.l1] at H
           by_cases c36 : x8_3 < (x5_2.length : Int)
           ·rw [if_pos c36] at H; have c36b0 := decide_eq_true c36; clear c36
            have H' := A_ H
            clear H; obtain ⟨Ao37, co37, eo37⟩ := Kd.V_slice HO_5.out; subst eo37
            go_wp2
            go_loopg [7, 9] k3 (fun kq v7 v9 w' => ∃ (x7_4 : List Int) (x9_4 : Int), v9 = .int .i64 x9_4 ∧ Aside0 (spec_IsGrowing.l2 kq x5_2 x6_2 x7_4 x8_3 x9_4 l0_0 = some r) ∧ Aside0 (kq ≤ k3) ∧ Aside0 (Kd.V (Kd.int .i64) 3 w' w.heap.size (fun k_ => (P0_0_ k_ ∨ w.heap.size ≤ k_) ∧ some k_ ≠ (v7 : Value).ownBlock ∧ k_ ≠ gb475) (.slice Ao37 x5_2.length co37) x5_2) ∧ Aside0 (Kd.R (Kd.int .i64) 3 w' w.heap.size (fun k_ => (w.heap.size ≤ k_)) v7 x7_4) ∧ Aside0 (Kd.V (Kd.slice 3 (Kd.int .i64)) 24 w' w.heap.size (fun k_ => (P0_0_ k_ ∨ w.heap.size ≤ k_) ∧ some k_ ≠ (v7 : Value).ownBlock ∧ k_ ≠ gb475) (.slice (some ad480) l0_0.length c0_0) l0_0) ∧ Aside0 (w'.heap[gb475]? = some (.cells #[(.slice (some ad480) l0_0.length c0_0)] 80 (0, 0))) ∧ Aside0 (Below w.heap.size w w'))
            case atStart => exact ⟨(x7_3), (0), (by rfl), H', ⟨Nat.le_refl _⟩, ⟨HO_5.out⟩, ⟨HO_7.out⟩, ⟨HO_476000.out⟩, ⟨BK475.out⟩, ⟨HB.out⟩⟩
            case round =>
             clear H'
             try skip
             obtain ⟨x7_4, x9_4, rfl, HA, HK4, HO_5, HO_7, HO_476000, BK475, HB⟩ := hrel
             cases gk with
             | zero => exact absurd HA.out (by simp [spec_IsGrowing.l2])
             | succ k4 =>
              have H := HA.out; clear HA; simp only [spec_IsGrowing.l2] at H
              by_cases c38 : 0 ≤ x8_3
              ·rw [if_pos c38] at H; have c38b0 := decide_eq_true c38; clear c38
               by_cases c39 : x8_3 < (x5_2.length : Int)
               ·rw [if_pos c39] at H; have c39b0 := decide_eq_true c39; clear c39
                by_cases c40 : 0 ≤ (rd x5_2 x8_3)
                ·rw [if_pos c40] at H; have c40b0 := decide_eq_true c40; clear c40
                 by_cases c41 : (rd x5_2 x8_3) < (l0_0.length : Int)
                 ·rw [if_pos c41] at H; have c41b0 := decide_eq_true c41; clear c41
                  by_cases c42 : x9_4 < ((rd_L2 l0_0 (rd x5_2 x8_3)).length : Int)
                  ·rw [if_pos c42] at H; have c42b0 := decide_eq_true c42; clear c42
                   by_cases c43 : 0 ≤ x9_4
                   ·rw [if_pos c43] at H; have c43b0 := decide_eq_true c43; clear c43; replace H := bA_ H; obtain ⟨t494, A44, H⟩ := H
                    by_cases c45 : t494 = true
                    ·subst c45; rw [if_pos rfl] at H
                     have H' := A_ H
                     clear H
                     try go_wp2
                     have n0_ := A_ (Kd.V_drew HO_5.out); have n1_ := A_ (Kd.R_drew HO_7.out); have n2_ := A_ (Kd.V_drew HO_476000.out); have n3_ := A_ (blk_drew BK475.out); have n4_ := A_ (below_drew1 HB.out); clear HO_5 HO_7 HO_476000 BK475 HB; have HO_5 := n0_; have HO_7 := n1_; have HO_476000 := n2_; have BK475 := n3_; have HB := n4_; clear n0_ n1_ n2_ n3_ n4_
                     have p489 : 0 ≤ (x8_3 : Int) := od_ (by assumption)
                     have q489 : x8_3 < (x5_2.length : Int) := od_ (by assumption)
                     obtain ⟨ad489, e489, hx489_0⟩ := Kd.at_int (Kd.V_reads' HO_5.out).2.2 x8_3 p489 q489
                     cases e489
                     replace p489 := eq_true p489; replace q489 := eq_true q489
                     have p490 : 0 ≤ ((rd x5_2 x8_3) : Int) := od_ (by assumption)
                     have q490 : (rd x5_2 x8_3) < (l0_0.length : Int) := od_ (by assumption)
                     obtain ⟨ad490, A490_0, c490_0, e490, hx490_0, hl490_0, hi490_0⟩ := at_L2 (Kd.V_reads' HO_476000.out).2.2 (rd x5_2 x8_3) p490 q490; obtain rfl : ad480 = ad490 := (by injection e490); obtain ⟨ce490, hce490, hMe490, hcc490⟩ := Kd.V_get HO_476000.out [] (rd x5_2 x8_3) p490 (by exact q490); obtain ⟨ua490_0, uc490_0, rfl, ul490_0, ge490_0⟩ := Kd.FK_slice_open hMe490; have hv490_0 := hcc490 0 _ rfl; rw [Nat.add_zero, show ((Kd.slice 3 (Kd.int .i64))).sz = 1 from rfl, Nat.mul_one] at hv490_0; replace hv490_0 := Option.some.inj (hv490_0.symm.trans hx490_0)
                     injection hv490_0 with hva_ hvn_ hvc_
                     rw [hva_] at ge490_0; rw [hvc_] at ul490_0; have HL490_0 := A_ (show Kd.V (Kd.int .i64) 3 _ w.heap.size _ _ (rd_L2 l0_0 (rd x5_2 x8_3)) from Kd.V_mk ul490_0 ge490_0); clear hva_ hvn_ hvc_ ge490_0 ul490_0 hcc490 hce490; have HR490_0 := A_ hi490_0; clear hi490_0 hl490_0; replace p490 := eq_true p490; replace q490 := eq_true q490; refine start_ (n := 11) (S := fun w' => w'.cell? ⟨gb475, 0, none⟩ = some (.slice (some ad480) l0_0.length c0_0) ∧ w'.cell? (ad489.add (x8_3).toNat) = some (.int .i64 (rd x5_2 x8_3)) ∧ w'.cell? (ad480.add ((rd x5_2 x8_3)).toNat) = some (.slice A490_0 (rd_L2 l0_0 (rd x5_2 x8_3)).length c490_0)) (ds := []) (mk_ 11 0) (by kernel_rfl) rfl rfl ⟨(blk_cell BK475.out 0).trans rfl, hx489_0, hx490_0⟩ (fun hHeld => ?_); refine with_tabW spec_IsGrowing.tab12 spec_IsGrowing.bits12 (fun HT_ HW_ => ?_)
                     generalize wr.drew = w46 at HO_5 HO_7 HO_476000 BK475 HB HL490_0 HR490_0 hx489_0 hx490_0 hHeld ⊢
                     refine pv_ 0 64 (mk_ 11 1) rfl rfl HT_.out (by kernel_rfl) (fun _ _ _ h => h) (by rfl) (by intro w'; go_simp; with_reducible rfl) (by simp only [Act.put, mD, mE, mF, i64_w, i32_w]; rfl) ?_; refine pv_ 1 65 (mk_ 11 3) rfl rfl HT_.out (by kernel_rfl) (fun _ _ _ h => h) (by rfl) (by intro w'; go_simp; with_reducible rfl) (by simp only [Act.put, mD, mE, mF, i64_w, i32_w]; rfl) ?_; refine pv_ 3 67 (mk_ 11 11) rfl rfl HT_.out (by kernel_rfl) (fun _ _ _ h => h) (by rfl) (by intro w'; go_simp; with_reducible rfl) (by simp only [Act.put, mD, mE, mF, i64_w, i32_w]; rfl) ?_; refine pv_ 4 68 (mk_ 11 27) rfl rfl HT_.out (by kernel_rfl) (fun _ _ _ h => h) (by rfl) (by intro w'; go_simp; with_reducible rfl) (by simp only [Act.put, mD, mE, mF, i64_w, i32_w]; rfl) ?_; refine pv_ 5 69 (mk_ 11 59) rfl rfl HT_.out (by kernel_rfl) (fun _ _ _ h => h) (by rfl) (by intro w'; go_simp; with_reducible rfl) (by simp only [Act.put, mD, mE, mF, i64_w, i32_w]; rfl) ?_; refine take_ (i := 2) (N := some 66) (mk_ 11 63) rfl rfl (take_ofW HT_.out HW_.out (by kernel_rfl)) (fun _ _ _ h => h) (Or.inl ⟨by rfl, by rintro w' ⟨s0, s1, s2⟩; go_simp; with_reducible rfl⟩) hHeld (by simp only [Act.put, mD, mE, mF, i64_w, i32_w]; rfl) ?_; refine take_ (i := 6) (N := some 70) (mk_ 11 127) rfl rfl (take_ofW HT_.out HW_.out (by kernel_rfl)) (fun _ _ _ h => h) (Or.inl ⟨by rfl, by rintro w' ⟨s0, s1, s2⟩; go_simp; with_reducible rfl⟩) hHeld (by simp only [Act.put, mD, mE, mF, i64_w, i32_w]; rfl) ?_; refine pv_ 7 71 (mk_ 11 255) rfl rfl HT_.out (by kernel_rfl) (fun _ _ _ h => h) (by rfl) (by intro w'; go_simp; with_reducible rfl) (by simp only [Act.put, mD, mE, mF, i64_w, i32_w]; rfl) ?_; refine take_ (i := 8) (N := some 72) (mk_ 11 511) rfl rfl (take_ofW HT_.out HW_.out (by kernel_rfl)) (fun _ _ _ h => h) (Or.inl ⟨by rfl, by rintro w' ⟨s0, s1, s2⟩; go_simp; with_reducible rfl⟩) hHeld (by simp only [Act.put, mD, mE, mF, i64_w, i32_w]; rfl) ?_; refine pv_ 9 73 (mk_ 11 1023) rfl rfl HT_.out (by kernel_rfl) (fun _ _ _ h => h) (by rfl) (by intro w'; go_simp; with_reducible rfl) (by simp only [Act.put, mD, mE, mF, i64_w, i32_w]; rfl) ?_; refine pv_ 10 74 (mk_ 11 2047) rfl rfl HT_.out (by kernel_rfl) (fun _ _ _ h => h) (by rfl) (by intro w'; go_simp; with_reducible rfl) (by simp only [Act.put, mD, mE, mF, i64_w, i32_w]; rfl) ?_; refine done_ (done_of HT_.out (by kernel_rfl)) ?_
                     try go_wp2
                     have n0_ := A_ (Kd.V_drew HO_5.out); have n1_ := A_ (Kd.R_drew HO_7.out); have n2_ := A_ (Kd.V_drew HO_476000.out); have n3_ := A_ (Kd.V_drew HL490_0.out); have n4_ := A_ (blk_drew BK475.out); have n5_ := A_ (Kd.C_drew HR490_0.out); have n6_ := A_ (below_drew1 HB.out); clear HO_5 HO_7 HO_476000 HL490_0 BK475 HR490_0 HB; have HO_5 := n0_; have HO_7 := n1_; have HO_476000 := n2_; have HL490_0 := n3_; have BK475 := n4_; have HR490_0 := n5_; have HB := n6_; clear n0_ n1_ n2_ n3_ n4_ n5_ n6_
                     have p491 : 0 ≤ (x8_3 : Int) := od_ (by assumption)
                     have q491 : x8_3 < (x5_2.length : Int) := od_ (by assumption)
                     obtain ⟨ad491, e491, hx491_0⟩ := Kd.at_int (Kd.V_reads' HO_5.out).2.2 x8_3 p491 q491; obtain rfl : ad489 = ad491 := (by injection e491); replace p491 := eq_true p491; replace q491 := eq_true q491
                     have p492 : 0 ≤ ((rd x5_2 x8_3) : Int) := od_ (by assumption)
                     have q492 : (rd x5_2 x8_3) < (l0_0.length : Int) := od_ (by assumption)
                     obtain ⟨ad492, A492_0, c492_0, e492, hx492_0, hl492_0, hi492_0⟩ := at_L2 (Kd.V_reads' HO_476000.out).2.2 (rd x5_2 x8_3) p492 q492; obtain rfl : ad480 = ad492 := (by injection e492); obtain ⟨ce492, hce492, hMe492, hcc492⟩ := Kd.V_get HO_476000.out [] (rd x5_2 x8_3) p492 (by exact q492); obtain ⟨ua492_0, uc492_0, rfl, ul492_0, ge492_0⟩ := Kd.FK_slice_open hMe492; have hv492_0 := hcc492 0 _ rfl; rw [Nat.add_zero, show ((Kd.slice 3 (Kd.int .i64))).sz = 1 from rfl, Nat.mul_one] at hv492_0; replace hv492_0 := Option.some.inj (hv492_0.symm.trans hx492_0)
                     injection hv492_0 with hva_ hvn_ hvc_
                     rw [hva_] at ge492_0; rw [hvc_] at ul492_0; have HL492_0 := A_ (show Kd.V (Kd.int .i64) 3 _ w.heap.size _ _ (rd_L2 l0_0 (rd x5_2 x8_3)) from Kd.V_mk ul492_0 ge492_0); clear hva_ hvn_ hvc_ ge492_0 ul492_0 hcc492 hce492; have HR492_0 := A_ hi492_0; clear hi492_0 hl492_0; replace p492 := eq_true p492; replace q492 := eq_true q492
                     have p493 : 0 ≤ (x9_4 : Int) := od_ (by assumption)
                     have q493 : x9_4 < ((rd_L2 l0_0 (rd x5_2 x8_3)).length : Int) := od_ (by assumption)
                     obtain ⟨ad493, e493, hx493_0⟩ := Kd.at_int (by repeat (first | (with_reducible exact HR492_0.out) | (with_reducible refine Kd.C_alloc ?_ _) | (with_reducible refine Kd.C_drewN ?_ _) | (with_reducible refine Kd.C_drew ?_) | exact HR492_0.out)) x9_4 p493 q493
                     cases e493
                     replace p493 := eq_true p493; replace q493 := eq_true q493; obtain ⟨Ao48, co48, eo48⟩ := Kd.R_slice HO_7.out
                     (first | subst eo48 | (injection eo48 with f1_ f2_ f3_; have f4_ := f1_.symm; have f5_ := f3_.symm; clear f1_ f2_ f3_; subst f4_; subst f5_))
                     refine start_ (n := 14) (S := fun w' => w'.cell? ⟨gb475, 0, none⟩ = some (.slice (some ad480) l0_0.length c0_0) ∧ w'.cell? (ad489.add (x8_3).toNat) = some (.int .i64 (rd x5_2 x8_3)) ∧ w'.cell? (ad480.add ((rd x5_2 x8_3)).toNat) = some (.slice (some ad493) (rd_L2 l0_0 (rd x5_2 x8_3)).length c492_0) ∧ w'.cell? (ad493.add (x9_4).toNat) = some (.int .i64 (rd (rd_L2 l0_0 (rd x5_2 x8_3)) x9_4))) (ds := []) (mk_ 14 0) (by kernel_rfl) rfl rfl ⟨(blk_cell BK475.out 0).trans rfl, hx491_0, hx492_0, hx493_0⟩ (fun hHeld => ?_); refine with_tabW spec_IsGrowing.tab14 spec_IsGrowing.bits14 (fun HT_ HW_ => ?_)
                     generalize w46.drew = w47 at HO_5 HO_7 HO_476000 HL490_0 BK475 HR490_0 HB HL492_0 HR492_0 hx491_0 hx492_0 hx493_0 hHeld ⊢
                     refine pv_ 0 77 (mk_ 14 1) rfl rfl HT_.out (by kernel_rfl) (fun _ _ _ h => h) (by rfl) (by intro w'; go_simp; with_reducible rfl) (by simp only [Act.put, mD, mE, mF, i64_w, i32_w]; rfl) ?_; refine pv_ 1 78 (mk_ 14 3) rfl rfl HT_.out (by kernel_rfl) (fun _ _ _ h => h) (by rfl) (by intro w'; go_simp; with_reducible rfl) (by simp only [Act.put, mD, mE, mF, i64_w, i32_w]; rfl) ?_; refine pv_ 3 80 (mk_ 14 11) rfl rfl HT_.out (by kernel_rfl) (fun _ _ _ h => h) (by rfl) (by intro w'; go_simp; with_reducible rfl) (by simp only [Act.put, mD, mE, mF, i64_w, i32_w]; rfl) ?_; refine pv_ 4 81 (mk_ 14 27) rfl rfl HT_.out (by kernel_rfl) (fun _ _ _ h => h) (by rfl) (by intro w'; go_simp; with_reducible rfl) (by simp only [Act.put, mD, mE, mF, i64_w, i32_w]; rfl) ?_; refine pv_ 5 82 (mk_ 14 59) rfl rfl HT_.out (by kernel_rfl) (fun _ _ _ h => h) (by rfl) (by intro w'; go_simp; with_reducible rfl) (by simp only [Act.put, mD, mE, mF, i64_w, i32_w]; rfl) ?_; refine pv_ 9 86 (mk_ 14 571) rfl rfl HT_.out (by kernel_rfl) (fun _ _ _ h => h) (by rfl) (by intro w'; go_simp; with_reducible rfl) (by simp only [Act.put, mD, mE, mF, i64_w, i32_w]; rfl) ?_; refine take_ (i := 2) (N := some 79) (mk_ 14 575) rfl rfl (take_ofW HT_.out HW_.out (by kernel_rfl)) (fun _ _ _ h => h) (Or.inl ⟨by rfl, by rintro w' ⟨s0, s1, s2, s3⟩; go_simp; with_reducible rfl⟩) hHeld (by simp only [Act.put, mD, mE, mF, i64_w, i32_w]; rfl) ?_; refine take_ (i := 6) (N := some 83) (mk_ 14 639) rfl rfl (take_ofW HT_.out HW_.out (by kernel_rfl)) (fun _ _ _ h => h) (Or.inl ⟨by rfl, by rintro w' ⟨s0, s1, s2, s3⟩; go_simp; with_reducible rfl⟩) hHeld (by simp only [Act.put, mD, mE, mF, i64_w, i32_w]; rfl) ?_; refine pv_ 7 84 (mk_ 14 767) rfl rfl HT_.out (by kernel_rfl) (fun _ _ _ h => h) (by rfl) (by intro w'; go_simp; with_reducible rfl) (by simp only [Act.put, mD, mE, mF, i64_w, i32_w]; rfl) ?_; refine take_ (i := 8) (N := some 85) (mk_ 14 1023) rfl rfl (take_ofW HT_.out HW_.out (by kernel_rfl)) (fun _ _ _ h => h) (Or.inl ⟨by rfl, by rintro w' ⟨s0, s1, s2, s3⟩; go_simp; with_reducible rfl⟩) hHeld (by simp only [Act.put, mD, mE, mF, i64_w, i32_w]; rfl) ?_; refine pv_ 10 87 (mk_ 14 2047) rfl rfl HT_.out (by kernel_rfl) (fun _ _ _ h => h) (by rfl) (by intro w'; go_simp; with_reducible rfl) (by simp only [Act.put, mD, mE, mF, i64_w, i32_w]; rfl) ?_; refine take_ (i := 11) (N := some 88) (mk_ 14 4095) rfl rfl (take_ofW HT_.out HW_.out (by kernel_rfl)) (fun _ _ _ h => h) (Or.inl ⟨by rfl, by rintro w' ⟨s0, s1, s2, s3⟩; go_simp; with_reducible rfl⟩) hHeld (by simp only [Act.put, mD, mE, mF, i64_w, i32_w]; rfl) ?_; refine one_ (i := 12) (N := some 89) (mk_ 14 8191) rfl rfl (one_of HT_.out (by kernel_rfl)) (by decide) (fun K hK => ?_); refine cE_ E102 rfl rfl rfl (spec_l4Has.calls k4 _ _ x7_4 (rd (rd_L2 l0_0 (rd x5_2 x8_3)) x9_4) true _ ((Kd.R_reads' HO_7.out).2.2) ((Kd.R_reads' HO_7.out).2.1) A44.out) (by simp only [mA, mB, mC]; rfl) fun nd => ?_; refine hK.out _ _ ⟨(blk_cell BK475.out 0).trans rfl, hHeld.2.1, hHeld.2.2.1, hHeld.2.2.2⟩ (fun hHeld => ?_); clear hK K; refine norm_ (by show Act.put _ (some 89) _ = _; simp only [Act.put, mD, mE, mF, i64_w, i32_w]; rfl) ?_; refine pv_ 13 90 (mk_ 14 16383) rfl rfl HT_.out (by kernel_rfl) (fun _ _ _ h => h) (by rfl) (by intro w'; go_simp; with_reducible rfl) (by simp only [Act.put, mD, mE, mF, i64_w, i32_w]; rfl) ?_; refine done_ (done_of HT_.out (by kernel_rfl)) ?_
                     try go_wp2
                     go_roundg k4
                     case measure => have := HJ2.out; have := HK2.out; have := HK3.out; have := HK4.out; omega
                     case rel => exact ⟨(x7_4), (wrap64 (x9_4 + 1)), (by rfl), H', ⟨by have := HJ2.out; have := HK2.out; have := HK3.out; have := HK4.out; omega⟩, ⟨by (with_reducible repeat (first | apply Kd.V_alloc | apply Kd.V_drewN | apply Kd.V_drew)); exact HO_5.out⟩, ⟨by (with_reducible repeat (first | apply Kd.R_alloc | apply Kd.R_drewN | apply Kd.R_drew)); exact HO_7.out⟩, ⟨by (with_reducible repeat (first | apply Kd.V_alloc | apply Kd.V_drewN | apply Kd.V_drew)); exact HO_476000.out⟩, ⟨by (with_reducible repeat (first | refine blk_drewN ?_ _ | refine blk_drew ?_ | refine blk_alloc ?_ _)); exact BK475.out⟩, ⟨by repeat (first | (with_reducible first | exact HB.out | apply below_alloc | apply pw_below_drewN | apply below_drew1 | refine below_set ?_ GE475.out) | exact HB.out)⟩⟩
                    replace c45 := Bool.eq_false_iff.mpr c45; subst c45; rw [if_neg nf_] at H
                    by_cases c49 : x7_4.length < 17592186044416
                    ·rw [if_pos c49] at H; have LMc49 := A_ c49; clear c49; obtain ⟨y498, hy498⟩ := ex_ ((x7_4 ++ [rd (rd_L2 l0_0 (rd x5_2 x8_3)) x9_4]) : List Int); replace H : (spec_IsGrowing.l2 k4 x5_2 x6_2 y498 x8_3 (wrap64 (x9_4 + 1)) l0_0) = some r := by (rw [hy498]; with_reducible exact H)
                     have Ny498 := A_ hy498; clear hy498
                     have H' := A_ H
                     clear H
                     try go_wp2
                     have n0_ := A_ (Kd.V_drew HO_5.out); have n1_ := A_ (Kd.R_drew HO_7.out); have n2_ := A_ (Kd.V_drew HO_476000.out); have n3_ := A_ (blk_drew BK475.out); have n4_ := A_ (below_drew1 HB.out); clear HO_5 HO_7 HO_476000 BK475 HB; have HO_5 := n0_; have HO_7 := n1_; have HO_476000 := n2_; have BK475 := n3_; have HB := n4_; clear n0_ n1_ n2_ n3_ n4_
                     have p489 : 0 ≤ (x8_3 : Int) := od_ (by assumption)
                     have q489 : x8_3 < (x5_2.length : Int) := od_ (by assumption)
                     obtain ⟨ad489, e489, hx489_0⟩ := Kd.at_int (Kd.V_reads' HO_5.out).2.2 x8_3 p489 q489
                     cases e489
                     replace p489 := eq_true p489; replace q489 := eq_true q489
                     have p490 : 0 ≤ ((rd x5_2 x8_3) : Int) := od_ (by assumption)
                     have q490 : (rd x5_2 x8_3) < (l0_0.length : Int) := od_ (by assumption)
                     obtain ⟨ad490, A490_0, c490_0, e490, hx490_0, hl490_0, hi490_0⟩ := at_L2 (Kd.V_reads' HO_476000.out).2.2 (rd x5_2 x8_3) p490 q490; obtain rfl : ad480 = ad490 := (by injection e490); obtain ⟨ce490, hce490, hMe490, hcc490⟩ := Kd.V_get HO_476000.out [] (rd x5_2 x8_3) p490 (by exact q490); obtain ⟨ua490_0, uc490_0, rfl, ul490_0, ge490_0⟩ := Kd.FK_slice_open hMe490; have hv490_0 := hcc490 0 _ rfl; rw [Nat.add_zero, show ((Kd.slice 3 (Kd.int .i64))).sz = 1 from rfl, Nat.mul_one] at hv490_0; replace hv490_0 := Option.some.inj (hv490_0.symm.trans hx490_0)
                     injection hv490_0 with hva_ hvn_ hvc_
                     rw [hva_] at ge490_0; rw [hvc_] at ul490_0; have HL490_0 := A_ (show Kd.V (Kd.int .i64) 3 _ w.heap.size _ _ (rd_L2 l0_0 (rd x5_2 x8_3)) from Kd.V_mk ul490_0 ge490_0); clear hva_ hvn_ hvc_ ge490_0 ul490_0 hcc490 hce490; have HR490_0 := A_ hi490_0; clear hi490_0 hl490_0; replace p490 := eq_true p490; replace q490 := eq_true q490; refine start_ (n := 11) (S := fun w' => w'.cell? ⟨gb475, 0, none⟩ = some (.slice (some ad480) l0_0.length c0_0) ∧ w'.cell? (ad489.add (x8_3).toNat) = some (.int .i64 (rd x5_2 x8_3)) ∧ w'.cell? (ad480.add ((rd x5_2 x8_3)).toNat) = some (.slice A490_0 (rd_L2 l0_0 (rd x5_2 x8_3)).length c490_0)) (ds := []) (mk_ 11 0) (by kernel_rfl) rfl rfl ⟨(blk_cell BK475.out 0).trans rfl, hx489_0, hx490_0⟩ (fun hHeld => ?_); refine with_tabW spec_IsGrowing.tab12 spec_IsGrowing.bits12 (fun HT_ HW_ => ?_)
                     generalize wr.drew = w50 at HO_5 HO_7 HO_476000 BK475 HB HL490_0 HR490_0 hx489_0 hx490_0 hHeld ⊢
                     refine pv_ 0 64 (mk_ 11 1) rfl rfl HT_.out (by kernel_rfl) (fun _ _ _ h => h) (by rfl) (by intro w'; go_simp; with_reducible rfl) (by simp only [Act.put, mD, mE, mF, i64_w, i32_w]; rfl) ?_; refine pv_ 1 65 (mk_ 11 3) rfl rfl HT_.out (by kernel_rfl) (fun _ _ _ h => h) (by rfl) (by intro w'; go_simp; with_reducible rfl) (by simp only [Act.put, mD, mE, mF, i64_w, i32_w]; rfl) ?_; refine pv_ 3 67 (mk_ 11 11) rfl rfl HT_.out (by kernel_rfl) (fun _ _ _ h => h) (by rfl) (by intro w'; go_simp; with_reducible rfl) (by simp only [Act.put, mD, mE, mF, i64_w, i32_w]; rfl) ?_; refine pv_ 4 68 (mk_ 11 27) rfl rfl HT_.out (by kernel_rfl) (fun _ _ _ h => h) (by rfl) (by intro w'; go_simp; with_reducible rfl) (by simp only [Act.put, mD, mE, mF, i64_w, i32_w]; rfl) ?_; refine pv_ 5 69 (mk_ 11 59) rfl rfl HT_.out (by kernel_rfl) (fun _ _ _ h => h) (by rfl) (by intro w'; go_simp; with_reducible rfl) (by simp only [Act.put, mD, mE, mF, i64_w, i32_w]; rfl) ?_; refine take_ (i := 2) (N := some 66) (mk_ 11 63) rfl rfl (take_ofW HT_.out HW_.out (by kernel_rfl)) (fun _ _ _ h => h) (Or.inl ⟨by rfl, by rintro w' ⟨s0, s1, s2⟩; go_simp; with_reducible rfl⟩) hHeld (by simp only [Act.put, mD, mE, mF, i64_w, i32_w]; rfl) ?_; refine take_ (i := 6) (N := some 70) (mk_ 11 127) rfl rfl (take_ofW HT_.out HW_.out (by kernel_rfl)) (fun _ _ _ h => h) (Or.inl ⟨by rfl, by rintro w' ⟨s0, s1, s2⟩; go_simp; with_reducible rfl⟩) hHeld (by simp only [Act.put, mD, mE, mF, i64_w, i32_w]; rfl) ?_; refine pv_ 7 71 (mk_ 11 255) rfl rfl HT_.out (by kernel_rfl) (fun _ _ _ h => h) (by rfl) (by intro w'; go_simp; with_reducible rfl) (by simp only [Act.put, mD, mE, mF, i64_w, i32_w]; rfl) ?_; refine take_ (i := 8) (N := some 72) (mk_ 11 511) rfl rfl (take_ofW HT_.out HW_.out (by kernel_rfl)) (fun _ _ _ h => h) (Or.inl ⟨by rfl, by rintro w' ⟨s0, s1, s2⟩; go_simp; with_reducible rfl⟩) hHeld (by simp only [Act.put, mD, mE, mF, i64_w, i32_w]; rfl) ?_; refine pv_ 9 73 (mk_ 11 1023) rfl rfl HT_.out (by kernel_rfl) (fun _ _ _ h => h) (by rfl) (by intro w'; go_simp; with_reducible rfl) (by simp only [Act.put, mD, mE, mF, i64_w, i32_w]; rfl) ?_; refine pv_ 10 74 (mk_ 11 2047) rfl rfl HT_.out (by kernel_rfl) (fun _ _ _ h => h) (by rfl) (by intro w'; go_simp; with_reducible rfl) (by simp only [Act.put, mD, mE, mF, i64_w, i32_w]; rfl) ?_; refine done_ (done_of HT_.out (by kernel_rfl)) ?_
                     try go_wp2
                     have n0_ := A_ (Kd.V_drew HO_5.out); have n1_ := A_ (Kd.R_drew HO_7.out); have n2_ := A_ (Kd.V_drew HO_476000.out); have n3_ := A_ (Kd.V_drew HL490_0.out); have n4_ := A_ (blk_drew BK475.out); have n5_ := A_ (Kd.C_drew HR490_0.out); have n6_ := A_ (below_drew1 HB.out); clear HO_5 HO_7 HO_476000 HL490_0 BK475 HR490_0 HB; have HO_5 := n0_; have HO_7 := n1_; have HO_476000 := n2_; have HL490_0 := n3_; have BK475 := n4_; have HR490_0 := n5_; have HB := n6_; clear n0_ n1_ n2_ n3_ n4_ n5_ n6_
                     have p491 : 0 ≤ (x8_3 : Int) := od_ (by assumption)
                     have q491 : x8_3 < (x5_2.length : Int) := od_ (by assumption)
                     obtain ⟨ad491, e491, hx491_0⟩ := Kd.at_int (Kd.V_reads' HO_5.out).2.2 x8_3 p491 q491; obtain rfl : ad489 = ad491 := (by injection e491); replace p491 := eq_true p491; replace q491 := eq_true q491
                     have p492 : 0 ≤ ((rd x5_2 x8_3) : Int) := od_ (by assumption)
                     have q492 : (rd x5_2 x8_3) < (l0_0.length : Int) := od_ (by assumption)
                     obtain ⟨ad492, A492_0, c492_0, e492, hx492_0, hl492_0, hi492_0⟩ := at_L2 (Kd.V_reads' HO_476000.out).2.2 (rd x5_2 x8_3) p492 q492; obtain rfl : ad480 = ad492 := (by injection e492); obtain ⟨ce492, hce492, hMe492, hcc492⟩ := Kd.V_get HO_476000.out [] (rd x5_2 x8_3) p492 (by exact q492); obtain ⟨ua492_0, uc492_0, rfl, ul492_0, ge492_0⟩ := Kd.FK_slice_open hMe492; have hv492_0 := hcc492 0 _ rfl; rw [Nat.add_zero, show ((Kd.slice 3 (Kd.int .i64))).sz = 1 from rfl, Nat.mul_one] at hv492_0; replace hv492_0 := Option.some.inj (hv492_0.symm.trans hx492_0)
                     injection hv492_0 with hva_ hvn_ hvc_
                     rw [hva_] at ge492_0; rw [hvc_] at ul492_0; have HL492_0 := A_ (show Kd.V (Kd.int .i64) 3 _ w.heap.size _ _ (rd_L2 l0_0 (rd x5_2 x8_3)) from Kd.V_mk ul492_0 ge492_0); clear hva_ hvn_ hvc_ ge492_0 ul492_0 hcc492 hce492; have HR492_0 := A_ hi492_0; clear hi492_0 hl492_0; replace p492 := eq_true p492; replace q492 := eq_true q492
                     have p493 : 0 ≤ (x9_4 : Int) := od_ (by assumption)
                     have q493 : x9_4 < ((rd_L2 l0_0 (rd x5_2 x8_3)).length : Int) := od_ (by assumption)
                     obtain ⟨ad493, e493, hx493_0⟩ := Kd.at_int (by repeat (first | (with_reducible exact HR492_0.out) | (with_reducible refine Kd.C_alloc ?_ _) | (with_reducible refine Kd.C_drewN ?_ _) | (with_reducible refine Kd.C_drew ?_) | exact HR492_0.out)) x9_4 p493 q493
                     cases e493
                     replace p493 := eq_true p493; replace q493 := eq_true q493; obtain ⟨Ao52, co52, eo52⟩ := Kd.R_slice HO_7.out
                     (first | subst eo52 | (injection eo52 with f1_ f2_ f3_; have f4_ := f1_.symm; have f5_ := f3_.symm; clear f1_ f2_ f3_; subst f4_; subst f5_))
                     refine start_ (n := 14) (S := fun w' => w'.cell? ⟨gb475, 0, none⟩ = some (.slice (some ad480) l0_0.length c0_0) ∧ w'.cell? (ad489.add (x8_3).toNat) = some (.int .i64 (rd x5_2 x8_3)) ∧ w'.cell? (ad480.add ((rd x5_2 x8_3)).toNat) = some (.slice (some ad493) (rd_L2 l0_0 (rd x5_2 x8_3)).length c492_0) ∧ w'.cell? (ad493.add (x9_4).toNat) = some (.int .i64 (rd (rd_L2 l0_0 (rd x5_2 x8_3)) x9_4))) (ds := []) (mk_ 14 0) (by kernel_rfl) rfl rfl ⟨(blk_cell BK475.out 0).trans rfl, hx491_0, hx492_0, hx493_0⟩ (fun hHeld => ?_); refine with_tabW spec_IsGrowing.tab14 spec_IsGrowing.bits14 (fun HT_ HW_ => ?_)
                     generalize w50.drew = w51 at HO_5 HO_7 HO_476000 HL490_0 BK475 HR490_0 HB HL492_0 HR492_0 hx491_0 hx492_0 hx493_0 hHeld ⊢
                     refine pv_ 0 77 (mk_ 14 1) rfl rfl HT_.out (by kernel_rfl) (fun _ _ _ h => h) (by rfl) (by intro w'; go_simp; with_reducible rfl) (by simp only [Act.put, mD, mE, mF, i64_w, i32_w]; rfl) ?_; refine pv_ 1 78 (mk_ 14 3) rfl rfl HT_.out (by kernel_rfl) (fun _ _ _ h => h) (by rfl) (by intro w'; go_simp; with_reducible rfl) (by simp only [Act.put, mD, mE, mF, i64_w, i32_w]; rfl) ?_; refine pv_ 3 80 (mk_ 14 11) rfl rfl HT_.out (by kernel_rfl) (fun _ _ _ h => h) (by rfl) (by intro w'; go_simp; with_reducible rfl) (by simp only [Act.put, mD, mE, mF, i64_w, i32_w]; rfl) ?_; refine pv_ 4 81 (mk_ 14 27) rfl rfl HT_.out (by kernel_rfl) (fun _ _ _ h => h) (by rfl) (by intro w'; go_simp; with_reducible rfl) (by simp only [Act.put, mD, mE, mF, i64_w, i32_w]; rfl) ?_; refine pv_ 5 82 (mk_ 14 59) rfl rfl HT_.out (by kernel_rfl) (fun _ _ _ h => h) (by rfl) (by intro w'; go_simp; with_reducible rfl) (by simp only [Act.put, mD, mE, mF, i64_w, i32_w]; rfl) ?_; refine pv_ 9 86 (mk_ 14 571) rfl rfl HT_.out (by kernel_rfl) (fun _ _ _ h => h) (by rfl) (by intro w'; go_simp; with_reducible rfl) (by simp only [Act.put, mD, mE, mF, i64_w, i32_w]; rfl) ?_; refine take_ (i := 2) (N := some 79) (mk_ 14 575) rfl rfl (take_ofW HT_.out HW_.out (by kernel_rfl)) (fun _ _ _ h => h) (Or.inl ⟨by rfl, by rintro w' ⟨s0, s1, s2, s3⟩; go_simp; with_reducible rfl⟩) hHeld (by simp only [Act.put, mD, mE, mF, i64_w, i32_w]; rfl) ?_; refine take_ (i := 6) (N := some 83) (mk_ 14 639) rfl rfl (take_ofW HT_.out HW_.out (by kernel_rfl)) (fun _ _ _ h => h) (Or.inl ⟨by rfl, by rintro w' ⟨s0, s1, s2, s3⟩; go_simp; with_reducible rfl⟩) hHeld (by simp only [Act.put, mD, mE, mF, i64_w, i32_w]; rfl) ?_; refine pv_ 7 84 (mk_ 14 767) rfl rfl HT_.out (by kernel_rfl) (fun _ _ _ h => h) (by rfl) (by intro w'; go_simp; with_reducible rfl) (by simp only [Act.put, mD, mE, mF, i64_w, i32_w]; rfl) ?_; refine take_ (i := 8) (N := some 85) (mk_ 14 1023) rfl rfl (take_ofW HT_.out HW_.out (by kernel_rfl)) (fun _ _ _ h => h) (Or.inl ⟨by rfl, by rintro w' ⟨s0, s1, s2, s3⟩; go_simp; with_reducible rfl⟩) hHeld (by simp only [Act.put, mD, mE, mF, i64_w, i32_w]; rfl) ?_; refine pv_ 10 87 (mk_ 14 2047) rfl rfl HT_.out (by kernel_rfl) (fun _ _ _ h => h) (by rfl) (by intro w'; go_simp; with_reducible rfl) (by simp only [Act.put, mD, mE, mF, i64_w, i32_w]; rfl) ?_; refine take_ (i := 11) (N := some 88) (mk_ 14 4095) rfl rfl (take_ofW HT_.out HW_.out (by kernel_rfl)) (fun _ _ _ h => h) (Or.inl ⟨by rfl, by rintro w' ⟨s0, s1, s2, s3⟩; go_simp; with_reducible rfl⟩) hHeld (by simp only [Act.put, mD, mE, mF, i64_w, i32_w]; rfl) ?_; refine one_ (i := 12) (N := some 89) (mk_ 14 8191) rfl rfl (one_of HT_.out (by kernel_rfl)) (by decide) (fun K hK => ?_); refine cE_ E102 rfl rfl rfl (spec_l4Has.calls k4 _ _ x7_4 (rd (rd_L2 l0_0 (rd x5_2 x8_3)) x9_4) false _ ((Kd.R_reads' HO_7.out).2.2) ((Kd.R_reads' HO_7.out).2.1) A44.out) (by simp only [mA, mB, mC]; rfl) fun nd => ?_; refine hK.out _ _ ⟨(blk_cell BK475.out 0).trans rfl, hHeld.2.1, hHeld.2.2.1, hHeld.2.2.2⟩ (fun hHeld => ?_); clear hK K; refine norm_ (by show Act.put _ (some 89) _ = _; simp only [Act.put, mD, mE, mF, i64_w, i32_w]; rfl) ?_; refine pv_ 13 90 (mk_ 14 16383) rfl rfl HT_.out (by kernel_rfl) (fun _ _ _ h => h) (by rfl) (by intro w'; go_simp; with_reducible rfl) (by simp only [Act.put, mD, mE, mF, i64_w, i32_w]; rfl) ?_; refine done_ (done_of HT_.out (by kernel_rfl)) ?_
                     try go_wp2
                     (try (rw [drewN_self w51]; generalize hq_ : World.drewN w51 _ = w51; have n0_ : Aside0 (Kd.V (Kd.int .i64) 3 w51 w.heap.size (fun k_ => (P0_0_ k_ ∨ w.heap.size ≤ k_) ∧ some k_ ≠ (.slice Ao52 x7_4.length co52 : Value).ownBlock ∧ k_ ≠ gb475) (.slice A490_0 (rd_L2 l0_0 (rd x5_2 x8_3)).length c490_0) (rd_L2 l0_0 (rd x5_2 x8_3))) := ⟨by rw [← hq_]; exact (by (with_reducible repeat (first | apply Kd.V_alloc | apply Kd.V_drewN | apply Kd.V_drew)); exact HL490_0.out)⟩; have n1_ : Aside0 (Kd.V (Kd.int .i64) 3 w51 w.heap.size (fun k_ => (P0_0_ k_ ∨ w.heap.size ≤ k_) ∧ some k_ ≠ (.slice Ao52 x7_4.length co52 : Value).ownBlock ∧ k_ ≠ gb475) (.slice (some ad493) (rd_L2 l0_0 (rd x5_2 x8_3)).length c492_0) (rd_L2 l0_0 (rd x5_2 x8_3))) := ⟨by rw [← hq_]; exact (by (with_reducible repeat (first | apply Kd.V_alloc | apply Kd.V_drewN | apply Kd.V_drew)); exact HL492_0.out)⟩; have n2_ : Aside0 (Kd.V (Kd.slice 3 (Kd.int .i64)) 24 w51 w.heap.size (fun k_ => (P0_0_ k_ ∨ w.heap.size ≤ k_) ∧ some k_ ≠ (.slice Ao52 x7_4.length co52 : Value).ownBlock ∧ k_ ≠ gb475) (.slice (some ad480) l0_0.length c0_0) l0_0) := ⟨by rw [← hq_]; exact (by (with_reducible repeat (first | apply Kd.V_alloc | apply Kd.V_drewN | apply Kd.V_drew)); exact HO_476000.out)⟩; have n3_ : Aside0 (Kd.V (Kd.int .i64) 3 w51 w.heap.size (fun k_ => (P0_0_ k_ ∨ w.heap.size ≤ k_) ∧ some k_ ≠ (.slice Ao52 x7_4.length co52 : Value).ownBlock ∧ k_ ≠ gb475) (.slice (some ad489) x5_2.length co37) x5_2) := ⟨by rw [← hq_]; exact (by (with_reducible repeat (first | apply Kd.V_alloc | apply Kd.V_drewN | apply Kd.V_drew)); exact HO_5.out)⟩; have n4_ : Aside0 (Kd.R (Kd.int .i64) 3 w51 w.heap.size (fun k_ => (w.heap.size ≤ k_)) (.slice Ao52 x7_4.length co52) x7_4) := ⟨by rw [← hq_]; exact (by (with_reducible repeat (first | apply Kd.R_alloc | apply Kd.R_drewN | apply Kd.R_drew)); exact HO_7.out)⟩; have n5_ : Aside0 (w51.heap[gb475]? = some (.cells #[.slice (some ad480) l0_0.length c0_0] 80 (0, 0))) := ⟨by rw [← hq_]; exact (by (with_reducible repeat (first | refine blk_drewN ?_ _ | refine blk_drew ?_ | refine blk_alloc ?_ _)); exact BK475.out)⟩; have n6_ : Aside0 (Below w.heap.size w w51) := ⟨by rw [← hq_]; exact (by repeat (first | (with_reducible first | exact HB.out | apply below_alloc | apply pw_below_drewN | apply below_drew1 | refine below_set ?_ GE475.out) | exact HB.out))⟩; have n7_ : Aside0 (Kd.C (Kd.int .i64) w51 A490_0 (rd_L2 l0_0 (rd x5_2 x8_3)).length (rd_L2 l0_0 (rd x5_2 x8_3))) := ⟨by rw [← hq_]; exact (by repeat (first | (with_reducible exact HR490_0.out) | (with_reducible refine Kd.C_alloc ?_ _) | (with_reducible refine Kd.C_drewN ?_ _) | (with_reducible refine Kd.C_drew ?_) | exact HR490_0.out))⟩; have n8_ : Aside0 (Kd.C (Kd.int .i64) w51 (some ad493) (rd_L2 l0_0 (rd x5_2 x8_3)).length (rd_L2 l0_0 (rd x5_2 x8_3))) := ⟨by rw [← hq_]; exact (by repeat (first | (with_reducible exact HR492_0.out) | (with_reducible refine Kd.C_alloc ?_ _) | (with_reducible refine Kd.C_drewN ?_ _) | (with_reducible refine Kd.C_drew ?_) | exact HR492_0.out))⟩; clear HL490_0 HL492_0 HO_476000 HO_5 HO_7 BK475 HB HR490_0 HR492_0 hq_; revert n0_ n1_ n2_ n3_ n4_ n5_ n6_ n7_ n8_; intro HL490_0 HL492_0 HO_476000 HO_5 HO_7 BK475 HB HR490_0 HR492_0))
                     have n0_ := A_ (Kd.V_drew HO_5.out); have n1_ := A_ (Kd.R_drew HO_7.out); have n2_ := A_ (Kd.V_drew HO_476000.out); have n3_ := A_ (Kd.V_drew HL490_0.out); have n4_ := A_ (Kd.V_drew HL492_0.out); have n5_ := A_ (blk_drew BK475.out); have n6_ := A_ (Kd.C_drew HR490_0.out); have n7_ := A_ (Kd.C_drew HR492_0.out); have n8_ := A_ (below_drew1 HB.out); clear HO_5 HO_7 HO_476000 HL490_0 HL492_0 BK475 HR490_0 HR492_0 HB; have HO_5 := n0_; have HO_7 := n1_; have HO_476000 := n2_; have HL490_0 := n3_; have HL492_0 := n4_; have BK475 := n5_; have HR490_0 := n6_; have HR492_0 := n7_; have HB := n8_; clear n0_ n1_ n2_ n3_ n4_ n5_ n6_ n7_ n8_
                     have p495 : 0 ≤ (x8_3 : Int) := od_ (by assumption)
                     have q495 : x8_3 < (x5_2.length : Int) := od_ (by assumption)
                     obtain ⟨ad495, e495, hx495_0⟩ := Kd.at_int (Kd.V_reads' HO_5.out).2.2 x8_3 p495 q495; obtain rfl : ad489 = ad495 := (by injection e495); replace p495 := eq_true p495; replace q495 := eq_true q495
                     have p496 : 0 ≤ ((rd x5_2 x8_3) : Int) := od_ (by assumption)
                     have q496 : (rd x5_2 x8_3) < (l0_0.length : Int) := od_ (by assumption)
                     obtain ⟨ad496, A496_0, c496_0, e496, hx496_0, hl496_0, hi496_0⟩ := at_L2 (Kd.V_reads' HO_476000.out).2.2 (rd x5_2 x8_3) p496 q496; obtain rfl : ad480 = ad496 := (by injection e496); obtain ⟨ce496, hce496, hMe496, hcc496⟩ := Kd.V_get HO_476000.out [] (rd x5_2 x8_3) p496 (by exact q496); obtain ⟨ua496_0, uc496_0, rfl, ul496_0, ge496_0⟩ := Kd.FK_slice_open hMe496; have hv496_0 := hcc496 0 _ rfl; rw [Nat.add_zero, show ((Kd.slice 3 (Kd.int .i64))).sz = 1 from rfl, Nat.mul_one] at hv496_0; replace hv496_0 := Option.some.inj (hv496_0.symm.trans hx496_0)
                     injection hv496_0 with hva_ hvn_ hvc_
                     rw [hva_] at ge496_0; rw [hvc_] at ul496_0; have HL496_0 := A_ (show Kd.V (Kd.int .i64) 3 _ w.heap.size _ _ (rd_L2 l0_0 (rd x5_2 x8_3)) from Kd.V_mk ul496_0 ge496_0); clear hva_ hvn_ hvc_ ge496_0 ul496_0 hcc496 hce496; have HR496_0 := A_ hi496_0; clear hi496_0 hl496_0; replace p496 := eq_true p496; replace q496 := eq_true q496
                     have p497 : 0 ≤ (x9_4 : Int) := od_ (by assumption)
                     have q497 : x9_4 < ((rd_L2 l0_0 (rd x5_2 x8_3)).length : Int) := od_ (by assumption)
                     obtain ⟨ad497, e497, hx497_0⟩ := Kd.at_int (by repeat (first | (with_reducible exact HR496_0.out) | (with_reducible refine Kd.C_alloc ?_ _) | (with_reducible refine Kd.C_drewN ?_ _) | (with_reducible refine Kd.C_drew ?_) | exact HR496_0.out)) x9_4 p497 q497
                     cases e497
                     replace p497 := eq_true p497; replace q497 := eq_true q497; refine start_ (n := 15) (S := fun w' => w'.cell? ⟨gb475, 0, none⟩ = some (.slice (some ad480) l0_0.length c0_0) ∧ w'.cell? (ad489.add (x8_3).toNat) = some (.int .i64 (rd x5_2 x8_3)) ∧ w'.cell? (ad480.add ((rd x5_2 x8_3)).toNat) = some (.slice (some ad497) (rd_L2 l0_0 (rd x5_2 x8_3)).length c496_0) ∧ w'.cell? (ad497.add (x9_4).toNat) = some (.int .i64 (rd (rd_L2 l0_0 (rd x5_2 x8_3)) x9_4))) (ds := [12, 13]) (mk_ 15 0) (by kernel_rfl) rfl rfl ⟨(blk_cell BK475.out 0).trans rfl, hx495_0, hx496_0, hx497_0⟩ (fun hHeld => ?_); refine with_tabW spec_IsGrowing.tab15 spec_IsGrowing.bits15 (fun HT_ HW_ => ?_)
                     generalize w51.drew = w53 at HO_5 HO_7 HO_476000 HL490_0 HL492_0 BK475 HR490_0 HR492_0 HB HL496_0 HR496_0 hx495_0 hx496_0 hx497_0 hHeld ⊢
                     refine pv_ 0 91 (mk_ 15 1) rfl rfl HT_.out (by kernel_rfl) (fun _ _ _ h => h) (by rfl) (by intro w'; go_simp; with_reducible rfl) (by simp only [Act.put, mD, mE, mF, i64_w, i32_w]; rfl) ?_; refine pv_ 1 92 (mk_ 15 3) rfl rfl HT_.out (by kernel_rfl) (fun _ _ _ h => h) (by rfl) (by intro w'; go_simp; with_reducible rfl) (by simp only [Act.put, mD, mE, mF, i64_w, i32_w]; rfl) ?_; refine pv_ 3 94 (mk_ 15 11) rfl rfl HT_.out (by kernel_rfl) (fun _ _ _ h => h) (by rfl) (by intro w'; go_simp; with_reducible rfl) (by simp only [Act.put, mD, mE, mF, i64_w, i32_w]; rfl) ?_; refine pv_ 4 95 (mk_ 15 27) rfl rfl HT_.out (by kernel_rfl) (fun _ _ _ h => h) (by rfl) (by intro w'; go_simp; with_reducible rfl) (by simp only [Act.put, mD, mE, mF, i64_w, i32_w]; rfl) ?_; refine pv_ 5 96 (mk_ 15 59) rfl rfl HT_.out (by kernel_rfl) (fun _ _ _ h => h) (by rfl) (by intro w'; go_simp; with_reducible rfl) (by simp only [Act.put, mD, mE, mF, i64_w, i32_w]; rfl) ?_; refine pv_ 9 100 (mk_ 15 571) rfl rfl HT_.out (by kernel_rfl) (fun _ _ _ h => h) (by rfl) (by intro w'; go_simp; with_reducible rfl) (by simp only [Act.put, mD, mE, mF, i64_w, i32_w]; rfl) ?_; refine take_ (i := 2) (N := some 93) (mk_ 15 575) rfl rfl (take_ofW HT_.out HW_.out (by kernel_rfl)) (fun _ _ _ h => h) (Or.inl ⟨by rfl, by rintro w' ⟨s0, s1, s2, s3⟩; go_simp; with_reducible rfl⟩) hHeld (by simp only [Act.put, mD, mE, mF, i64_w, i32_w]; rfl) ?_; refine take_ (i := 6) (N := some 97) (mk_ 15 639) rfl rfl (take_ofW HT_.out HW_.out (by kernel_rfl)) (fun _ _ _ h => h) (Or.inl ⟨by rfl, by rintro w' ⟨s0, s1, s2, s3⟩; go_simp; with_reducible rfl⟩) hHeld (by simp only [Act.put, mD, mE, mF, i64_w, i32_w]; rfl) ?_; refine pv_ 7 98 (mk_ 15 767) rfl rfl HT_.out (by kernel_rfl) (fun _ _ _ h => h) (by rfl) (by intro w'; go_simp; with_reducible rfl) (by simp only [Act.put, mD, mE, mF, i64_w, i32_w]; rfl) ?_; refine take_ (i := 8) (N := some 99) (mk_ 15 1023) rfl rfl (take_ofW HT_.out HW_.out (by kernel_rfl)) (fun _ _ _ h => h) (Or.inl ⟨by rfl, by rintro w' ⟨s0, s1, s2, s3⟩; go_simp; with_reducible rfl⟩) hHeld (by simp only [Act.put, mD, mE, mF, i64_w, i32_w]; rfl) ?_; refine pv_ 10 101 (mk_ 15 2047) rfl rfl HT_.out (by kernel_rfl) (fun _ _ _ h => h) (by rfl) (by intro w'; go_simp; with_reducible rfl) (by simp only [Act.put, mD, mE, mF, i64_w, i32_w]; rfl) ?_; refine take_ (i := 11) (N := some 102) (mk_ 15 4095) rfl rfl (take_ofW HT_.out HW_.out (by kernel_rfl)) (fun _ _ _ h => h) (Or.inl ⟨by rfl, by rintro w' ⟨s0, s1, s2, s3⟩; go_simp; with_reducible rfl⟩) hHeld (by simp only [Act.put, mD, mE, mF, i64_w, i32_w]; rfl) ?_; refine last_ (i := 12) (N := some 103) (mk_ 15 8191) rfl rfl (one_of HT_.out (by kernel_rfl)) (by decide) (fun K hK => ?_); refine value_ (w1 := ?_) (v := ?_) (by rfl) rfl ?_ ?_; rotate_left 2
                     ·go_simp
                      constructor
                      ·rfl
                      rfl
                     refine hK.out _ _ ?_; clear hK K; refine norm_ (by show Act.put _ (some 103) _ = _; simp only [Act.put, mD, mE, mF, i64_w, i32_w]; rfl) ?_; refine last_ (i := 13) (N := some 104) (mk_ 15 16383) rfl rfl (one_of HT_.out (by kernel_rfl)) (by decide) (fun K hK => ?_); refine Kd.R_append_step (Kd.int .i64) (w0 := w) w.heap.size (by rfl) (.tmp 91) (.tmp 103) 24 3 (.int .i64 0) 8 rfl Tryz.underlying24 info3 rfl (by decide) (by omega) (.slice Ao52 x7_4.length co52) x7_4 (rd (rd_L2 l0_0 (rd x5_2 x8_3)) x9_4) [.int .i64 (rd (rd_L2 l0_0 (rd x5_2 x8_3)) x9_4)] (fun k_ => (w.heap.size ≤ k_)) (fun _ => False) rfl rfl ?aP (fun _ hk => hk.elim) ?aF ?aO ?aB ?aS ?aL ?_
                     (case aP => exact rfl)
                     (case aB => exact HB.out)
                     (case aF => exact (fun k_ hk => (Nat.le_trans (below_size HB.out) hk)))
                     (case aO => exact HO_7.out)
                     (case aS => exact (below_size HB.out))
                     (case aL => have := LMc49.out; omega)
                     intro v499 w54 ho hb hg hat; rw [← Ny498.out] at ho; have n0_ := A_ (Kd.V_afterv (ok := (fun k_ => (P0_0_ k_ ∨ w.heap.size ≤ k_) ∧ k_ ≠ gb475)) (by exact Kd.V_mono HO_5.out (fun _ hk => ⟨⟨hk.1, hk.2.2⟩, hk.2.1⟩)) hg hat); have n1_ := A_ (Kd.V_afterv (ok := (fun k_ => (P0_0_ k_ ∨ w.heap.size ≤ k_) ∧ k_ ≠ gb475)) (by exact Kd.V_mono HO_476000.out (fun _ hk => ⟨⟨hk.1, hk.2.2⟩, hk.2.1⟩)) hg hat); have n2_ := A_ (blk_grown (g := gb475) (o := .cells #[.slice (some ad480) l0_0.length c0_0] 80 (0, 0)) BK475.out hg (Kd.R_ne HO_7.out BK475.out (by decide))); have n3_ := A_ (Kd.V_afterv (ok := (fun k_ => (P0_0_ k_ ∨ w.heap.size ≤ k_) ∧ k_ ≠ gb475)) (by exact Kd.V_mono HL490_0.out (fun _ hk => ⟨⟨hk.1, hk.2.2⟩, hk.2.1⟩)) hg hat); have n4_ := A_ (Kd.V_afterv (ok := (fun k_ => (P0_0_ k_ ∨ w.heap.size ≤ k_) ∧ k_ ≠ gb475)) (by exact Kd.V_mono HL492_0.out (fun _ hk => ⟨⟨hk.1, hk.2.2⟩, hk.2.1⟩)) hg hat); have n5_ := A_ (Kd.V_afterv (ok := (fun k_ => (P0_0_ k_ ∨ w.heap.size ≤ k_) ∧ k_ ≠ gb475)) (by exact Kd.V_mono HL496_0.out (fun _ hk => ⟨⟨hk.1, hk.2.2⟩, hk.2.1⟩)) hg hat); have n6_ := A_ (hb); have n7_ := A_ (ho); clear HO_5 HO_476000 BK475 HL490_0 HL492_0 HL496_0 HB HO_7; have HO_5 := n0_; have HO_476000 := n1_; have BK475 := n2_; have HB := n6_; have HO500 := n7_; clear n0_ n1_ n2_ n3_ n4_ n5_ n6_ n7_ ho hb hg hat; refine hK.out _ _ ?_; clear hK K; refine norm_ (by show Act.put _ (some 104) _ = _; simp only [Act.put, mD, mE, mF, i64_w, i32_w]; rfl) ?_; refine pv_ 14 7 (mk_ 15 32767) rfl rfl HT_.out (by kernel_rfl) (fun _ _ _ h => h) (by rfl) (by intro w'; go_simp; with_reducible rfl) (by simp only [Act.put, mD, mE, mF, i64_w, i32_w]; rfl) ?_; refine done_ (done_of HT_.out (by kernel_rfl)) ?_
                     try go_wp2
                     go_roundg k4
                     case measure => have := HJ2.out; have := HK2.out; have := HK3.out; have := HK4.out; omega
                     case rel => exact ⟨(y498), (wrap64 (x9_4 + 1)), (by rfl), H', ⟨by have := HJ2.out; have := HK2.out; have := HK3.out; have := HK4.out; omega⟩, ⟨by exact Kd.V_mono HO_5.out (fun _ hk => ⟨hk.1.1, ⟨hk.2, hk.1.2⟩⟩)⟩, ⟨HO500.out⟩, ⟨by exact Kd.V_mono HO_476000.out (fun _ hk => ⟨hk.1.1, ⟨hk.2, hk.1.2⟩⟩)⟩, ⟨BK475.out⟩, ⟨HB.out⟩⟩
                    rw [if_neg c49] at H
                    cases H
                   rw [if_neg c43] at H
                   cases H
                  rw [if_neg c42] at H; have c42b0 := decide_eq_false c42; clear c42
                  have H' := A_ H
                  clear H
                  try go_wp2
                  have n0_ := A_ (Kd.V_drew HO_5.out); have n1_ := A_ (Kd.R_drew HO_7.out); have n2_ := A_ (Kd.V_drew HO_476000.out); have n3_ := A_ (blk_drew BK475.out); have n4_ := A_ (below_drew1 HB.out); clear HO_5 HO_7 HO_476000 BK475 HB; have HO_5 := n0_; have HO_7 := n1_; have HO_476000 := n2_; have BK475 := n3_; have HB := n4_; clear n0_ n1_ n2_ n3_ n4_
                  have p489 : 0 ≤ (x8_3 : Int) := od_ (by assumption)
                  have q489 : x8_3 < (x5_2.length : Int) := od_ (by assumption)
                  obtain ⟨ad489, e489, hx489_0⟩ := Kd.at_int (Kd.V_reads' HO_5.out).2.2 x8_3 p489 q489
                  cases e489
                  replace p489 := eq_true p489; replace q489 := eq_true q489
                  have p490 : 0 ≤ ((rd x5_2 x8_3) : Int) := od_ (by assumption)
                  have q490 : (rd x5_2 x8_3) < (l0_0.length : Int) := od_ (by assumption)
                  obtain ⟨ad490, A490_0, c490_0, e490, hx490_0, hl490_0, hi490_0⟩ := at_L2 (Kd.V_reads' HO_476000.out).2.2 (rd x5_2 x8_3) p490 q490; obtain rfl : ad480 = ad490 := (by injection e490); obtain ⟨ce490, hce490, hMe490, hcc490⟩ := Kd.V_get HO_476000.out [] (rd x5_2 x8_3) p490 (by exact q490); obtain ⟨ua490_0, uc490_0, rfl, ul490_0, ge490_0⟩ := Kd.FK_slice_open hMe490; have hv490_0 := hcc490 0 _ rfl; rw [Nat.add_zero, show ((Kd.slice 3 (Kd.int .i64))).sz = 1 from rfl, Nat.mul_one] at hv490_0; replace hv490_0 := Option.some.inj (hv490_0.symm.trans hx490_0)
                  injection hv490_0 with hva_ hvn_ hvc_
                  rw [hva_] at ge490_0; rw [hvc_] at ul490_0; have HL490_0 := A_ (show Kd.V (Kd.int .i64) 3 _ w.heap.size _ _ (rd_L2 l0_0 (rd x5_2 x8_3)) from Kd.V_mk ul490_0 ge490_0); clear hva_ hvn_ hvc_ ge490_0 ul490_0 hcc490 hce490; have HR490_0 := A_ hi490_0; clear hi490_0 hl490_0; replace p490 := eq_true p490; replace q490 := eq_true q490; refine start_ (n := 11) (S := fun w' => w'.cell? ⟨gb475, 0, none⟩ = some (.slice (some ad480) l0_0.length c0_0) ∧ w'.cell? (ad489.add (x8_3).toNat) = some (.int .i64 (rd x5_2 x8_3)) ∧ w'.cell? (ad480.add ((rd x5_2 x8_3)).toNat) = some (.slice A490_0 (rd_L2 l0_0 (rd x5_2 x8_3)).length c490_0)) (ds := []) (mk_ 11 0) (by kernel_rfl) rfl rfl ⟨(blk_cell BK475.out 0).trans rfl, hx489_0, hx490_0⟩ (fun hHeld => ?_); refine with_tabW spec_IsGrowing.tab12 spec_IsGrowing.bits12 (fun HT_ HW_ => ?_)
                  generalize wr.drew = w55 at HO_5 HO_7 HO_476000 BK475 HB HL490_0 HR490_0 hx489_0 hx490_0 hHeld ⊢
                  refine pv_ 0 64 (mk_ 11 1) rfl rfl HT_.out (by kernel_rfl) (fun _ _ _ h => h) (by rfl) (by intro w'; go_simp; with_reducible rfl) (by simp only [Act.put, mD, mE, mF, i64_w, i32_w]; rfl) ?_; refine pv_ 1 65 (mk_ 11 3) rfl rfl HT_.out (by kernel_rfl) (fun _ _ _ h => h) (by rfl) (by intro w'; go_simp; with_reducible rfl) (by simp only [Act.put, mD, mE, mF, i64_w, i32_w]; rfl) ?_; refine pv_ 3 67 (mk_ 11 11) rfl rfl HT_.out (by kernel_rfl) (fun _ _ _ h => h) (by rfl) (by intro w'; go_simp; with_reducible rfl) (by simp only [Act.put, mD, mE, mF, i64_w, i32_w]; rfl) ?_; refine pv_ 4 68 (mk_ 11 27) rfl rfl HT_.out (by kernel_rfl) (fun _ _ _ h => h) (by rfl) (by intro w'; go_simp; with_reducible rfl) (by simp only [Act.put, mD, mE, mF, i64_w, i32_w]; rfl) ?_; refine pv_ 5 69 (mk_ 11 59) rfl rfl HT_.out (by kernel_rfl) (fun _ _ _ h => h) (by rfl) (by intro w'; go_simp; with_reducible rfl) (by simp only [Act.put, mD, mE, mF, i64_w, i32_w]; rfl) ?_; refine take_ (i := 2) (N := some 66) (mk_ 11 63) rfl rfl (take_ofW HT_.out HW_.out (by kernel_rfl)) (fun _ _ _ h => h) (Or.inl ⟨by rfl, by rintro w' ⟨s0, s1, s2⟩; go_simp; with_reducible rfl⟩) hHeld (by simp only [Act.put, mD, mE, mF, i64_w, i32_w]; rfl) ?_; refine take_ (i := 6) (N := some 70) (mk_ 11 127) rfl rfl (take_ofW HT_.out HW_.out (by kernel_rfl)) (fun _ _ _ h => h) (Or.inl ⟨by rfl, by rintro w' ⟨s0, s1, s2⟩; go_simp; with_reducible rfl⟩) hHeld (by simp only [Act.put, mD, mE, mF, i64_w, i32_w]; rfl) ?_; refine pv_ 7 71 (mk_ 11 255) rfl rfl HT_.out (by kernel_rfl) (fun _ _ _ h => h) (by rfl) (by intro w'; go_simp; with_reducible rfl) (by simp only [Act.put, mD, mE, mF, i64_w, i32_w]; rfl) ?_; refine take_ (i := 8) (N := some 72) (mk_ 11 511) rfl rfl (take_ofW HT_.out HW_.out (by kernel_rfl)) (fun _ _ _ h => h) (Or.inl ⟨by rfl, by rintro w' ⟨s0, s1, s2⟩; go_simp; with_reducible rfl⟩) hHeld (by simp only [Act.put, mD, mE, mF, i64_w, i32_w]; rfl) ?_; refine pv_ 9 73 (mk_ 11 1023) rfl rfl HT_.out (by kernel_rfl) (fun _ _ _ h => h) (by rfl) (by intro w'; go_simp; with_reducible rfl) (by simp only [Act.put, mD, mE, mF, i64_w, i32_w]; rfl) ?_; refine pv_ 10 74 (mk_ 11 2047) rfl rfl HT_.out (by kernel_rfl) (fun _ _ _ h => h) (by rfl) (by intro w'; go_simp; with_reducible rfl) (by simp only [Act.put, mD, mE, mF, i64_w, i32_w]; rfl) ?_; refine done_ (done_of HT_.out (by kernel_rfl)) ?_
                  try go_wp2
                  go_roundg k4
                  case measure => have := HJ2.out; have := HK2.out; have := HK3.out; have := HK4.out; omega
                  case rel => exact ⟨(x7_4), (wrap64 (x8_3 + 1)), (by rfl), H', ⟨by have := HJ2.out; have := HK2.out; have := HK3.out; have := HK4.out; omega⟩, ⟨HO_5.out⟩, ⟨HO_7.out⟩, ⟨HO_476000.out⟩, ⟨BK475.out⟩, ⟨HB.out⟩⟩
                 rw [if_neg c41] at H
                 cases H
                rw [if_neg c40] at H
                cases H
               rw [if_neg c39] at H
               cases H
              rw [if_neg c38] at H
              cases H
           rw [if_neg c36] at H; have c36b0 := decide_eq_false c36; clear c36
           have H' := A_ H
           clear H; obtain ⟨Ao56, co56, eo56⟩ := Kd.V_slice HO_5.out; subst eo56
           go_wp2
           go_roundg k3
           case measure => have := HJ2.out; have := HK2.out; have := HK3.out; omega
           case rel => exact ⟨(x7_3), (wrap64 (x6_2 + 1)), (by rfl), H', ⟨by have := HJ2.out; have := HK2.out; have := HK3.out; omega⟩, ⟨Kd.V_mono (Kd.R_V (by exact (Kd.R_types HO_7.out BK475.out (by decide)))) (fun k_ hk => by first | exact ⟨(.inr (hk.1)), hk.2⟩ | exact (.inr (hk)))⟩, ⟨by exact Kd.V_mono HO_476000.out (fun _ hk => ⟨hk.1, hk.2.2⟩)⟩, ⟨BK475.out⟩, ⟨HB.out⟩⟩
        rw [if_neg c32] at H; have c32b0 := decide_eq_false c32; clear c32; obtain rfl := Option.some.inj H; have hcz57_0 := bz0 BK475.out; obtain ⟨Ao58, co58, eo58⟩ := Kd.V_slice HO_5.out; subst eo58
        go_wp2
        go_ret
        exact ⟨by rfl, HB.out⟩
     rw [if_neg c29] at H
     cases H
    rw [if_neg c28] at H
    cases H
   rw [if_neg c27] at H
   cases H
mutual
def spec_FixedPrefix.j0 : Nat → Int → Int → Bool → List (List Int) → Option (List Int × Bool)
 | 0, _, _, _, _ => none
 | k + 1, x1, x2, x18, x502000 => if x18 = true then (some ((([] : List Int)), false)) else ((some (([] : List Int) : List Int)).bind fun y507 => (if 0 ≤ x1 then (if x1 < (x502000.length : Int) then (if y507.length + (rd_L2 x502000 x1).length < 17592186044416 then (spec_FixedPrefix.l0 k x2 (y507 ++ (rd_L2 x502000 x1)) 1 x502000) else (none)) else (none)) else (none)))
def spec_FixedPrefix.l0 : Nat → Int → List Int → Int → List (List Int) → Option (List Int × Bool)
 | 0, _, _, _, _ => none
 | k + 1, x2, x8, x9, x502000 => if x9 < x2 then (if (x8.length : Int) < x2 then (if 0 ≤ x9 then (if x9 < (x8.length : Int) then (if 0 ≤ (rd x8 x9) then (if (rd x8 x9) < (x502000.length : Int) then (if x8.length + (rd_L2 x502000 (rd x8 x9)).length < 17592186044416 then (spec_FixedPrefix.l0 k x2 (x8 ++ (rd_L2 x502000 (rd x8 x9))) (wrap64 (x9 + 1)) x502000) else (none)) else (none)) else (none)) else (none)) else (none)) else (if 0 ≤ x2 then (if x2 ≤ (x8.length : Int) then (some ((x8.take (x2 : Int).toNat), true)) else (none)) else (none))) else (if (x8.length : Int) < x2 then (some ((([] : List Int)), false)) else (if 0 ≤ x2 then (if x2 ≤ (x8.length : Int) then (some ((x8.take (x2 : Int).toNat), true)) else (none)) else (none)))
end
def spec_FixedPrefix.f (k : Nat) (l0_0 : List (List Int)) (a1 : Int) (a2 : Int) : Option (List Int × Bool) := (spec_IsGrowing.f k l0_0 a1).bind fun t502 => (if t502 = true then ((spec_l1In.f a2 0 256).bind fun t503 => (spec_FixedPrefix.j0 k a1 a2 (!t503) l0_0)) else (spec_FixedPrefix.j0 k a1 a2 true l0_0))
def spec_FixedPrefix.T7 : Bool × List (List Nat × List Nat) := (true, [([], []), ([], []), ([1], [1]), ([], []), ([], []), ([3, 4], [3, 4]), ([5], [5]), ([2, 6], [2, 6]), ([7], [7]), ([0, 8], [0, 8]), ([9, 9, 0, 1, 2, 3, 4, 5, 6, 7, 8, 9], [0, 3, 9])])
def spec_FixedPrefix.B7 : List Nat := [0, 0, 2, 0, 0, 24, 56, 126, 254, 511, 1023]
theorem spec_FixedPrefix.tab7 : rtab .any (opsOf Tryz.f75 7) = spec_FixedPrefix.T7 := by kernel_rfl
theorem spec_FixedPrefix.bits7 : waitsOk spec_FixedPrefix.T7.2 spec_FixedPrefix.B7 = true := by kernel_rfl
theorem spec_FixedPrefix.calls (k : Nat) (A0_0 : Option Addr) (c0_0 : Nat) (l0_0 : List (List Int)) (a1 : Int) (a2 : Int) (r1 : List Int) (r2 : Bool) (w : World) (hr0_0 : Kd.C (Kd.slice 3 (Kd.int .i64)) w A0_0 l0_0.length l0_0) (hc0_0 : l0_0.length ≤ c0_0) (h : spec_FixedPrefix.f k l0_0 a1 a2 = some (r1, r2)) :
  Calls Tryz.prog 75 #[.agg #[.slice A0_0 l0_0.length c0_0], .int .i64 a1, .int .i64 a2] w fun e w' => ∃ v0_ : Value, e = .returned (.tuple #[v0_, .bool r2]) ∧ Kd.R (Kd.int .i64) 3 w' w.heap.size (fun _ => True) v0_ r1 ∧ Below w.heap.size w w' := by
 have HR0_0 := A_ hr0_0; have HC0_0 := A_ hc0_0; clear hr0_0 hc0_0; have HB := A_ (Below.refl w.heap.size w); unfold spec_FixedPrefix.f at h; have H := h; clear h; have HC4 := A_ H; clear H; go_enter Tryz.func75, Tryz.ntmps75
 go_upto_region 1 with (first | ((with_reducible refine gate_dst (N := 3) rfl ?_); (try (refine gate_guard (by rfl) ?_; dsimp only)); refine box_event ?hg (N := 3) ?hd (cs := #[.slice A0_0 l0_0.length c0_0]) (t := 80) ?hr ?_; (case hd | hg => rfl); (case hr => go_simp; done); intro gb501 hg w5 hbox hb; have BK501 := A_ (hbox); replace HB := bs_ HB hb; clear hb hbox hg))
 (try simp only [Act.put, mD, mE, mF])
 go_cut [18] (fun v18 wc => ∃ (kq : Nat) (x18_3 : Bool), v18 = .bool x18_3 ∧ Aside0 (spec_FixedPrefix.j0 kq a1 a2 x18_3 l0_0 = some (r1, r2)) ∧ Aside0 (kq ≤ k) ∧ Aside0 (wc.heap[gb501]? = some (.cells #[(.slice A0_0 l0_0.length c0_0)] 80 (0, 0))) ∧ Aside0 (Below w.heap.size w wc))
 case first =>
  have H := HC4.out; clear HC4; replace H := bA_ H; obtain ⟨t502, A6, H⟩ := H
  by_cases c7 : t502 = true
  ·subst c7; rw [if_pos rfl] at H; replace H := bA_ H; obtain ⟨t503, A8, H⟩ := H
   have H' := A_ H
   clear H; have hcz9_0 := bz0 BK501.out
   go_wp2_with (first | ((with_reducible refine gc_ 92 rfl ?_); refine cL_ E92 12 rfl rfl rfl (spec_IsGrowing.calls k (fun k_ => k_ < w.heap.size) _ _ l0_0 a1 true _ (Kd.V_mk HC0_0.out (Kd.F_below (Kd.C_F (Kd.heap_slice 3 (Kd.heap_int .i64)) HR0_0.out) HB.out)) A6.out) (by simp only [mA, mB, mC]; rfl) ?_; rintro e w10 ⟨rfl, hb⟩; refine ⟨_, rfl, ?_⟩; replace BK501 := bb_ BK501 hb; replace HB := bs_ HB hb; clear hb; (try clear hi)) | (go_at_call 36; (with_reducible refine (spec_l1In.calls a2 0 256 t503 _ A8.out).mono ?_); rintro e w' ⟨rfl, ⟨nd, rfl⟩⟩))
   go_meet
   case rel => exact ⟨_, (!t503), (by rfl), H', ⟨by omega⟩, ⟨by (with_reducible repeat (first | refine blk_drewN ?_ _ | refine blk_drew ?_ | refine blk_alloc ?_ _)); exact BK501.out⟩, ⟨by repeat (first | (with_reducible first | exact HB.out | apply below_alloc | apply pw_below_drewN | apply below_drew1 | refine below_set ?_ GE501.out) | exact HB.out)⟩⟩
  replace c7 := Bool.eq_false_iff.mpr c7; subst c7; rw [if_neg nf_] at H
  have H' := A_ H
  clear H; have hcz11_0 := bz0 BK501.out
  go_wp2_with (first | ((with_reducible refine gc_ 92 rfl ?_); refine cL_ E92 12 rfl rfl rfl (spec_IsGrowing.calls k (fun k_ => k_ < w.heap.size) _ _ l0_0 a1 false _ (Kd.V_mk HC0_0.out (Kd.F_below (Kd.C_F (Kd.heap_slice 3 (Kd.heap_int .i64)) HR0_0.out) HB.out)) A6.out) (by simp only [mA, mB, mC]; rfl) ?_; rintro e w12 ⟨rfl, hb⟩; refine ⟨_, rfl, ?_⟩; replace BK501 := bb_ BK501 hb; replace HB := bs_ HB hb; clear hb; (try clear hi)))
  go_meet
  case rel => exact ⟨_, (true), (by rfl), H', ⟨by omega⟩, ⟨BK501.out⟩, ⟨HB.out⟩⟩
 case rest =>
  clear HC4; obtain ⟨kq, x18_3, rfl, HA, HJ3, BK501, HB⟩ := hcut
  cases kq with
  | zero => exact absurd HA.out (by simp [spec_FixedPrefix.j0])
  | succ kj3 =>
   have H := HA.out; clear HA; simp only [spec_FixedPrefix.j0] at H
   by_cases c13 : x18_3 = true
   ·subst c13; rw [if_pos rfl] at H; obtain ⟨y504, hy504⟩ := ex_ ((([] : List Int)) : List Int); replace H : (some (y504, false)) = some (r1, r2) := by (rw [hy504]; with_reducible exact H)
    have Ny504 := A_ hy504; clear hy504; simp only [Option.some.injEq, Prod.mk.injEq] at H; obtain ⟨rfl, rfl⟩ := H
    go_wp2_with (first | ((with_reducible refine gate_dst (N := 19) rfl ?_); (try (refine gate_guard (by rfl) ?_; dsimp only)); refine Kd.R_lit (Kd.int .i64) _ 3 ?hg (N := 19) ?hd (xs := ([] : List Int)) (inner := []) (ok := fun _ => True) (okp := fun _ => True) ?hr ?hp (fun _ hk => hk) trivial (Below.refl _ _) (Nat.le_refl _) (by simp) ?_; (case hd | hg => rfl); (case hr => go_simp; done); (case hp => exact (Reps.none _ _)); rintro v505 w14 ho15 hb - -; (rw [← Ny504.out] at ho15); have HO506 := A_ (Kd.R_lower ho15 (below_size HB.out)); replace BK501 := bb_ BK501 hb; replace HB := bs_ HB hb; clear hb ho15))
    go_ret2
    exact ⟨_, by rfl, HO506.out, HB.out⟩
   replace c13 := Bool.eq_false_iff.mpr c13; subst c13; rw [if_neg nf_] at H; obtain ⟨y507, hy507⟩ := ex_ ((([] : List Int)) : List Int); replace H : (if 0 ≤ a1 then (if a1 < (l0_0.length : Int) then (if y507.length + (rd_L2 l0_0 a1).length < 17592186044416 then (spec_FixedPrefix.l0 kj3 a2 (y507 ++ (rd_L2 l0_0 a1)) 1 l0_0) else (none)) else (none)) else (none)) = some (r1, r2) := by (have H2_ := (Option.bind_some _ _).symm.trans H; rw [hy507]; with_reducible exact H2_)
   have Ny507 := A_ hy507; clear hy507
   by_cases c16 : 0 ≤ a1
   ·rw [if_pos c16] at H; have c16b0 := decide_eq_true c16; clear c16
    by_cases c17 : a1 < (l0_0.length : Int)
    ·rw [if_pos c17] at H; have c17b0 := decide_eq_true c17; clear c17
     by_cases c18 : y507.length + (rd_L2 l0_0 a1).length < 17592186044416
     ·rw [if_pos c18] at H; have LMc18 := A_ c18; clear c18; obtain ⟨y511, hy511⟩ := ex_ ((y507 ++ (rd_L2 l0_0 a1)) : List Int); replace H : (spec_FixedPrefix.l0 kj3 a2 y511 1 l0_0) = some (r1, r2) := by (rw [hy511]; with_reducible exact H)
      have Ny511 := A_ hy511; clear hy511
      have H' := A_ H
      clear H
      go_wp2_with (first | ((with_reducible refine gate_dst (N := 20) rfl ?_); (try (refine gate_guard (by rfl) ?_; dsimp only)); refine Kd.R_lit (Kd.int .i64) _ 3 ?hg (N := 20) ?hd (xs := ([] : List Int)) (inner := []) (ok := fun _ => True) (okp := fun _ => True) ?hr ?hp (fun _ hk => hk) trivial (Below.refl _ _) (Nat.le_refl _) (by simp) ?_; (case hd | hg => rfl); (case hr => go_simp; done); (case hp => exact (Reps.none _ _)); rintro v508 w19 ho20 hb - -; (rw [← Ny507.out] at ho20); have HO509 := A_ (Kd.R_lower ho20 (below_size HB.out)); replace BK501 := bb_ BK501 hb; replace HB := bs_ HB hb; clear hb ho20; have hcz21_0 := bz0 BK501.out; have p510 : 0 ≤ (a1 : Int) := od_ (by assumption); have q510 : a1 < (l0_0.length : Int) := od_ (by assumption); obtain ⟨ad510, A510_0, c510_0, e510, hx510_0, hl510_0, hi510_0⟩ := at_L2 HR0_0.out a1 p510 q510; cases e510; replace hx510_0 := (HB.out.cell (World.block_lt_of_cell? w _ hx510_0)).trans hx510_0; have HR510_0 := A_ hi510_0; clear hi510_0 hl510_0; replace p510 := eq_true p510; replace q510 := eq_true q510) | ((with_reducible refine gate_builtin (b := .append) (xs := #[.tmp 20, .tmp 25]) rfl ?_); (try (refine gate_guard (by rfl) ?_; dsimp only)); at_builtin; refine Kd.R_append_rows (Kd.int .i64) (w0 := w) w.heap.size rfl (.tmp 20) (.tmp 25) 24 3 (.int .i64 0) 8 rfl Tryz.underlying24 info3 rfl (by decide) (by omega) v508 y507 (rd_L2 l0_0 a1) _ _ _ (fun _ => True) (fun _ => False) rfl rfl ?aO ?aR (fun _ _ h => h) (fun _ h => h.elim) ?aF ?aB ?aS ?aL ?_; (case aR => exact (Kd.C_below HR510_0.out HB.out)); (case aB => exact HB.out); (case aF => exact (fun _ _ => trivial)); (case aO => exact HO509.out); (case aS => exact (below_size HB.out)); (case aL => have := LMc18.out; omega); intro v512 w22 ho hb hg hat; rw [← Ny511.out] at ho; replace BK501 := A_ (blk_grown (g := gb501) (o := .cells #[.slice (some ad510) l0_0.length c0_0] 80 (0, 0)) BK501.out hg (Kd.R_ne HO509.out BK501.out (by decide))); replace HB := A_ (hb); have HO513 := A_ (ho); clear HO509; clear ho hb hg hat))
      go_loopg [8, 9] kj3 (fun kq v8 v9 w' => ∃ (x8_2 : List Int) (x9_2 : Int), v9 = .int .i64 x9_2 ∧ Aside0 (spec_FixedPrefix.l0 kq a2 x8_2 x9_2 l0_0 = some (r1, r2)) ∧ Aside0 (kq ≤ kj3) ∧ Aside0 (Kd.R (Kd.int .i64) 3 w' w.heap.size (fun _ => True) v8 x8_2) ∧ Aside0 (w'.heap[gb501]? = some (.cells #[(.slice (some ad510) l0_0.length c0_0)] 80 (0, 0))) ∧ Aside0 (Below w.heap.size w w'))
      case atStart => exact ⟨(y511), (1), (by rfl), H', ⟨Nat.le_refl _⟩, ⟨HO513.out⟩, ⟨BK501.out⟩, ⟨HB.out⟩⟩
      case round =>
       clear H'
       try skip
       try skip
       try skip
       try skip
       try clear hx510_0
       try skip
       try skip
       obtain ⟨x8_2, x9_2, rfl, HA, HK2, HO_8, BK501, HB⟩ := hrel
       cases gk with
       | zero => exact absurd HA.out (by simp [spec_FixedPrefix.l0])
       | succ k2 =>
        have H := HA.out; clear HA; simp only [spec_FixedPrefix.l0] at H
        by_cases c23 : x9_2 < a2
        ·rw [if_pos c23] at H; have c23b0 := decide_eq_true c23; clear c23
         by_cases c24 : (x8_2.length : Int) < a2
         ·rw [if_pos c24] at H; have c24b0 := decide_eq_true c24; clear c24
          by_cases c25 : 0 ≤ x9_2
          ·rw [if_pos c25] at H; have c25b0 := decide_eq_true c25; clear c25
           by_cases c26 : x9_2 < (x8_2.length : Int)
           ·rw [if_pos c26] at H; have c26b0 := decide_eq_true c26; clear c26
            by_cases c27 : 0 ≤ (rd x8_2 x9_2)
            ·rw [if_pos c27] at H; have c27b0 := decide_eq_true c27; clear c27
             by_cases c28 : (rd x8_2 x9_2) < (l0_0.length : Int)
             ·rw [if_pos c28] at H; have c28b0 := decide_eq_true c28; clear c28
              by_cases c29 : x8_2.length + (rd_L2 l0_0 (rd x8_2 x9_2)).length < 17592186044416
              ·rw [if_pos c29] at H; have LMc29 := A_ c29; clear c29; obtain ⟨y516, hy516⟩ := ex_ ((x8_2 ++ (rd_L2 l0_0 (rd x8_2 x9_2))) : List Int); replace H : (spec_FixedPrefix.l0 k2 a2 y516 (wrap64 (x9_2 + 1)) l0_0) = some (r1, r2) := by (rw [hy516]; with_reducible exact H)
               have Ny516 := A_ hy516; clear hy516
               have H' := A_ H
               clear H; obtain ⟨Ao30, co30, eo30⟩ := Kd.R_slice HO_8.out; subst eo30
               try go_wp2
               have n0_ := A_ (Kd.R_drew HO_8.out); have n1_ := A_ (blk_drew BK501.out); have n2_ := A_ (below_drew1 HB.out); clear HO_8 BK501 HB; have HO_8 := n0_; have BK501 := n1_; have HB := n2_; clear n0_ n1_ n2_
               have p514 : 0 ≤ (x9_2 : Int) := od_ (by assumption)
               have q514 : x9_2 < (x8_2.length : Int) := od_ (by assumption)
               obtain ⟨ad514, e514, hx514_0⟩ := Kd.at_int (Kd.R_reads' HO_8.out).2.2 x9_2 p514 q514
               cases e514
               replace p514 := eq_true p514; replace q514 := eq_true q514
               have p515 : 0 ≤ ((rd x8_2 x9_2) : Int) := od_ (by assumption)
               have q515 : (rd x8_2 x9_2) < (l0_0.length : Int) := od_ (by assumption)
               obtain ⟨ad515, A515_0, c515_0, e515, hx515_0, hl515_0, hi515_0⟩ := at_L2 HR0_0.out (rd x8_2 x9_2) p515 q515; have hw515_0 := hx515_0; obtain rfl : ad510 = ad515 := (by injection e515); replace hx515_0 := (HB.out.cell (World.block_lt_of_cell? w _ hx515_0)).trans hx515_0; have HR515_0 := A_ hi515_0; clear hi515_0 hl515_0; replace p515 := eq_true p515; replace q515 := eq_true q515; refine start_ (n := 11) (S := fun w' => w'.cell? ⟨gb501, 0, none⟩ = some (.slice (some ad510) l0_0.length c0_0) ∧ w'.cell? (ad514.add (x9_2).toNat) = some (.int .i64 (rd x8_2 x9_2)) ∧ w'.cell? (ad510.add ((rd x8_2 x9_2)).toNat) = some (.slice A515_0 (rd_L2 l0_0 (rd x8_2 x9_2)).length c515_0)) (ds := [9]) (mk_ 11 0) (by kernel_rfl) rfl rfl ⟨(blk_cell BK501.out 0).trans rfl, hx514_0, ((HB.out.cell (World.block_lt_of_cell? w _ hw515_0)).trans hw515_0)⟩ (fun hHeld => ?_); refine with_tabW spec_FixedPrefix.tab7 spec_FixedPrefix.bits7 (fun HT_ HW_ => ?_)
               generalize wr.drew = w31 at HO_8 BK501 HB HR515_0 hx514_0 hx515_0 hHeld ⊢
               refine pv_ 0 38 (mk_ 11 1) rfl rfl HT_.out (by kernel_rfl) (fun _ _ _ h => h) (by rfl) (by intro w'; go_simp; with_reducible rfl) (by simp only [Act.put, mD, mE, mF, i64_w, i32_w]; rfl) ?_; refine pv_ 1 39 (mk_ 11 3) rfl rfl HT_.out (by kernel_rfl) (fun _ _ _ h => h) (by rfl) (by intro w'; go_simp; with_reducible rfl) (by simp only [Act.put, mD, mE, mF, i64_w, i32_w]; rfl) ?_; refine pv_ 3 41 (mk_ 11 11) rfl rfl HT_.out (by kernel_rfl) (fun _ _ _ h => h) (by rfl) (by intro w'; go_simp; with_reducible rfl) (by simp only [Act.put, mD, mE, mF, i64_w, i32_w]; rfl) ?_; refine pv_ 4 42 (mk_ 11 27) rfl rfl HT_.out (by kernel_rfl) (fun _ _ _ h => h) (by rfl) (by intro w'; go_simp; with_reducible rfl) (by simp only [Act.put, mD, mE, mF, i64_w, i32_w]; rfl) ?_; refine pv_ 5 43 (mk_ 11 59) rfl rfl HT_.out (by kernel_rfl) (fun _ _ _ h => h) (by rfl) (by intro w'; go_simp; with_reducible rfl) (by simp only [Act.put, mD, mE, mF, i64_w, i32_w]; rfl) ?_; refine take_ (i := 2) (N := some 40) (mk_ 11 63) rfl rfl (take_ofW HT_.out HW_.out (by kernel_rfl)) (fun _ _ _ h => h) (Or.inl ⟨by rfl, by rintro w' ⟨s0, s1, s2⟩; go_simp; with_reducible rfl⟩) hHeld (by simp only [Act.put, mD, mE, mF, i64_w, i32_w]; rfl) ?_; refine take_ (i := 6) (N := some 44) (mk_ 11 127) rfl rfl (take_ofW HT_.out HW_.out (by kernel_rfl)) (fun _ _ _ h => h) (Or.inl ⟨by rfl, by rintro w' ⟨s0, s1, s2⟩; go_simp; with_reducible rfl⟩) hHeld (by simp only [Act.put, mD, mE, mF, i64_w, i32_w]; rfl) ?_; refine pv_ 7 45 (mk_ 11 255) rfl rfl HT_.out (by kernel_rfl) (fun _ _ _ h => h) (by rfl) (by intro w'; go_simp; with_reducible rfl) (by simp only [Act.put, mD, mE, mF, i64_w, i32_w]; rfl) ?_; refine take_ (i := 8) (N := some 46) (mk_ 11 511) rfl rfl (take_ofW HT_.out HW_.out (by kernel_rfl)) (fun _ _ _ h => h) (Or.inl ⟨by rfl, by rintro w' ⟨s0, s1, s2⟩; go_simp; with_reducible rfl⟩) hHeld (by simp only [Act.put, mD, mE, mF, i64_w, i32_w]; rfl) ?_; refine last_ (i := 9) (N := some 47) (mk_ 11 1023) rfl rfl (one_of HT_.out (by kernel_rfl)) (by decide) (fun K hK => ?_); refine Kd.R_append_rows_step (Kd.int .i64) (w0 := w) w.heap.size (by rfl) (.tmp 38) (.tmp 46) 24 3 (.int .i64 0) 8 rfl Tryz.underlying24 info3 rfl (by decide) (by omega) (.slice (some ad514) x8_2.length co30) x8_2 (rd_L2 l0_0 (rd x8_2 x9_2)) _ _ _ (fun _ => True) (fun _ => False) rfl rfl ?aO ?aR (fun _ _ h => h) (fun _ h => h.elim) ?aF ?aB ?aS ?aL ?_
               (case aR => exact (Kd.C_below HR515_0.out HB.out))
               (case aB => exact HB.out)
               (case aF => exact (fun _ _ => trivial))
               (case aO => exact HO_8.out)
               (case aS => exact (below_size HB.out))
               (case aL => have := LMc29.out; omega)
               intro v517 w32 ho hb hg hat; rw [← Ny516.out] at ho; have n0_ := A_ (blk_grown (g := gb501) (o := .cells #[.slice (some ad510) l0_0.length c0_0] 80 (0, 0)) BK501.out hg (Kd.R_ne HO_8.out BK501.out (by decide))); have n1_ := A_ (hb); have n2_ := A_ (ho); clear BK501 HB HO_8; have BK501 := n0_; have HB := n1_; have HO518 := n2_; clear n0_ n1_ n2_ ho hb hg hat; refine hK.out _ _ ?_; clear hK K; refine norm_ (by show Act.put _ (some 47) _ = _; simp only [Act.put, mD, mE, mF, i64_w, i32_w]; rfl) ?_; refine pv_ 10 8 (mk_ 11 2047) rfl rfl HT_.out (by kernel_rfl) (fun _ _ _ h => h) (by rfl) (by intro w'; go_simp; with_reducible rfl) (by simp only [Act.put, mD, mE, mF, i64_w, i32_w]; rfl) ?_; refine done_ (done_of HT_.out (by kernel_rfl)) ?_
               try go_wp2
               go_roundg k2
               case measure => have := HJ3.out; have := HK2.out; omega
               case rel => exact ⟨(y516), (wrap64 (x9_2 + 1)), (by rfl), H', ⟨by have := HJ3.out; have := HK2.out; omega⟩, ⟨HO518.out⟩, ⟨BK501.out⟩, ⟨HB.out⟩⟩
              rw [if_neg c29] at H
              cases H
             rw [if_neg c28] at H
             cases H
            rw [if_neg c27] at H
            cases H
           rw [if_neg c26] at H
           cases H
          rw [if_neg c25] at H
          cases H
         rw [if_neg c24] at H; have c24b0 := decide_eq_false c24; clear c24
         by_cases c33 : 0 ≤ a2
         ·rw [if_pos c33] at H; have c33b0 := eq_true c33; have c33b1 := decide_eq_true c33; clear c33
          by_cases c34 : a2 ≤ (x8_2.length : Int)
          ·rw [if_pos c34] at H; have c34b1 := decide_eq_true c34; clear c34; obtain ⟨y519, hy519⟩ := ex_ ((x8_2.take (a2 : Int).toNat) : List Int); replace H : (some (y519, true)) = some (r1, r2) := by (rw [hy519]; with_reducible exact H)
           have Ny519 := A_ hy519; clear hy519; simp only [Option.some.injEq, Prod.mk.injEq] at H; obtain ⟨rfl, rfl⟩ := H; obtain ⟨Ao35, co35, eo35⟩ := Kd.R_slice HO_8.out; subst eo35
           have q36 : (a2 : Int) ≤ ((x8_2.length : Int) : Int) := od_ (by assumption)
           obtain ⟨i036, hi036, _, hsz36, _⟩ := info_parts info3; have hcut36 := cut_to (P := Tryz.prog) 24 3 .i64 Tryz.underlying24 hi036 Ao35 x8_2.length co35 a2 (od_ (by assumption)) q36 (Kd.R_reads' HO_8.out).2.1; have hr36 := Kd.R_take (m := (a2 : Int).toNat) HO_8.out (by omega)
           have hy36 : y519.length = (a2 : Int).toNat := (by rw [Ny519.out, List.length_take]; omega)
           rw [← Ny519.out] at hr36; rw [← hy36] at hr36 hcut36; clear hy36 hi036 hsz36 HO_8; have HO521 := A_ hr36; clear hr36; replace q36 := eq_true q36
           go_wp2
           go_ret2
           exact ⟨_, by rfl, HO521.out, HB.out⟩
          rw [if_neg c34] at H
          cases H
         rw [if_neg c33] at H
         cases H
        rw [if_neg c23] at H; have c23b0 := decide_eq_false c23; clear c23
        by_cases c37 : (x8_2.length : Int) < a2
        ·rw [if_pos c37] at H; have c37b0 := decide_eq_true c37; clear c37; obtain ⟨y522, hy522⟩ := ex_ ((([] : List Int)) : List Int); replace H : (some (y522, false)) = some (r1, r2) := by (rw [hy522]; with_reducible exact H)
         have Ny522 := A_ hy522; clear hy522; simp only [Option.some.injEq, Prod.mk.injEq] at H; obtain ⟨rfl, rfl⟩ := H; obtain ⟨Ao38, co38, eo38⟩ := Kd.R_slice HO_8.out; subst eo38
         go_wp2_with (first | ((with_reducible refine gate_dst (N := 52) rfl ?_); (try (refine gate_guard (by rfl) ?_; dsimp only)); refine Kd.R_lit (Kd.int .i64) _ 3 ?hg (N := 52) ?hd (xs := ([] : List Int)) (inner := []) (ok := fun _ => True) (okp := fun _ => True) ?hr ?hp (fun _ hk => hk) trivial (Below.refl _ _) (Nat.le_refl _) (by simp) ?_; (case hd | hg => rfl); (case hr => go_simp; done); (case hp => exact (Reps.none _ _)); rintro v523 w39 ho40 hb - -; (rw [← Ny522.out] at ho40); have HO524 := A_ (Kd.R_lower (Kd.R_new' ho40 (Kd.R_lt HO_8.out)) (below_size HB.out)); replace HO_8 := A_ (Kd.R_elder' HO_8.out (Kd.R_base ho40) hb); replace BK501 := bb_ BK501 hb; replace HB := bs_ HB hb; clear hb ho40))
         go_ret2
         exact ⟨_, by rfl, by exact Kd.R_mono HO524.out (fun _ hk => trivial), HB.out⟩
        rw [if_neg c37] at H; have c37b0 := decide_eq_false c37; clear c37
        by_cases c41 : 0 ≤ a2
        ·rw [if_pos c41] at H; have c41b0 := eq_true c41; have c41b1 := decide_eq_true c41; clear c41
         by_cases c42 : a2 ≤ (x8_2.length : Int)
         ·rw [if_pos c42] at H; have c42b1 := decide_eq_true c42; clear c42; obtain ⟨y525, hy525⟩ := ex_ ((x8_2.take (a2 : Int).toNat) : List Int); replace H : (some (y525, true)) = some (r1, r2) := by (rw [hy525]; with_reducible exact H)
          have Ny525 := A_ hy525; clear hy525; simp only [Option.some.injEq, Prod.mk.injEq] at H; obtain ⟨rfl, rfl⟩ := H; obtain ⟨Ao43, co43, eo43⟩ := Kd.R_slice HO_8.out; subst eo43
          have q44 : (a2 : Int) ≤ ((x8_2.length : Int) : Int) := od_ (by assumption)
          obtain ⟨i044, hi044, _, hsz44, _⟩ := info_parts info3; have hcut44 := cut_to (P := Tryz.prog) 24 3 .i64 Tryz.underlying24 hi044 Ao43 x8_2.length co43 a2 (od_ (by assumption)) q44 (Kd.R_reads' HO_8.out).2.1; have hr44 := Kd.R_take (m := (a2 : Int).toNat) HO_8.out (by omega)
          have hy44 : y525.length = (a2 : Int).toNat := (by rw [Ny525.out, List.length_take]; omega)
          rw [← Ny525.out] at hr44; rw [← hy44] at hr44 hcut44; clear hy44 hi044 hsz44 HO_8; have HO527 := A_ hr44; clear hr44; replace q44 := eq_true q44
          go_wp2
          go_ret2
          exact ⟨_, by rfl, HO527.out, HB.out⟩
         rw [if_neg c42] at H
         cases H
        rw [if_neg c41] at H
        cases H
     rw [if_neg c18] at H
     cases H
    rw [if_neg c17] at H
    cases H
   rw [if_neg c16] at H
   cases H

def spec_l7Word.l0 : Nat → Int → List Int → Int → List Int → Int → Int → Option (List Int × Int × Int)
 | 0, _, _, _, _, _, _ => none
 | k + 1, x1, x5, x6, x1000, x1001, x1002 => if x6 > 0 then ((spec_l1Below.f x1000 x1001 x1002 x1).bind fun bt534 => (if x5.length < 17592186044416 then (spec_l7Word.l0 k x1 (x5 ++ [bt534.1]) (wrap64 (x6 - 1)) x1000 bt534.2.1 bt534.2.2) else (none))) else (some (x5, x1001, x1002))
def spec_l7Word.f (k : Nat) (s0_0 : List Int) (s0_1 : Int) (s0_2 : Int) (a1 : Int) : Option (List Int × Int × Int) := (spec_l1Below.f s0_0 s0_1 s0_2 12).bind fun bt531 => (spec_l7Word.l0 k a1 (([] : List Int)) bt531.1 s0_0 bt531.2.1 bt531.2.2)
theorem spec_l7Word.calls (k : Nat) (g : Nat) (s0_0 : List Int) (s0_1 : Int) (s0_2 : Int) (a1 : Int) (r1 : List Int) (r2 : Int) (r3 : Int) (w0 w : World) (hI : IsS57 w0 w g s0_0 s0_1 s0_2) (hB : Below w0.heap.size w0 w) (h : spec_l7Word.f k s0_0 s0_1 s0_2 a1 = some (r1, r2, r3)) :
  Calls Tryz.prog 76 #[.pointer (some ⟨g, 0, none⟩), .int .i64 a1] w fun e w' => ∃ v0_ : Value, e = .returned (v0_) ∧ Kd.R (Kd.int .i64) 3 w' w.heap.size (fun _ => True) v0_ r1 ∧ IsS57 w0 w' g s0_0 r2 r3 ∧ Below w0.heap.size w0 w' ∧ KeepBut w w' g none := by
 have HI0 := A_ hI; have HK := A_ (KeepBut.refl w g none); have HL := A_ hB.size; clear hI; have HB := A_ hB; clear hB; unfold spec_l7Word.f at h; have H := h; clear h; obtain ⟨y528, hy528⟩ := ex_ ((([] : List Int)) : List Int); replace H : ((spec_l1Below.f s0_0 s0_1 s0_2 12).bind fun bt531 => (spec_l7Word.l0 k a1 y528 bt531.1 s0_0 bt531.2.1 bt531.2.2)) = some (r1, r2, r3) := by (rw [hy528]; with_reducible exact H)
 have Ny528 := A_ hy528; clear hy528; replace H := bA_ H; obtain ⟨⟨t531, t532, t533⟩, A3, H⟩ := H; dsimp only at H
 have H' := A_ H
 clear H; go_enter Tryz.func76, Tryz.ntmps76
 go_wp2_with (first | ((with_reducible refine gd_ 7 rfl ?_); refine RL_ 7 3 [] [] rfl rfl (by go_simp; done) rfl rfl ?_; rintro v529 w4 ho5 hb - -; (rw [← Ny528.out] at ho5); have HO530 := A_ (Kd.R_lower ho5 (keep_size HK.out)); replace HI0 := A_ (IsS57.below HI0.out hb); replace HK := kb_ HK hb; replace HB := bs_ HB hb; clear hb ho5) | ((with_reducible refine gc_ 33 rfl ?_); refine cL_ E33 9 rfl rfl rfl (spec_l1Below.calls g s0_0 s0_1 s0_2 12 t531 t532 t533 w0 _ HI0.out HB.out A3.out) (by simp only [mA, mB, mC]; rfl) ?_; rintro e w6 ⟨rfl, hi, hb, hk⟩; refine ⟨_, rfl, ?_⟩; replace HO530 := A_ (Kd.R_mono (Kd.R_keep (IsS57.apart HI0.out HO530.out (by decide)) hk (fun _ h => h.2)) (fun _ h => h.1)); replace HK := kt_ HK hk; replace HB := A_ (hb); replace HI0 := A_ (hi); clear hb hk; (try clear hi)))
 go_loopg [5, 6] k (fun kq v5 v6 w' => ∃ (x5_1 : List Int) (x6_1 : Int) (x1001_1 : Int) (x1002_1 : Int), v6 = .int .i64 x6_1 ∧ Aside0 (spec_l7Word.l0 kq a1 x5_1 x6_1 s0_0 x1001_1 x1002_1 = some (r1, r2, r3)) ∧ Aside0 (kq ≤ k) ∧ Aside0 (Kd.R (Kd.int .i64) 3 w' w.heap.size (fun _ => True) v5 x5_1) ∧ Aside0 (IsS57 w0 w' g s0_0 x1001_1 x1002_1) ∧ Aside0 (KeepBut w w' g none) ∧ Aside0 (Below w0.heap.size w0 w'))
 case atStart => exact ⟨(y528), (t531), (t532), (t533), (by rfl), H', ⟨Nat.le_refl _⟩, ⟨HO530.out⟩, ⟨HI0.out⟩, ⟨HK.out⟩, ⟨HB.out⟩⟩
 case round =>
  clear H'; obtain ⟨x5_1, x6_1, x1001_1, x1002_1, rfl, HA, HK1, HO_5, HI0, HK, HB⟩ := hrel
  cases gk with
  | zero => exact absurd HA.out (by simp [spec_l7Word.l0])
  | succ k1 =>
   have H := HA.out; clear HA; simp only [spec_l7Word.l0] at H
   by_cases c7 : x6_1 > 0
   ·rw [if_pos c7] at H
    have c7b0 : decide (0 < x6_1) = true := decide_eq_true c7
    clear c7; replace H := bA_ H; obtain ⟨⟨t534, t535, t536⟩, A8, H⟩ := H; dsimp only at H
    by_cases c9 : x5_1.length < 17592186044416
    ·rw [if_pos c9] at H; have LMc9 := A_ c9; clear c9; obtain ⟨y537, hy537⟩ := ex_ ((x5_1 ++ [t534]) : List Int); replace H : (spec_l7Word.l0 k1 a1 y537 (wrap64 (x6_1 - 1)) s0_0 t535 t536) = some (r1, r2, r3) := by (rw [hy537]; with_reducible exact H)
     have Ny537 := A_ hy537; clear hy537
     have H' := A_ H
     clear H
     go_wp2_with (first | ((with_reducible refine gc_ 33 rfl ?_); refine cL_ E33 17 rfl rfl rfl (spec_l1Below.calls g s0_0 x1001_1 x1002_1 a1 t534 t535 t536 w0 _ HI0.out HB.out A8.out) (by simp only [mA, mB, mC]; rfl) ?_; rintro e w10 ⟨rfl, hi, hb, hk⟩; refine ⟨_, rfl, ?_⟩; replace HO_5 := A_ (Kd.R_mono (Kd.R_keep (IsS57.apart HI0.out HO_5.out (by decide)) hk (fun _ h => h.2)) (fun _ h => h.1)); replace HK := kt_ HK hk; replace HB := A_ (hb); replace HI0 := A_ (hi); clear hb hk; (try clear hi)) | ((with_reducible refine gate_builtin (b := .append) (xs := #[.tmp 14, .tmp 18]) rfl ?_); at_builtin; refine Kd.R_append (Kd.int .i64) w.heap.size rfl (.tmp 14) (.tmp 18) 24 3 (.int .i64 0) 8 rfl Tryz.underlying24 info3 rfl (by decide) (by omega) u5 x5_1 t534 [.int .i64 t534] (fun _ => True) (fun _ => False) rfl rfl ?aP (fun _ hk => hk.elim) ?aF ?aO (Below.refl _ _) ?aS ?aL ?_; (case aP => exact rfl); (case aF => exact (fun _ _ => trivial)); (case aO => exact HO_5.out); (case aS => exact (keep_size HK.out)); (case aL => have := LMc9.out; omega); intro v538 w11 ho hb hg hat; rw [← Ny537.out] at ho; replace HI0 := A_ (IsS57.grown HI0.out hg (IsS57.own_ne HI0.out HO_5.out (by decide))); replace HB := A_ (below_weaken HB.out HL.out hb); replace HK := A_ (KeepBut.trans HK.out (KeepBut.of_grown hg g) (Kd.R_base2 HO_5.out)); have HO539 := A_ (ho); clear HO_5; clear ho hb hg hat))
     go_roundg k1
     case measure => have := HK1.out; omega
     case rel => exact ⟨(y537), (wrap64 (x6_1 - 1)), (t535), (t536), (by rfl), H', ⟨by have := HK1.out; omega⟩, ⟨HO539.out⟩, ⟨HI0.out⟩, ⟨HK.out⟩, ⟨HB.out⟩⟩
    rw [if_neg c9] at H
    cases H
   rw [if_neg c7] at H
   have c7b0 : decide (0 < x6_1) = false := decide_eq_false c7
   clear c7; simp only [Option.some.injEq, Prod.mk.injEq] at H; obtain ⟨rfl, rfl, rfl⟩ := H
   go_wp2
   go_ret
   exact ⟨_, by rfl, HO_5.out, HI0.out, HB.out, HK.out⟩
def spec_l8Long.f (k : Nat) (s0_0 : List Int) (s0_1 : Int) (s0_2 : Int) : Option (List Int × Int × Int) := (spec_l1Below.f s0_0 s0_1 s0_2 4).bind fun bt540 => (if bt540.1 = 0 then ((spec_l3Draw.f k s0_0 bt540.2.1 bt540.2.2).bind fun bt543 => ((spec_l1Below.f s0_0 bt543.2.2.2.1 bt543.2.2.2.2 40).bind fun bt553 => ((spec_PrefixOf.f k bt543.1 bt543.2.1 bt543.2.2.1 (wrap64 (10 + bt553.1))).bind fun t556 => (some (t556, bt553.2.1, bt553.2.2))))) else (if bt540.1 = 1 then ((spec_l7Morphism.f k s0_0 bt540.2.1 bt540.2.2).bind fun bt559 => ((spec_l1Below.f s0_0 bt559.2.1 bt559.2.2 40).bind fun bt565 => ((spec_FixedPrefix.f k bt559.1 0 (wrap64 (10 + bt565.1))).bind fun bt568 => (some (bt568.1, bt565.2.1, bt565.2.2))))) else (if bt540.1 = 2 then ((spec_l7Word.f k s0_0 bt540.2.1 bt540.2.2 2).bind fun bt572 => ((some (([] : List Int) : List Int)).bind fun y577 => (if y577.length + bt572.1.length < 17592186044416 then ((some (y577 ++ bt572.1 : List Int)).bind fun y580 => (if y580.length + bt572.1.length < 17592186044416 then ((some (y580 ++ bt572.1 : List Int)).bind fun y583 => (if y583.length + bt572.1.length < 17592186044416 then (some ((y583 ++ bt572.1), bt572.2.1, bt572.2.2)) else (none))) else (none))) else (none)))) else ((spec_l7Word.f k s0_0 bt540.2.1 bt540.2.2 3).bind fun bt589 => (some (bt589.1, bt589.2.1, bt589.2.2))))))
def spec_l8Long.T7 : Bool × List (List Nat × List Nat) := (true, [([], []), ([], []), ([1], [1]), ([2], [2]), ([0, 3, 2], [0, 3]), ([4], [4]), ([5], [5]), ([5], [5]), ([6, 4, 0, 1, 2, 3, 4, 5, 6], [6]), ([7, 8, 0, 1, 2, 3, 4, 5, 6, 7, 8], [7])])
def spec_l8Long.B7 : List Nat := [0, 0, 2, 6, 15, 31, 63, 63, 127, 511]
theorem spec_l8Long.tab7 : rtab .any (opsOf Tryz.f63 7) = spec_l8Long.T7 := by kernel_rfl
theorem spec_l8Long.bits7 : waitsOk spec_l8Long.T7.2 spec_l8Long.B7 = true := by kernel_rfl
theorem spec_l8Long.calls (k : Nat) (g : Nat) (s0_0 : List Int) (s0_1 : Int) (s0_2 : Int) (r1 : List Int) (r2 : Int) (r3 : Int) (w0 w : World) (hI : IsS57 w0 w g s0_0 s0_1 s0_2) (hB : Below w0.heap.size w0 w) (h : spec_l8Long.f k s0_0 s0_1 s0_2 = some (r1, r2, r3)) :
  Calls Tryz.prog 63 #[.pointer (some ⟨g, 0, none⟩)] w fun e w' => ∃ v0_ : Value, e = .returned (v0_) ∧ Kd.R (Kd.int .i64) 3 w' w.heap.size (fun _ => True) v0_ r1 ∧ IsS57 w0 w' g s0_0 r2 r3 ∧ Below w0.heap.size w0 w' ∧ KeepBut w w' g none := by
 have HI0 := A_ hI; have HK := A_ (KeepBut.refl w g none); have HL := A_ hB.size; clear hI; have HW0 := A_ hB.size; have HB := A_ hB; clear hB; unfold spec_l8Long.f at h; have H := h; clear h; replace H := bA_ H; obtain ⟨⟨t540, t541, t542⟩, A2, H⟩ := H; dsimp only at H
 by_cases c3 : t540 = 0
 ·rw [if_pos c3] at H
  have c3b0 : (t540 == 0) = true := beq_iff_eq.mpr c3
  clear c3; replace H := bA_ H; obtain ⟨⟨t543, t544, t547, t550, t551⟩, A4, H⟩ := H; dsimp only at H; replace H := bA_ H; obtain ⟨⟨t553, t554, t555⟩, A5, H⟩ := H; dsimp only at H; replace H := bA_ H; obtain ⟨t556, A6, H⟩ := H; simp only [Option.some.injEq, Prod.mk.injEq] at H; obtain ⟨rfl, rfl, rfl⟩ := H; go_enter Tryz.func63, Tryz.ntmps63
  try go_wp2_with (first | ((with_reducible refine gc_ 33 rfl ?_); refine cL_ E33 9 rfl rfl rfl (spec_l1Below.calls g s0_0 s0_1 s0_2 4 t540 t541 t542 w0 _ HI0.out HB.out A2.out) (by simp only [mA, mB, mC]; rfl) ?_; rintro e w7 ⟨rfl, hi, hb, hk⟩; refine ⟨_, rfl, ?_⟩; replace HK := kt_ HK hk; replace HB := A_ (hb); replace HI0 := A_ (hi); clear hb hk; (try clear hi)) | ((with_reducible refine gc_ 72 rfl ?_); refine cL_ E72 13 rfl rfl rfl (spec_l3Draw.calls k g s0_0 t541 t542 t543 t544 t547 t550 t551 w0 _ HI0.out HB.out A4.out) (by simp only [mA, mB, mC]; rfl) ?_; rintro e w8 ⟨v545, v548, rfl, ho0, ho1, hi, hb, hk⟩; refine ⟨_, rfl, ?_⟩; have HO546 := A_ (Kd.N_lower (Kd.N_mono (ok' := fun k_ => some k_ ≠ (v548 : Value).ownBlock ∧ k_ ≠ g) ho0 (fun k_ hk_ => ⟨hk_.2, (IsS57.fresh HI0.out k_ hk_.1)⟩)) (keep_size HK.out)); have HO549 := A_ (Kd.R_lower (Kd.R_mono (ok' := fun k_ => True) ho1 (fun _ hk_ => trivial)) (keep_size HK.out)); replace HK := kt_ HK hk; replace HB := A_ (hb); replace HI0 := A_ (hi); clear hb hk hi ho0; (try clear ho1)) | ((with_reducible refine gate_dst (N := 3) rfl ?_); refine box_event ?hg (N := 3) ?hd (cs := #[.int .i64 0, .slice none 0 0, .slice none 0 0]) (t := 76) ?hr ?_; (case hd | hg => rfl); (case hr => go_simp; done); intro gb552 hg w9 hbox hb; replace HO546 := A_ (Kd.N_below (Kd.N_elderB HO546.out gb552 (Nat.le_of_eq hg.symm)) hb); replace HO549 := A_ (Kd.R_below HO549.out hb); replace HB := bs_ HB hb; have BK552 := A_ (hbox); have GW552 := A_ (lg_ (keep_size HK.out) hg); have GE552 := A_ (Nat.le_trans HW0.out (lg_ (keep_size HK.out) hg)); replace HK := kb_ HK hb; have NB0_552 := A_ (ln_ (IsS57.lt HI0.out) hg); have NB552_0 := A_ (Ne.symm (ln_ (IsS57.lt HI0.out) hg)); replace HI0 := A_ (IsS57.below HI0.out hb); clear hb hbox hg; have hcz11_0 := bz0 BK552.out; have hcz11_1 := bz1 BK552.out; have hcz11_2 := bz2 BK552.out; have hfz11_0 := blk_frozen BK552.out 0; have hfz11_1 := blk_frozen BK552.out 1; have hfz11_2 := blk_frozen BK552.out 2; obtain ⟨Ao12, co12, eo12⟩ := Kd.N_slice HO546.out; subst eo12; obtain ⟨Ao13, co13, eo13⟩ := Kd.R_slice HO549.out; subst eo13))
  generalize h_ : (((w9.setCell ⟨gb552, 0, none⟩ (.int .i64 t543)).setCell ⟨gb552, 1, none⟩ (.slice Ao12 t544.length co12)).setCell ⟨gb552, 2, none⟩ (.slice Ao13 t547.length co13)) = w14
  replace HO546 : Aside0 (Kd.N (Kd.slice 3 (Kd.int .i64)) 24 w14 w.heap.size (fun k_ => some k_ ≠ (.slice Ao13 t547.length co13 : Value).ownBlock ∧ k_ ≠ g ∧ k_ ≠ gb552) (.slice Ao12 t544.length co12) t544) := ⟨by rw [← h_]; exact Kd.N_mono (Kd.N_far (p := ⟨gb552, 2, none⟩) (Kd.N_far (p := ⟨gb552, 1, none⟩) (Kd.N_far (p := ⟨gb552, 0, none⟩) (Kd.N_mono HO546.out (fun k_ hk => (⟨hk, hk.2⟩ : _ ∧ k_ ≠ gb552))) (fun _ hk => hk.2) (.int .i64 t543)) (fun _ hk => hk.2) (.slice Ao12 t544.length co12)) (fun _ hk => hk.2) (.slice Ao13 t547.length co13)) (fun _ hk => ⟨hk.1.1.1, ⟨hk.1.1.2, hk.1.2⟩⟩)⟩; replace HO549 : Aside0 (Kd.R (Kd.int .i64) 3 w14 w.heap.size (fun _ => True) (.slice Ao13 t547.length co13) t547) := ⟨by rw [← h_]; exact Kd.R_mono (Kd.R_far (p := ⟨gb552, 2, none⟩) (Kd.R_far (p := ⟨gb552, 1, none⟩) (Kd.R_far (p := ⟨gb552, 0, none⟩) (Kd.R_types HO549.out BK552.out (by decide)) (fun _ hk => hk.2) (.int .i64 t543)) (fun _ hk => hk.2) (.slice Ao12 t544.length co12)) (fun _ hk => hk.2) (.slice Ao13 t547.length co13)) (fun _ hk => trivial)⟩; replace BK552 : Aside0 (w14.heap[gb552]? = some (.cells #[.int .i64 t543, .slice Ao12 t544.length co12, .slice Ao13 t547.length co13] 76 (0, 0))) := ⟨by rw [← h_]; refine blk_put (cs := #[.int .i64 t543, .slice Ao12 t544.length co12, .slice none 0 0]) ?_ 2 _ rfl; refine blk_put (cs := #[.int .i64 t543, .slice none 0 0, .slice none 0 0]) ?_ 1 _ rfl; refine blk_put (cs := #[.int .i64 0, .slice none 0 0, .slice none 0 0]) ?_ 0 _ rfl; exact BK552.out⟩; replace HK : Aside0 (KeepBut w w14 g none) := ⟨by rw [← h_]; repeat (first | (with_reducible first | exact HK.out | apply KeepBut.set_ | apply keep_drewN | apply keep_drew | apply keep_alloc | refine keep_far ?_ GW552.out _) | exact HK.out)⟩; replace HB : Aside0 (Below w0.heap.size w0 w14) := ⟨by rw [← h_]; repeat (first | (with_reducible first | exact HB.out | apply below_alloc | apply pw_below_drewN | apply below_drew1 | refine below_set ?_ (IsS57.ge HI0.out) | refine below_set ?_ GE552.out) | exact HB.out)⟩; replace HI0 : Aside0 (IsS57 w0 w14 g s0_0 t550 t551) := ⟨by rw [← h_]; repeat (first | (with_reducible first | exact HI0.out | apply IsS57.alloc | apply IsS57.drewN | apply IsS57.drew | apply IsS57.set_1 | apply IsS57.set_2 | refine IsS57.far ?_ NB0_552.out _) | exact HI0.out)⟩; clear h_; have n0_ := A_ (Kd.N_drew HO546.out); have n1_ := A_ (Kd.R_drew HO549.out); have n2_ := A_ (blk_drew BK552.out); have n3_ := A_ (IsS57.drew HI0.out); have n4_ := A_ (keep_drew HK.out); have n5_ := A_ (below_drew1 HB.out); clear HO546 HO549 BK552 HI0 HK HB; have HO546 := n0_; have HO549 := n1_; have BK552 := n2_; have HI0 := n3_; have HK := n4_; have HB := n5_; clear n0_ n1_ n2_ n3_ n4_ n5_; refine start_ (n := 6) (S := fun w' => w'.cell? ⟨gb552, 0, none⟩ = some (.int .i64 t543) ∧ w'.cell? ⟨gb552, 1, none⟩ = some (.slice Ao12 t544.length co12) ∧ w'.cell? ⟨gb552, 2, none⟩ = some (.slice Ao13 t547.length co13)) (ds := []) (mk_ 6 0) (by kernel_rfl) rfl rfl ⟨(blk_cell BK552.out 0).trans rfl, (blk_cell BK552.out 1).trans rfl, (blk_cell BK552.out 2).trans rfl⟩ (fun hHeld => ?_)
  generalize w14.drew = w15 at HO546 HO549 BK552 HI0 HK HB hHeld ⊢
  refine pure_ (i := 1) (N := some 15) (v := ?_) (a' := ?_) (mk_ 6 2) rfl rfl (by kernel_rfl) (fun _ _ _ h => h) (Or.inl ⟨by rfl, ?_⟩) ?_ ?_; rotate_left
  ·intro w'; go_simp; with_reducible rfl
  rotate_left
  ·simp only [Act.put, mD, mE, mF, i64_w, i32_w]
   rfl
  refine take_ (i := 0) (N := some 14) (v := ?_) (a' := ?_) (mk_ 6 3) rfl rfl (by kernel_rfl) (fun _ _ _ h => h) (Or.inl ⟨by rfl, ?_⟩) hHeld ?_ ?_; rotate_left
  ·rintro w' ⟨s0, s1, s2⟩; go_simp; with_reducible rfl
  rotate_left
  ·simp only [Act.put, mD, mE, mF, i64_w, i32_w]
   rfl
  refine one_ (i := 2) (N := some 16) (mk_ 6 7) rfl rfl (by kernel_rfl) (by decide) (fun K hK => ?_); refine cS_ E33 rfl rfl rfl (spec_l1Below.calls g s0_0 t550 t551 40 t553 t554 t555 w0 _ HI0.out HB.out A5.out) (by simp only [mA, mB, mC]; rfl) ?_; rintro e w16 ⟨rfl, hi, hb, hk⟩; refine ⟨_, rfl, ?_⟩; have n0_ := A_ (Kd.N_mono (Kd.N_keep (Kd.N_mono (ok := fun k_ => (some k_ ≠ (.slice Ao13 t547.length co13 : Value).ownBlock ∧ (k_ ≠ g ∧ k_ ≠ gb552))) HO546.out (fun k_ hk_ => (⟨hk_, hk_.2.1⟩ : _ ∧ k_ ≠ g))) hk (fun _ h => h.2)) (fun _ h => h.1)); have n1_ := A_ (Kd.R_mono (Kd.R_keep (IsS57.apart HI0.out HO549.out (by decide)) hk (fun _ h => h.2)) (fun _ h => h.1)); have n2_ := A_ (KeepBut.blk hk BK552.out NB552_0.out (by simp)); have n3_ := kt_ HK hk; have n4_ := A_ (hb); have n5_ := A_ (hi); clear HO546 HO549 BK552 HK HB HI0; have HO546 := n0_; have HO549 := n1_; have BK552 := n2_; have HK := n3_; have HB := n4_; have HI0 := n5_; clear n0_ n1_ n2_ n3_ n4_ n5_
  (try clear hb)
  (try clear hb2)
  (try clear hk)
  (try clear hi)
  refine hK.out _ _ ⟨(blk_cell BK552.out 0).trans rfl, (blk_cell BK552.out 1).trans rfl, (blk_cell BK552.out 2).trans rfl⟩ (fun hHeld => ?_); clear hK K; refine norm_ (by show Act.put _ (some 16) _ = _; simp only [Act.put, mD, mE, mF, i64_w, i32_w]; rfl) ?_; refine pure_ (i := 3) (N := some 17) (v := ?_) (a' := ?_) (mk_ 6 15) rfl rfl (by kernel_rfl) (fun _ _ _ h => h) (Or.inl ⟨by rfl, ?_⟩) ?_ ?_; rotate_left
  ·intro w'; go_simp; with_reducible rfl
  rotate_left
  ·simp only [Act.put, mD, mE, mF, i64_w, i32_w]
   rfl
  refine one_ (i := 4) (N := some 18) (mk_ 6 31) rfl rfl (by kernel_rfl) (by decide) (fun K hK => ?_); refine cS_ E73 rfl rfl rfl (spec_PrefixOf.calls k t543 _ _ t544 _ _ t547 (wrap64 (10 + t553)) t556 _ ((Kd.N_reads' HO546.out).2.2) ((Kd.N_reads' HO546.out).2.1) ((Kd.R_reads' HO549.out).2.2) ((Kd.R_reads' HO549.out).2.1) A6.out) (by simp only [mA, mB, mC]; rfl) ?_; rintro e w17 ⟨v557, rfl, ho0, hb⟩; refine ⟨_, rfl, ?_⟩; have n0_ := A_ (Kd.N_elder' HO546.out (Kd.R_base ho0) hb); have n1_ := A_ (Kd.R_elder' HO549.out (Kd.R_base ho0) hb); have n2_ := A_ (Kd.R_lower (Kd.R_new' ho0 (Kd.R_lt HO549.out)) (keep_size HK.out)); have n3_ := A_ (IsS57.below HI0.out hb); have n4_ := bb_ BK552 hb; have n5_ := kb_ HK hb; have n6_ := bs_ HB hb; clear HO546 HO549 HI0 BK552 HK HB; have HO558 := n2_; have HI0 := n3_; have BK552 := n4_; have HK := n5_; have HB := n6_; clear n0_ n1_ n2_ n3_ n4_ n5_ n6_
  (try clear hb)
  (try clear hb2)
  (try clear hk)
  (try clear hi)
  (try clear ho0)
  refine hK.out _ _ ⟨(blk_cell BK552.out 0).trans rfl, (blk_cell BK552.out 1).trans rfl, (blk_cell BK552.out 2).trans rfl⟩ (fun hHeld => ?_); clear hK K; refine norm_ (by show Act.put _ (some 18) _ = _; simp only [Act.put, mD, mE, mF, i64_w, i32_w]; rfl) ?_; refine pure_ (i := 5) (N := some 2) (v := ?_) (a' := ?_) (mk_ 6 63) rfl rfl (by kernel_rfl) (fun _ _ _ h => h) (Or.inl ⟨by rfl, ?_⟩) ?_ ?_; rotate_left
  ·intro w'; go_simp; with_reducible rfl
  rotate_left
  ·simp only [Act.put, mD, mE, mF, i64_w, i32_w]
   rfl
  refine done_ (by kernel_rfl) ?_
  try go_wp2
  go_ret
  exact ⟨_, by rfl, by exact Kd.R_mono HO558.out (fun _ hk => trivial), HI0.out, HB.out, HK.out⟩
 rw [if_neg c3] at H
 have c3b0 : (t540 == 0) = false := beq_eq_false_iff_ne.mpr c3
 have c3b1 : (t540 != 0) = true := bne_iff_ne.mpr c3
 by_cases c18 : t540 = 1
 ·rw [if_pos c18] at H
  have c18b0 : (t540 == 1) = true := beq_iff_eq.mpr c18
  clear c18; replace H := bA_ H; obtain ⟨⟨t559, t562, t563⟩, A19, H⟩ := H; dsimp only at H; replace H := bA_ H; obtain ⟨⟨t565, t566, t567⟩, A20, H⟩ := H; dsimp only at H; replace H := bA_ H; obtain ⟨⟨t568, t571⟩, A21, H⟩ := H; dsimp only at H; simp only [Option.some.injEq, Prod.mk.injEq] at H; obtain ⟨rfl, rfl, rfl⟩ := H; go_enter Tryz.func63, Tryz.ntmps63
  try go_wp2_with (first | ((with_reducible refine gc_ 33 rfl ?_); refine cL_ E33 9 rfl rfl rfl (spec_l1Below.calls g s0_0 s0_1 s0_2 4 t540 t541 t542 w0 _ HI0.out HB.out A2.out) (by simp only [mA, mB, mC]; rfl) ?_; rintro e w22 ⟨rfl, hi, hb, hk⟩; refine ⟨_, rfl, ?_⟩; replace HK := kt_ HK hk; replace HB := A_ (hb); replace HI0 := A_ (hi); clear hb hk; (try clear hi)) | ((with_reducible refine gc_ 74 rfl ?_); refine cL_ E74 22 rfl rfl rfl (spec_l7Morphism.calls k g s0_0 t541 t542 t559 t562 t563 w0 _ HI0.out HB.out A19.out) (by simp only [mA, mB, mC]; rfl) ?_; rintro e w23 ⟨v560, rfl, ho0, hi, hb, hk⟩; refine ⟨_, rfl, ?_⟩; have HO561 := A_ (Kd.N_lower (Kd.N_mono (ok' := fun k_ => k_ ≠ g) ho0 (fun k_ hk_ => (IsS57.fresh HI0.out k_ hk_))) (keep_size HK.out)); replace HK := kt_ HK hk; replace HB := A_ (hb); replace HI0 := A_ (hi); clear hb hk hi; (try clear ho0)) | ((with_reducible refine gate_dst (N := 4) rfl ?_); refine box_event ?hg (N := 4) ?hd (cs := #[.slice none 0 0]) (t := 80) ?hr ?_; (case hd | hg => rfl); (case hr => go_simp; done); intro gb564 hg w24 hbox hb; replace HO561 := A_ (Kd.N_below (Kd.N_elderB HO561.out gb564 (Nat.le_of_eq hg.symm)) hb); replace HB := bs_ HB hb; have BK564 := A_ (hbox); have GW564 := A_ (lg_ (keep_size HK.out) hg); have GE564 := A_ (Nat.le_trans HW0.out (lg_ (keep_size HK.out) hg)); replace HK := kb_ HK hb; have NB0_564 := A_ (ln_ (IsS57.lt HI0.out) hg); have NB564_0 := A_ (Ne.symm (ln_ (IsS57.lt HI0.out) hg)); replace HI0 := A_ (IsS57.below HI0.out hb); clear hb hbox hg; obtain ⟨Ao25, co25, eo25⟩ := Kd.N_slice HO561.out; subst eo25; have hcz27_0 := bz0 BK564.out; have hfz27_0 := blk_frozen BK564.out 0))
  generalize h_ : (w24.setCell ⟨gb564, 0, none⟩ (.slice Ao25 t559.length co25)) = w28
  replace HO561 : Aside0 (Kd.N (Kd.slice 3 (Kd.int .i64)) 24 w28 w.heap.size (fun k_ => k_ ≠ g ∧ k_ ≠ gb564) (.slice Ao25 t559.length co25) t559) := ⟨by rw [← h_]; exact Kd.N_mono (Kd.N_far (p := ⟨gb564, 0, none⟩) (Kd.N_mono HO561.out (fun k_ hk => (⟨hk, hk.2⟩ : _ ∧ k_ ≠ gb564))) (fun _ hk => hk.2) (.slice Ao25 t559.length co25)) (fun _ hk => ⟨hk.1.1, hk.1.2⟩)⟩; replace BK564 : Aside0 (w28.heap[gb564]? = some (.cells #[.slice Ao25 t559.length co25] 80 (0, 0))) := ⟨by rw [← h_]; refine blk_put (cs := #[.slice none 0 0]) ?_ 0 _ rfl; exact BK564.out⟩; replace HK : Aside0 (KeepBut w w28 g none) := ⟨by rw [← h_]; repeat (first | (with_reducible first | exact HK.out | apply KeepBut.set_ | apply keep_drewN | apply keep_drew | apply keep_alloc | refine keep_far ?_ GW564.out _) | exact HK.out)⟩; replace HB : Aside0 (Below w0.heap.size w0 w28) := ⟨by rw [← h_]; repeat (first | (with_reducible first | exact HB.out | apply below_alloc | apply pw_below_drewN | apply below_drew1 | refine below_set ?_ (IsS57.ge HI0.out) | refine below_set ?_ GE564.out) | exact HB.out)⟩; replace HI0 : Aside0 (IsS57 w0 w28 g s0_0 t562 t563) := ⟨by rw [← h_]; repeat (first | (with_reducible first | exact HI0.out | apply IsS57.alloc | apply IsS57.drewN | apply IsS57.drew | apply IsS57.set_1 | apply IsS57.set_2 | refine IsS57.far ?_ NB0_564.out _) | exact HI0.out)⟩; clear h_; have n0_ := A_ (Kd.N_drew HO561.out); have n1_ := A_ (blk_drew BK564.out); have n2_ := A_ (IsS57.drew HI0.out); have n3_ := A_ (keep_drew HK.out); have n4_ := A_ (below_drew1 HB.out); clear HO561 BK564 HI0 HK HB; have HO561 := n0_; have BK564 := n1_; have HI0 := n2_; have HK := n3_; have HB := n4_; clear n0_ n1_ n2_ n3_ n4_; refine start_ (n := 10) (S := fun w' => w'.cell? ⟨gb564, 0, none⟩ = some (.slice Ao25 t559.length co25)) (ds := []) (mk_ 10 0) (by kernel_rfl) rfl rfl ((blk_cell BK564.out 0).trans rfl) (fun hHeld => ?_); refine with_tabW spec_l8Long.tab7 spec_l8Long.bits7 (fun HT_ HW_ => ?_)
  generalize w28.drew = w29 at HO561 BK564 HI0 HK HB hHeld ⊢
  refine pv_ 1 25 (mk_ 10 2) rfl rfl HT_.out (by kernel_rfl) (fun _ _ _ h => h) (by rfl) (by intro w'; go_simp; with_reducible rfl) (by simp only [Act.put, mD, mE, mF, i64_w, i32_w]; rfl) ?_; refine take_ (i := 0) (N := some 24) (mk_ 10 3) rfl rfl (take_ofW HT_.out HW_.out (by kernel_rfl)) (fun _ _ _ h => h) (Or.inl ⟨by rfl, by intro w' s0; go_simp; with_reducible rfl⟩) hHeld (by simp only [Act.put, mD, mE, mF, i64_w, i32_w]; rfl) ?_; refine one_ (i := 2) (N := some 26) (mk_ 10 7) rfl rfl (one_of HT_.out (by kernel_rfl)) (by decide) (fun K hK => ?_); refine cS_ E33 rfl rfl rfl (spec_l1Below.calls g s0_0 t562 t563 40 t565 t566 t567 w0 _ HI0.out HB.out A20.out) (by simp only [mA, mB, mC]; rfl) ?_; rintro e w30 ⟨rfl, hi, hb, hk⟩; refine ⟨_, rfl, ?_⟩; have n0_ := A_ (Kd.N_mono (Kd.N_keep (Kd.N_mono (ok := fun k_ => (k_ ≠ g ∧ k_ ≠ gb564)) HO561.out (fun k_ hk_ => (⟨hk_, hk_.1⟩ : _ ∧ k_ ≠ g))) hk (fun _ h => h.2)) (fun _ h => h.1)); have n1_ := A_ (KeepBut.blk hk BK564.out NB564_0.out (by simp)); have n2_ := kt_ HK hk; have n3_ := A_ (hb); have n4_ := A_ (hi); clear HO561 BK564 HK HB HI0; have HO561 := n0_; have BK564 := n1_; have HK := n2_; have HB := n3_; have HI0 := n4_; clear n0_ n1_ n2_ n3_ n4_
  (try clear hb)
  (try clear hb2)
  (try clear hk)
  (try clear hi)
  refine hK.out _ _ ((blk_cell BK564.out 0).trans rfl) (fun hHeld => ?_); clear hK K; refine norm_ (by show Act.put _ (some 26) _ = _; simp only [Act.put, mD, mE, mF, i64_w, i32_w]; rfl) ?_; refine pv_ 3 27 (mk_ 10 15) rfl rfl HT_.out (by kernel_rfl) (fun _ _ _ h => h) (by rfl) (by intro w'; go_simp; with_reducible rfl) (by simp only [Act.put, mD, mE, mF, i64_w, i32_w]; rfl) ?_; refine one_ (i := 4) (N := some 28) (mk_ 10 31) rfl rfl (one_of HT_.out (by kernel_rfl)) (by decide) (fun K hK => ?_); refine cS_ E75 rfl rfl rfl (spec_FixedPrefix.calls k _ _ t559 0 (wrap64 (10 + t565)) t568 t571 _ ((Kd.N_reads' HO561.out).2.2) ((Kd.N_reads' HO561.out).2.1) A21.out) (by simp only [mA, mB, mC]; rfl) ?_; rintro e w31 ⟨v569, rfl, ho0, hb⟩; refine ⟨_, rfl, ?_⟩; have n0_ := A_ (Kd.N_elder' HO561.out (Kd.R_base ho0) hb); have n1_ := A_ (Kd.R_lower ho0 (keep_size HK.out)); have n2_ := A_ (IsS57.below HI0.out hb); have n3_ := bb_ BK564 hb; have n4_ := kb_ HK hb; have n5_ := bs_ HB hb; clear HO561 HI0 BK564 HK HB; have HO570 := n1_; have HI0 := n2_; have BK564 := n3_; have HK := n4_; have HB := n5_; clear n0_ n1_ n2_ n3_ n4_ n5_
  (try clear hb)
  (try clear hb2)
  (try clear hk)
  (try clear hi)
  (try clear ho0)
  refine hK.out _ _ ((blk_cell BK564.out 0).trans rfl) (fun hHeld => ?_); clear hK K; refine norm_ (by show Act.put _ (some 28) _ = _; simp only [Act.put, mD, mE, mF, i64_w, i32_w]; rfl) ?_; refine pv_ 5 23 (mk_ 10 63) rfl rfl HT_.out (by kernel_rfl) (fun _ _ _ h => h) (by rfl) (by intro w'; go_simp; with_reducible rfl) (by simp only [Act.put, mD, mE, mF, i64_w, i32_w]; rfl) ?_; refine pv_ 6 29 (mk_ 10 127) rfl rfl HT_.out (by kernel_rfl) (fun _ _ _ h => h) (by rfl) (by intro w'; go_simp; with_reducible rfl) (by simp only [Act.put, mD, mE, mF, i64_w, i32_w]; rfl) ?_; refine pv_ 7 30 (mk_ 10 255) rfl rfl HT_.out (by kernel_rfl) (fun _ _ _ h => h) (by rfl) (by intro w'; go_simp; with_reducible rfl) (by simp only [Act.put, mD, mE, mF, i64_w, i32_w]; rfl) ?_; refine pv_ 8 5 (mk_ 10 511) rfl rfl HT_.out (by kernel_rfl) (fun _ _ _ h => h) (by rfl) (by intro w'; go_simp; with_reducible rfl) (by simp only [Act.put, mD, mE, mF, i64_w, i32_w]; rfl) ?_; refine pv_ 9 6 (mk_ 10 1023) rfl rfl HT_.out (by kernel_rfl) (fun _ _ _ h => h) (by rfl) (by intro w'; go_simp; with_reducible rfl) (by simp only [Act.put, mD, mE, mF, i64_w, i32_w]; rfl) ?_; refine done_ (done_of HT_.out (by kernel_rfl)) ?_
  try go_wp2
  go_ret
  exact ⟨_, by rfl, HO570.out, HI0.out, HB.out, HK.out⟩
 rw [if_neg c18] at H
 have c18b0 : (t540 == 1) = false := beq_eq_false_iff_ne.mpr c18
 have c18b1 : (t540 != 1) = true := bne_iff_ne.mpr c18
 by_cases c32 : t540 = 2
 ·rw [if_pos c32] at H
  have c32b0 : (t540 == 2) = true := beq_iff_eq.mpr c32
  clear c32; replace H := bA_ H; obtain ⟨⟨t572, t575, t576⟩, A33, H⟩ := H; dsimp only at H; obtain ⟨y577, hy577⟩ := ex_ ((([] : List Int)) : List Int); replace H : (if y577.length + t572.length < 17592186044416 then ((some (y577 ++ t572 : List Int)).bind fun y580 => (if y580.length + t572.length < 17592186044416 then ((some (y580 ++ t572 : List Int)).bind fun y583 => (if y583.length + t572.length < 17592186044416 then (some ((y583 ++ t572), t575, t576)) else (none))) else (none))) else (none)) = some (r1, r2, r3) := by (have H2_ := (Option.bind_some _ _).symm.trans H; rw [hy577]; with_reducible exact H2_)
  have Ny577 := A_ hy577; clear hy577
  by_cases c34 : y577.length + t572.length < 17592186044416
  ·rw [if_pos c34] at H; have LMc34 := A_ c34; clear c34; obtain ⟨y580, hy580⟩ := ex_ ((y577 ++ t572) : List Int); replace H : (if y580.length + t572.length < 17592186044416 then ((some (y580 ++ t572 : List Int)).bind fun y583 => (if y583.length + t572.length < 17592186044416 then (some ((y583 ++ t572), t575, t576)) else (none))) else (none)) = some (r1, r2, r3) := by (have H2_ := (Option.bind_some _ _).symm.trans H; rw [hy580]; with_reducible exact H2_)
   have Ny580 := A_ hy580; clear hy580
   by_cases c35 : y580.length + t572.length < 17592186044416
   ·rw [if_pos c35] at H; have LMc35 := A_ c35; clear c35; obtain ⟨y583, hy583⟩ := ex_ ((y580 ++ t572) : List Int); replace H : (if y583.length + t572.length < 17592186044416 then (some ((y583 ++ t572), t575, t576)) else (none)) = some (r1, r2, r3) := by (have H2_ := (Option.bind_some _ _).symm.trans H; rw [hy583]; with_reducible exact H2_)
    have Ny583 := A_ hy583; clear hy583
    by_cases c36 : y583.length + t572.length < 17592186044416
    ·rw [if_pos c36] at H; have LMc36 := A_ c36; clear c36; obtain ⟨y586, hy586⟩ := ex_ ((y583 ++ t572) : List Int); replace H : (some (y586, t575, t576)) = some (r1, r2, r3) := by (rw [hy586]; with_reducible exact H)
     have Ny586 := A_ hy586; clear hy586; simp only [Option.some.injEq, Prod.mk.injEq] at H; obtain ⟨rfl, rfl, rfl⟩ := H; go_enter Tryz.func63, Tryz.ntmps63
     go_wp2_with (first | ((with_reducible refine gc_ 33 rfl ?_); refine cL_ E33 9 rfl rfl rfl (spec_l1Below.calls g s0_0 s0_1 s0_2 4 t540 t541 t542 w0 _ HI0.out HB.out A2.out) (by simp only [mA, mB, mC]; rfl) ?_; rintro e w37 ⟨rfl, hi, hb, hk⟩; refine ⟨_, rfl, ?_⟩; replace HK := kt_ HK hk; replace HB := A_ (hb); replace HI0 := A_ (hi); clear hb hk; (try clear hi)) | ((with_reducible refine gc_ 76 rfl ?_); refine cL_ E76 35 rfl rfl rfl (spec_l7Word.calls k g s0_0 t541 t542 2 t572 t575 t576 w0 _ HI0.out HB.out A33.out) (by simp only [mA, mB, mC]; rfl) ?_; rintro e w38 ⟨v573, rfl, ho0, hi, hb, hk⟩; refine ⟨_, rfl, ?_⟩; have HO574 := A_ (Kd.R_lower ho0 (keep_size HK.out)); replace HK := kt_ HK hk; replace HB := A_ (hb); replace HI0 := A_ (hi); clear hb hk hi; (try clear ho0)) | ((with_reducible refine gd_ 36 rfl ?_); refine RL_ 36 3 [] [] rfl rfl (by go_simp; done) rfl rfl ?_; rintro v578 w39 ho40 hb - -; (rw [← Ny577.out] at ho40); have HO579 := A_ (Kd.R_lower (Kd.R_new' ho40 (Kd.R_lt HO574.out)) (keep_size HK.out)); replace HO574 := A_ (Kd.R_elder' HO574.out (Kd.R_base ho40) hb); replace HI0 := A_ (IsS57.below HI0.out hb); replace HK := kb_ HK hb; replace HB := bs_ HB hb; clear hb ho40; obtain ⟨Ao42, co42, eo42⟩ := Kd.R_slice HO574.out; subst eo42) | ((with_reducible refine gate_builtin (b := .append) (xs := #[.tmp 36, .tmp 37]) rfl ?_); at_builtin; refine Kd.R_append_rows (Kd.int .i64) w.heap.size rfl (.tmp 36) (.tmp 37) 24 3 (.int .i64 0) 8 rfl Tryz.underlying24 info3 rfl (by decide) (by omega) v578 y577 t572 _ _ _ (fun k_ => some k_ ≠ (.slice Ao42 t572.length co42 : Value).ownBlock) (fun _ => False) rfl rfl ?aO ?aR (fun _ _ h => h) (fun _ h => h.elim) ?aF (Below.refl _ _) ?aS ?aL ?_; (case aR => exact (Kd.R_reads' HO574.out).2.2); (case aF => exact (fun k_ hk => Kd.fresh' (Kd.R_lt HO574.out) k_ hk)); (case aO => exact (by exact Kd.R_mono HO579.out (fun _ hk => hk.2))); (case aS => exact (keep_size HK.out)); (case aL => have := LMc34.out; omega); intro v581 w41 ho hb hg hat; rw [← Ny580.out] at ho; replace HI0 := A_ (IsS57.grown HI0.out hg (IsS57.own_ne HI0.out HO579.out (by decide))); replace HO574 := A_ (Kd.R_after (ok := (fun _ => True)) HO574.out hg hat); replace HB := A_ (below_weaken HB.out HL.out hb); replace HK := A_ (KeepBut.trans HK.out (KeepBut.of_grown hg g) (Kd.R_base2 HO579.out)); have HO582 := A_ (ho); clear HO579; clear ho hb hg hat) | ((with_reducible refine gate_builtin (b := .append) (xs := #[.tmp 38, .tmp 39]) rfl ?_); at_builtin; refine Kd.R_append_rows (Kd.int .i64) w.heap.size rfl (.tmp 38) (.tmp 39) 24 3 (.int .i64 0) 8 rfl Tryz.underlying24 info3 rfl (by decide) (by omega) v581 y580 t572 _ _ _ (fun k_ => some k_ ≠ (.slice Ao42 t572.length co42 : Value).ownBlock) (fun _ => False) rfl rfl ?aO ?aR (fun _ _ h => h) (fun _ h => h.elim) ?aF (Below.refl _ _) ?aS ?aL ?_; (case aR => exact (Kd.R_reads' HO574.out).2.2); (case aF => exact (fun k_ hk => Kd.fresh' (Kd.R_lt HO574.out) k_ hk)); (case aO => exact HO582.out); (case aS => exact (keep_size HK.out)); (case aL => have := LMc35.out; omega); intro v584 w43 ho hb hg hat; rw [← Ny583.out] at ho; replace HI0 := A_ (IsS57.grown HI0.out hg (IsS57.own_ne HI0.out HO582.out (by decide))); replace HO574 := A_ (Kd.R_after (ok := (fun _ => True)) HO574.out hg hat); replace HB := A_ (below_weaken HB.out HL.out hb); replace HK := A_ (KeepBut.trans HK.out (KeepBut.of_grown hg g) (Kd.R_base2 HO582.out)); have HO585 := A_ (ho); clear HO582; clear ho hb hg hat) | ((with_reducible refine gate_builtin (b := .append) (xs := #[.tmp 40, .tmp 41]) rfl ?_); at_builtin; refine Kd.R_append_rows (Kd.int .i64) w.heap.size rfl (.tmp 40) (.tmp 41) 24 3 (.int .i64 0) 8 rfl Tryz.underlying24 info3 rfl (by decide) (by omega) v584 y583 t572 _ _ _ (fun k_ => some k_ ≠ (.slice Ao42 t572.length co42 : Value).ownBlock) (fun _ => False) rfl rfl ?aO ?aR (fun _ _ h => h) (fun _ h => h.elim) ?aF (Below.refl _ _) ?aS ?aL ?_; (case aR => exact (Kd.R_reads' HO574.out).2.2); (case aF => exact (fun k_ hk => Kd.fresh' (Kd.R_lt HO574.out) k_ hk)); (case aO => exact HO585.out); (case aS => exact (keep_size HK.out)); (case aL => have := LMc36.out; omega); intro v587 w44 ho hb hg hat; rw [← Ny586.out] at ho; replace HI0 := A_ (IsS57.grown HI0.out hg (IsS57.own_ne HI0.out HO585.out (by decide))); replace HO574 := A_ (Kd.R_after (ok := (fun _ => True)) HO574.out hg hat); replace HB := A_ (below_weaken HB.out HL.out hb); replace HK := A_ (KeepBut.trans HK.out (KeepBut.of_grown hg g) (Kd.R_base2 HO585.out)); have HO588 := A_ (ho); clear HO585; clear ho hb hg hat))
     go_ret
     exact ⟨_, by rfl, by exact Kd.R_mono HO588.out (fun _ hk => trivial), HI0.out, HB.out, HK.out⟩
    rw [if_neg c36] at H
    cases H
   rw [if_neg c35] at H
   cases H
  rw [if_neg c34] at H
  cases H
 rw [if_neg c32] at H
 have c32b0 : (t540 == 2) = false := beq_eq_false_iff_ne.mpr c32
 replace H := bA_ H; obtain ⟨⟨t589, t592, t593⟩, A45, H⟩ := H; dsimp only at H; simp only [Option.some.injEq, Prod.mk.injEq] at H; obtain ⟨rfl, rfl, rfl⟩ := H; go_enter Tryz.func63, Tryz.ntmps63
 go_wp2_with (first | ((with_reducible refine gc_ 33 rfl ?_); refine cL_ E33 9 rfl rfl rfl (spec_l1Below.calls g s0_0 s0_1 s0_2 4 t540 t541 t542 w0 _ HI0.out HB.out A2.out) (by simp only [mA, mB, mC]; rfl) ?_; rintro e w46 ⟨rfl, hi, hb, hk⟩; refine ⟨_, rfl, ?_⟩; replace HK := kt_ HK hk; replace HB := A_ (hb); replace HI0 := A_ (hi); clear hb hk; (try clear hi)) | ((with_reducible refine gc_ 76 rfl ?_); refine cL_ E76 44 rfl rfl rfl (spec_l7Word.calls k g s0_0 t541 t542 3 t589 t592 t593 w0 _ HI0.out HB.out A45.out) (by simp only [mA, mB, mC]; rfl) ?_; rintro e w47 ⟨v590, rfl, ho0, hi, hb, hk⟩; refine ⟨_, rfl, ?_⟩; have HO591 := A_ (Kd.R_lower ho0 (keep_size HK.out)); replace HK := kt_ HK hk; replace HB := A_ (hb); replace HI0 := A_ (hi); clear hb hk hi; (try clear ho0)))
 go_ret
 exact ⟨_, by rfl, HO591.out, HI0.out, HB.out, HK.out⟩

def spec_l8Any.f (k : Nat) (s0_0 : List Int) (s0_1 : Int) (s0_2 : Int) : Option (List Int × Int × Int) := (spec_l8Long.f k s0_0 s0_1 s0_2).bind fun bt594 => ((spec_l1Once.f s0_0 bt594.2.1 bt594.2.2 16).bind fun bt599 => (if bt599.1 = true then ((spec_l1PickInt.f s0_0 bt599.2.1 bt599.2.2 (([(-1), 16] : List Int))).bind fun bt605 => (if bt594.1.length < 17592186044416 then (some ((bt594.1 ++ [bt605.1]), bt605.2.1, bt605.2.2)) else (none))) else (some (bt594.1, bt599.2.1, bt599.2.2))))
theorem spec_l8Any.calls (k : Nat) (g : Nat) (s0_0 : List Int) (s0_1 : Int) (s0_2 : Int) (r1 : List Int) (r2 : Int) (r3 : Int) (w0 w : World) (hI : IsS57 w0 w g s0_0 s0_1 s0_2) (hB : Below w0.heap.size w0 w) (h : spec_l8Any.f k s0_0 s0_1 s0_2 = some (r1, r2, r3)) :
  Calls Tryz.prog 45 #[.pointer (some ⟨g, 0, none⟩)] w fun e w' => ∃ v0_ : Value, e = .returned (v0_) ∧ Kd.R (Kd.int .i64) 3 w' w.heap.size (fun _ => True) v0_ r1 ∧ IsS57 w0 w' g s0_0 r2 r3 ∧ Below w0.heap.size w0 w' ∧ KeepBut w w' g none := by
 have HI0 := A_ hI; have HK := A_ (KeepBut.refl w g none); have HL := A_ hB.size; clear hI; have HB := A_ hB; clear hB; unfold spec_l8Any.f at h; have H := h; clear h; replace H := bA_ H; obtain ⟨⟨t594, t597, t598⟩, A2, H⟩ := H; dsimp only at H; replace H := bA_ H; obtain ⟨⟨t599, t600, t601⟩, A3, H⟩ := H; dsimp only at H
 by_cases c4 : t599 = true
 ·subst c4; rw [if_pos rfl] at H; obtain ⟨y602, hy602⟩ := ex_ ((([(-1), 16] : List Int)) : List Int); replace H : ((spec_l1PickInt.f s0_0 t600 t601 y602).bind fun bt605 => (if t594.length < 17592186044416 then (some ((t594 ++ [bt605.1]), bt605.2.1, bt605.2.2)) else (none))) = some (r1, r2, r3) := by (rw [hy602]; with_reducible exact H)
  have Ny602 := A_ hy602; clear hy602; replace H := bA_ H; obtain ⟨⟨t605, t606, t607⟩, A5, H⟩ := H; dsimp only at H
  by_cases c6 : t594.length < 17592186044416
  ·rw [if_pos c6] at H; have LMc6 := A_ c6; clear c6; obtain ⟨y608, hy608⟩ := ex_ ((t594 ++ [t605]) : List Int); replace H : (some (y608, t606, t607)) = some (r1, r2, r3) := by (rw [hy608]; with_reducible exact H)
   have Ny608 := A_ hy608; clear hy608; simp only [Option.some.injEq, Prod.mk.injEq] at H; obtain ⟨rfl, rfl, rfl⟩ := H; go_enter Tryz.func45, Tryz.ntmps45
   go_wp2_with (first | ((with_reducible refine gc_ 63 rfl ?_); refine cL_ E63 5 rfl rfl rfl (spec_l8Long.calls k g s0_0 s0_1 s0_2 t594 t597 t598 w0 _ HI0.out HB.out A2.out) (by simp only [mA, mB, mC]; rfl) ?_; rintro e w7 ⟨v595, rfl, ho0, hi, hb, hk⟩; refine ⟨_, rfl, ?_⟩; have HO596 := A_ (Kd.R_lower ho0 (keep_size HK.out)); replace HK := kt_ HK hk; replace HB := A_ (hb); replace HI0 := A_ (hi); clear hb hk hi; (try clear ho0)) | ((with_reducible refine gc_ 64 rfl ?_); refine cL_ E64 7 rfl rfl rfl (spec_l1Once.calls g s0_0 t597 t598 16 true t600 t601 w0 _ HI0.out HB.out A3.out) (by simp only [mA, mB, mC]; rfl) ?_; rintro e w8 ⟨rfl, hi, hb, hk⟩; refine ⟨_, rfl, ?_⟩; replace HO596 := A_ (Kd.R_mono (Kd.R_keep (IsS57.apart HI0.out HO596.out (by decide)) hk (fun _ h => h.2)) (fun _ h => h.1)); replace HK := kt_ HK hk; replace HB := A_ (hb); replace HI0 := A_ (hi); clear hb hk; (try clear hi)) | ((with_reducible refine gd_ 10 rfl ?_); refine RL_ 10 3 [(-1), 16] [.int .i64 (-1), .int .i64 16] rfl rfl (by go_simp; done) rfl rfl ?_; rintro v603 w9 ho10 hb - -; (rw [← Ny602.out] at ho10); have HO604 := A_ (Kd.R_lower (Kd.R_new' ho10 (Kd.R_lt HO596.out)) (keep_size HK.out)); replace HO596 := A_ (Kd.R_elder' HO596.out (Kd.R_base ho10) hb); replace HI0 := A_ (IsS57.below HI0.out hb); replace HK := kb_ HK hb; replace HB := bs_ HB hb; clear hb ho10; obtain ⟨Ao11, co11, eo11⟩ := Kd.R_slice HO604.out; subst eo11) | ((with_reducible refine gc_ 65 rfl ?_); refine cL_ E65 11 rfl rfl rfl (spec_l1PickInt.calls g s0_0 t600 t601 _ _ y602 t605 t606 t607 w0 _ HI0.out HB.out ((Kd.R_reads' HO604.out).2.2) ((Kd.R_reads' HO604.out).2.1) (far_slice (IsS57.own_ne HI0.out HO604.out (by decide))) A5.out) (by simp only [mA, mB, mC]; rfl) ?_; rintro e w12 ⟨rfl, hi, hb, hk⟩; refine ⟨_, rfl, ?_⟩; replace HO596 := A_ (Kd.R_mono (Kd.R_keep (IsS57.apart HI0.out HO596.out (by decide)) hk (fun _ h => h.2)) (fun _ h => h.1)); replace HO604 := A_ (Kd.R_mono (Kd.R_keep (IsS57.apart HI0.out HO604.out (by decide)) hk (fun _ h => h.2)) (fun _ h => h.1)); replace HK := kt_ HK hk; replace HB := A_ (hb); replace HI0 := A_ (hi); clear hb hk; (try clear hi)) | ((with_reducible refine gate_builtin (b := .append) (xs := #[.tmp 8, .tmp 12]) rfl ?_); at_builtin; refine Kd.R_append (Kd.int .i64) w.heap.size rfl (.tmp 8) (.tmp 12) 24 3 (.int .i64 0) 8 rfl Tryz.underlying24 info3 rfl (by decide) (by omega) v595 t594 t605 [.int .i64 t605] (fun k_ => some k_ ≠ (.slice Ao11 y602.length co11 : Value).ownBlock) (fun _ => False) rfl rfl ?aP (fun _ hk => hk.elim) ?aF ?aO (Below.refl _ _) ?aS ?aL ?_; (case aP => exact rfl); (case aF => exact (fun k_ hk => Kd.fresh' (Kd.R_lt HO604.out) k_ hk)); (case aO => exact (by exact Kd.R_mono HO596.out (fun _ hk => hk.2))); (case aS => exact (keep_size HK.out)); (case aL => have := LMc6.out; omega); intro v609 w13 ho hb hg hat; rw [← Ny608.out] at ho; replace HI0 := A_ (IsS57.grown HI0.out hg (IsS57.own_ne HI0.out HO596.out (by decide))); replace HO604 := A_ (Kd.R_after (ok := (fun _ => True)) HO604.out hg hat); replace HB := A_ (below_weaken HB.out HL.out hb); replace HK := A_ (KeepBut.trans HK.out (KeepBut.of_grown hg g) (Kd.R_base2 HO596.out)); have HO610 := A_ (ho); clear HO596; clear ho hb hg hat))
   go_ret
   exact ⟨_, by rfl, by exact Kd.R_mono HO610.out (fun _ hk => trivial), HI0.out, HB.out, HK.out⟩
  rw [if_neg c6] at H
  cases H
 replace c4 := Bool.eq_false_iff.mpr c4; subst c4; rw [if_neg nf_] at H; simp only [Option.some.injEq, Prod.mk.injEq] at H; obtain ⟨rfl, rfl, rfl⟩ := H; go_enter Tryz.func45, Tryz.ntmps45
 go_wp2_with (first | ((with_reducible refine gc_ 63 rfl ?_); refine cL_ E63 5 rfl rfl rfl (spec_l8Long.calls k g s0_0 s0_1 s0_2 t594 t597 t598 w0 _ HI0.out HB.out A2.out) (by simp only [mA, mB, mC]; rfl) ?_; rintro e w14 ⟨v595, rfl, ho0, hi, hb, hk⟩; refine ⟨_, rfl, ?_⟩; have HO596 := A_ (Kd.R_lower ho0 (keep_size HK.out)); replace HK := kt_ HK hk; replace HB := A_ (hb); replace HI0 := A_ (hi); clear hb hk hi; (try clear ho0)) | ((with_reducible refine gc_ 64 rfl ?_); refine cL_ E64 7 rfl rfl rfl (spec_l1Once.calls g s0_0 t597 t598 16 false t600 t601 w0 _ HI0.out HB.out A3.out) (by simp only [mA, mB, mC]; rfl) ?_; rintro e w15 ⟨rfl, hi, hb, hk⟩; refine ⟨_, rfl, ?_⟩; replace HO596 := A_ (Kd.R_mono (Kd.R_keep (IsS57.apart HI0.out HO596.out (by decide)) hk (fun _ h => h.2)) (fun _ h => h.1)); replace HK := kt_ HK hk; replace HB := A_ (hb); replace HI0 := A_ (hi); clear hb hk; (try clear hi)))
 go_ret
 exact ⟨_, by rfl, HO596.out, HI0.out, HB.out, HK.out⟩

def spec_l26Word.f (k : Nat) (s0_0 : List Int) (s0_1 : Int) (s0_2 : Int) : Option (List Int × Int × Int) := (spec_l1Below.f s0_0 s0_1 s0_2 4).bind fun bt611 => (if bt611.1 = 0 then ((spec_l1Below.f s0_0 bt611.2.1 bt611.2.2 6).bind fun bt614 => ((spec_l1Below.f s0_0 bt614.2.1 bt614.2.2 8).bind fun bt617 => ((spec_l1Below.f s0_0 bt617.2.1 bt617.2.2 20).bind fun bt620 => ((spec_MechanicalWord.f k bt614.1 (wrap64 (6 + bt617.1)) 0 (wrap64 (10 + bt620.1))).bind fun bt623 => (some (bt623.1, bt620.2.1, bt620.2.2)))))) else (if bt611.1 = 1 then ((spec_l1Below.f s0_0 bt611.2.1 bt611.2.2 60).bind fun bt627 => ((spec_FibonacciPrefix.f k bt627.1).bind fun t630 => (some (t630, bt627.2.1, bt627.2.2)))) else ((spec_l8Any.f k s0_0 bt611.2.1 bt611.2.2).bind fun bt633 => (some (bt633.1, bt633.2.1, bt633.2.2)))))
theorem spec_l26Word.calls (k : Nat) (g : Nat) (s0_0 : List Int) (s0_1 : Int) (s0_2 : Int) (r1 : List Int) (r2 : Int) (r3 : Int) (w0 w : World) (hI : IsS57 w0 w g s0_0 s0_1 s0_2) (hB : Below w0.heap.size w0 w) (h : spec_l26Word.f k s0_0 s0_1 s0_2 = some (r1, r2, r3)) :
  Calls Tryz.prog 27 #[.pointer (some ⟨g, 0, none⟩)] w fun e w' => ∃ v0_ : Value, e = .returned (v0_) ∧ Kd.R (Kd.int .i64) 3 w' w.heap.size (fun _ => True) v0_ r1 ∧ IsS57 w0 w' g s0_0 r2 r3 ∧ Below w0.heap.size w0 w' ∧ KeepBut w w' g none := by
 have HI0 := A_ hI; have HK := A_ (KeepBut.refl w g none); clear hI; have HB := A_ hB; clear hB; unfold spec_l26Word.f at h; have H := h; clear h; replace H := bA_ H; obtain ⟨⟨t611, t612, t613⟩, A2, H⟩ := H; dsimp only at H
 by_cases c3 : t611 = 0
 ·rw [if_pos c3] at H
  have c3b0 : (t611 == 0) = true := beq_iff_eq.mpr c3
  clear c3; replace H := bA_ H; obtain ⟨⟨t614, t615, t616⟩, A4, H⟩ := H; dsimp only at H; replace H := bA_ H; obtain ⟨⟨t617, t618, t619⟩, A5, H⟩ := H; dsimp only at H; replace H := bA_ H; obtain ⟨⟨t620, t621, t622⟩, A6, H⟩ := H; dsimp only at H; replace H := bA_ H; obtain ⟨⟨t623, t624⟩, A7, H⟩ := H; dsimp only at H; simp only [Option.some.injEq, Prod.mk.injEq] at H; obtain ⟨rfl, rfl, rfl⟩ := H; go_enter Tryz.func27, Tryz.ntmps27
  go_wp2_with (first | ((with_reducible refine gc_ 33 rfl ?_); refine cL_ E33 6 rfl rfl rfl (spec_l1Below.calls g s0_0 s0_1 s0_2 4 t611 t612 t613 w0 _ HI0.out HB.out A2.out) (by (try simp only [mA, mB, mC]); first | done | rfl | (simp only [List.length_drop, List.length_take]; rfl)) ?_; rintro e w8 ⟨rfl, hi, hb, hk⟩; refine ⟨_, rfl, ?_⟩; replace HK := kt_ HK hk; replace HB := A_ (hb); replace HI0 := A_ (hi); clear hb hk; (try clear hi)) | ((with_reducible refine gc_ 33 rfl ?_); refine cL_ E33 11 rfl rfl rfl (spec_l1Below.calls g s0_0 t612 t613 6 t614 t615 t616 w0 _ HI0.out HB.out A4.out) (by (try simp only [mA, mB, mC]); first | done | rfl | (simp only [List.length_drop, List.length_take]; rfl)) ?_; rintro e w9 ⟨rfl, hi, hb, hk⟩; refine ⟨_, rfl, ?_⟩; replace HK := kt_ HK hk; replace HB := A_ (hb); replace HI0 := A_ (hi); clear hb hk; (try clear hi)) | ((with_reducible refine gc_ 33 rfl ?_); refine cL_ E33 13 rfl rfl rfl (spec_l1Below.calls g s0_0 t615 t616 8 t617 t618 t619 w0 _ HI0.out HB.out A5.out) (by (try simp only [mA, mB, mC]); first | done | rfl | (simp only [List.length_drop, List.length_take]; rfl)) ?_; rintro e w10 ⟨rfl, hi, hb, hk⟩; refine ⟨_, rfl, ?_⟩; replace HK := kt_ HK hk; replace HB := A_ (hb); replace HI0 := A_ (hi); clear hb hk; (try clear hi)) | ((with_reducible refine gc_ 33 rfl ?_); refine cL_ E33 16 rfl rfl rfl (spec_l1Below.calls g s0_0 t618 t619 20 t620 t621 t622 w0 _ HI0.out HB.out A6.out) (by simp only [mA, mB, mC]; rfl) ?_; rintro e w11 ⟨rfl, hi, hb, hk⟩; refine ⟨_, rfl, ?_⟩; replace HK := kt_ HK hk; replace HB := A_ (hb); replace HI0 := A_ (hi); clear hb hk; (try clear hi)) | ((with_reducible refine gc_ 44 rfl ?_); refine cL_ E44 18 rfl rfl rfl (spec_MechanicalWord.calls k t614 (wrap64 (6 + t617)) 0 (wrap64 (10 + t620)) t623 t624 _ A7.out) (by simp only [mA, mB, mC]; rfl) ?_; rintro e w12 ⟨v625, rfl, ho0, hb⟩; refine ⟨_, rfl, ?_⟩; have HO626 := A_ (Kd.R_lower ho0 (keep_size HK.out)); replace HI0 := A_ (IsS57.below HI0.out hb); replace HK := kb_ HK hb; replace HB := bs_ HB hb; clear hb; (try clear ho0)))
  go_ret
  exact ⟨_, by rfl, HO626.out, HI0.out, HB.out, HK.out⟩
 rw [if_neg c3] at H
 have c3b0 : (t611 == 0) = false := beq_eq_false_iff_ne.mpr c3
 have c3b1 : (t611 != 0) = true := bne_iff_ne.mpr c3
 by_cases c13 : t611 = 1
 ·rw [if_pos c13] at H
  have c13b0 : (t611 == 1) = true := beq_iff_eq.mpr c13
  clear c13; replace H := bA_ H; obtain ⟨⟨t627, t628, t629⟩, A14, H⟩ := H; dsimp only at H; replace H := bA_ H; obtain ⟨t630, A15, H⟩ := H; simp only [Option.some.injEq, Prod.mk.injEq] at H; obtain ⟨rfl, rfl, rfl⟩ := H; go_enter Tryz.func27, Tryz.ntmps27
  go_wp2_with (first | ((with_reducible refine gc_ 33 rfl ?_); refine cL_ E33 6 rfl rfl rfl (spec_l1Below.calls g s0_0 s0_1 s0_2 4 t611 t612 t613 w0 _ HI0.out HB.out A2.out) (by (try simp only [mA, mB, mC]); first | done | rfl | (simp only [List.length_drop, List.length_take]; rfl)) ?_; rintro e w16 ⟨rfl, hi, hb, hk⟩; refine ⟨_, rfl, ?_⟩; replace HK := kt_ HK hk; replace HB := A_ (hb); replace HI0 := A_ (hi); clear hb hk; (try clear hi)) | ((with_reducible refine gc_ 33 rfl ?_); refine cL_ E33 25 rfl rfl rfl (spec_l1Below.calls g s0_0 t612 t613 60 t627 t628 t629 w0 _ HI0.out HB.out A14.out) (by simp only [mA, mB, mC]; rfl) ?_; rintro e w17 ⟨rfl, hi, hb, hk⟩; refine ⟨_, rfl, ?_⟩; replace HK := kt_ HK hk; replace HB := A_ (hb); replace HI0 := A_ (hi); clear hb hk; (try clear hi)) | ((with_reducible refine gc_ 17 rfl ?_); refine cL_ E17 26 rfl rfl rfl (spec_FibonacciPrefix.calls k t627 t630 _ A15.out) (by simp only [mA, mB, mC]; rfl) ?_; rintro e w18 ⟨v631, rfl, ho0, hb⟩; refine ⟨_, rfl, ?_⟩; have HO632 := A_ (Kd.R_lower ho0 (keep_size HK.out)); replace HI0 := A_ (IsS57.below HI0.out hb); replace HK := kb_ HK hb; replace HB := bs_ HB hb; clear hb; (try clear ho0)))
  go_ret
  exact ⟨_, by rfl, HO632.out, HI0.out, HB.out, HK.out⟩
 rw [if_neg c13] at H
 have c13b0 : (t611 == 1) = false := beq_eq_false_iff_ne.mpr c13
 replace H := bA_ H; obtain ⟨⟨t633, t636, t637⟩, A19, H⟩ := H; dsimp only at H; simp only [Option.some.injEq, Prod.mk.injEq] at H; obtain ⟨rfl, rfl, rfl⟩ := H; go_enter Tryz.func27, Tryz.ntmps27
 go_wp2_with (first | ((with_reducible refine gc_ 33 rfl ?_); refine cL_ E33 6 rfl rfl rfl (spec_l1Below.calls g s0_0 s0_1 s0_2 4 t611 t612 t613 w0 _ HI0.out HB.out A2.out) (by simp only [mA, mB, mC]; rfl) ?_; rintro e w20 ⟨rfl, hi, hb, hk⟩; refine ⟨_, rfl, ?_⟩; replace HK := kt_ HK hk; replace HB := A_ (hb); replace HI0 := A_ (hi); clear hb hk; (try clear hi)) | ((with_reducible refine gc_ 45 rfl ?_); refine cL_ E45 28 rfl rfl rfl (spec_l8Any.calls k g s0_0 t612 t613 t633 t636 t637 w0 _ HI0.out HB.out A19.out) (by simp only [mA, mB, mC]; rfl) ?_; rintro e w21 ⟨v634, rfl, ho0, hi, hb, hk⟩; refine ⟨_, rfl, ?_⟩; have HO635 := A_ (Kd.R_lower ho0 (keep_size HK.out)); replace HK := kt_ HK hk; replace HB := A_ (hb); replace HI0 := A_ (hi); clear hb hk hi; (try clear ho0)))
 go_ret
 exact ⟨_, by rfl, HO635.out, HI0.out, HB.out, HK.out⟩

def spec_l1New.l0 : Nat → List Int → Int → Int → Option (List Int × Int × Int)
 | 0, _, _, _ => none
 | k + 1, x0, x3, x4 => if x4 < (x0.length : Int) then (if x4 < 4000 then (if 0 ≤ x4 then (spec_l1New.l0 k x0 (Go.bits .and .i64 (wrap64 ((wrap64 ((wrap64 (x3 * 131)) + (wrap64 (rd x0 x4)))) + 7)) 1073741823) (wrap64 (x4 + 1))) else (none)) else (some (x0, 0, x3))) else (some (x0, 0, x3))
def spec_l1New.f (k : Nat) (l0 : List Int) : Option (List Int × Int × Int) := spec_l1New.l0 k l0 (wrap64 (10101 + (l0.length : Int))) 0
theorem spec_l1New.calls (k : Nat) (A0 : Option Addr) (c0 : Nat) (l0 : List Int) (r1 : List Int) (r2 : Int) (r3 : Int) (w0 w : World) (hB : Below w0.heap.size w0 w) (hr0 : Kd.C (Kd.int .u8) w0 A0 l0.length l0) (hc0 : l0.length ≤ c0) (h : spec_l1New.f k l0 = some (r1, r2, r3)) :
  Calls Tryz.prog 28 #[.slice A0 l0.length c0] w fun e w' => ∃ g_ : Nat, e = .returned (.pointer (some ⟨g_, 0, none⟩)) ∧ IsS57 w0 w' g_ r1 r2 r3 ∧ Below w0.heap.size w0 w' ∧ Below w.heap.size w w' := by
 have HR0 := A_ hr0; clear hr0 hc0; have HBW := A_ (Below.refl w.heap.size w); have HW0 := A_ hB.size; have HB := A_ hB; clear hB; unfold spec_l1New.f at h; have H := h; clear h
 have H' := A_ H
 clear H; go_enter Tryz.func28, Tryz.ntmps28
 go_wp2
 go_loopg [3, 4] k (fun kq v3 v4 w' => ∃ (x3_1 : Int) (x4_1 : Int), v3 = .int .i64 x3_1 ∧ v4 = .int .i64 x4_1 ∧ Aside0 (spec_l1New.l0 kq l0 x3_1 x4_1 = some (r1, r2, r3)) ∧ Aside0 (kq ≤ k) ∧ Aside0 (Below w0.heap.size w0 w') ∧ Aside0 (Below w.heap.size w w'))
 case atStart => exact ⟨(wrap64 (10101 + (l0.length : Int))), (0), (by rfl), (by rfl), H', ⟨Nat.le_refl _⟩, ⟨HB.out⟩, ⟨HBW.out⟩⟩
 case round =>
  clear H'; obtain ⟨x3_1, x4_1, rfl, rfl, HA, HK1, HB, HBW⟩ := hrel
  cases gk with
  | zero => exact absurd HA.out (by simp [spec_l1New.l0])
  | succ k1 =>
   have H := HA.out; clear HA; simp only [spec_l1New.l0] at H
   by_cases c2 : x4_1 < (l0.length : Int)
   ·rw [if_pos c2] at H; have c2b0 := decide_eq_true c2; clear c2
    by_cases c3 : x4_1 < 4000
    ·rw [if_pos c3] at H; have c3b0 := decide_eq_true c3; clear c3
     by_cases c4 : 0 ≤ x4_1
     ·rw [if_pos c4] at H; have c4b0 := decide_eq_true c4; clear c4
      have H' := A_ H
      clear H
      have p638 : 0 ≤ (x4_1 : Int) := od_ (by assumption)
      have q638 : x4_1 < (l0.length : Int) := od_ (by assumption)
      obtain ⟨ad638, e638, hx638_0⟩ := Kd.at_int HR0.out x4_1 p638 q638
      cases e638
      replace hx638_0 := pw_cell_below HB.out hx638_0; replace p638 := eq_true p638; replace q638 := eq_true q638
      go_wp2
      go_roundg k1
      case measure => have := HK1.out; omega
      case rel => exact ⟨(Go.bits .and .i64 (wrap64 ((wrap64 ((wrap64 (x3_1 * 131)) + (wrap64 (rd l0 x4_1)))) + 7)) 1073741823), (wrap64 (x4_1 + 1)), (by rfl), (by rfl), H', ⟨by have := HK1.out; omega⟩, ⟨HB.out⟩, ⟨HBW.out⟩⟩
     rw [if_neg c4] at H
     cases H
    rw [if_neg c3] at H; have c3b0 := decide_eq_false c3; clear c3; simp only [Option.some.injEq, Prod.mk.injEq] at H; obtain ⟨rfl, rfl, rfl⟩ := H
    go_wp2_with (first | ((with_reducible refine gate_dst (N := 31) rfl ?_); refine box_event ?hg (N := 31) ?hd (cs := #[.slice A0 l0.length c0, .int .i64 0, .int .i64 x3_1]) (t := 57) ?hr ?_; (case hd | hg => rfl); (case hr => go_simp; done); intro gb639 hg w5 hbox hb; replace HB := bs_ HB hb; have BK639 := A_ (hbox); have GE639 := A_ (Nat.le_trans HW0.out (lg_ (below_size HBW.out) hg)); replace HBW := bs_ HBW hb; clear hb hbox hg))
    go_ret
    exact ⟨_, rfl, (show IsS57 w0 _ gb639 l0 0 x3_1 from ⟨_, _, BK639.out, GE639.out, HR0.out⟩), HB.out, HBW.out⟩
   rw [if_neg c2] at H; have c2b0 := decide_eq_false c2; clear c2; simp only [Option.some.injEq, Prod.mk.injEq] at H; obtain ⟨rfl, rfl, rfl⟩ := H
   go_wp2_with (first | ((with_reducible refine gate_dst (N := 31) rfl ?_); refine box_event ?hg (N := 31) ?hd (cs := #[.slice A0 l0.length c0, .int .i64 0, .int .i64 x3_1]) (t := 57) ?hr ?_; (case hd | hg => rfl); (case hr => go_simp; done); intro gb640 hg w6 hbox hb; replace HB := bs_ HB hb; have BK640 := A_ (hbox); have GE640 := A_ (Nat.le_trans HW0.out (lg_ (below_size HBW.out) hg)); replace HBW := bs_ HBW hb; clear hb hbox hg))
   go_ret
   exact ⟨_, rfl, (show IsS57 w0 _ gb640 l0 0 x3_1 from ⟨_, _, BK640.out, GE640.out, HR0.out⟩), HB.out, HBW.out⟩

def spec_DrawUnbalancedPair.f (k : Nat) (l0 : List Int) : Option (List Int) := (spec_l1New.f k l0).bind fun bt641 => ((spec_l26Word.f k bt641.1 bt641.2.1 bt641.2.2).bind fun bt645 => (some bt645.1))
theorem spec_DrawUnbalancedPair.calls (k : Nat) (A0 : Option Addr) (c0 : Nat) (l0 : List Int) (r : List Int) (w : World) (hr0 : Kd.C (Kd.int .u8) w A0 l0.length l0) (hc0 : l0.length ≤ c0) (h : spec_DrawUnbalancedPair.f k l0 = some r) :
  Calls Tryz.prog 5 #[.slice A0 l0.length c0] w fun e w' => ∃ v0_ : Value, e = .returned (v0_) ∧ Kd.R (Kd.int .i64) 3 w' w.heap.size (fun _ => True) v0_ r ∧ Below w.heap.size w w' := by
 have HR0 := A_ hr0; have HC0 := A_ hc0; clear hr0 hc0; have HB := A_ (Below.refl w.heap.size w); unfold spec_DrawUnbalancedPair.f at h; have H := h; clear h; replace H := bA_ H; obtain ⟨⟨t641, t642, t643⟩, A2, H⟩ := H; dsimp only at H; replace H := bA_ H; obtain ⟨⟨t645, t648, t649⟩, A3, H⟩ := H; dsimp only at H; obtain rfl := Option.some.inj H; go_enter Tryz.func5, Tryz.ntmps5
 go_wp2_with (first | ((with_reducible refine gc_ 28 rfl ?_); refine cL_ E28 4 rfl rfl rfl (spec_l1New.calls k _ _ l0 t641 t642 t643 w _ HB.out HR0.out HC0.out A2.out) (by simp only [mA, mB, mC]; rfl) ?_; rintro e w4 ⟨g644, rfl, hi, hb, hb2⟩; refine ⟨_, rfl, ?_⟩; replace HB := A_ (hb); have HI644 := A_ (hi); clear hb hb2; (try clear hi)) | ((with_reducible refine gc_ 27 rfl ?_); refine cL_ E27 5 rfl rfl rfl (spec_l26Word.calls k g644 t641 t642 t643 t645 t648 t649 w _ HI644.out HB.out A3.out) (by simp only [mA, mB, mC]; rfl) ?_; rintro e w5 ⟨v646, rfl, ho0, hi, hb, hk⟩; refine ⟨_, rfl, ?_⟩; have HO647 := A_ (Kd.R_lower ho0 (below_size HB.out)); replace HB := A_ (hb); replace HI644 := A_ (hi); clear hb hk hi; (try clear ho0)))
 go_ret
 exact ⟨_, by rfl, HO647.out, HB.out⟩

def impl_oneIf.f (a0 : Bool) : Option (Int) := if a0 = true then (some 1) else (some 0)
theorem impl_oneIf.calls (a0 : Bool) (r : Int) (w : World) (h : impl_oneIf.f a0 = some r) :
  Calls Tryz.prog 35 #[.bool a0] w fun e w' => e = .returned (.int .i64 r) ∧ Drawn0 w w' := by
 unfold impl_oneIf.f at h; have H := h; clear h
 by_cases c2 : a0 = true
 ·subst c2; rw [if_pos rfl] at H; obtain rfl := Option.some.inj H; go_enter Tryz.func35, Tryz.ntmps35
  go_wp2
  go_ret
  exact ⟨by rfl, by repeat (first | exact Drawn0.refl _ | apply Drawn0.step)⟩
 replace c2 := Bool.eq_false_iff.mpr c2; subst c2; rw [if_neg nf_] at H; obtain rfl := Option.some.inj H; go_enter Tryz.func35, Tryz.ntmps35
 go_wp2
 go_ret
 exact ⟨by rfl, by repeat (first | exact Drawn0.refl _ | apply Drawn0.step)⟩
mutual
def impl_unbalanced.l0 : Nat → List Int → List Int → List Int → Int → Int → Option (Int × Int × Int × Bool)
 | 0, _, _, _, _, _ => none
 | k + 1, x0, x6, x14, x15, x16 => if x16 < x15 then (if 0 ≤ x16 then (if x16 < (x14.length : Int) then (if 0 ≤ (wrap64 ((x6.length : Int) - 1)) then (if (wrap64 ((x6.length : Int) - 1)) < (x6.length : Int) then ((impl_oneIf.f ((rd x14 x16) == 1)).bind fun t655 => (if x6.length < 17592186044416 then (impl_unbalanced.l0 k x0 (x6 ++ [wrap64 ((rd x6 (wrap64 ((x6.length : Int) - 1))) + t655)]) x14 x15 (wrap64 (x16 + 1))) else (none))) else (none)) else (none)) else (none)) else (none)) else (impl_unbalanced.l1 k x0 x6 1)
def impl_unbalanced.l1 : Nat → List Int → List Int → Int → Option (Int × Int × Int × Bool)
 | 0, _, _, _ => none
 | k + 1, x0, x6, x9 => if x9 < (x0.length : Int) then (impl_unbalanced.l2 k x0 x6 x9 0) else (some (0, 0, 0, false))
def impl_unbalanced.l2 : Nat → List Int → List Int → Int → Int → Option (Int × Int × Int × Bool)
 | 0, _, _, _, _ => none
 | k + 1, x0, x6, x9, x10 => if (wrap64 (x10 + x9)) ≤ (x0.length : Int) then (impl_unbalanced.l3 k x0 x6 x9 x10 (wrap64 (x10 + 1))) else (impl_unbalanced.l1 k x0 x6 (wrap64 (x9 + 1)))
def impl_unbalanced.l3 : Nat → List Int → List Int → Int → Int → Int → Option (Int × Int × Int × Bool)
 | 0, _, _, _, _, _ => none
 | k + 1, x0, x6, x9, x10, x11 => if (wrap64 (x11 + x9)) ≤ (x0.length : Int) then (if 0 ≤ (wrap64 (x10 + x9)) then (if (wrap64 (x10 + x9)) < (x6.length : Int) then (if 0 ≤ x10 then (if x10 < (x6.length : Int) then (if 0 ≤ (wrap64 (x11 + x9)) then (if (wrap64 (x11 + x9)) < (x6.length : Int) then (if 0 ≤ x11 then (if x11 < (x6.length : Int) then (if (wrap64 ((wrap64 ((wrap64 ((rd x6 (wrap64 (x10 + x9))) - (rd x6 x10))) - (rd x6 (wrap64 (x11 + x9))))) + (rd x6 x11))) > 1 then (some (x9, x10, x11, true)) else (if (wrap64 ((wrap64 ((wrap64 ((rd x6 (wrap64 (x10 + x9))) - (rd x6 x10))) - (rd x6 (wrap64 (x11 + x9))))) + (rd x6 x11))) < (-1) then (some (x9, x10, x11, true)) else (impl_unbalanced.l3 k x0 x6 x9 x10 (wrap64 (x11 + 1))))) else (none)) else (none)) else (none)) else (none)) else (none)) else (none)) else (none)) else (none)) else (impl_unbalanced.l2 k x0 x6 x9 (wrap64 (x10 + 1)))
end
def impl_unbalanced.f (k : Nat) (l0 : List Int) : Option (Int × Int × Int × Bool) := impl_unbalanced.l0 k l0 (([0] : List Int)) l0 (l0.length : Int) 0
def impl_unbalanced.T5 : Bool × List (List Nat × List Nat) := (true, [([], []), ([], []), ([], []), ([2], [2]), ([3], [3]), ([1, 4], [1, 4]), ([5], [5]), ([], []), ([7], [7]), ([8], [8]), ([6, 9], [6, 9]), ([10], [10]), ([0, 11, 9], [0, 11]), ([12, 12, 0, 1, 2, 3, 4, 5, 6, 7, 8, 9, 10, 11, 12], [0, 1, 2, 12])])
def impl_unbalanced.B5 : List Nat := [0, 0, 0, 4, 12, 30, 62, 0, 128, 384, 1022, 2046, 4095, 8191]
theorem impl_unbalanced.tab5 : rtab .any (opsOf Tryz.f29 5) = impl_unbalanced.T5 := by kernel_rfl
theorem impl_unbalanced.bits5 : waitsOk impl_unbalanced.T5.2 impl_unbalanced.B5 = true := by kernel_rfl
def impl_unbalanced.T16 : Bool × List (List Nat × List Nat) := (true, [([], []), ([], []), ([], []), ([1, 2], [1, 2]), ([0, 3], [0, 3]), ([4], [4]), ([], []), ([], []), ([6, 7], [6, 7]), ([8], [8]), ([5, 9], [5, 9]), ([], []), ([], []), ([], []), ([12, 13], [12, 13]), ([11, 14], [11, 14]), ([15], [15]), ([10, 16], [10, 16]), ([], []), ([], []), ([18, 19], [18, 19]), ([20], [20]), ([17, 21], [17, 21]), ([22, 0, 1, 2, 3, 4, 5, 6, 7, 8, 9, 10, 11, 12, 13, 14, 15, 16, 17, 18, 19, 20, 21, 22], [22])])
def impl_unbalanced.B16 : List Nat := [0, 0, 0, 6, 15, 31, 0, 0, 192, 448, 1023, 0, 0, 0, 12288, 30720, 63488, 131071, 0, 0, 786432, 1835008, 4194303, 8388607]
theorem impl_unbalanced.tab16 : rtab .any (opsOf Tryz.f29 16) = impl_unbalanced.T16 := by kernel_rfl
theorem impl_unbalanced.bits16 : waitsOk impl_unbalanced.T16.2 impl_unbalanced.B16 = true := by kernel_rfl
theorem impl_unbalanced.calls (k : Nat) (A0 : Option Addr) (c0 : Nat) (l0 : List Int) (r1 : Int) (r2 : Int) (r3 : Int) (r4 : Bool) (w : World) (hr0 : Kd.C (Kd.int .i64) w A0 l0.length l0) (hc0 : l0.length ≤ c0) (h : impl_unbalanced.f k l0 = some (r1, r2, r3, r4)) :
  Calls Tryz.prog 29 #[.slice A0 l0.length c0] w fun e w' => e = .returned (.tuple #[.int .i64 r1, .int .i64 r2, .int .i64 r3, .bool r4]) ∧ Below w.heap.size w w' := by
 have HR0 := A_ hr0; clear hr0 hc0; have HB := A_ (Below.refl w.heap.size w); unfold impl_unbalanced.f at h; have H := h; clear h; obtain ⟨y650, hy650⟩ := ex_ ((([0] : List Int)) : List Int); replace H : (impl_unbalanced.l0 k l0 y650 l0 (l0.length : Int) 0) = some (r1, r2, r3, r4) := by (rw [hy650]; with_reducible exact H)
 have Ny650 := A_ hy650; clear hy650
 have H' := A_ H
 clear H; go_enter Tryz.func29, Tryz.ntmps29
 go_wp2_with (first | ((with_reducible refine gd_ 13 rfl ?_); refine RL_ 13 3 [0] [.int .i64 0] rfl rfl (by go_simp; done) rfl rfl ?_; rintro v651 w2 ho3 hb - -; (rw [← Ny650.out] at ho3); have HO652 := A_ (Kd.R_lower ho3 (below_size HB.out)); replace HB := bs_ HB hb; clear hb ho3))
 go_loopg [6, 16] k (fun kq v6 v16 w' => ∃ (x6_1 : List Int) (x16_1 : Int), v16 = .int .i64 x16_1 ∧ Aside0 (impl_unbalanced.l0 kq l0 x6_1 l0 (l0.length : Int) x16_1 = some (r1, r2, r3, r4)) ∧ Aside0 (kq ≤ k) ∧ Aside0 (Kd.R (Kd.int .i64) 3 w' w.heap.size (fun _ => True) v6 x6_1) ∧ Aside0 (Below w.heap.size w w'))
 case atStart => exact ⟨(y650), (0), (by rfl), H', ⟨Nat.le_refl _⟩, ⟨HO652.out⟩, ⟨HB.out⟩⟩
 case round =>
  clear H'; obtain ⟨x6_1, x16_1, rfl, HA, HK1, HO_6, HB⟩ := hrel
  cases gk with
  | zero => exact absurd HA.out (by simp [impl_unbalanced.l0])
  | succ k1 =>
   have H := HA.out; clear HA; simp only [impl_unbalanced.l0] at H
   by_cases c4 : x16_1 < (l0.length : Int)
   ·rw [if_pos c4] at H; have c4b0 := decide_eq_true c4; clear c4
    by_cases c5 : 0 ≤ x16_1
    ·rw [if_pos c5] at H; have c5b0 := decide_eq_true c5; clear c5
     by_cases c6 : x16_1 < (l0.length : Int)
     ·rw [if_pos c6] at H; have c6b0 := decide_eq_true c6; clear c6; obtain ⟨ji7, hji7⟩ : ∃ j_ : Int, (wrap64 ((x6_1.length : Int) - 1)) = j_ := ⟨_, rfl⟩; replace H : (if 0 ≤ (ji7) then (if (ji7) < (x6_1.length : Int) then ((impl_oneIf.f ((rd l0 x16_1) == 1)).bind fun t655 => (if x6_1.length < 17592186044416 then (impl_unbalanced.l0 k1 l0 (x6_1 ++ [wrap64 ((rd x6_1 (ji7)) + t655)]) l0 (l0.length : Int) (wrap64 (x16_1 + 1))) else (none))) else (none)) else (none)) = some (r1, r2, r3, r4) := by first | (rw [hji7] at H; exact H) | (simp only [hji7] at H ⊢; exact H)
      have hji7w : (IntKind.i64.wrap ((x6_1.length : Int) - 1)) = ji7 := (i64_w _).trans hji7
      by_cases c8 : 0 ≤ (ji7)
      ·rw [if_pos c8] at H; have c8b0 := decide_eq_true c8; clear c8
       by_cases c9 : (ji7) < (x6_1.length : Int)
       ·rw [if_pos c9] at H; have c9b0 := decide_eq_true c9; clear c9; replace H := bA_ H; obtain ⟨t655, A10, H⟩ := H
        by_cases c11 : x6_1.length < 17592186044416
        ·rw [if_pos c11] at H; have LMc11 := A_ c11; clear c11; obtain ⟨y656, hy656⟩ := ex_ ((x6_1 ++ [wrap64 ((rd x6_1 (ji7)) + t655)]) : List Int); replace H : (impl_unbalanced.l0 k1 l0 y656 l0 (l0.length : Int) (wrap64 (x16_1 + 1))) = some (r1, r2, r3, r4) := by (rw [hy656]; with_reducible exact H)
         have Ny656 := A_ hy656; clear hy656
         have H' := A_ H
         clear H
         have p653 : 0 ≤ (x16_1 : Int) := od_ (by assumption)
         have q653 : x16_1 < (l0.length : Int) := od_ (by assumption)
         obtain ⟨ad653, e653, hx653_0⟩ := Kd.at_int HR0.out x16_1 p653 q653
         cases e653
         replace hx653_0 := (HB.out.cell (World.block_lt_of_cell? w _ hx653_0)).trans hx653_0; replace p653 := eq_true p653; replace q653 := eq_true q653
         try go_wp2
         have n0_ := A_ (Kd.R_drew HO_6.out); have n1_ := A_ (below_drew1 HB.out); clear HO_6 HB; have HO_6 := n0_; have HB := n1_; clear n0_ n1_; obtain ⟨Ao13, co13, eo13⟩ := Kd.R_slice HO_6.out
         (first | subst eo13 | (injection eo13 with f1_ f2_ f3_; have f4_ := f1_.symm; have f5_ := f3_.symm; clear f1_ f2_ f3_; subst f4_; subst f5_))
         have p654 : 0 ≤ ((ji7) : Int) := od_ (by assumption)
         have q654 : (ji7) < (x6_1.length : Int) := od_ (by assumption)
         obtain ⟨ad654, e654, hx654_0⟩ := Kd.at_int (Kd.R_reads' HO_6.out).2.2 (ji7) p654 q654
         cases e654
         replace p654 := eq_true p654; replace q654 := eq_true q654; refine start_ (n := 14) (S := fun w' => w'.cell? (ad654.add ((ji7)).toNat) = some (.int .i64 (rd x6_1 (ji7)))) (ds := [11, 12]) (mk_ 14 0) (by kernel_rfl) rfl rfl (hx654_0) (fun hHeld => ?_); refine with_tabW impl_unbalanced.tab5 impl_unbalanced.bits5 (fun HT_ HW_ => ?_)
         generalize wr.drew = w12 at HO_6 HB hx654_0 hHeld ⊢
         refine pv_ 0 20 (mk_ 14 1) rfl rfl HT_.out (by kernel_rfl) (fun _ _ _ h => h) (by rfl) (by intro w'; go_simp; with_reducible rfl) (by simp only [Act.put, mD, mE, mF, i64_w, i32_w]; rfl) ?_; refine pv_ 1 21 (mk_ 14 3) rfl rfl HT_.out (by kernel_rfl) (fun _ _ _ h => h) (by rfl) (by intro w'; go_simp; with_reducible rfl) (by simp only [Act.put, mD, mE, mF, i64_w, i32_w]; rfl) ?_; refine pv_ 2 22 (mk_ 14 7) rfl rfl HT_.out (by kernel_rfl) (fun _ _ _ h => h) (by rfl) (by intro w'; go_simp; with_reducible rfl) (by simp only [Act.put, mD, mE, mF, i64_w, i32_w]; rfl) ?_; refine pv_ 3 23 (mk_ 14 15) rfl rfl HT_.out (by kernel_rfl) (fun _ _ _ h => h) (by rfl) (by intro w'; go_simp; with_reducible rfl) (by simp only [Act.put, mD, mE, mF, i64_w, i32_w]; rfl) ?_; refine pv_ 4 24 (mk_ 14 31) rfl rfl HT_.out (by kernel_rfl) (fun _ _ _ h => h) (by rfl) (by intro w'; go_simp; with_reducible rfl) (by simp only [Act.put, mD, mE, mF, i64_w, i32_w]; rfl) ?_; refine pv_ 5 25 (mk_ 14 63) rfl rfl HT_.out (by kernel_rfl) (fun _ _ _ h => h) (by rfl) (by intro w'; go_simp; with_reducible rfl) (by simp only [Act.put, mD, mE, mF, i64_w, i32_w]; rfl) ?_; refine pv_ 7 27 (mk_ 14 191) rfl rfl HT_.out (by kernel_rfl) (fun _ _ _ h => h) (by rfl) (by intro w'; go_simp; with_reducible rfl) (by simp only [Act.put, mD, mE, mF, i64_w, i32_w]; rfl) ?_; refine pv_ 8 28 (mk_ 14 447) rfl rfl HT_.out (by kernel_rfl) (fun _ _ _ h => h) (by rfl) (by intro w'; go_simp; with_reducible rfl) (by simp only [Act.put, mD, mE, mF, i64_w, i32_w]; rfl) ?_; refine take_ (i := 6) (N := some 26) (mk_ 14 511) rfl rfl (take_ofW HT_.out HW_.out (by kernel_rfl)) (fun _ _ _ h => h) (Or.inl ⟨by rfl, by intro w' s0; go_simp; with_reducible rfl⟩) hHeld (by simp only [Act.put, mD, mE, mF, i64_w, i32_w]; rfl) ?_; refine one_ (i := 9) (N := some 29) (mk_ 14 1023) rfl rfl (one_of HT_.out (by kernel_rfl)) (by decide) (fun K hK => ?_); refine cE_ E35 rfl rfl rfl (impl_oneIf.calls ((rd l0 x16_1) == 1) t655 _ A10.out) (by simp only [mA, mB, mC]; rfl) fun nd => ?_; refine hK.out _ _ (hHeld) (fun hHeld => ?_); clear hK K; refine norm_ (by show Act.put _ (some 29) _ = _; simp only [Act.put, mD, mE, mF, i64_w, i32_w]; rfl) ?_; refine pv_ 10 30 (mk_ 14 2047) rfl rfl HT_.out (by kernel_rfl) (fun _ _ _ h => h) (by rfl) (by intro w'; go_simp; with_reducible rfl) (by simp only [Act.put, mD, mE, mF, i64_w, i32_w]; rfl) ?_; refine last_ (i := 11) (N := some 31) (mk_ 14 4095) rfl rfl (one_of HT_.out (by kernel_rfl)) (by decide) (fun K hK => ?_); refine value_ (w1 := ?_) (v := ?_) (by rfl) rfl ?_ ?_; rotate_left 2
         ·go_simp
          constructor
          ·rfl
          rfl
         refine hK.out _ _ ?_; clear hK K; refine norm_ (by show Act.put _ (some 31) _ = _; simp only [Act.put, mD, mE, mF, i64_w, i32_w]; rfl) ?_; refine last_ (i := 12) (N := some 32) (mk_ 14 8191) rfl rfl (one_of HT_.out (by kernel_rfl)) (by decide) (fun K hK => ?_); refine Kd.R_append_step (Kd.int .i64) (w0 := w) w.heap.size (by rfl) (.tmp 20) (.tmp 31) 24 3 (.int .i64 0) 8 rfl Tryz.underlying24 info3 rfl (by decide) (by omega) (.slice (some ad654) x6_1.length co13) x6_1 (wrap64 ((rd x6_1 (ji7)) + t655)) [.int .i64 (wrap64 ((rd x6_1 (ji7)) + t655))] (fun _ => True) (fun _ => False) rfl rfl ?aP (fun _ hk => hk.elim) ?aF ?aO ?aB ?aS ?aL ?_
         (case aP => exact rfl)
         (case aB => exact (by repeat (first | (with_reducible first | exact HB.out | apply below_alloc | apply pw_below_drewN | apply below_drew1) | exact HB.out)))
         (case aF => exact (fun _ _ => trivial))
         (case aO => exact (by (with_reducible repeat (first | apply Kd.R_alloc | apply Kd.R_drewN | apply Kd.R_drew)); exact HO_6.out))
         (case aS => exact (below_size (by repeat (first | (with_reducible first | exact HB.out | apply below_alloc | apply pw_below_drewN | apply below_drew1) | exact HB.out))))
         (case aL => have := LMc11.out; omega)
         intro v657 w14 ho hb hg hat; rw [← Ny656.out] at ho; have n0_ := A_ (hb); have n1_ := A_ (ho); clear HB HO_6; have HB := n0_; have HO658 := n1_; clear n0_ n1_ ho hb hg hat; refine hK.out _ _ ?_; clear hK K; refine norm_ (by show Act.put _ (some 32) _ = _; simp only [Act.put, mD, mE, mF, i64_w, i32_w]; rfl) ?_; refine pv_ 13 6 (mk_ 14 16383) rfl rfl HT_.out (by kernel_rfl) (fun _ _ _ h => h) (by rfl) (by intro w'; go_simp; with_reducible rfl) (by simp only [Act.put, mD, mE, mF, i64_w, i32_w]; rfl) ?_; refine done_ (done_of HT_.out (by kernel_rfl)) ?_
         try go_wp2
         (try subst hji7)
         go_roundg k1
         case measure => have := HK1.out; omega
         case rel => exact ⟨(y656), (wrap64 (x16_1 + 1)), (by rfl), H', ⟨by have := HK1.out; omega⟩, ⟨HO658.out⟩, ⟨HB.out⟩⟩
        rw [if_neg c11] at H
        cases H
       rw [if_neg c9] at H
       cases H
      rw [if_neg c8] at H
      cases H
     rw [if_neg c6] at H
     cases H
    rw [if_neg c5] at H
    cases H
   rw [if_neg c4] at H; have c4b0 := decide_eq_false c4; clear c4
   have H' := A_ H
   clear H
   go_wp2
   go_loopg [9] k1 (fun kq v9 w' => ∃ (x9_2 : Int), v9 = .int .i64 x9_2 ∧ Aside0 (impl_unbalanced.l1 kq l0 x6_1 x9_2 = some (r1, r2, r3, r4)) ∧ Aside0 (kq ≤ k1) ∧ Aside0 (Kd.R (Kd.int .i64) 3 w' w.heap.size (fun _ => True) u6 x6_1) ∧ Aside0 (Below w.heap.size w w'))
   case atStart => exact ⟨(1), (by rfl), H', ⟨Nat.le_refl _⟩, ⟨HO_6.out⟩, ⟨HB.out⟩⟩
   case round =>
    clear H'
    try skip
    obtain ⟨x9_2, rfl, HA, HK2, HO_6, HB⟩ := hrel
    cases gk with
    | zero => exact absurd HA.out (by simp [impl_unbalanced.l1])
    | succ k2 =>
     have H := HA.out; clear HA; simp only [impl_unbalanced.l1] at H
     by_cases c15 : x9_2 < (l0.length : Int)
     ·rw [if_pos c15] at H; have c15b0 := decide_eq_true c15; clear c15
      have H' := A_ H
      clear H
      go_wp2
      go_loopg [10] k2 (fun kq v10 w' => ∃ (x10_3 : Int), v10 = .int .i64 x10_3 ∧ Aside0 (impl_unbalanced.l2 kq l0 x6_1 x9_2 x10_3 = some (r1, r2, r3, r4)) ∧ Aside0 (kq ≤ k2) ∧ Aside0 (Kd.R (Kd.int .i64) 3 w' w.heap.size (fun _ => True) u6 x6_1) ∧ Aside0 (Below w.heap.size w w'))
      case atStart => exact ⟨(0), (by rfl), H', ⟨Nat.le_refl _⟩, ⟨HO_6.out⟩, ⟨HB.out⟩⟩
      case round =>
       clear H'
       try skip
       obtain ⟨x10_3, rfl, HA, HK3, HO_6, HB⟩ := hrel
       cases gk with
       | zero => exact absurd HA.out (by simp [impl_unbalanced.l2])
       | succ k3 =>
        have H := HA.out; clear HA; simp only [impl_unbalanced.l2] at H
        by_cases c16 : (wrap64 (x10_3 + x9_2)) ≤ (l0.length : Int)
        ·rw [if_pos c16] at H; have c16b0 := decide_eq_true c16; clear c16
         have H' := A_ H
         clear H
         go_wp2
         go_loopg [11] k3 (fun kq v11 w' => ∃ (x11_4 : Int), v11 = .int .i64 x11_4 ∧ Aside0 (impl_unbalanced.l3 kq l0 x6_1 x9_2 x10_3 x11_4 = some (r1, r2, r3, r4)) ∧ Aside0 (kq ≤ k3) ∧ Aside0 (Kd.R (Kd.int .i64) 3 w' w.heap.size (fun _ => True) u6 x6_1) ∧ Aside0 (Below w.heap.size w w'))
         case atStart => exact ⟨(wrap64 (x10_3 + 1)), (by rfl), H', ⟨Nat.le_refl _⟩, ⟨HO_6.out⟩, ⟨HB.out⟩⟩
         case round =>
          clear H'
          try skip
          obtain ⟨x11_4, rfl, HA, HK4, HO_6, HB⟩ := hrel
          cases gk with
          | zero => exact absurd HA.out (by simp [impl_unbalanced.l3])
          | succ k4 =>
           have H := HA.out; clear HA; simp only [impl_unbalanced.l3] at H
           by_cases c17 : (wrap64 (x11_4 + x9_2)) ≤ (l0.length : Int)
           ·rw [if_pos c17] at H; have c17b0 := decide_eq_true c17; clear c17; obtain ⟨ji18, hji18⟩ : ∃ j_ : Int, (wrap64 (x10_3 + x9_2)) = j_ := ⟨_, rfl⟩; replace H : (if 0 ≤ (ji18) then (if (ji18) < (x6_1.length : Int) then (if 0 ≤ x10_3 then (if x10_3 < (x6_1.length : Int) then (if 0 ≤ (wrap64 (x11_4 + x9_2)) then (if (wrap64 (x11_4 + x9_2)) < (x6_1.length : Int) then (if 0 ≤ x11_4 then (if x11_4 < (x6_1.length : Int) then (if (wrap64 ((wrap64 ((wrap64 ((rd x6_1 (ji18)) - (rd x6_1 x10_3))) - (rd x6_1 (wrap64 (x11_4 + x9_2))))) + (rd x6_1 x11_4))) > 1 then (some (x9_2, x10_3, x11_4, true)) else (if (wrap64 ((wrap64 ((wrap64 ((rd x6_1 (ji18)) - (rd x6_1 x10_3))) - (rd x6_1 (wrap64 (x11_4 + x9_2))))) + (rd x6_1 x11_4))) < (-1) then (some (x9_2, x10_3, x11_4, true)) else (impl_unbalanced.l3 k4 l0 x6_1 x9_2 x10_3 (wrap64 (x11_4 + 1))))) else (none)) else (none)) else (none)) else (none)) else (none)) else (none)) else (none)) else (none)) = some (r1, r2, r3, r4) := by first | (rw [hji18] at H; exact H) | (simp only [hji18] at H ⊢; exact H)
            (try rw [hji18] at c16b0)
            have hji18w : (IntKind.i64.wrap (x10_3 + x9_2)) = ji18 := (i64_w _).trans hji18
            by_cases c19 : 0 ≤ (ji18)
            ·rw [if_pos c19] at H; have c19b0 := decide_eq_true c19; clear c19
             by_cases c20 : (ji18) < (x6_1.length : Int)
             ·rw [if_pos c20] at H; have c20b0 := decide_eq_true c20; clear c20
              by_cases c21 : 0 ≤ x10_3
              ·rw [if_pos c21] at H; have c21b0 := decide_eq_true c21; clear c21
               by_cases c22 : x10_3 < (x6_1.length : Int)
               ·rw [if_pos c22] at H; have c22b0 := decide_eq_true c22; clear c22; obtain ⟨ji23, hji23⟩ : ∃ j_ : Int, (wrap64 (x11_4 + x9_2)) = j_ := ⟨_, rfl⟩; replace H : (if 0 ≤ (ji23) then (if (ji23) < (x6_1.length : Int) then (if 0 ≤ x11_4 then (if x11_4 < (x6_1.length : Int) then (if (wrap64 ((wrap64 ((wrap64 ((rd x6_1 (ji18)) - (rd x6_1 x10_3))) - (rd x6_1 (ji23)))) + (rd x6_1 x11_4))) > 1 then (some (x9_2, x10_3, x11_4, true)) else (if (wrap64 ((wrap64 ((wrap64 ((rd x6_1 (ji18)) - (rd x6_1 x10_3))) - (rd x6_1 (ji23)))) + (rd x6_1 x11_4))) < (-1) then (some (x9_2, x10_3, x11_4, true)) else (impl_unbalanced.l3 k4 l0 x6_1 x9_2 x10_3 (wrap64 (x11_4 + 1))))) else (none)) else (none)) else (none)) else (none)) = some (r1, r2, r3, r4) := by first | (rw [hji23] at H; exact H) | (simp only [hji23] at H ⊢; exact H)
                (try rw [hji23] at c17b0)
                have hji23w : (IntKind.i64.wrap (x11_4 + x9_2)) = ji23 := (i64_w _).trans hji23
                by_cases c24 : 0 ≤ (ji23)
                ·rw [if_pos c24] at H; have c24b0 := decide_eq_true c24; clear c24
                 by_cases c25 : (ji23) < (x6_1.length : Int)
                 ·rw [if_pos c25] at H; have c25b0 := decide_eq_true c25; clear c25
                  by_cases c26 : 0 ≤ x11_4
                  ·rw [if_pos c26] at H; have c26b0 := decide_eq_true c26; clear c26
                   by_cases c27 : x11_4 < (x6_1.length : Int)
                   ·rw [if_pos c27] at H; have c27b0 := decide_eq_true c27; clear c27
                    by_cases c28 : (wrap64 ((wrap64 ((wrap64 ((rd x6_1 (ji18)) - (rd x6_1 x10_3))) - (rd x6_1 (ji23)))) + (rd x6_1 x11_4))) > 1
                    ·rw [if_pos c28] at H
                     have c28b0 : decide (1 < (wrap64 ((wrap64 ((wrap64 ((rd x6_1 (ji18)) - (rd x6_1 x10_3))) - (rd x6_1 (ji23)))) + (rd x6_1 x11_4)))) = true := decide_eq_true c28
                     clear c28; simp only [Option.some.injEq, Prod.mk.injEq] at H; obtain ⟨rfl, rfl, rfl, rfl⟩ := H
                     try go_wp2
                     have n0_ := A_ (Kd.R_drew HO_6.out); have n1_ := A_ (below_drew1 HB.out); clear HO_6 HB; have HO_6 := n0_; have HB := n1_; clear n0_ n1_; obtain ⟨Ao30, co30, eo30⟩ := Kd.R_slice HO_6.out
                     (first | subst eo30 | (injection eo30 with f1_ f2_ f3_; have f4_ := f1_.symm; have f5_ := f3_.symm; clear f1_ f2_ f3_; subst f4_; subst f5_))
                     have p659 : 0 ≤ ((ji18) : Int) := od_ (by assumption)
                     have q659 : (ji18) < (x6_1.length : Int) := od_ (by assumption)
                     obtain ⟨ad659, e659, hx659_0⟩ := Kd.at_int (Kd.R_reads' HO_6.out).2.2 (ji18) p659 q659
                     cases e659
                     replace p659 := eq_true p659; replace q659 := eq_true q659
                     have p660 : 0 ≤ (x10_3 : Int) := od_ (by assumption)
                     have q660 : x10_3 < (x6_1.length : Int) := od_ (by assumption)
                     obtain ⟨ad660, e660, hx660_0⟩ := Kd.at_int (Kd.R_reads' HO_6.out).2.2 x10_3 p660 q660; obtain rfl : ad659 = ad660 := (by injection e660); replace p660 := eq_true p660; replace q660 := eq_true q660
                     have p661 : 0 ≤ ((ji23) : Int) := od_ (by assumption)
                     have q661 : (ji23) < (x6_1.length : Int) := od_ (by assumption)
                     obtain ⟨ad661, e661, hx661_0⟩ := Kd.at_int (Kd.R_reads' HO_6.out).2.2 (ji23) p661 q661; obtain rfl : ad659 = ad661 := (by injection e661); replace p661 := eq_true p661; replace q661 := eq_true q661
                     have p662 : 0 ≤ (x11_4 : Int) := od_ (by assumption)
                     have q662 : x11_4 < (x6_1.length : Int) := od_ (by assumption)
                     obtain ⟨ad662, e662, hx662_0⟩ := Kd.at_int (Kd.R_reads' HO_6.out).2.2 x11_4 p662 q662; obtain rfl : ad659 = ad662 := (by injection e662); replace p662 := eq_true p662; replace q662 := eq_true q662; refine start_ (n := 24) (S := fun w' => w'.cell? (ad659.add ((ji18)).toNat) = some (.int .i64 (rd x6_1 (ji18))) ∧ w'.cell? (ad659.add (x10_3).toNat) = some (.int .i64 (rd x6_1 x10_3)) ∧ w'.cell? (ad659.add ((ji23)).toNat) = some (.int .i64 (rd x6_1 (ji23))) ∧ w'.cell? (ad659.add (x11_4).toNat) = some (.int .i64 (rd x6_1 x11_4))) (ds := []) (mk_ 24 0) (by kernel_rfl) rfl rfl ⟨hx659_0, hx660_0, hx661_0, hx662_0⟩ (fun hHeld => ?_); refine with_tabW impl_unbalanced.tab16 impl_unbalanced.bits16 (fun HT_ HW_ => ?_)
                     generalize wr.drew = w29 at HO_6 HB hx659_0 hx660_0 hx661_0 hx662_0 hHeld ⊢
                     refine pv_ 0 58 (mk_ 24 1) rfl rfl HT_.out (by kernel_rfl) (fun _ _ _ h => h) (by rfl) (by intro w'; go_simp; with_reducible rfl) (by simp only [Act.put, mD, mE, mF, i64_w, i32_w]; rfl) ?_; refine pv_ 1 59 (mk_ 24 3) rfl rfl HT_.out (by kernel_rfl) (fun _ _ _ h => h) (by rfl) (by intro w'; go_simp; with_reducible rfl) (by simp only [Act.put, mD, mE, mF, i64_w, i32_w]; rfl) ?_; refine pv_ 2 60 (mk_ 24 7) rfl rfl HT_.out (by kernel_rfl) (fun _ _ _ h => h) (by rfl) (by intro w'; go_simp; with_reducible rfl) (by simp only [Act.put, mD, mE, mF, i64_w, i32_w]; rfl) ?_; refine pv_ 3 61 (mk_ 24 15) rfl rfl HT_.out (by kernel_rfl) (fun _ _ _ h => h) (by rfl) (by intro w'; go_simp; with_reducible rfl) (by simp only [Act.put, mD, mE, mF, i64_w, i32_w]; rfl) ?_; refine pv_ 4 62 (mk_ 24 31) rfl rfl HT_.out (by kernel_rfl) (fun _ _ _ h => h) (by rfl) (by intro w'; go_simp; with_reducible rfl) (by simp only [Act.put, mD, mE, mF, i64_w, i32_w]; rfl) ?_; refine pv_ 6 64 (mk_ 24 95) rfl rfl HT_.out (by kernel_rfl) (fun _ _ _ h => h) (by rfl) (by intro w'; go_simp; with_reducible rfl) (by simp only [Act.put, mD, mE, mF, i64_w, i32_w]; rfl) ?_; refine pv_ 7 65 (mk_ 24 223) rfl rfl HT_.out (by kernel_rfl) (fun _ _ _ h => h) (by rfl) (by intro w'; go_simp; with_reducible rfl) (by simp only [Act.put, mD, mE, mF, i64_w, i32_w]; rfl) ?_; refine pv_ 8 66 (mk_ 24 479) rfl rfl HT_.out (by kernel_rfl) (fun _ _ _ h => h) (by rfl) (by intro w'; go_simp; with_reducible rfl) (by simp only [Act.put, mD, mE, mF, i64_w, i32_w]; rfl) ?_; refine pv_ 11 69 (mk_ 24 2527) rfl rfl HT_.out (by kernel_rfl) (fun _ _ _ h => h) (by rfl) (by intro w'; go_simp; with_reducible rfl) (by simp only [Act.put, mD, mE, mF, i64_w, i32_w]; rfl) ?_; refine pv_ 12 70 (mk_ 24 6623) rfl rfl HT_.out (by kernel_rfl) (fun _ _ _ h => h) (by rfl) (by intro w'; go_simp; with_reducible rfl) (by simp only [Act.put, mD, mE, mF, i64_w, i32_w]; rfl) ?_; refine pv_ 13 71 (mk_ 24 14815) rfl rfl HT_.out (by kernel_rfl) (fun _ _ _ h => h) (by rfl) (by intro w'; go_simp; with_reducible rfl) (by simp only [Act.put, mD, mE, mF, i64_w, i32_w]; rfl) ?_; refine pv_ 14 72 (mk_ 24 31199) rfl rfl HT_.out (by kernel_rfl) (fun _ _ _ h => h) (by rfl) (by intro w'; go_simp; with_reducible rfl) (by simp only [Act.put, mD, mE, mF, i64_w, i32_w]; rfl) ?_; refine pv_ 15 73 (mk_ 24 63967) rfl rfl HT_.out (by kernel_rfl) (fun _ _ _ h => h) (by rfl) (by intro w'; go_simp; with_reducible rfl) (by simp only [Act.put, mD, mE, mF, i64_w, i32_w]; rfl) ?_; refine pv_ 18 76 (mk_ 24 326111) rfl rfl HT_.out (by kernel_rfl) (fun _ _ _ h => h) (by rfl) (by intro w'; go_simp; with_reducible rfl) (by simp only [Act.put, mD, mE, mF, i64_w, i32_w]; rfl) ?_; refine pv_ 19 77 (mk_ 24 850399) rfl rfl HT_.out (by kernel_rfl) (fun _ _ _ h => h) (by rfl) (by intro w'; go_simp; with_reducible rfl) (by simp only [Act.put, mD, mE, mF, i64_w, i32_w]; rfl) ?_; refine pv_ 20 78 (mk_ 24 1898975) rfl rfl HT_.out (by kernel_rfl) (fun _ _ _ h => h) (by rfl) (by intro w'; go_simp; with_reducible rfl) (by simp only [Act.put, mD, mE, mF, i64_w, i32_w]; rfl) ?_; refine take_ (i := 5) (N := some 63) (mk_ 24 1899007) rfl rfl (take_ofW HT_.out HW_.out (by kernel_rfl)) (fun _ _ _ h => h) (Or.inl ⟨by rfl, by rintro w' ⟨s0, s1, s2, s3⟩; go_simp; with_reducible rfl⟩) hHeld (by simp only [Act.put, mD, mE, mF, i64_w, i32_w]; rfl) ?_; refine take_ (i := 9) (N := some 67) (mk_ 24 1899519) rfl rfl (take_ofW HT_.out HW_.out (by kernel_rfl)) (fun _ _ _ h => h) (Or.inl ⟨by rfl, by rintro w' ⟨s0, s1, s2, s3⟩; go_simp; with_reducible rfl⟩) hHeld (by simp only [Act.put, mD, mE, mF, i64_w, i32_w]; rfl) ?_; refine pv_ 10 68 (mk_ 24 1900543) rfl rfl HT_.out (by kernel_rfl) (fun _ _ _ h => h) (by rfl) (by intro w'; go_simp; with_reducible rfl) (by simp only [Act.put, mD, mE, mF, i64_w, i32_w]; rfl) ?_; refine take_ (i := 16) (N := some 74) (mk_ 24 1966079) rfl rfl (take_ofW HT_.out HW_.out (by kernel_rfl)) (fun _ _ _ h => h) (Or.inl ⟨by rfl, by rintro w' ⟨s0, s1, s2, s3⟩; go_simp; with_reducible rfl⟩) hHeld (by simp only [Act.put, mD, mE, mF, i64_w, i32_w]; rfl) ?_; refine pv_ 17 75 (mk_ 24 2097151) rfl rfl HT_.out (by kernel_rfl) (fun _ _ _ h => h) (by rfl) (by intro w'; go_simp; with_reducible rfl) (by simp only [Act.put, mD, mE, mF, i64_w, i32_w]; rfl) ?_; refine take_ (i := 21) (N := some 79) (mk_ 24 4194303) rfl rfl (take_ofW HT_.out HW_.out (by kernel_rfl)) (fun _ _ _ h => h) (Or.inl ⟨by rfl, by rintro w' ⟨s0, s1, s2, s3⟩; go_simp; with_reducible rfl⟩) hHeld (by simp only [Act.put, mD, mE, mF, i64_w, i32_w]; rfl) ?_; refine pv_ 22 80 (mk_ 24 8388607) rfl rfl HT_.out (by kernel_rfl) (fun _ _ _ h => h) (by rfl) (by intro w'; go_simp; with_reducible rfl) (by simp only [Act.put, mD, mE, mF, i64_w, i32_w]; rfl) ?_; refine pv_ 23 12 (mk_ 24 16777215) rfl rfl HT_.out (by kernel_rfl) (fun _ _ _ h => h) (by rfl) (by intro w'; go_simp; with_reducible rfl) (by simp only [Act.put, mD, mE, mF, i64_w, i32_w]; rfl) ?_; refine done_ (done_of HT_.out (by kernel_rfl)) ?_
                     try go_wp2
                     refine bodyPost_ret (results_list (rs := [.tmp 2, .tmp 3, .tmp 4, .tmp 5]) rfl (by simp) (.tmp (.tmp (.tmp (.tmp .nil))))) rfl ?_; exact ⟨by first | rfl | (simp [errW_none, errW_some] <;> rfl) | (simp only [← hji18, ← hji23]; first | rfl | (simp [errW_none, errW_some] <;> rfl)) | (simp [*, errW_none, errW_some] <;> rfl), HB.out⟩
                    rw [if_neg c28] at H
                    have c28b0 : decide (1 < (wrap64 ((wrap64 ((wrap64 ((rd x6_1 (ji18)) - (rd x6_1 x10_3))) - (rd x6_1 (ji23)))) + (rd x6_1 x11_4)))) = false := decide_eq_false c28
                    clear c28
                    by_cases c31 : (wrap64 ((wrap64 ((wrap64 ((rd x6_1 (ji18)) - (rd x6_1 x10_3))) - (rd x6_1 (ji23)))) + (rd x6_1 x11_4))) < (-1)
                    ·rw [if_pos c31] at H; have c31b0 := decide_eq_true c31; clear c31; simp only [Option.some.injEq, Prod.mk.injEq] at H; obtain ⟨rfl, rfl, rfl, rfl⟩ := H
                     try go_wp2
                     have n0_ := A_ (Kd.R_drew HO_6.out); have n1_ := A_ (below_drew1 HB.out); clear HO_6 HB; have HO_6 := n0_; have HB := n1_; clear n0_ n1_; obtain ⟨Ao33, co33, eo33⟩ := Kd.R_slice HO_6.out
                     (first | subst eo33 | (injection eo33 with f1_ f2_ f3_; have f4_ := f1_.symm; have f5_ := f3_.symm; clear f1_ f2_ f3_; subst f4_; subst f5_))
                     have p659 : 0 ≤ ((ji18) : Int) := od_ (by assumption)
                     have q659 : (ji18) < (x6_1.length : Int) := od_ (by assumption)
                     obtain ⟨ad659, e659, hx659_0⟩ := Kd.at_int (Kd.R_reads' HO_6.out).2.2 (ji18) p659 q659
                     cases e659
                     replace p659 := eq_true p659; replace q659 := eq_true q659
                     have p660 : 0 ≤ (x10_3 : Int) := od_ (by assumption)
                     have q660 : x10_3 < (x6_1.length : Int) := od_ (by assumption)
                     obtain ⟨ad660, e660, hx660_0⟩ := Kd.at_int (Kd.R_reads' HO_6.out).2.2 x10_3 p660 q660; obtain rfl : ad659 = ad660 := (by injection e660); replace p660 := eq_true p660; replace q660 := eq_true q660
                     have p661 : 0 ≤ ((ji23) : Int) := od_ (by assumption)
                     have q661 : (ji23) < (x6_1.length : Int) := od_ (by assumption)
                     obtain ⟨ad661, e661, hx661_0⟩ := Kd.at_int (Kd.R_reads' HO_6.out).2.2 (ji23) p661 q661; obtain rfl : ad659 = ad661 := (by injection e661); replace p661 := eq_true p661; replace q661 := eq_true q661
                     have p662 : 0 ≤ (x11_4 : Int) := od_ (by assumption)
                     have q662 : x11_4 < (x6_1.length : Int) := od_ (by assumption)
                     obtain ⟨ad662, e662, hx662_0⟩ := Kd.at_int (Kd.R_reads' HO_6.out).2.2 x11_4 p662 q662; obtain rfl : ad659 = ad662 := (by injection e662); replace p662 := eq_true p662; replace q662 := eq_true q662; refine start_ (n := 24) (S := fun w' => w'.cell? (ad659.add ((ji18)).toNat) = some (.int .i64 (rd x6_1 (ji18))) ∧ w'.cell? (ad659.add (x10_3).toNat) = some (.int .i64 (rd x6_1 x10_3)) ∧ w'.cell? (ad659.add ((ji23)).toNat) = some (.int .i64 (rd x6_1 (ji23))) ∧ w'.cell? (ad659.add (x11_4).toNat) = some (.int .i64 (rd x6_1 x11_4))) (ds := []) (mk_ 24 0) (by kernel_rfl) rfl rfl ⟨hx659_0, hx660_0, hx661_0, hx662_0⟩ (fun hHeld => ?_); refine with_tabW impl_unbalanced.tab16 impl_unbalanced.bits16 (fun HT_ HW_ => ?_)
                     generalize wr.drew = w32 at HO_6 HB hx659_0 hx660_0 hx661_0 hx662_0 hHeld ⊢
                     refine pv_ 0 58 (mk_ 24 1) rfl rfl HT_.out (by kernel_rfl) (fun _ _ _ h => h) (by rfl) (by intro w'; go_simp; with_reducible rfl) (by simp only [Act.put, mD, mE, mF, i64_w, i32_w]; rfl) ?_; refine pv_ 1 59 (mk_ 24 3) rfl rfl HT_.out (by kernel_rfl) (fun _ _ _ h => h) (by rfl) (by intro w'; go_simp; with_reducible rfl) (by simp only [Act.put, mD, mE, mF, i64_w, i32_w]; rfl) ?_; refine pv_ 2 60 (mk_ 24 7) rfl rfl HT_.out (by kernel_rfl) (fun _ _ _ h => h) (by rfl) (by intro w'; go_simp; with_reducible rfl) (by simp only [Act.put, mD, mE, mF, i64_w, i32_w]; rfl) ?_; refine pv_ 3 61 (mk_ 24 15) rfl rfl HT_.out (by kernel_rfl) (fun _ _ _ h => h) (by rfl) (by intro w'; go_simp; with_reducible rfl) (by simp only [Act.put, mD, mE, mF, i64_w, i32_w]; rfl) ?_; refine pv_ 4 62 (mk_ 24 31) rfl rfl HT_.out (by kernel_rfl) (fun _ _ _ h => h) (by rfl) (by intro w'; go_simp; with_reducible rfl) (by simp only [Act.put, mD, mE, mF, i64_w, i32_w]; rfl) ?_; refine pv_ 6 64 (mk_ 24 95) rfl rfl HT_.out (by kernel_rfl) (fun _ _ _ h => h) (by rfl) (by intro w'; go_simp; with_reducible rfl) (by simp only [Act.put, mD, mE, mF, i64_w, i32_w]; rfl) ?_; refine pv_ 7 65 (mk_ 24 223) rfl rfl HT_.out (by kernel_rfl) (fun _ _ _ h => h) (by rfl) (by intro w'; go_simp; with_reducible rfl) (by simp only [Act.put, mD, mE, mF, i64_w, i32_w]; rfl) ?_; refine pv_ 8 66 (mk_ 24 479) rfl rfl HT_.out (by kernel_rfl) (fun _ _ _ h => h) (by rfl) (by intro w'; go_simp; with_reducible rfl) (by simp only [Act.put, mD, mE, mF, i64_w, i32_w]; rfl) ?_; refine pv_ 11 69 (mk_ 24 2527) rfl rfl HT_.out (by kernel_rfl) (fun _ _ _ h => h) (by rfl) (by intro w'; go_simp; with_reducible rfl) (by simp only [Act.put, mD, mE, mF, i64_w, i32_w]; rfl) ?_; refine pv_ 12 70 (mk_ 24 6623) rfl rfl HT_.out (by kernel_rfl) (fun _ _ _ h => h) (by rfl) (by intro w'; go_simp; with_reducible rfl) (by simp only [Act.put, mD, mE, mF, i64_w, i32_w]; rfl) ?_; refine pv_ 13 71 (mk_ 24 14815) rfl rfl HT_.out (by kernel_rfl) (fun _ _ _ h => h) (by rfl) (by intro w'; go_simp; with_reducible rfl) (by simp only [Act.put, mD, mE, mF, i64_w, i32_w]; rfl) ?_; refine pv_ 14 72 (mk_ 24 31199) rfl rfl HT_.out (by kernel_rfl) (fun _ _ _ h => h) (by rfl) (by intro w'; go_simp; with_reducible rfl) (by simp only [Act.put, mD, mE, mF, i64_w, i32_w]; rfl) ?_; refine pv_ 15 73 (mk_ 24 63967) rfl rfl HT_.out (by kernel_rfl) (fun _ _ _ h => h) (by rfl) (by intro w'; go_simp; with_reducible rfl) (by simp only [Act.put, mD, mE, mF, i64_w, i32_w]; rfl) ?_; refine pv_ 18 76 (mk_ 24 326111) rfl rfl HT_.out (by kernel_rfl) (fun _ _ _ h => h) (by rfl) (by intro w'; go_simp; with_reducible rfl) (by simp only [Act.put, mD, mE, mF, i64_w, i32_w]; rfl) ?_; refine pv_ 19 77 (mk_ 24 850399) rfl rfl HT_.out (by kernel_rfl) (fun _ _ _ h => h) (by rfl) (by intro w'; go_simp; with_reducible rfl) (by simp only [Act.put, mD, mE, mF, i64_w, i32_w]; rfl) ?_; refine pv_ 20 78 (mk_ 24 1898975) rfl rfl HT_.out (by kernel_rfl) (fun _ _ _ h => h) (by rfl) (by intro w'; go_simp; with_reducible rfl) (by simp only [Act.put, mD, mE, mF, i64_w, i32_w]; rfl) ?_; refine take_ (i := 5) (N := some 63) (mk_ 24 1899007) rfl rfl (take_ofW HT_.out HW_.out (by kernel_rfl)) (fun _ _ _ h => h) (Or.inl ⟨by rfl, by rintro w' ⟨s0, s1, s2, s3⟩; go_simp; with_reducible rfl⟩) hHeld (by simp only [Act.put, mD, mE, mF, i64_w, i32_w]; rfl) ?_; refine take_ (i := 9) (N := some 67) (mk_ 24 1899519) rfl rfl (take_ofW HT_.out HW_.out (by kernel_rfl)) (fun _ _ _ h => h) (Or.inl ⟨by rfl, by rintro w' ⟨s0, s1, s2, s3⟩; go_simp; with_reducible rfl⟩) hHeld (by simp only [Act.put, mD, mE, mF, i64_w, i32_w]; rfl) ?_; refine pv_ 10 68 (mk_ 24 1900543) rfl rfl HT_.out (by kernel_rfl) (fun _ _ _ h => h) (by rfl) (by intro w'; go_simp; with_reducible rfl) (by simp only [Act.put, mD, mE, mF, i64_w, i32_w]; rfl) ?_; refine take_ (i := 16) (N := some 74) (mk_ 24 1966079) rfl rfl (take_ofW HT_.out HW_.out (by kernel_rfl)) (fun _ _ _ h => h) (Or.inl ⟨by rfl, by rintro w' ⟨s0, s1, s2, s3⟩; go_simp; with_reducible rfl⟩) hHeld (by simp only [Act.put, mD, mE, mF, i64_w, i32_w]; rfl) ?_; refine pv_ 17 75 (mk_ 24 2097151) rfl rfl HT_.out (by kernel_rfl) (fun _ _ _ h => h) (by rfl) (by intro w'; go_simp; with_reducible rfl) (by simp only [Act.put, mD, mE, mF, i64_w, i32_w]; rfl) ?_; refine take_ (i := 21) (N := some 79) (mk_ 24 4194303) rfl rfl (take_ofW HT_.out HW_.out (by kernel_rfl)) (fun _ _ _ h => h) (Or.inl ⟨by rfl, by rintro w' ⟨s0, s1, s2, s3⟩; go_simp; with_reducible rfl⟩) hHeld (by simp only [Act.put, mD, mE, mF, i64_w, i32_w]; rfl) ?_; refine pv_ 22 80 (mk_ 24 8388607) rfl rfl HT_.out (by kernel_rfl) (fun _ _ _ h => h) (by rfl) (by intro w'; go_simp; with_reducible rfl) (by simp only [Act.put, mD, mE, mF, i64_w, i32_w]; rfl) ?_; refine pv_ 23 12 (mk_ 24 16777215) rfl rfl HT_.out (by kernel_rfl) (fun _ _ _ h => h) (by rfl) (by intro w'; go_simp; with_reducible rfl) (by simp only [Act.put, mD, mE, mF, i64_w, i32_w]; rfl) ?_; refine done_ (done_of HT_.out (by kernel_rfl)) ?_
                     try go_wp2
                     refine bodyPost_ret (results_list (rs := [.tmp 2, .tmp 3, .tmp 4, .tmp 5]) rfl (by simp) (.tmp (.tmp (.tmp (.tmp .nil))))) rfl ?_; exact ⟨by first | rfl | (simp [errW_none, errW_some] <;> rfl) | (simp only [← hji18, ← hji23]; first | rfl | (simp [errW_none, errW_some] <;> rfl)) | (simp [*, errW_none, errW_some] <;> rfl), HB.out⟩
                    rw [if_neg c31] at H; have c31b0 := decide_eq_false c31; clear c31
                    have H' := A_ H
                    clear H
                    try go_wp2
                    have n0_ := A_ (Kd.R_drew HO_6.out); have n1_ := A_ (below_drew1 HB.out); clear HO_6 HB; have HO_6 := n0_; have HB := n1_; clear n0_ n1_; obtain ⟨Ao35, co35, eo35⟩ := Kd.R_slice HO_6.out
                    (first | subst eo35 | (injection eo35 with f1_ f2_ f3_; have f4_ := f1_.symm; have f5_ := f3_.symm; clear f1_ f2_ f3_; subst f4_; subst f5_))
                    have p659 : 0 ≤ ((ji18) : Int) := od_ (by assumption)
                    have q659 : (ji18) < (x6_1.length : Int) := od_ (by assumption)
                    obtain ⟨ad659, e659, hx659_0⟩ := Kd.at_int (Kd.R_reads' HO_6.out).2.2 (ji18) p659 q659
                    cases e659
                    replace p659 := eq_true p659; replace q659 := eq_true q659
                    have p660 : 0 ≤ (x10_3 : Int) := od_ (by assumption)
                    have q660 : x10_3 < (x6_1.length : Int) := od_ (by assumption)
                    obtain ⟨ad660, e660, hx660_0⟩ := Kd.at_int (Kd.R_reads' HO_6.out).2.2 x10_3 p660 q660; obtain rfl : ad659 = ad660 := (by injection e660); replace p660 := eq_true p660; replace q660 := eq_true q660
                    have p661 : 0 ≤ ((ji23) : Int) := od_ (by assumption)
                    have q661 : (ji23) < (x6_1.length : Int) := od_ (by assumption)
                    obtain ⟨ad661, e661, hx661_0⟩ := Kd.at_int (Kd.R_reads' HO_6.out).2.2 (ji23) p661 q661; obtain rfl : ad659 = ad661 := (by injection e661); replace p661 := eq_true p661; replace q661 := eq_true q661
                    have p662 : 0 ≤ (x11_4 : Int) := od_ (by assumption)
                    have q662 : x11_4 < (x6_1.length : Int) := od_ (by assumption)
                    obtain ⟨ad662, e662, hx662_0⟩ := Kd.at_int (Kd.R_reads' HO_6.out).2.2 x11_4 p662 q662; obtain rfl : ad659 = ad662 := (by injection e662); replace p662 := eq_true p662; replace q662 := eq_true q662; refine start_ (n := 24) (S := fun w' => w'.cell? (ad659.add ((ji18)).toNat) = some (.int .i64 (rd x6_1 (ji18))) ∧ w'.cell? (ad659.add (x10_3).toNat) = some (.int .i64 (rd x6_1 x10_3)) ∧ w'.cell? (ad659.add ((ji23)).toNat) = some (.int .i64 (rd x6_1 (ji23))) ∧ w'.cell? (ad659.add (x11_4).toNat) = some (.int .i64 (rd x6_1 x11_4))) (ds := []) (mk_ 24 0) (by kernel_rfl) rfl rfl ⟨hx659_0, hx660_0, hx661_0, hx662_0⟩ (fun hHeld => ?_); refine with_tabW impl_unbalanced.tab16 impl_unbalanced.bits16 (fun HT_ HW_ => ?_)
                    generalize wr.drew = w34 at HO_6 HB hx659_0 hx660_0 hx661_0 hx662_0 hHeld ⊢
                    refine pv_ 0 58 (mk_ 24 1) rfl rfl HT_.out (by kernel_rfl) (fun _ _ _ h => h) (by rfl) (by intro w'; go_simp; with_reducible rfl) (by simp only [Act.put, mD, mE, mF, i64_w, i32_w]; rfl) ?_; refine pv_ 1 59 (mk_ 24 3) rfl rfl HT_.out (by kernel_rfl) (fun _ _ _ h => h) (by rfl) (by intro w'; go_simp; with_reducible rfl) (by simp only [Act.put, mD, mE, mF, i64_w, i32_w]; rfl) ?_; refine pv_ 2 60 (mk_ 24 7) rfl rfl HT_.out (by kernel_rfl) (fun _ _ _ h => h) (by rfl) (by intro w'; go_simp; with_reducible rfl) (by simp only [Act.put, mD, mE, mF, i64_w, i32_w]; rfl) ?_; refine pv_ 3 61 (mk_ 24 15) rfl rfl HT_.out (by kernel_rfl) (fun _ _ _ h => h) (by rfl) (by intro w'; go_simp; with_reducible rfl) (by simp only [Act.put, mD, mE, mF, i64_w, i32_w]; rfl) ?_; refine pv_ 4 62 (mk_ 24 31) rfl rfl HT_.out (by kernel_rfl) (fun _ _ _ h => h) (by rfl) (by intro w'; go_simp; with_reducible rfl) (by simp only [Act.put, mD, mE, mF, i64_w, i32_w]; rfl) ?_; refine pv_ 6 64 (mk_ 24 95) rfl rfl HT_.out (by kernel_rfl) (fun _ _ _ h => h) (by rfl) (by intro w'; go_simp; with_reducible rfl) (by simp only [Act.put, mD, mE, mF, i64_w, i32_w]; rfl) ?_; refine pv_ 7 65 (mk_ 24 223) rfl rfl HT_.out (by kernel_rfl) (fun _ _ _ h => h) (by rfl) (by intro w'; go_simp; with_reducible rfl) (by simp only [Act.put, mD, mE, mF, i64_w, i32_w]; rfl) ?_; refine pv_ 8 66 (mk_ 24 479) rfl rfl HT_.out (by kernel_rfl) (fun _ _ _ h => h) (by rfl) (by intro w'; go_simp; with_reducible rfl) (by simp only [Act.put, mD, mE, mF, i64_w, i32_w]; rfl) ?_; refine pv_ 11 69 (mk_ 24 2527) rfl rfl HT_.out (by kernel_rfl) (fun _ _ _ h => h) (by rfl) (by intro w'; go_simp; with_reducible rfl) (by simp only [Act.put, mD, mE, mF, i64_w, i32_w]; rfl) ?_; refine pv_ 12 70 (mk_ 24 6623) rfl rfl HT_.out (by kernel_rfl) (fun _ _ _ h => h) (by rfl) (by intro w'; go_simp; with_reducible rfl) (by simp only [Act.put, mD, mE, mF, i64_w, i32_w]; rfl) ?_; refine pv_ 13 71 (mk_ 24 14815) rfl rfl HT_.out (by kernel_rfl) (fun _ _ _ h => h) (by rfl) (by intro w'; go_simp; with_reducible rfl) (by simp only [Act.put, mD, mE, mF, i64_w, i32_w]; rfl) ?_; refine pv_ 14 72 (mk_ 24 31199) rfl rfl HT_.out (by kernel_rfl) (fun _ _ _ h => h) (by rfl) (by intro w'; go_simp; with_reducible rfl) (by simp only [Act.put, mD, mE, mF, i64_w, i32_w]; rfl) ?_; refine pv_ 15 73 (mk_ 24 63967) rfl rfl HT_.out (by kernel_rfl) (fun _ _ _ h => h) (by rfl) (by intro w'; go_simp; with_reducible rfl) (by simp only [Act.put, mD, mE, mF, i64_w, i32_w]; rfl) ?_; refine pv_ 18 76 (mk_ 24 326111) rfl rfl HT_.out (by kernel_rfl) (fun _ _ _ h => h) (by rfl) (by intro w'; go_simp; with_reducible rfl) (by simp only [Act.put, mD, mE, mF, i64_w, i32_w]; rfl) ?_; refine pv_ 19 77 (mk_ 24 850399) rfl rfl HT_.out (by kernel_rfl) (fun _ _ _ h => h) (by rfl) (by intro w'; go_simp; with_reducible rfl) (by simp only [Act.put, mD, mE, mF, i64_w, i32_w]; rfl) ?_; refine pv_ 20 78 (mk_ 24 1898975) rfl rfl HT_.out (by kernel_rfl) (fun _ _ _ h => h) (by rfl) (by intro w'; go_simp; with_reducible rfl) (by simp only [Act.put, mD, mE, mF, i64_w, i32_w]; rfl) ?_; refine take_ (i := 5) (N := some 63) (mk_ 24 1899007) rfl rfl (take_ofW HT_.out HW_.out (by kernel_rfl)) (fun _ _ _ h => h) (Or.inl ⟨by rfl, by rintro w' ⟨s0, s1, s2, s3⟩; go_simp; with_reducible rfl⟩) hHeld (by simp only [Act.put, mD, mE, mF, i64_w, i32_w]; rfl) ?_; refine take_ (i := 9) (N := some 67) (mk_ 24 1899519) rfl rfl (take_ofW HT_.out HW_.out (by kernel_rfl)) (fun _ _ _ h => h) (Or.inl ⟨by rfl, by rintro w' ⟨s0, s1, s2, s3⟩; go_simp; with_reducible rfl⟩) hHeld (by simp only [Act.put, mD, mE, mF, i64_w, i32_w]; rfl) ?_; refine pv_ 10 68 (mk_ 24 1900543) rfl rfl HT_.out (by kernel_rfl) (fun _ _ _ h => h) (by rfl) (by intro w'; go_simp; with_reducible rfl) (by simp only [Act.put, mD, mE, mF, i64_w, i32_w]; rfl) ?_; refine take_ (i := 16) (N := some 74) (mk_ 24 1966079) rfl rfl (take_ofW HT_.out HW_.out (by kernel_rfl)) (fun _ _ _ h => h) (Or.inl ⟨by rfl, by rintro w' ⟨s0, s1, s2, s3⟩; go_simp; with_reducible rfl⟩) hHeld (by simp only [Act.put, mD, mE, mF, i64_w, i32_w]; rfl) ?_; refine pv_ 17 75 (mk_ 24 2097151) rfl rfl HT_.out (by kernel_rfl) (fun _ _ _ h => h) (by rfl) (by intro w'; go_simp; with_reducible rfl) (by simp only [Act.put, mD, mE, mF, i64_w, i32_w]; rfl) ?_; refine take_ (i := 21) (N := some 79) (mk_ 24 4194303) rfl rfl (take_ofW HT_.out HW_.out (by kernel_rfl)) (fun _ _ _ h => h) (Or.inl ⟨by rfl, by rintro w' ⟨s0, s1, s2, s3⟩; go_simp; with_reducible rfl⟩) hHeld (by simp only [Act.put, mD, mE, mF, i64_w, i32_w]; rfl) ?_; refine pv_ 22 80 (mk_ 24 8388607) rfl rfl HT_.out (by kernel_rfl) (fun _ _ _ h => h) (by rfl) (by intro w'; go_simp; with_reducible rfl) (by simp only [Act.put, mD, mE, mF, i64_w, i32_w]; rfl) ?_; refine pv_ 23 12 (mk_ 24 16777215) rfl rfl HT_.out (by kernel_rfl) (fun _ _ _ h => h) (by rfl) (by intro w'; go_simp; with_reducible rfl) (by simp only [Act.put, mD, mE, mF, i64_w, i32_w]; rfl) ?_; refine done_ (done_of HT_.out (by kernel_rfl)) ?_
                    try go_wp2
                    (try subst hji18)
                    (try subst hji23)
                    go_roundg k4
                    case measure => have := HK1.out; have := HK2.out; have := HK3.out; have := HK4.out; omega
                    case rel => exact ⟨(wrap64 (x11_4 + 1)), (by rfl), H', ⟨by have := HK1.out; have := HK2.out; have := HK3.out; have := HK4.out; omega⟩, ⟨HO_6.out⟩, ⟨HB.out⟩⟩
                   rw [if_neg c27] at H
                   cases H
                  rw [if_neg c26] at H
                  cases H
                 rw [if_neg c25] at H
                 cases H
                rw [if_neg c24] at H
                cases H
               rw [if_neg c22] at H
               cases H
              rw [if_neg c21] at H
              cases H
             rw [if_neg c20] at H
             cases H
            rw [if_neg c19] at H
            cases H
           rw [if_neg c17] at H; have c17b0 := decide_eq_false c17; clear c17
           have H' := A_ H
           clear H
           go_wp2
           go_roundg k4
           case measure => have := HK1.out; have := HK2.out; have := HK3.out; have := HK4.out; omega
           case rel => exact ⟨(wrap64 (x10_3 + 1)), (by rfl), H', ⟨by have := HK1.out; have := HK2.out; have := HK3.out; have := HK4.out; omega⟩, ⟨HO_6.out⟩, ⟨HB.out⟩⟩
        rw [if_neg c16] at H; have c16b0 := decide_eq_false c16; clear c16
        have H' := A_ H
        clear H
        go_wp2
        go_roundg k3
        case measure => have := HK1.out; have := HK2.out; have := HK3.out; omega
        case rel => exact ⟨(wrap64 (x9_2 + 1)), (by rfl), H', ⟨by have := HK1.out; have := HK2.out; have := HK3.out; omega⟩, ⟨HO_6.out⟩, ⟨HB.out⟩⟩
     rw [if_neg c15] at H; have c15b0 := decide_eq_false c15; clear c15; simp only [Option.some.injEq, Prod.mk.injEq] at H; obtain ⟨rfl, rfl, rfl, rfl⟩ := H
     go_wp2
     refine bodyPost_ret (results_list (rs := [.tmp 2, .tmp 3, .tmp 4, .tmp 5]) rfl (by simp) (.tmp (.tmp (.tmp (.tmp .nil))))) rfl ?_; exact ⟨by rfl, HB.out⟩
end Go.Proofs.YtmjlmjhccpedmaaGreat.PFnBalance

