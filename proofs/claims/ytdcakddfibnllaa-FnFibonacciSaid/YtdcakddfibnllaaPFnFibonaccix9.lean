/- Written by this session's own program (wip/myprint.py): the machine side of one law, some contracts of it typed by hand. -/
import Derived.Test.YtdcakddfibnllaaPFnFibonaccix0
import Derived.Test.YtdcakddfibnllaaPFnFibonaccix8
namespace Go.Proofs.Ytdcakddfibnllaa.PFnFibonacci
open Go.RowKit Go.Proofs.YtdcakddfibnllaaW.PrintWords Go.Proofs.YtdcakddfibnllaaW.PrintLast Go.Proofs.YtdcakddfibnllaaW.PrintMore
attribute [local go_sem] max2_int min2_int max_two min_two max_three min_three max_four min_four   -- for this text's walks alone
set_option linter.unusedVariables false
set_option maxHeartbeats 8000000
set_option maxRecDepth 100000
set_option linter.unusedSimpArgs false

/-! ### spec_IsGrowing: function 76 -/
mutual
def spec_IsGrowing.j0 : Nat → Int → Bool → List (List Int) → Option (Bool)
 | 0, _, _, _ => none
 | k + 1, x1, x43, x327000 => if x43 = true then (some false) else (if 0 ≤ x1 then (if x1 < (x327000.length : Int) then (if 1 ≤ ((rd_L1 x327000 x1).length : Int) then (spec_IsGrowing.l0 k ((rd_L1 x327000 x1).drop 1) 0 x327000) else (none)) else (none)) else (none))
def spec_IsGrowing.l0 : Nat → List Int → Int → List (List Int) → Option (Bool)
 | 0, _, _, _ => none
 | k + 1, x5, x6, x327000 => if x6 ≤ (x327000.length : Int) then (spec_IsGrowing.l1 k x5 x6 (([] : List Int)) 0 x327000) else (some (decide ((x5.length : Int) > 0)))
def spec_IsGrowing.l1 : Nat → List Int → Int → List Int → Int → List (List Int) → Option (Bool)
 | 0, _, _, _, _, _ => none
 | k + 1, x5, x6, x7, x8, x327000 => if x8 < (x5.length : Int) then (spec_IsGrowing.l2 k x5 x6 x7 x8 0 x327000) else (spec_IsGrowing.l0 k x7 (wrap64 (x6 + 1)) x327000)
def spec_IsGrowing.l2 : Nat → List Int → Int → List Int → Int → Int → List (List Int) → Option (Bool)
 | 0, _, _, _, _, _, _ => none
 | k + 1, x5, x6, x7, x8, x9, x327000 => if 0 ≤ x8 then (if x8 < (x5.length : Int) then (if 0 ≤ (rd x5 x8) then (if (rd x5 x8) < (x327000.length : Int) then (if x9 < ((rd_L1 x327000 (rd x5 x8)).length : Int) then (if 0 ≤ x9 then ((spec_l4Has.f k x7 (rd (rd_L1 x327000 (rd x5 x8)) x9)).bind fun t345 => (if t345 = true then (spec_IsGrowing.l2 k x5 x6 x7 x8 (wrap64 (x9 + 1)) x327000) else (if x7.length < 17592186044416 then (spec_IsGrowing.l2 k x5 x6 (x7 ++ [rd (rd_L1 x327000 (rd x5 x8)) x9]) x8 (wrap64 (x9 + 1)) x327000) else (none)))) else (none)) else (spec_IsGrowing.l1 k x5 x6 x7 (wrap64 (x8 + 1)) x327000)) else (none)) else (none)) else (none)) else (none)
end
def spec_IsGrowing.f (k : Nat) (l0_0 : List (List Int)) (a1 : Int) : Option (Bool) := (spec_IsMorphism.f k l0_0).bind fun t327 => (if t327 = true then (if a1 < 0 then (spec_IsGrowing.j0 k a1 true l0_0) else (if a1 ≥ (l0_0.length : Int) then (spec_IsGrowing.j0 k a1 true l0_0) else (if 0 ≤ a1 then (if a1 < (l0_0.length : Int) then (if ((rd_L1 l0_0 a1).length : Int) < 2 then (spec_IsGrowing.j0 k a1 true l0_0) else (if 0 < ((rd_L1 l0_0 a1).length : Int) then (spec_IsGrowing.j0 k a1 ((rd (rd_L1 l0_0 a1) 0) != a1) l0_0) else (none))) else (none)) else (none)))) else (spec_IsGrowing.j0 k a1 true l0_0))
theorem spec_IsGrowing.mono_l : ∀ k, (∀ y0 y1 y2, LeO (spec_IsGrowing.j0 k y0 y1 y2) (spec_IsGrowing.j0 (k + 1) y0 y1 y2)) ∧ (∀ y0 y1 y2, LeO (spec_IsGrowing.l0 k y0 y1 y2) (spec_IsGrowing.l0 (k + 1) y0 y1 y2)) ∧ (∀ y0 y1 y2 y3 y4, LeO (spec_IsGrowing.l1 k y0 y1 y2 y3 y4) (spec_IsGrowing.l1 (k + 1) y0 y1 y2 y3 y4)) ∧ (∀ y0 y1 y2 y3 y4 y5, LeO (spec_IsGrowing.l2 k y0 y1 y2 y3 y4 y5) (spec_IsGrowing.l2 (k + 1) y0 y1 y2 y3 y4 y5))
 | 0 => ⟨fun _ _ _ r h => by simp [spec_IsGrowing.j0] at h, fun _ _ _ r h => by simp [spec_IsGrowing.l0] at h, fun _ _ _ _ _ r h => by simp [spec_IsGrowing.l1] at h, fun _ _ _ _ _ _ r h => by simp [spec_IsGrowing.l2] at h⟩
 | k + 1 => by
  obtain ⟨ih0, ih1, ih2, ih3⟩ := spec_IsGrowing.mono_l k
  refine ⟨?_, ?_, ?_, ?_⟩
  ·intro y0 y1 y2
   unfold spec_IsGrowing.j0
   with_reducible repeat' first | exact ih0 _ _ _ | exact ih1 _ _ _ | exact ih2 _ _ _ _ _ | exact ih3 _ _ _ _ _ _ | exact spec_IsMorphism.mono _ _ | exact spec_l4Has.mono _ _ _ | exact LeO.refl _ | exact LeO.none _ | refine LeO.ite ?_ ?_ | refine LeO.bind ?_ (fun _ => ?_)
  ·intro y0 y1 y2
   unfold spec_IsGrowing.l0
   with_reducible repeat' first | exact ih0 _ _ _ | exact ih1 _ _ _ | exact ih2 _ _ _ _ _ | exact ih3 _ _ _ _ _ _ | exact spec_IsMorphism.mono _ _ | exact spec_l4Has.mono _ _ _ | exact LeO.refl _ | exact LeO.none _ | refine LeO.ite ?_ ?_ | refine LeO.bind ?_ (fun _ => ?_)
  ·intro y0 y1 y2 y3 y4
   unfold spec_IsGrowing.l1
   with_reducible repeat' first | exact ih0 _ _ _ | exact ih1 _ _ _ | exact ih2 _ _ _ _ _ | exact ih3 _ _ _ _ _ _ | exact spec_IsMorphism.mono _ _ | exact spec_l4Has.mono _ _ _ | exact LeO.refl _ | exact LeO.none _ | refine LeO.ite ?_ ?_ | refine LeO.bind ?_ (fun _ => ?_)
  intro y0 y1 y2 y3 y4 y5
  unfold spec_IsGrowing.l2
  with_reducible repeat' first | exact ih0 _ _ _ | exact ih1 _ _ _ | exact ih2 _ _ _ _ _ | exact ih3 _ _ _ _ _ _ | exact spec_IsMorphism.mono _ _ | exact spec_l4Has.mono _ _ _ | exact LeO.refl _ | exact LeO.none _ | refine LeO.ite ?_ ?_ | refine LeO.bind ?_ (fun _ => ?_)
theorem spec_IsGrowing.mono : ∀ a0 a1 k, LeO (spec_IsGrowing.f k a0 a1) (spec_IsGrowing.f (k + 1) a0 a1) := by
 intro a0 a1 k
 obtain ⟨ih0, ih1, ih2, ih3⟩ := spec_IsGrowing.mono_l k
 unfold spec_IsGrowing.f
 with_reducible repeat' first | exact ih0 _ _ _ | exact ih1 _ _ _ | exact ih2 _ _ _ _ _ | exact ih3 _ _ _ _ _ _ | exact spec_IsMorphism.mono _ _ | exact spec_l4Has.mono _ _ _ | exact LeO.refl _ | exact LeO.none _ | refine LeO.ite ?_ ?_ | refine LeO.bind ?_ (fun _ => ?_)
def spec_IsGrowing.T12 : Bool × List (List Nat × List Nat) := (true, [([], []), ([], []), ([1], [1]), ([], []), ([], []), ([3, 4], [3, 4]), ([5], [5]), ([2, 6], [2, 6]), ([7], [7]), ([8], [8]), ([0, 9], [0, 9])])
def spec_IsGrowing.B12 : List Nat := [0, 0, 2, 0, 0, 24, 56, 126, 254, 510, 1023]
theorem spec_IsGrowing.tab12 : rtab .any (opsOf Try.f76 12) = spec_IsGrowing.T12 := by kernel_rfl
theorem spec_IsGrowing.bits12 : waitsOk spec_IsGrowing.T12.2 spec_IsGrowing.B12 = true := by kernel_rfl
def spec_IsGrowing.T14 : Bool × List (List Nat × List Nat) := (true, [([], []), ([], []), ([1], [1]), ([], []), ([], []), ([3, 4], [3, 4]), ([5], [5]), ([2, 6], [2, 6]), ([7], [7]), ([], []), ([8, 9], [8, 9]), ([10], [10]), ([0, 11], [0, 11]), ([12], [12])])
def spec_IsGrowing.B14 : List Nat := [0, 0, 2, 0, 0, 24, 56, 126, 254, 0, 1022, 2046, 4095, 8191]
theorem spec_IsGrowing.tab14 : rtab .any (opsOf Try.f76 14) = spec_IsGrowing.T14 := by kernel_rfl
theorem spec_IsGrowing.bits14 : waitsOk spec_IsGrowing.T14.2 spec_IsGrowing.B14 = true := by kernel_rfl
def spec_IsGrowing.T15 : Bool × List (List Nat × List Nat) := (true, [([], []), ([], []), ([1], [1]), ([], []), ([], []), ([3, 4], [3, 4]), ([5], [5]), ([2, 6], [2, 6]), ([7], [7]), ([], []), ([8, 9], [8, 9]), ([10], [10]), ([11], [11]), ([0, 12], [0, 12]), ([13, 13, 0, 1, 2, 3, 4, 5, 6, 7, 8, 9, 10, 11, 12, 13], [0, 13])])
def spec_IsGrowing.B15 : List Nat := [0, 0, 2, 0, 0, 24, 56, 126, 254, 0, 1022, 2046, 4094, 8191, 16383]
theorem spec_IsGrowing.tab15 : rtab .any (opsOf Try.f76 15) = spec_IsGrowing.T15 := by kernel_rfl
theorem spec_IsGrowing.bits15 : waitsOk spec_IsGrowing.T15.2 spec_IsGrowing.B15 = true := by kernel_rfl
theorem spec_IsGrowing.calls (k : Nat) (P0_0_ : Nat → Prop) (A0_0 : Option Addr) (c0_0 : Nat) (l0_0 : List (List Int)) (a1 : Int) (r : Bool) (w : World) (hs0_0 : Kd.V (Kd.slice 3 (Kd.int .i64)) 24 w w.heap.size (fun k_ => P0_0_ k_) (.slice A0_0 l0_0.length c0_0) l0_0) (h : spec_IsGrowing.f k l0_0 a1 = some r) :
  Calls Try.prog 76 #[.agg #[.slice A0_0 l0_0.length c0_0], .int .i64 a1] w fun e w' => e = .returned (.bool r) ∧ Below w.heap.size w w' := by
 have hu46 := Try.underlying46
 have HO0_0 := A_ (show Kd.V (Kd.slice 3 (Kd.int .i64)) 24 w w.heap.size (fun k_ => (P0_0_ k_ ∨ w.heap.size ≤ k_)) (.slice A0_0 l0_0.length c0_0) l0_0 from Kd.V_mono hs0_0 (fun k_ hk => .inl hk))
 have HB := A_ (Below.refl w.heap.size w)
 unfold spec_IsGrowing.f at h
 have H := h
 clear h
 have HC3 := A_ H
 clear H
 go_enter Try.func76, Try.ntmps76
 go_upto_region 1 with (first | ((with_reducible refine gate_dst (N := 2) rfl ?_); (try (refine gate_guard (by rfl) ?_; dsimp only)); refine box_event ?hg (N := 2) ?hd (cs := #[.slice A0_0 l0_0.length c0_0]) (t := 46) ?hr ?_; (case hd | hg => rfl); (case hr => go_simp; done); intro gb326 hg w4 hbox hb; have n0_ := A_ (Kd.V_below (Kd.V_elderB HO0_0.out gb326 (Nat.le_of_eq hg.symm)) hb); have n1_ := A_ (below_step HB.out hb); have n2_ := A_ (hbox); have n3_ := A_ ((by rw [hg]; exact (below_size HB.out) : w.heap.size ≤ gb326)); have n4_ := A_ ((by rw [hg]; exact (below_size HB.out) : w.heap.size ≤ gb326)); clear HO0_0 HB; revert n0_ n1_ n2_ n3_ n4_; intro HO0_0 HB BK326 GW326 GE326; clear hb hbox hg))
 (try simp only [Act.put, mD, mE, mF])
 go_cut [43] (fun v43 wc => ∃ (kq : Nat) (x43_2 : Bool), v43 = .bool x43_2 ∧ Aside0 (spec_IsGrowing.j0 kq a1 x43_2 l0_0 = some r) ∧ Aside0 (kq ≤ k) ∧ Aside0 (Kd.V (Kd.slice 3 (Kd.int .i64)) 24 wc w.heap.size (fun k_ => (P0_0_ k_ ∨ w.heap.size ≤ k_) ∧ k_ ≠ gb326) (.slice A0_0 l0_0.length c0_0) l0_0) ∧ Aside0 (wc.heap[gb326]? = some (.cells #[(.slice A0_0 l0_0.length c0_0)] 46 (0, 0))) ∧ Aside0 (Below w.heap.size w wc))
 case first =>
  have H := HC3.out
  clear HC3
  replace H := Option.bind_eq_some_iff.mp H
  obtain ⟨t327, A50, H⟩ := H
  have A5 := A_ A50
  clear A50
  by_cases c6 : t327 = true
  ·subst c6
   rw [if_pos rfl] at H
   by_cases c7 : a1 < 0
   ·rw [if_pos c7] at H
    have c7b0 : decide (a1 < 0) = true := decide_eq_true c7
    clear c7
    (first | rw [c7b0] | (simp only [i64_w, i32_w]; rw [c7b0]) | skip)
    have H' := A_ H
    clear H
    have hcz8_0 : w4.cell? ⟨gb326, 0, none⟩ = some (.slice A0_0 l0_0.length c0_0) := (blk_cell BK326.out 0).trans rfl
    have hfz8_0 := blk_frozen BK326.out 0
    go_wp2_with (first | ((with_reducible refine gate_callee (f := 84) rfl ?_); refine goesL_ (some 11) rfl rfl Try.func84 (by kernel_rfl) rfl #[.agg #[.slice A0_0 l0_0.length c0_0]] rfl (by (try simp only [mA, mB, mC]); first | done | rfl | (simp only [List.length_drop, List.length_take]; rfl)) ?_; (with_reducible refine (spec_IsMorphism.calls k _ _ l0_0 true _ ?side1 ?side2 A5.out).mono ?_); (case side1 => repeat (first | exact (Kd.V_reads' HO0_0.out).2.2 | (with_reducible refine Kd.C_alloc ?_ _) | (with_reducible refine Kd.C_drewN ?_ _) | (with_reducible refine Kd.C_drew ?_))); (case side2 => exact (Kd.V_reads' HO0_0.out).2.1); rintro e w9 ⟨rfl, hb⟩; refine ⟨_, rfl, ?_⟩; have n0_ := A_ (Kd.V_below HO0_0.out hb); have n1_ := A_ (blk_below BK326.out hb); have n2_ := A_ (below_step HB.out hb); clear HO0_0 BK326 HB; revert n0_ n1_ n2_; intro HO0_0 BK326 HB; clear hb; (try clear hi)))
    go_meet
    case rel => exact ⟨_, (true), (by rfl), H', ⟨by first | omega | exact Nat.le_refl _⟩, ⟨HO0_0.out⟩, ⟨BK326.out⟩, ⟨HB.out⟩⟩
   rw [if_neg c7] at H
   have c7b0 : decide (a1 < 0) = false := decide_eq_false c7
   clear c7
   (first | rw [c7b0] | (simp only [i64_w, i32_w]; rw [c7b0]) | skip)
   by_cases c10 : a1 ≥ (l0_0.length : Int)
   ·rw [if_pos c10] at H
    have c10b0 : decide ((l0_0.length : Int) ≤ a1) = true := decide_eq_true c10
    clear c10
    have H' := A_ H
    clear H
    have hcz11_0 : w4.cell? ⟨gb326, 0, none⟩ = some (.slice A0_0 l0_0.length c0_0) := (blk_cell BK326.out 0).trans rfl
    have hfz11_0 := blk_frozen BK326.out 0
    go_wp2_with (first | ((with_reducible refine gate_callee (f := 84) rfl ?_); refine goesL_ (some 11) rfl rfl Try.func84 (by kernel_rfl) rfl #[.agg #[.slice A0_0 l0_0.length c0_0]] rfl (by (try simp only [mA, mB, mC]); first | done | rfl | (simp only [List.length_drop, List.length_take]; rfl)) ?_; (with_reducible refine (spec_IsMorphism.calls k _ _ l0_0 true _ ?side1 ?side2 A5.out).mono ?_); (case side1 => repeat (first | exact (Kd.V_reads' HO0_0.out).2.2 | (with_reducible refine Kd.C_alloc ?_ _) | (with_reducible refine Kd.C_drewN ?_ _) | (with_reducible refine Kd.C_drew ?_))); (case side2 => exact (Kd.V_reads' HO0_0.out).2.1); rintro e w12 ⟨rfl, hb⟩; refine ⟨_, rfl, ?_⟩; have n0_ := A_ (Kd.V_below HO0_0.out hb); have n1_ := A_ (blk_below BK326.out hb); have n2_ := A_ (below_step HB.out hb); clear HO0_0 BK326 HB; revert n0_ n1_ n2_; intro HO0_0 BK326 HB; clear hb; have hcz13_0 : w12.cell? ⟨gb326, 0, none⟩ = some (.slice A0_0 l0_0.length c0_0) := (blk_cell BK326.out 0).trans rfl; have hfz13_0 := blk_frozen BK326.out 0))
    go_meet
    case rel => exact ⟨_, (true), (by rfl), H', ⟨by first | omega | exact Nat.le_refl _⟩, ⟨HO0_0.out⟩, ⟨BK326.out⟩, ⟨HB.out⟩⟩
   rw [if_neg c10] at H
   have c10b0 : decide ((l0_0.length : Int) ≤ a1) = false := decide_eq_false c10
   clear c10
   by_cases c14 : 0 ≤ a1
   ·rw [if_pos c14] at H
    have c14b0 : decide (0 ≤ a1) = true := decide_eq_true c14
    clear c14
    by_cases c15 : a1 < (l0_0.length : Int)
    ·rw [if_pos c15] at H
     have c15b0 : decide (a1 < (l0_0.length : Int)) = true := decide_eq_true c15
     clear c15
     by_cases c16 : ((rd_L1 l0_0 a1).length : Int) < 2
     ·rw [if_pos c16] at H
      have c16b0 : decide (((rd_L1 l0_0 a1).length : Int) < 2) = true := decide_eq_true c16
      have c16b1 : decide ((rd_L1 l0_0 a1).length < 2) = true := decide_eq_true (by omega)
      clear c16
      have H' := A_ H
      clear H
      have hcz17_0 : w4.cell? ⟨gb326, 0, none⟩ = some (.slice A0_0 l0_0.length c0_0) := (blk_cell BK326.out 0).trans rfl
      have hfz17_0 := blk_frozen BK326.out 0
      go_wp2_with (first | ((with_reducible refine gate_callee (f := 84) rfl ?_); refine goesL_ (some 11) rfl rfl Try.func84 (by kernel_rfl) rfl #[.agg #[.slice A0_0 l0_0.length c0_0]] rfl (by (try simp only [mA, mB, mC]); first | done | rfl | (simp only [List.length_drop, List.length_take]; rfl)) ?_; (with_reducible refine (spec_IsMorphism.calls k _ _ l0_0 true _ ?side1 ?side2 A5.out).mono ?_); (case side1 => repeat (first | exact (Kd.V_reads' HO0_0.out).2.2 | (with_reducible refine Kd.C_alloc ?_ _) | (with_reducible refine Kd.C_drewN ?_ _) | (with_reducible refine Kd.C_drew ?_))); (case side2 => exact (Kd.V_reads' HO0_0.out).2.1); rintro e w18 ⟨rfl, hb⟩; refine ⟨_, rfl, ?_⟩; have n0_ := A_ (Kd.V_below HO0_0.out hb); have n1_ := A_ (blk_below BK326.out hb); have n2_ := A_ (below_step HB.out hb); clear HO0_0 BK326 HB; revert n0_ n1_ n2_; intro HO0_0 BK326 HB; clear hb; have hcz19_0 : w18.cell? ⟨gb326, 0, none⟩ = some (.slice A0_0 l0_0.length c0_0) := (blk_cell BK326.out 0).trans rfl; have hfz19_0 := blk_frozen BK326.out 0; have p328 : 0 ≤ (a1 : Int) := of_decide_eq_true (by first | (with_reducible assumption) | assumption); have q328 : a1 < (l0_0.length : Int) := of_decide_eq_true (by first | (with_reducible assumption) | assumption); obtain ⟨ad328, A328_0, c328_0, e328, hx328_0, hl328_0, hi328_0⟩ := at_L1 (Kd.V_reads' HO0_0.out).2.2 a1 p328 q328; cases e328; obtain ⟨ce328, hce328, hMe328, hcc328⟩ := Kd.V_get HO0_0.out [] a1 p328 (by first | exact q328 | exact of_decide_eq_true (by first | (with_reducible assumption) | assumption) | (have e_ := (Kd.V_reads' HO0_0.out).1; omega)); obtain ⟨ua328_0, uc328_0, rfl, ul328_0, ge328_0⟩ := Kd.FK_slice_open hMe328; have hv328_0 := hcc328 0 _ rfl; rw [Nat.add_zero, show ((Kd.slice 3 (Kd.int .i64))).sz = 1 from rfl, Nat.mul_one] at hv328_0; replace hv328_0 := Option.some.inj (hv328_0.symm.trans hx328_0); injection hv328_0 with hva_ hvn_ hvc_; rw [hva_] at ge328_0; rw [hvc_] at ul328_0; have HL328_0 := A_ (show Kd.V (Kd.int .i64) 3 _ w.heap.size _ _ (rd_L1 l0_0 a1) from Kd.V_mk ul328_0 ge328_0); clear hva_ hvn_ hvc_ ge328_0 ul328_0; clear hcc328 hce328; have HR328_0 := A_ hi328_0; have HC328_0 := A_ hl328_0; clear hi328_0 hl328_0; replace p328 := eq_true p328; replace q328 := eq_true q328))
      go_meet
      case rel => exact ⟨_, (true), (by rfl), H', ⟨by first | omega | exact Nat.le_refl _⟩, ⟨HO0_0.out⟩, ⟨BK326.out⟩, ⟨HB.out⟩⟩
     rw [if_neg c16] at H
     have c16b0 : decide (((rd_L1 l0_0 a1).length : Int) < 2) = false := decide_eq_false c16
     have c16b1 : decide ((rd_L1 l0_0 a1).length < 2) = false := decide_eq_false (by omega)
     clear c16
     by_cases c20 : 0 < ((rd_L1 l0_0 a1).length : Int)
     ·rw [if_pos c20] at H
      have c20b0 : decide (0 < ((rd_L1 l0_0 a1).length : Int)) = true := decide_eq_true c20
      have c20b1 : decide (0 < (rd_L1 l0_0 a1).length) = true := decide_eq_true (by omega)
      clear c20
      have H' := A_ H
      clear H
      have hcz21_0 : w4.cell? ⟨gb326, 0, none⟩ = some (.slice A0_0 l0_0.length c0_0) := (blk_cell BK326.out 0).trans rfl
      have hfz21_0 := blk_frozen BK326.out 0
      go_wp2_with (first | ((with_reducible refine gate_callee (f := 84) rfl ?_); refine goesL_ (some 11) rfl rfl Try.func84 (by kernel_rfl) rfl #[.agg #[.slice A0_0 l0_0.length c0_0]] rfl (by (try simp only [mA, mB, mC]); first | done | rfl | (simp only [List.length_drop, List.length_take]; rfl)) ?_; (with_reducible refine (spec_IsMorphism.calls k _ _ l0_0 true _ ?side1 ?side2 A5.out).mono ?_); (case side1 => repeat (first | exact (Kd.V_reads' HO0_0.out).2.2 | (with_reducible refine Kd.C_alloc ?_ _) | (with_reducible refine Kd.C_drewN ?_ _) | (with_reducible refine Kd.C_drew ?_))); (case side2 => exact (Kd.V_reads' HO0_0.out).2.1); rintro e w22 ⟨rfl, hb⟩; refine ⟨_, rfl, ?_⟩; have n0_ := A_ (Kd.V_below HO0_0.out hb); have n1_ := A_ (blk_below BK326.out hb); have n2_ := A_ (below_step HB.out hb); clear HO0_0 BK326 HB; revert n0_ n1_ n2_; intro HO0_0 BK326 HB; clear hb; have hcz23_0 : w22.cell? ⟨gb326, 0, none⟩ = some (.slice A0_0 l0_0.length c0_0) := (blk_cell BK326.out 0).trans rfl; have hfz23_0 := blk_frozen BK326.out 0; have p328 : 0 ≤ (a1 : Int) := of_decide_eq_true (by first | (with_reducible assumption) | assumption); have q328 : a1 < (l0_0.length : Int) := of_decide_eq_true (by first | (with_reducible assumption) | assumption); obtain ⟨ad328, A328_0, c328_0, e328, hx328_0, hl328_0, hi328_0⟩ := at_L1 (Kd.V_reads' HO0_0.out).2.2 a1 p328 q328; cases e328; obtain ⟨ce328, hce328, hMe328, hcc328⟩ := Kd.V_get HO0_0.out [] a1 p328 (by first | exact q328 | exact of_decide_eq_true (by first | (with_reducible assumption) | assumption) | (have e_ := (Kd.V_reads' HO0_0.out).1; omega)); obtain ⟨ua328_0, uc328_0, rfl, ul328_0, ge328_0⟩ := Kd.FK_slice_open hMe328; have hv328_0 := hcc328 0 _ rfl; rw [Nat.add_zero, show ((Kd.slice 3 (Kd.int .i64))).sz = 1 from rfl, Nat.mul_one] at hv328_0; replace hv328_0 := Option.some.inj (hv328_0.symm.trans hx328_0); injection hv328_0 with hva_ hvn_ hvc_; rw [hva_] at ge328_0; rw [hvc_] at ul328_0; have HL328_0 := A_ (show Kd.V (Kd.int .i64) 3 _ w.heap.size _ _ (rd_L1 l0_0 a1) from Kd.V_mk ul328_0 ge328_0); clear hva_ hvn_ hvc_ ge328_0 ul328_0; clear hcc328 hce328; have HR328_0 := A_ hi328_0; have HC328_0 := A_ hl328_0; clear hi328_0 hl328_0; replace p328 := eq_true p328; replace q328 := eq_true q328; have p329 : 0 ≤ (a1 : Int) := of_decide_eq_true (by first | (with_reducible assumption) | assumption); have q329 : a1 < (l0_0.length : Int) := of_decide_eq_true (by first | (with_reducible assumption) | assumption); obtain ⟨ad329, A329_0, c329_0, e329, hx329_0, hl329_0, hi329_0⟩ := at_L1 (Kd.V_reads' HO0_0.out).2.2 a1 p329 q329; obtain rfl : ad328 = ad329 := (by injection e329); obtain ⟨ce329, hce329, hMe329, hcc329⟩ := Kd.V_get HO0_0.out [] a1 p329 (by first | exact q329 | exact of_decide_eq_true (by first | (with_reducible assumption) | assumption) | (have e_ := (Kd.V_reads' HO0_0.out).1; omega)); obtain ⟨ua329_0, uc329_0, rfl, ul329_0, ge329_0⟩ := Kd.FK_slice_open hMe329; have hv329_0 := hcc329 0 _ rfl; rw [Nat.add_zero, show ((Kd.slice 3 (Kd.int .i64))).sz = 1 from rfl, Nat.mul_one] at hv329_0; replace hv329_0 := Option.some.inj (hv329_0.symm.trans hx329_0); injection hv329_0 with hva_ hvn_ hvc_; rw [hva_] at ge329_0; rw [hvc_] at ul329_0; have HL329_0 := A_ (show Kd.V (Kd.int .i64) 3 _ w.heap.size _ _ (rd_L1 l0_0 a1) from Kd.V_mk ul329_0 ge329_0); clear hva_ hvn_ hvc_ ge329_0 ul329_0; clear hcc329 hce329; have HR329_0 := A_ hi329_0; have HC329_0 := A_ hl329_0; clear hi329_0 hl329_0; replace p329 := eq_true p329; replace q329 := eq_true q329; have ea_ := Option.some.inj (hx328_0.symm.trans hx329_0); injection ea_ with ea_ en_ ec_; subst ea_; subst ec_; clear en_; have p330 : 0 ≤ (0 : Int) := (by omega); have q330 : 0 < ((rd_L1 l0_0 a1).length : Int) := of_decide_eq_true (by first | (with_reducible assumption) | assumption); obtain ⟨ad330, e330, hx330_0⟩ := Kd.at_int (by repeat (first | (with_reducible exact HR329_0.out) | (with_reducible refine Kd.C_alloc ?_ _) | (with_reducible refine Kd.C_drewN ?_ _) | (with_reducible refine Kd.C_drew ?_) | exact HR329_0.out)) 0 p330 q330; cases e330; have qi330 : (0 < (rd_L1 l0_0 a1).length) = True := eq_true (by omega); (try rw [show ((0 : Int)).toNat = 0 from rfl] at hx330_0); (try rw [Addr.add_zero'] at hx330_0); replace p330 := eq_true p330; replace q330 := eq_true q330))
      go_meet
      case rel => exact ⟨_, (((rd (rd_L1 l0_0 a1) 0) != a1)), (by rfl), H', ⟨by first | omega | exact Nat.le_refl _⟩, ⟨HO0_0.out⟩, ⟨BK326.out⟩, ⟨HB.out⟩⟩
     rw [if_neg c20] at H
     exact absurd H (by simp)
    rw [if_neg c15] at H
    exact absurd H (by simp)
   rw [if_neg c14] at H
   exact absurd H (by simp)
  replace c6 := Bool.eq_false_iff.mpr c6
  subst c6
  rw [if_neg (show ¬ (false = true) by decide)] at H
  have H' := A_ H
  clear H
  have hcz24_0 : w4.cell? ⟨gb326, 0, none⟩ = some (.slice A0_0 l0_0.length c0_0) := (blk_cell BK326.out 0).trans rfl
  have hfz24_0 := blk_frozen BK326.out 0
  go_wp2_with (first | ((with_reducible refine gate_callee (f := 84) rfl ?_); refine goesL_ (some 11) rfl rfl Try.func84 (by kernel_rfl) rfl #[.agg #[.slice A0_0 l0_0.length c0_0]] rfl (by (try simp only [mA, mB, mC]); first | done | rfl | (simp only [List.length_drop, List.length_take]; rfl)) ?_; (with_reducible refine (spec_IsMorphism.calls k _ _ l0_0 false _ ?side1 ?side2 A5.out).mono ?_); (case side1 => repeat (first | exact (Kd.V_reads' HO0_0.out).2.2 | (with_reducible refine Kd.C_alloc ?_ _) | (with_reducible refine Kd.C_drewN ?_ _) | (with_reducible refine Kd.C_drew ?_))); (case side2 => exact (Kd.V_reads' HO0_0.out).2.1); rintro e w25 ⟨rfl, hb⟩; refine ⟨_, rfl, ?_⟩; have n0_ := A_ (Kd.V_below HO0_0.out hb); have n1_ := A_ (blk_below BK326.out hb); have n2_ := A_ (below_step HB.out hb); clear HO0_0 BK326 HB; revert n0_ n1_ n2_; intro HO0_0 BK326 HB; clear hb; (try clear hi)))
  go_meet
  case rel => exact ⟨_, (true), (by rfl), H', ⟨by first | omega | exact Nat.le_refl _⟩, ⟨HO0_0.out⟩, ⟨BK326.out⟩, ⟨HB.out⟩⟩
 case rest =>
  clear HC3
  obtain ⟨kq, x43_2, rfl, HA, HJ2, HO_327000, BK326, HB⟩ := hcut
  cases kq with
  | zero => exact absurd HA.out (by simp [spec_IsGrowing.j0])
  | succ kj2 =>
   have H := HA.out
   clear HA
   simp only [spec_IsGrowing.j0] at H
   by_cases c26 : x43_2 = true
   ·subst c26
    rw [if_pos rfl] at H
    obtain rfl := Option.some.inj H
    go_wp2
    go_ret
    exact ⟨by rfl, HB.out⟩
   replace c26 := Bool.eq_false_iff.mpr c26
   subst c26
   rw [if_neg (show ¬ (false = true) by decide)] at H
   by_cases c27 : 0 ≤ a1
   ·rw [if_pos c27] at H
    have c27b0 : decide (0 ≤ a1) = true := decide_eq_true c27
    clear c27
    by_cases c28 : a1 < (l0_0.length : Int)
    ·rw [if_pos c28] at H
     have c28b0 : decide (a1 < (l0_0.length : Int)) = true := decide_eq_true c28
     clear c28
     by_cases c29 : 1 ≤ ((rd_L1 l0_0 a1).length : Int)
     ·rw [if_pos c29] at H
      have c29b0 := eq_true c29
      have c29b1 : decide (1 ≤ ((rd_L1 l0_0 a1).length : Int)) = true := decide_eq_true c29
      clear c29
      obtain ⟨y332, hy332⟩ : ∃ y_ : List Int, y_ = ((rd_L1 l0_0 a1).drop 1) := ⟨_, rfl⟩
      replace H : (spec_IsGrowing.l0 kj2 y332 0 l0_0) = some r := by (rw [hy332]; with_reducible exact H)
      have Ny332 := A_ hy332
      clear hy332
      have H' := A_ H
      clear H
      have hcz30_0 : wc.cell? ⟨gb326, 0, none⟩ = some (.slice A0_0 l0_0.length c0_0) := (blk_cell BK326.out 0).trans rfl
      have hfz30_0 := blk_frozen BK326.out 0
      have p331 : 0 ≤ (a1 : Int) := of_decide_eq_true (by first | (with_reducible assumption) | assumption)
      have q331 : a1 < (l0_0.length : Int) := of_decide_eq_true (by first | (with_reducible assumption) | assumption)
      obtain ⟨ad331, A331_0, c331_0, e331, hx331_0, hl331_0, hi331_0⟩ := at_L1 (Kd.V_reads' HO_327000.out).2.2 a1 p331 q331
      cases e331
      obtain ⟨ce331, hce331, hMe331, hcc331⟩ := Kd.V_get HO_327000.out [] a1 p331 (by first | exact q331 | exact of_decide_eq_true (by first | (with_reducible assumption) | assumption) | (have e_ := (Kd.V_reads' HO_327000.out).1; omega))
      obtain ⟨ua331_0, uc331_0, rfl, ul331_0, ge331_0⟩ := Kd.FK_slice_open hMe331
      have hv331_0 := hcc331 0 _ rfl
      rw [Nat.add_zero, show ((Kd.slice 3 (Kd.int .i64))).sz = 1 from rfl, Nat.mul_one] at hv331_0
      replace hv331_0 := Option.some.inj (hv331_0.symm.trans hx331_0)
      injection hv331_0 with hva_ hvn_ hvc_
      rw [hva_] at ge331_0
      rw [hvc_] at ul331_0
      have HL331_0 := A_ (show Kd.V (Kd.int .i64) 3 _ w.heap.size _ _ (rd_L1 l0_0 a1) from Kd.V_mk ul331_0 ge331_0)
      clear hva_ hvn_ hvc_ ge331_0 ul331_0
      clear hcc331 hce331
      have HR331_0 := A_ hi331_0
      have HC331_0 := A_ hl331_0
      clear hi331_0 hl331_0
      replace p331 := eq_true p331
      replace q331 := eq_true q331
      have q31 : (1 : Int) ≤ (((rd_L1 l0_0 a1).length : Int) : Int) := of_decide_eq_true (by first | (with_reducible assumption) | assumption)
      obtain ⟨i031, hi031, _, hsz31, _⟩ := info_parts info3
      have hroom31 : (rd_L1 l0_0 a1).length ≤ c331_0 := HC331_0.out
      have hC31 : Kd.F (Kd.int .i64) _ _ A331_0 (rd_L1 l0_0 a1).length (rd_L1 l0_0 a1) := (Kd.V_at (base := w.heap.size) HL331_0.out).2.2
      have hcut31 := cut_from (P := Try.prog) 24 3 .i64 Try.underlying24 hi031 1 hsz31 A331_0 (rd_L1 l0_0 a1).length c331_0 1 (by omega) q31
      have hr31 := Kd.F_cut (m := (1 : Int).toNat) (c := c331_0) hC31 (by omega) hroom31
      obtain ⟨A31, hA31⟩ : ∃ A1, A1 = (if c331_0 = (1 : Int).toNat then A331_0 else (A331_0 : Option Addr).map (·.add ((1 : Int).toNat * 1))) := ⟨_, rfl⟩
      obtain ⟨c31, hc31⟩ : ∃ c1, c1 = c331_0 - (1 : Int).toNat := ⟨_, rfl⟩
      have hy31 : y332.length = (rd_L1 l0_0 a1).length - (1 : Int).toNat := (by rw [Ny332.out, List.length_drop] <;> omega)
      rw [show (rd_L1 l0_0 a1).drop (1 : Int).toNat = y332 from Ny332.out.symm] at hr31
      replace hr31 : Kd.F (Kd.int .i64) _ _ A31 y332.length y332 := (by rw [hA31]; exact hr31)
      rw [← hy31, ← hA31, ← hc31] at hcut31
      have HO336 := A_ (show Kd.V (Kd.int .i64) 3 _ w.heap.size _ (.slice A31 y332.length c31) y332 from Kd.V_mk (by rw [hy31, hc31]; exact Nat.sub_le_sub_right hroom31 _) hr31)
      have HC336 := A_ (show y332.length ≤ c31 from by rw [hy31, hc31]; exact Nat.sub_le_sub_right hroom31 _)
      clear hr31 hC31 hroom31 hi031 hsz31 hc31
      have KY31 := A_ hy31
      have KA31 := A_ hA31
      clear hy31 hA31
      replace q31 := eq_true q31
      go_wp2
      go_loopg [5, 6] kj2 (fun kq v5 v6 w' => ∃ (x5_2 : List Int) (x6_2 : Int), v6 = .int .i64 x6_2 ∧ Aside0 (spec_IsGrowing.l0 kq x5_2 x6_2 l0_0 = some r) ∧ Aside0 (kq ≤ kj2) ∧ Aside0 (Kd.V (Kd.int .i64) 3 w' w.heap.size (fun k_ => (P0_0_ k_ ∨ w.heap.size ≤ k_) ∧ k_ ≠ gb326) v5 x5_2) ∧ Aside0 (Kd.V (Kd.slice 3 (Kd.int .i64)) 24 w' w.heap.size (fun k_ => (P0_0_ k_ ∨ w.heap.size ≤ k_) ∧ k_ ≠ gb326) (.slice (some ad331) l0_0.length c0_0) l0_0) ∧ Aside0 (w'.heap[gb326]? = some (.cells #[(.slice (some ad331) l0_0.length c0_0)] 46 (0, 0))) ∧ Aside0 (Below w.heap.size w w'))
      case atStart => exact ⟨(y332), (0), (by rfl), H', ⟨Nat.le_refl _⟩, ⟨HO336.out⟩, ⟨HO_327000.out⟩, ⟨BK326.out⟩, ⟨HB.out⟩⟩
      case round =>
       clear H'
       try clear c27b0
       try clear c28b0
       try clear c29b0
       try clear c29b1
       try clear q31
       try clear hcz30_0
       try clear hfz30_0
       try clear hx331_0
       try clear p331
       try clear q331
       obtain ⟨x5_2, x6_2, rfl, HA, HK2, HO_5, HO_327000, BK326, HB⟩ := hrel
       cases gk with
       | zero => exact absurd HA.out (by simp [spec_IsGrowing.l0])
       | succ k2 =>
        have H := HA.out
        clear HA
        simp only [spec_IsGrowing.l0] at H
        by_cases c32 : x6_2 ≤ (l0_0.length : Int)
        ·rw [if_pos c32] at H
         have c32b0 : decide (x6_2 ≤ (l0_0.length : Int)) = true := decide_eq_true c32
         clear c32
         obtain ⟨y337, hy337⟩ : ∃ y_ : List Int, y_ = (([] : List Int)) := ⟨_, rfl⟩
         replace H : (spec_IsGrowing.l1 k2 x5_2 x6_2 y337 0 l0_0) = some r := by (rw [hy337]; with_reducible exact H)
         have Ny337 := A_ hy337
         clear hy337
         have H' := A_ H
         clear H
         have hcz33_0 : wr.cell? ⟨gb326, 0, none⟩ = some (.slice (some ad331) l0_0.length c0_0) := (blk_cell BK326.out 0).trans rfl
         have hfz33_0 := blk_frozen BK326.out 0
         go_wp2_with (first | ((with_reducible refine gate_dst (N := 57) rfl ?_); (try (refine gate_guard (by rfl) ?_; dsimp only)); refine Kd.R_lit (Kd.int .i64) _ 3 ?hg (N := 57) ?hd (xs := ([] : List Int)) (inner := []) (ok := fun _ => True) (okp := fun _ => True) ?hr ?hp (fun _ hk => hk) trivial (Below.refl _ _) (Nat.le_refl _) (by simp) ?_; (case hd | hg => rfl); (case hr => go_simp; done); (case hp => exact (Reps.none _ _)); intro v338 w34 ho35 hb hg_ hnew_; clear hg_ hnew_; (first | rw [← Ny337.out] at ho35 | (simp only [Int.reduceToNat] at ho35; rw [← Ny337.out] at ho35)); have n0_ := A_ (Kd.V_elder' HO_5.out (Kd.R_base ho35) hb); have n1_ := A_ (Kd.V_elder' HO_327000.out (Kd.R_base ho35) hb); have n2_ := A_ (Kd.R_lower (Kd.R_newM (M := fun k_ => (w.heap.size ≤ k_)) ho35 (below_size HB.out) (fun k_ h_ => h_)) (below_size HB.out)); have n3_ := A_ (blk_below BK326.out hb); have n4_ := A_ (below_step HB.out hb); clear HO_5 HO_327000 BK326 HB; revert n0_ n1_ n2_ n3_ n4_; intro HO_5 HO_327000 HO339 BK326 HB; clear hb ho35))
         go_loopg [7, 8] k2 (fun kq v7 v8 w' => ∃ (x7_3 : List Int) (x8_3 : Int), v8 = .int .i64 x8_3 ∧ Aside0 (spec_IsGrowing.l1 kq x5_2 x6_2 x7_3 x8_3 l0_0 = some r) ∧ Aside0 (kq ≤ k2) ∧ Aside0 (Kd.V (Kd.int .i64) 3 w' w.heap.size (fun k_ => (P0_0_ k_ ∨ w.heap.size ≤ k_) ∧ some k_ ≠ (v7 : Value).ownBlock ∧ k_ ≠ gb326) u5 x5_2) ∧ Aside0 (Kd.R (Kd.int .i64) 3 w' w.heap.size (fun k_ => (w.heap.size ≤ k_)) v7 x7_3) ∧ Aside0 (Kd.V (Kd.slice 3 (Kd.int .i64)) 24 w' w.heap.size (fun k_ => (P0_0_ k_ ∨ w.heap.size ≤ k_) ∧ some k_ ≠ (v7 : Value).ownBlock ∧ k_ ≠ gb326) (.slice (some ad331) l0_0.length c0_0) l0_0) ∧ Aside0 (w'.heap[gb326]? = some (.cells #[(.slice (some ad331) l0_0.length c0_0)] 46 (0, 0))) ∧ Aside0 (Below w.heap.size w w'))
         case atStart => exact ⟨(y337), (0), (by rfl), H', ⟨Nat.le_refl _⟩, ⟨by exact Kd.V_mono HO_5.out (fun _ hk => ⟨hk.1.1, ⟨hk.2, hk.1.2⟩⟩)⟩, ⟨by exact Kd.R_mono HO339.out (fun _ hk => hk.1)⟩, ⟨by exact Kd.V_mono HO_327000.out (fun _ hk => ⟨hk.1.1, ⟨hk.2, hk.1.2⟩⟩)⟩, ⟨BK326.out⟩, ⟨HB.out⟩⟩
         case round =>
          clear H'
          try clear c32b0
          try clear hcz33_0
          try clear hfz33_0
          obtain ⟨x7_3, x8_3, rfl, HA, HK3, HO_5, HO_7, HO_327000, BK326, HB⟩ := hrel
          cases gk with
          | zero => exact absurd HA.out (by simp [spec_IsGrowing.l1])
          | succ k3 =>
           have H := HA.out
           clear HA
           simp only [spec_IsGrowing.l1] at H
           by_cases c36 : x8_3 < (x5_2.length : Int)
           ·rw [if_pos c36] at H
            have c36b0 : decide (x8_3 < (x5_2.length : Int)) = true := decide_eq_true c36
            clear c36
            have H' := A_ H
            clear H
            obtain ⟨Ao37, co37, eo37⟩ := Kd.V_slice HO_5.out
            subst eo37
            go_wp2
            go_loopg [7, 9] k3 (fun kq v7 v9 w' => ∃ (x7_4 : List Int) (x9_4 : Int), v9 = .int .i64 x9_4 ∧ Aside0 (spec_IsGrowing.l2 kq x5_2 x6_2 x7_4 x8_3 x9_4 l0_0 = some r) ∧ Aside0 (kq ≤ k3) ∧ Aside0 (Kd.V (Kd.int .i64) 3 w' w.heap.size (fun k_ => (P0_0_ k_ ∨ w.heap.size ≤ k_) ∧ some k_ ≠ (v7 : Value).ownBlock ∧ k_ ≠ gb326) (.slice Ao37 x5_2.length co37) x5_2) ∧ Aside0 (Kd.R (Kd.int .i64) 3 w' w.heap.size (fun k_ => (w.heap.size ≤ k_)) v7 x7_4) ∧ Aside0 (Kd.V (Kd.slice 3 (Kd.int .i64)) 24 w' w.heap.size (fun k_ => (P0_0_ k_ ∨ w.heap.size ≤ k_) ∧ some k_ ≠ (v7 : Value).ownBlock ∧ k_ ≠ gb326) (.slice (some ad331) l0_0.length c0_0) l0_0) ∧ Aside0 (w'.heap[gb326]? = some (.cells #[(.slice (some ad331) l0_0.length c0_0)] 46 (0, 0))) ∧ Aside0 (Below w.heap.size w w'))
            case atStart => exact ⟨(x7_3), (0), (by rfl), H', ⟨Nat.le_refl _⟩, ⟨HO_5.out⟩, ⟨HO_7.out⟩, ⟨HO_327000.out⟩, ⟨BK326.out⟩, ⟨HB.out⟩⟩
            case round =>
             clear H'
             try clear c36b0
             obtain ⟨x7_4, x9_4, rfl, HA, HK4, HO_5, HO_7, HO_327000, BK326, HB⟩ := hrel
             cases gk with
             | zero => exact absurd HA.out (by simp [spec_IsGrowing.l2])
             | succ k4 =>
              have H := HA.out
              clear HA
              simp only [spec_IsGrowing.l2] at H
              by_cases c38 : 0 ≤ x8_3
              ·rw [if_pos c38] at H
               have c38b0 : decide (0 ≤ x8_3) = true := decide_eq_true c38
               clear c38
               by_cases c39 : x8_3 < (x5_2.length : Int)
               ·rw [if_pos c39] at H
                have c39b0 : decide (x8_3 < (x5_2.length : Int)) = true := decide_eq_true c39
                clear c39
                by_cases c40 : 0 ≤ (rd x5_2 x8_3)
                ·rw [if_pos c40] at H
                 have c40b0 : decide (0 ≤ (rd x5_2 x8_3)) = true := decide_eq_true c40
                 clear c40
                 by_cases c41 : (rd x5_2 x8_3) < (l0_0.length : Int)
                 ·rw [if_pos c41] at H
                  have c41b0 : decide ((rd x5_2 x8_3) < (l0_0.length : Int)) = true := decide_eq_true c41
                  clear c41
                  by_cases c42 : x9_4 < ((rd_L1 l0_0 (rd x5_2 x8_3)).length : Int)
                  ·rw [if_pos c42] at H
                   have c42b0 : decide (x9_4 < ((rd_L1 l0_0 (rd x5_2 x8_3)).length : Int)) = true := decide_eq_true c42
                   clear c42
                   by_cases c43 : 0 ≤ x9_4
                   ·rw [if_pos c43] at H
                    have c43b0 : decide (0 ≤ x9_4) = true := decide_eq_true c43
                    clear c43
                    replace H := Option.bind_eq_some_iff.mp H
                    obtain ⟨t345, A440, H⟩ := H
                    have A44 := A_ A440
                    clear A440
                    by_cases c45 : t345 = true
                    ·subst c45
                     rw [if_pos rfl] at H
                     have H' := A_ H
                     clear H
                     try go_wp2
                     have n0_ := A_ (Kd.V_drew HO_5.out)
                     have n1_ := A_ (Kd.R_drew HO_7.out)
                     have n2_ := A_ (Kd.V_drew HO_327000.out)
                     have n3_ := A_ (blk_drew BK326.out)
                     have n4_ := A_ (below_drew1 HB.out)
                     clear HO_5
                     clear HO_7
                     clear HO_327000
                     clear BK326
                     clear HB
                     have HO_5 := n0_
                     have HO_7 := n1_
                     have HO_327000 := n2_
                     have BK326 := n3_
                     have HB := n4_
                     clear n0_ n1_ n2_ n3_ n4_
                     have p340 : 0 ≤ (x8_3 : Int) := of_decide_eq_true (by first | (with_reducible assumption) | assumption)
                     have q340 : x8_3 < (x5_2.length : Int) := of_decide_eq_true (by first | (with_reducible assumption) | assumption)
                     obtain ⟨ad340, e340, hx340_0⟩ := Kd.at_int (Kd.V_reads' HO_5.out).2.2 x8_3 p340 q340
                     cases e340
                     replace p340 := eq_true p340
                     replace q340 := eq_true q340
                     have p341 : 0 ≤ ((rd x5_2 x8_3) : Int) := of_decide_eq_true (by first | (with_reducible assumption) | assumption)
                     have q341 : (rd x5_2 x8_3) < (l0_0.length : Int) := of_decide_eq_true (by first | (with_reducible assumption) | assumption)
                     obtain ⟨ad341, A341_0, c341_0, e341, hx341_0, hl341_0, hi341_0⟩ := at_L1 (Kd.V_reads' HO_327000.out).2.2 (rd x5_2 x8_3) p341 q341
                     obtain rfl : ad331 = ad341 := (by injection e341)
                     obtain ⟨ce341, hce341, hMe341, hcc341⟩ := Kd.V_get HO_327000.out [] (rd x5_2 x8_3) p341 (by first | exact q341 | exact of_decide_eq_true (by first | (with_reducible assumption) | assumption) | (have e_ := (Kd.V_reads' HO_327000.out).1; omega))
                     obtain ⟨ua341_0, uc341_0, rfl, ul341_0, ge341_0⟩ := Kd.FK_slice_open hMe341
                     have hv341_0 := hcc341 0 _ rfl
                     rw [Nat.add_zero, show ((Kd.slice 3 (Kd.int .i64))).sz = 1 from rfl, Nat.mul_one] at hv341_0
                     replace hv341_0 := Option.some.inj (hv341_0.symm.trans hx341_0)
                     injection hv341_0 with hva_ hvn_ hvc_
                     rw [hva_] at ge341_0
                     rw [hvc_] at ul341_0
                     have HL341_0 := A_ (show Kd.V (Kd.int .i64) 3 _ w.heap.size _ _ (rd_L1 l0_0 (rd x5_2 x8_3)) from Kd.V_mk ul341_0 ge341_0)
                     clear hva_ hvn_ hvc_ ge341_0 ul341_0
                     clear hcc341 hce341
                     have HR341_0 := A_ hi341_0
                     have HC341_0 := A_ hl341_0
                     clear hi341_0 hl341_0
                     replace p341 := eq_true p341
                     replace q341 := eq_true q341
                     refine start_ (n := 11) (S := fun w' => w'.cell? ⟨gb326, 0, none⟩ = some (.slice (some ad331) l0_0.length c0_0) ∧ w'.cell? (ad340.add (x8_3).toNat) = some (.int .i64 (rd x5_2 x8_3)) ∧ w'.cell? (ad331.add ((rd x5_2 x8_3)).toNat) = some (.slice A341_0 (rd_L1 l0_0 (rd x5_2 x8_3)).length c341_0)) (ds := []) #[false, false, false, false, false, false, false, false, false, false, false] (by kernel_rfl) rfl rfl ⟨(blk_cell BK326.out 0).trans rfl, hx340_0, hx341_0⟩ (fun hHeld => ?_); refine with_tabW spec_IsGrowing.tab12 spec_IsGrowing.bits12 (fun HT_ HW_ => ?_)
                     generalize wr.drew = w46 at HO_5 HO_7 HO_327000 BK326 HB HL341_0 HR341_0 hx340_0 hx341_0 hHeld ⊢
                     refine pure_ (i := 0) (N := some 64) (v := ?_) (a' := ?_) #[true, false, false, false, false, false, false, false, false, false, false] rfl rfl (any_of HT_.out (by kernel_rfl)) (fun _ _ _ h => h) (Or.inl ⟨by rfl, ?_⟩) ?_ ?_
                     rotate_left
                     ·intro w'
                      go_simp
                      with_reducible rfl
                     rotate_left
                     ·simp only [Act.put, mD, mE, mF, i64_w, i32_w]
                      rfl
                     refine pure_ (i := 1) (N := some 65) (v := ?_) (a' := ?_) #[true, true, false, false, false, false, false, false, false, false, false] rfl rfl (any_of HT_.out (by kernel_rfl)) (fun _ _ _ h => h) (Or.inl ⟨by rfl, ?_⟩) ?_ ?_
                     rotate_left
                     ·intro w'
                      go_simp
                      with_reducible rfl
                     rotate_left
                     ·simp only [Act.put, mD, mE, mF, i64_w, i32_w]
                      rfl
                     refine pure_ (i := 3) (N := some 67) (v := ?_) (a' := ?_) #[true, true, false, true, false, false, false, false, false, false, false] rfl rfl (any_of HT_.out (by kernel_rfl)) (fun _ _ _ h => h) (Or.inl ⟨by rfl, ?_⟩) ?_ ?_
                     rotate_left
                     ·intro w'
                      go_simp
                      with_reducible rfl
                     rotate_left
                     ·simp only [Act.put, mD, mE, mF, i64_w, i32_w]
                      rfl
                     refine pure_ (i := 4) (N := some 68) (v := ?_) (a' := ?_) #[true, true, false, true, true, false, false, false, false, false, false] rfl rfl (any_of HT_.out (by kernel_rfl)) (fun _ _ _ h => h) (Or.inl ⟨by rfl, ?_⟩) ?_ ?_
                     rotate_left
                     ·intro w'
                      go_simp
                      with_reducible rfl
                     rotate_left
                     ·simp only [Act.put, mD, mE, mF, i64_w, i32_w]
                      rfl
                     refine pure_ (i := 5) (N := some 69) (v := ?_) (a' := ?_) #[true, true, false, true, true, true, false, false, false, false, false] rfl rfl (any_of HT_.out (by kernel_rfl)) (fun _ _ _ h => h) (Or.inl ⟨by rfl, ?_⟩) ?_ ?_
                     rotate_left
                     ·intro w'
                      go_simp
                      with_reducible rfl
                     rotate_left
                     ·simp only [Act.put, mD, mE, mF, i64_w, i32_w]
                      rfl
                     refine take_ (i := 2) (N := some 66) (v := ?_) (a' := ?_) #[true, true, true, true, true, true, false, false, false, false, false] rfl rfl (take_ofW HT_.out HW_.out (by kernel_rfl)) (fun _ _ _ h => h) (Or.inl ⟨by rfl, ?_⟩) hHeld ?_ ?_
                     rotate_left
                     ·rintro w' ⟨s0, s1, s2⟩
                      go_simp
                      with_reducible rfl
                     rotate_left
                     ·simp only [Act.put, mD, mE, mF, i64_w, i32_w]
                      rfl
                     refine take_ (i := 6) (N := some 70) (v := ?_) (a' := ?_) #[true, true, true, true, true, true, true, false, false, false, false] rfl rfl (take_ofW HT_.out HW_.out (by kernel_rfl)) (fun _ _ _ h => h) (Or.inl ⟨by rfl, ?_⟩) hHeld ?_ ?_
                     rotate_left
                     ·rintro w' ⟨s0, s1, s2⟩
                      go_simp
                      with_reducible rfl
                     rotate_left
                     ·simp only [Act.put, mD, mE, mF, i64_w, i32_w]
                      rfl
                     refine pure_ (i := 7) (N := some 71) (v := ?_) (a' := ?_) #[true, true, true, true, true, true, true, true, false, false, false] rfl rfl (any_of HT_.out (by kernel_rfl)) (fun _ _ _ h => h) (Or.inl ⟨by rfl, ?_⟩) ?_ ?_
                     rotate_left
                     ·intro w'
                      go_simp
                      with_reducible rfl
                     rotate_left
                     ·simp only [Act.put, mD, mE, mF, i64_w, i32_w]
                      rfl
                     refine take_ (i := 8) (N := some 72) (v := ?_) (a' := ?_) #[true, true, true, true, true, true, true, true, true, false, false] rfl rfl (take_ofW HT_.out HW_.out (by kernel_rfl)) (fun _ _ _ h => h) (Or.inl ⟨by rfl, ?_⟩) hHeld ?_ ?_
                     rotate_left
                     ·rintro w' ⟨s0, s1, s2⟩
                      go_simp
                      with_reducible rfl
                     rotate_left
                     ·simp only [Act.put, mD, mE, mF, i64_w, i32_w]
                      rfl
                     refine pure_ (i := 9) (N := some 73) (v := ?_) (a' := ?_) #[true, true, true, true, true, true, true, true, true, true, false] rfl rfl (any_of HT_.out (by kernel_rfl)) (fun _ _ _ h => h) (Or.inl ⟨by rfl, ?_⟩) ?_ ?_
                     rotate_left
                     ·intro w'
                      go_simp
                      with_reducible rfl
                     rotate_left
                     ·simp only [Act.put, mD, mE, mF, i64_w, i32_w]
                      rfl
                     refine pure_ (i := 10) (N := some 74) (v := ?_) (a' := ?_) #[true, true, true, true, true, true, true, true, true, true, true] rfl rfl (any_of HT_.out (by kernel_rfl)) (fun _ _ _ h => h) (Or.inl ⟨by rfl, ?_⟩) ?_ ?_
                     rotate_left
                     ·intro w'
                      go_simp
                      with_reducible rfl
                     rotate_left
                     ·simp only [Act.put, mD, mE, mF, i64_w, i32_w]
                      rfl
                     refine done_ (done_of HT_.out (by kernel_rfl)) ?_
                     try go_wp2
                     have n0_ := A_ (Kd.V_drew HO_5.out)
                     have n1_ := A_ (Kd.R_drew HO_7.out)
                     have n2_ := A_ (Kd.V_drew HO_327000.out)
                     have n3_ := A_ (Kd.V_drew HL341_0.out)
                     have n4_ := A_ (blk_drew BK326.out)
                     have n5_ := A_ (Kd.C_drew HR341_0.out)
                     have n6_ := A_ (below_drew1 HB.out)
                     clear HO_5
                     clear HO_7
                     clear HO_327000
                     clear HL341_0
                     clear BK326
                     clear HR341_0
                     clear HB
                     have HO_5 := n0_
                     have HO_7 := n1_
                     have HO_327000 := n2_
                     have HL341_0 := n3_
                     have BK326 := n4_
                     have HR341_0 := n5_
                     have HB := n6_
                     clear n0_ n1_ n2_ n3_ n4_ n5_ n6_
                     have p342 : 0 ≤ (x8_3 : Int) := of_decide_eq_true (by first | (with_reducible assumption) | assumption)
                     have q342 : x8_3 < (x5_2.length : Int) := of_decide_eq_true (by first | (with_reducible assumption) | assumption)
                     obtain ⟨ad342, e342, hx342_0⟩ := Kd.at_int (Kd.V_reads' HO_5.out).2.2 x8_3 p342 q342
                     obtain rfl : ad340 = ad342 := (by injection e342)
                     replace p342 := eq_true p342
                     replace q342 := eq_true q342
                     have p343 : 0 ≤ ((rd x5_2 x8_3) : Int) := of_decide_eq_true (by first | (with_reducible assumption) | assumption)
                     have q343 : (rd x5_2 x8_3) < (l0_0.length : Int) := of_decide_eq_true (by first | (with_reducible assumption) | assumption)
                     obtain ⟨ad343, A343_0, c343_0, e343, hx343_0, hl343_0, hi343_0⟩ := at_L1 (Kd.V_reads' HO_327000.out).2.2 (rd x5_2 x8_3) p343 q343
                     obtain rfl : ad331 = ad343 := (by injection e343)
                     obtain ⟨ce343, hce343, hMe343, hcc343⟩ := Kd.V_get HO_327000.out [] (rd x5_2 x8_3) p343 (by first | exact q343 | exact of_decide_eq_true (by first | (with_reducible assumption) | assumption) | (have e_ := (Kd.V_reads' HO_327000.out).1; omega))
                     obtain ⟨ua343_0, uc343_0, rfl, ul343_0, ge343_0⟩ := Kd.FK_slice_open hMe343
                     have hv343_0 := hcc343 0 _ rfl
                     rw [Nat.add_zero, show ((Kd.slice 3 (Kd.int .i64))).sz = 1 from rfl, Nat.mul_one] at hv343_0
                     replace hv343_0 := Option.some.inj (hv343_0.symm.trans hx343_0)
                     injection hv343_0 with hva_ hvn_ hvc_
                     rw [hva_] at ge343_0
                     rw [hvc_] at ul343_0
                     have HL343_0 := A_ (show Kd.V (Kd.int .i64) 3 _ w.heap.size _ _ (rd_L1 l0_0 (rd x5_2 x8_3)) from Kd.V_mk ul343_0 ge343_0)
                     clear hva_ hvn_ hvc_ ge343_0 ul343_0
                     clear hcc343 hce343
                     have HR343_0 := A_ hi343_0
                     have HC343_0 := A_ hl343_0
                     clear hi343_0 hl343_0
                     replace p343 := eq_true p343
                     replace q343 := eq_true q343
                     have p344 : 0 ≤ (x9_4 : Int) := of_decide_eq_true (by first | (with_reducible assumption) | assumption)
                     have q344 : x9_4 < ((rd_L1 l0_0 (rd x5_2 x8_3)).length : Int) := of_decide_eq_true (by first | (with_reducible assumption) | assumption)
                     obtain ⟨ad344, e344, hx344_0⟩ := Kd.at_int (by repeat (first | (with_reducible exact HR343_0.out) | (with_reducible refine Kd.C_alloc ?_ _) | (with_reducible refine Kd.C_drewN ?_ _) | (with_reducible refine Kd.C_drew ?_) | exact HR343_0.out)) x9_4 p344 q344
                     cases e344
                     replace p344 := eq_true p344
                     replace q344 := eq_true q344
                     obtain ⟨Ao48, co48, eo48⟩ := Kd.R_slice HO_7.out
                     (first | subst eo48 | (injection eo48 with f1_ f2_ f3_; have f4_ := f1_.symm; have f5_ := f3_.symm; clear f1_ f2_ f3_; subst f4_; subst f5_))
                     refine start_ (n := 14) (S := fun w' => w'.cell? ⟨gb326, 0, none⟩ = some (.slice (some ad331) l0_0.length c0_0) ∧ w'.cell? (ad340.add (x8_3).toNat) = some (.int .i64 (rd x5_2 x8_3)) ∧ w'.cell? (ad331.add ((rd x5_2 x8_3)).toNat) = some (.slice (some ad344) (rd_L1 l0_0 (rd x5_2 x8_3)).length c343_0) ∧ w'.cell? (ad344.add (x9_4).toNat) = some (.int .i64 (rd (rd_L1 l0_0 (rd x5_2 x8_3)) x9_4))) (ds := []) #[false, false, false, false, false, false, false, false, false, false, false, false, false, false] (by kernel_rfl) rfl rfl ⟨(blk_cell BK326.out 0).trans rfl, hx342_0, hx343_0, hx344_0⟩ (fun hHeld => ?_); refine with_tabW spec_IsGrowing.tab14 spec_IsGrowing.bits14 (fun HT_ HW_ => ?_)
                     generalize w46.drew = w47 at HO_5 HO_7 HO_327000 HL341_0 BK326 HR341_0 HB HL343_0 HR343_0 hx342_0 hx343_0 hx344_0 hHeld ⊢
                     refine pure_ (i := 0) (N := some 77) (v := ?_) (a' := ?_) #[true, false, false, false, false, false, false, false, false, false, false, false, false, false] rfl rfl (any_of HT_.out (by kernel_rfl)) (fun _ _ _ h => h) (Or.inl ⟨by rfl, ?_⟩) ?_ ?_
                     rotate_left
                     ·intro w'
                      go_simp
                      with_reducible rfl
                     rotate_left
                     ·simp only [Act.put, mD, mE, mF, i64_w, i32_w]
                      rfl
                     refine pure_ (i := 1) (N := some 78) (v := ?_) (a' := ?_) #[true, true, false, false, false, false, false, false, false, false, false, false, false, false] rfl rfl (any_of HT_.out (by kernel_rfl)) (fun _ _ _ h => h) (Or.inl ⟨by rfl, ?_⟩) ?_ ?_
                     rotate_left
                     ·intro w'
                      go_simp
                      with_reducible rfl
                     rotate_left
                     ·simp only [Act.put, mD, mE, mF, i64_w, i32_w]
                      rfl
                     refine pure_ (i := 3) (N := some 80) (v := ?_) (a' := ?_) #[true, true, false, true, false, false, false, false, false, false, false, false, false, false] rfl rfl (any_of HT_.out (by kernel_rfl)) (fun _ _ _ h => h) (Or.inl ⟨by rfl, ?_⟩) ?_ ?_
                     rotate_left
                     ·intro w'
                      go_simp
                      with_reducible rfl
                     rotate_left
                     ·simp only [Act.put, mD, mE, mF, i64_w, i32_w]
                      rfl
                     refine pure_ (i := 4) (N := some 81) (v := ?_) (a' := ?_) #[true, true, false, true, true, false, false, false, false, false, false, false, false, false] rfl rfl (any_of HT_.out (by kernel_rfl)) (fun _ _ _ h => h) (Or.inl ⟨by rfl, ?_⟩) ?_ ?_
                     rotate_left
                     ·intro w'
                      go_simp
                      with_reducible rfl
                     rotate_left
                     ·simp only [Act.put, mD, mE, mF, i64_w, i32_w]
                      rfl
                     refine pure_ (i := 5) (N := some 82) (v := ?_) (a' := ?_) #[true, true, false, true, true, true, false, false, false, false, false, false, false, false] rfl rfl (any_of HT_.out (by kernel_rfl)) (fun _ _ _ h => h) (Or.inl ⟨by rfl, ?_⟩) ?_ ?_
                     rotate_left
                     ·intro w'
                      go_simp
                      with_reducible rfl
                     rotate_left
                     ·simp only [Act.put, mD, mE, mF, i64_w, i32_w]
                      rfl
                     refine pure_ (i := 9) (N := some 86) (v := ?_) (a' := ?_) #[true, true, false, true, true, true, false, false, false, true, false, false, false, false] rfl rfl (any_of HT_.out (by kernel_rfl)) (fun _ _ _ h => h) (Or.inl ⟨by rfl, ?_⟩) ?_ ?_
                     rotate_left
                     ·intro w'
                      go_simp
                      with_reducible rfl
                     rotate_left
                     ·simp only [Act.put, mD, mE, mF, i64_w, i32_w]
                      rfl
                     refine take_ (i := 2) (N := some 79) (v := ?_) (a' := ?_) #[true, true, true, true, true, true, false, false, false, true, false, false, false, false] rfl rfl (take_ofW HT_.out HW_.out (by kernel_rfl)) (fun _ _ _ h => h) (Or.inl ⟨by rfl, ?_⟩) hHeld ?_ ?_
                     rotate_left
                     ·rintro w' ⟨s0, s1, s2, s3⟩
                      go_simp
                      with_reducible rfl
                     rotate_left
                     ·simp only [Act.put, mD, mE, mF, i64_w, i32_w]
                      rfl
                     refine take_ (i := 6) (N := some 83) (v := ?_) (a' := ?_) #[true, true, true, true, true, true, true, false, false, true, false, false, false, false] rfl rfl (take_ofW HT_.out HW_.out (by kernel_rfl)) (fun _ _ _ h => h) (Or.inl ⟨by rfl, ?_⟩) hHeld ?_ ?_
                     rotate_left
                     ·rintro w' ⟨s0, s1, s2, s3⟩
                      go_simp
                      with_reducible rfl
                     rotate_left
                     ·simp only [Act.put, mD, mE, mF, i64_w, i32_w]
                      rfl
                     refine pure_ (i := 7) (N := some 84) (v := ?_) (a' := ?_) #[true, true, true, true, true, true, true, true, false, true, false, false, false, false] rfl rfl (any_of HT_.out (by kernel_rfl)) (fun _ _ _ h => h) (Or.inl ⟨by rfl, ?_⟩) ?_ ?_
                     rotate_left
                     ·intro w'
                      go_simp
                      with_reducible rfl
                     rotate_left
                     ·simp only [Act.put, mD, mE, mF, i64_w, i32_w]
                      rfl
                     refine take_ (i := 8) (N := some 85) (v := ?_) (a' := ?_) #[true, true, true, true, true, true, true, true, true, true, false, false, false, false] rfl rfl (take_ofW HT_.out HW_.out (by kernel_rfl)) (fun _ _ _ h => h) (Or.inl ⟨by rfl, ?_⟩) hHeld ?_ ?_
                     rotate_left
                     ·rintro w' ⟨s0, s1, s2, s3⟩
                      go_simp
                      with_reducible rfl
                     rotate_left
                     ·simp only [Act.put, mD, mE, mF, i64_w, i32_w]
                      rfl
                     refine pure_ (i := 10) (N := some 87) (v := ?_) (a' := ?_) #[true, true, true, true, true, true, true, true, true, true, true, false, false, false] rfl rfl (any_of HT_.out (by kernel_rfl)) (fun _ _ _ h => h) (Or.inl ⟨by rfl, ?_⟩) ?_ ?_
                     rotate_left
                     ·intro w'
                      go_simp
                      with_reducible rfl
                     rotate_left
                     ·simp only [Act.put, mD, mE, mF, i64_w, i32_w]
                      rfl
                     refine take_ (i := 11) (N := some 88) (v := ?_) (a' := ?_) #[true, true, true, true, true, true, true, true, true, true, true, true, false, false] rfl rfl (take_ofW HT_.out HW_.out (by kernel_rfl)) (fun _ _ _ h => h) (Or.inl ⟨by rfl, ?_⟩) hHeld ?_ ?_
                     rotate_left
                     ·rintro w' ⟨s0, s1, s2, s3⟩
                      go_simp
                      with_reducible rfl
                     rotate_left
                     ·simp only [Act.put, mD, mE, mF, i64_w, i32_w]
                      rfl
                     refine one_ (i := 12) (N := some 89) #[true, true, true, true, true, true, true, true, true, true, true, true, true, false] rfl rfl (one_of HT_.out (by kernel_rfl)) (by decide) (fun K hK => ?_)
                     refine goes_ Try.func85 (by kernel_rfl) rfl #[.slice Ao48 x7_4.length co48, .int .i64 (rd (rd_L1 l0_0 (rd x5_2 x8_3)) x9_4)] (by rfl) rfl rfl (by (try simp only [mA, mB, mC]); first | done | rfl | (simp only [List.length_drop, List.length_take]; rfl)) ?_
                     with_reducible refine (spec_l4Has.calls k4 _ _ x7_4 (rd (rd_L1 l0_0 (rd x5_2 x8_3)) x9_4) true _ ?side1 ?side2 A44.out).mono ?_
                     (case side1 => repeat (first | exact (Kd.R_reads' HO_7.out).2.2 | (with_reducible refine Kd.C_alloc ?_ _) | (with_reducible refine Kd.C_drewN ?_ _) | (with_reducible refine Kd.C_drew ?_)))
                     (case side2 => exact (Kd.R_reads' HO_7.out).2.1)
                     rintro e w' ⟨rfl, ⟨nd, rfl⟩⟩
                     refine ⟨_, rfl, ?_⟩
                     refine hK.out _ _ ⟨(blk_cell BK326.out 0).trans rfl, hHeld.2.1, hHeld.2.2.1, hHeld.2.2.2⟩ (fun hHeld => ?_)
                     clear hK K
                     refine norm_ (a' := ?_) ?_ ?_
                     rotate_left
                     ·show Act.put _ (some 89) _ = _
                      simp only [Act.put, mD, mE, mF, i64_w, i32_w]
                      rfl
                     refine pure_ (i := 13) (N := some 90) (v := ?_) (a' := ?_) #[true, true, true, true, true, true, true, true, true, true, true, true, true, true] rfl rfl (any_of HT_.out (by kernel_rfl)) (fun _ _ _ h => h) (Or.inl ⟨by rfl, ?_⟩) ?_ ?_
                     rotate_left
                     ·intro w'
                      go_simp
                      with_reducible rfl
                     rotate_left
                     ·simp only [Act.put, mD, mE, mF, i64_w, i32_w]
                      rfl
                     refine done_ (done_of HT_.out (by kernel_rfl)) ?_
                     try go_wp2
                     go_roundg k4
                     case measure => have := HJ2.out; have := HK2.out; have := HK3.out; have := HK4.out; omega
                     case rel => exact ⟨(x7_4), (wrap64 (x9_4 + 1)), (by rfl), H', ⟨by have := HJ2.out; have := HK2.out; have := HK3.out; have := HK4.out; omega⟩, ⟨by (with_reducible repeat (first | apply Kd.V_alloc | apply Kd.V_drewN | apply Kd.V_drew)); exact HO_5.out⟩, ⟨by (with_reducible repeat (first | apply Kd.R_alloc | apply Kd.R_drewN | apply Kd.R_drew)); exact HO_7.out⟩, ⟨by (with_reducible repeat (first | apply Kd.V_alloc | apply Kd.V_drewN | apply Kd.V_drew)); exact HO_327000.out⟩, ⟨by (with_reducible repeat (first | refine blk_drewN ?_ _ | refine blk_drew ?_ | refine blk_alloc ?_ _)); exact BK326.out⟩, ⟨by repeat (first | (with_reducible first | exact HB.out | apply below_alloc | apply pw_below_drewN | apply below_drew1 | refine below_set ?_ GE326.out) | exact HB.out)⟩⟩
                    replace c45 := Bool.eq_false_iff.mpr c45
                    subst c45
                    rw [if_neg (show ¬ (false = true) by decide)] at H
                    by_cases c49 : x7_4.length < 17592186044416
                    ·rw [if_pos c49] at H
                     have LMc49 := A_ c49
                     clear c49
                     obtain ⟨y349, hy349⟩ : ∃ y_ : List Int, y_ = (x7_4 ++ [rd (rd_L1 l0_0 (rd x5_2 x8_3)) x9_4]) := ⟨_, rfl⟩
                     replace H : (spec_IsGrowing.l2 k4 x5_2 x6_2 y349 x8_3 (wrap64 (x9_4 + 1)) l0_0) = some r := by (rw [hy349]; with_reducible exact H)
                     have Ny349 := A_ hy349
                     clear hy349
                     have H' := A_ H
                     clear H
                     try go_wp2
                     have n0_ := A_ (Kd.V_drew HO_5.out)
                     have n1_ := A_ (Kd.R_drew HO_7.out)
                     have n2_ := A_ (Kd.V_drew HO_327000.out)
                     have n3_ := A_ (blk_drew BK326.out)
                     have n4_ := A_ (below_drew1 HB.out)
                     clear HO_5
                     clear HO_7
                     clear HO_327000
                     clear BK326
                     clear HB
                     have HO_5 := n0_
                     have HO_7 := n1_
                     have HO_327000 := n2_
                     have BK326 := n3_
                     have HB := n4_
                     clear n0_ n1_ n2_ n3_ n4_
                     have p340 : 0 ≤ (x8_3 : Int) := of_decide_eq_true (by first | (with_reducible assumption) | assumption)
                     have q340 : x8_3 < (x5_2.length : Int) := of_decide_eq_true (by first | (with_reducible assumption) | assumption)
                     obtain ⟨ad340, e340, hx340_0⟩ := Kd.at_int (Kd.V_reads' HO_5.out).2.2 x8_3 p340 q340
                     cases e340
                     replace p340 := eq_true p340
                     replace q340 := eq_true q340
                     have p341 : 0 ≤ ((rd x5_2 x8_3) : Int) := of_decide_eq_true (by first | (with_reducible assumption) | assumption)
                     have q341 : (rd x5_2 x8_3) < (l0_0.length : Int) := of_decide_eq_true (by first | (with_reducible assumption) | assumption)
                     obtain ⟨ad341, A341_0, c341_0, e341, hx341_0, hl341_0, hi341_0⟩ := at_L1 (Kd.V_reads' HO_327000.out).2.2 (rd x5_2 x8_3) p341 q341
                     obtain rfl : ad331 = ad341 := (by injection e341)
                     obtain ⟨ce341, hce341, hMe341, hcc341⟩ := Kd.V_get HO_327000.out [] (rd x5_2 x8_3) p341 (by first | exact q341 | exact of_decide_eq_true (by first | (with_reducible assumption) | assumption) | (have e_ := (Kd.V_reads' HO_327000.out).1; omega))
                     obtain ⟨ua341_0, uc341_0, rfl, ul341_0, ge341_0⟩ := Kd.FK_slice_open hMe341
                     have hv341_0 := hcc341 0 _ rfl
                     rw [Nat.add_zero, show ((Kd.slice 3 (Kd.int .i64))).sz = 1 from rfl, Nat.mul_one] at hv341_0
                     replace hv341_0 := Option.some.inj (hv341_0.symm.trans hx341_0)
                     injection hv341_0 with hva_ hvn_ hvc_
                     rw [hva_] at ge341_0
                     rw [hvc_] at ul341_0
                     have HL341_0 := A_ (show Kd.V (Kd.int .i64) 3 _ w.heap.size _ _ (rd_L1 l0_0 (rd x5_2 x8_3)) from Kd.V_mk ul341_0 ge341_0)
                     clear hva_ hvn_ hvc_ ge341_0 ul341_0
                     clear hcc341 hce341
                     have HR341_0 := A_ hi341_0
                     have HC341_0 := A_ hl341_0
                     clear hi341_0 hl341_0
                     replace p341 := eq_true p341
                     replace q341 := eq_true q341
                     refine start_ (n := 11) (S := fun w' => w'.cell? ⟨gb326, 0, none⟩ = some (.slice (some ad331) l0_0.length c0_0) ∧ w'.cell? (ad340.add (x8_3).toNat) = some (.int .i64 (rd x5_2 x8_3)) ∧ w'.cell? (ad331.add ((rd x5_2 x8_3)).toNat) = some (.slice A341_0 (rd_L1 l0_0 (rd x5_2 x8_3)).length c341_0)) (ds := []) #[false, false, false, false, false, false, false, false, false, false, false] (by kernel_rfl) rfl rfl ⟨(blk_cell BK326.out 0).trans rfl, hx340_0, hx341_0⟩ (fun hHeld => ?_); refine with_tabW spec_IsGrowing.tab12 spec_IsGrowing.bits12 (fun HT_ HW_ => ?_)
                     generalize wr.drew = w50 at HO_5 HO_7 HO_327000 BK326 HB HL341_0 HR341_0 hx340_0 hx341_0 hHeld ⊢
                     refine pure_ (i := 0) (N := some 64) (v := ?_) (a' := ?_) #[true, false, false, false, false, false, false, false, false, false, false] rfl rfl (any_of HT_.out (by kernel_rfl)) (fun _ _ _ h => h) (Or.inl ⟨by rfl, ?_⟩) ?_ ?_
                     rotate_left
                     ·intro w'
                      go_simp
                      with_reducible rfl
                     rotate_left
                     ·simp only [Act.put, mD, mE, mF, i64_w, i32_w]
                      rfl
                     refine pure_ (i := 1) (N := some 65) (v := ?_) (a' := ?_) #[true, true, false, false, false, false, false, false, false, false, false] rfl rfl (any_of HT_.out (by kernel_rfl)) (fun _ _ _ h => h) (Or.inl ⟨by rfl, ?_⟩) ?_ ?_
                     rotate_left
                     ·intro w'
                      go_simp
                      with_reducible rfl
                     rotate_left
                     ·simp only [Act.put, mD, mE, mF, i64_w, i32_w]
                      rfl
                     refine pure_ (i := 3) (N := some 67) (v := ?_) (a' := ?_) #[true, true, false, true, false, false, false, false, false, false, false] rfl rfl (any_of HT_.out (by kernel_rfl)) (fun _ _ _ h => h) (Or.inl ⟨by rfl, ?_⟩) ?_ ?_
                     rotate_left
                     ·intro w'
                      go_simp
                      with_reducible rfl
                     rotate_left
                     ·simp only [Act.put, mD, mE, mF, i64_w, i32_w]
                      rfl
                     refine pure_ (i := 4) (N := some 68) (v := ?_) (a' := ?_) #[true, true, false, true, true, false, false, false, false, false, false] rfl rfl (any_of HT_.out (by kernel_rfl)) (fun _ _ _ h => h) (Or.inl ⟨by rfl, ?_⟩) ?_ ?_
                     rotate_left
                     ·intro w'
                      go_simp
                      with_reducible rfl
                     rotate_left
                     ·simp only [Act.put, mD, mE, mF, i64_w, i32_w]
                      rfl
                     refine pure_ (i := 5) (N := some 69) (v := ?_) (a' := ?_) #[true, true, false, true, true, true, false, false, false, false, false] rfl rfl (any_of HT_.out (by kernel_rfl)) (fun _ _ _ h => h) (Or.inl ⟨by rfl, ?_⟩) ?_ ?_
                     rotate_left
                     ·intro w'
                      go_simp
                      with_reducible rfl
                     rotate_left
                     ·simp only [Act.put, mD, mE, mF, i64_w, i32_w]
                      rfl
                     refine take_ (i := 2) (N := some 66) (v := ?_) (a' := ?_) #[true, true, true, true, true, true, false, false, false, false, false] rfl rfl (take_ofW HT_.out HW_.out (by kernel_rfl)) (fun _ _ _ h => h) (Or.inl ⟨by rfl, ?_⟩) hHeld ?_ ?_
                     rotate_left
                     ·rintro w' ⟨s0, s1, s2⟩
                      go_simp
                      with_reducible rfl
                     rotate_left
                     ·simp only [Act.put, mD, mE, mF, i64_w, i32_w]
                      rfl
                     refine take_ (i := 6) (N := some 70) (v := ?_) (a' := ?_) #[true, true, true, true, true, true, true, false, false, false, false] rfl rfl (take_ofW HT_.out HW_.out (by kernel_rfl)) (fun _ _ _ h => h) (Or.inl ⟨by rfl, ?_⟩) hHeld ?_ ?_
                     rotate_left
                     ·rintro w' ⟨s0, s1, s2⟩
                      go_simp
                      with_reducible rfl
                     rotate_left
                     ·simp only [Act.put, mD, mE, mF, i64_w, i32_w]
                      rfl
                     refine pure_ (i := 7) (N := some 71) (v := ?_) (a' := ?_) #[true, true, true, true, true, true, true, true, false, false, false] rfl rfl (any_of HT_.out (by kernel_rfl)) (fun _ _ _ h => h) (Or.inl ⟨by rfl, ?_⟩) ?_ ?_
                     rotate_left
                     ·intro w'
                      go_simp
                      with_reducible rfl
                     rotate_left
                     ·simp only [Act.put, mD, mE, mF, i64_w, i32_w]
                      rfl
                     refine take_ (i := 8) (N := some 72) (v := ?_) (a' := ?_) #[true, true, true, true, true, true, true, true, true, false, false] rfl rfl (take_ofW HT_.out HW_.out (by kernel_rfl)) (fun _ _ _ h => h) (Or.inl ⟨by rfl, ?_⟩) hHeld ?_ ?_
                     rotate_left
                     ·rintro w' ⟨s0, s1, s2⟩
                      go_simp
                      with_reducible rfl
                     rotate_left
                     ·simp only [Act.put, mD, mE, mF, i64_w, i32_w]
                      rfl
                     refine pure_ (i := 9) (N := some 73) (v := ?_) (a' := ?_) #[true, true, true, true, true, true, true, true, true, true, false] rfl rfl (any_of HT_.out (by kernel_rfl)) (fun _ _ _ h => h) (Or.inl ⟨by rfl, ?_⟩) ?_ ?_
                     rotate_left
                     ·intro w'
                      go_simp
                      with_reducible rfl
                     rotate_left
                     ·simp only [Act.put, mD, mE, mF, i64_w, i32_w]
                      rfl
                     refine pure_ (i := 10) (N := some 74) (v := ?_) (a' := ?_) #[true, true, true, true, true, true, true, true, true, true, true] rfl rfl (any_of HT_.out (by kernel_rfl)) (fun _ _ _ h => h) (Or.inl ⟨by rfl, ?_⟩) ?_ ?_
                     rotate_left
                     ·intro w'
                      go_simp
                      with_reducible rfl
                     rotate_left
                     ·simp only [Act.put, mD, mE, mF, i64_w, i32_w]
                      rfl
                     refine done_ (done_of HT_.out (by kernel_rfl)) ?_
                     try go_wp2
                     have n0_ := A_ (Kd.V_drew HO_5.out)
                     have n1_ := A_ (Kd.R_drew HO_7.out)
                     have n2_ := A_ (Kd.V_drew HO_327000.out)
                     have n3_ := A_ (Kd.V_drew HL341_0.out)
                     have n4_ := A_ (blk_drew BK326.out)
                     have n5_ := A_ (Kd.C_drew HR341_0.out)
                     have n6_ := A_ (below_drew1 HB.out)
                     clear HO_5
                     clear HO_7
                     clear HO_327000
                     clear HL341_0
                     clear BK326
                     clear HR341_0
                     clear HB
                     have HO_5 := n0_
                     have HO_7 := n1_
                     have HO_327000 := n2_
                     have HL341_0 := n3_
                     have BK326 := n4_
                     have HR341_0 := n5_
                     have HB := n6_
                     clear n0_ n1_ n2_ n3_ n4_ n5_ n6_
                     have p342 : 0 ≤ (x8_3 : Int) := of_decide_eq_true (by first | (with_reducible assumption) | assumption)
                     have q342 : x8_3 < (x5_2.length : Int) := of_decide_eq_true (by first | (with_reducible assumption) | assumption)
                     obtain ⟨ad342, e342, hx342_0⟩ := Kd.at_int (Kd.V_reads' HO_5.out).2.2 x8_3 p342 q342
                     obtain rfl : ad340 = ad342 := (by injection e342)
                     replace p342 := eq_true p342
                     replace q342 := eq_true q342
                     have p343 : 0 ≤ ((rd x5_2 x8_3) : Int) := of_decide_eq_true (by first | (with_reducible assumption) | assumption)
                     have q343 : (rd x5_2 x8_3) < (l0_0.length : Int) := of_decide_eq_true (by first | (with_reducible assumption) | assumption)
                     obtain ⟨ad343, A343_0, c343_0, e343, hx343_0, hl343_0, hi343_0⟩ := at_L1 (Kd.V_reads' HO_327000.out).2.2 (rd x5_2 x8_3) p343 q343
                     obtain rfl : ad331 = ad343 := (by injection e343)
                     obtain ⟨ce343, hce343, hMe343, hcc343⟩ := Kd.V_get HO_327000.out [] (rd x5_2 x8_3) p343 (by first | exact q343 | exact of_decide_eq_true (by first | (with_reducible assumption) | assumption) | (have e_ := (Kd.V_reads' HO_327000.out).1; omega))
                     obtain ⟨ua343_0, uc343_0, rfl, ul343_0, ge343_0⟩ := Kd.FK_slice_open hMe343
                     have hv343_0 := hcc343 0 _ rfl
                     rw [Nat.add_zero, show ((Kd.slice 3 (Kd.int .i64))).sz = 1 from rfl, Nat.mul_one] at hv343_0
                     replace hv343_0 := Option.some.inj (hv343_0.symm.trans hx343_0)
                     injection hv343_0 with hva_ hvn_ hvc_
                     rw [hva_] at ge343_0
                     rw [hvc_] at ul343_0
                     have HL343_0 := A_ (show Kd.V (Kd.int .i64) 3 _ w.heap.size _ _ (rd_L1 l0_0 (rd x5_2 x8_3)) from Kd.V_mk ul343_0 ge343_0)
                     clear hva_ hvn_ hvc_ ge343_0 ul343_0
                     clear hcc343 hce343
                     have HR343_0 := A_ hi343_0
                     have HC343_0 := A_ hl343_0
                     clear hi343_0 hl343_0
                     replace p343 := eq_true p343
                     replace q343 := eq_true q343
                     have p344 : 0 ≤ (x9_4 : Int) := of_decide_eq_true (by first | (with_reducible assumption) | assumption)
                     have q344 : x9_4 < ((rd_L1 l0_0 (rd x5_2 x8_3)).length : Int) := of_decide_eq_true (by first | (with_reducible assumption) | assumption)
                     obtain ⟨ad344, e344, hx344_0⟩ := Kd.at_int (by repeat (first | (with_reducible exact HR343_0.out) | (with_reducible refine Kd.C_alloc ?_ _) | (with_reducible refine Kd.C_drewN ?_ _) | (with_reducible refine Kd.C_drew ?_) | exact HR343_0.out)) x9_4 p344 q344
                     cases e344
                     replace p344 := eq_true p344
                     replace q344 := eq_true q344
                     obtain ⟨Ao52, co52, eo52⟩ := Kd.R_slice HO_7.out
                     (first | subst eo52 | (injection eo52 with f1_ f2_ f3_; have f4_ := f1_.symm; have f5_ := f3_.symm; clear f1_ f2_ f3_; subst f4_; subst f5_))
                     refine start_ (n := 14) (S := fun w' => w'.cell? ⟨gb326, 0, none⟩ = some (.slice (some ad331) l0_0.length c0_0) ∧ w'.cell? (ad340.add (x8_3).toNat) = some (.int .i64 (rd x5_2 x8_3)) ∧ w'.cell? (ad331.add ((rd x5_2 x8_3)).toNat) = some (.slice (some ad344) (rd_L1 l0_0 (rd x5_2 x8_3)).length c343_0) ∧ w'.cell? (ad344.add (x9_4).toNat) = some (.int .i64 (rd (rd_L1 l0_0 (rd x5_2 x8_3)) x9_4))) (ds := []) #[false, false, false, false, false, false, false, false, false, false, false, false, false, false] (by kernel_rfl) rfl rfl ⟨(blk_cell BK326.out 0).trans rfl, hx342_0, hx343_0, hx344_0⟩ (fun hHeld => ?_); refine with_tabW spec_IsGrowing.tab14 spec_IsGrowing.bits14 (fun HT_ HW_ => ?_)
                     generalize w50.drew = w51 at HO_5 HO_7 HO_327000 HL341_0 BK326 HR341_0 HB HL343_0 HR343_0 hx342_0 hx343_0 hx344_0 hHeld ⊢
                     refine pure_ (i := 0) (N := some 77) (v := ?_) (a' := ?_) #[true, false, false, false, false, false, false, false, false, false, false, false, false, false] rfl rfl (any_of HT_.out (by kernel_rfl)) (fun _ _ _ h => h) (Or.inl ⟨by rfl, ?_⟩) ?_ ?_
                     rotate_left
                     ·intro w'
                      go_simp
                      with_reducible rfl
                     rotate_left
                     ·simp only [Act.put, mD, mE, mF, i64_w, i32_w]
                      rfl
                     refine pure_ (i := 1) (N := some 78) (v := ?_) (a' := ?_) #[true, true, false, false, false, false, false, false, false, false, false, false, false, false] rfl rfl (any_of HT_.out (by kernel_rfl)) (fun _ _ _ h => h) (Or.inl ⟨by rfl, ?_⟩) ?_ ?_
                     rotate_left
                     ·intro w'
                      go_simp
                      with_reducible rfl
                     rotate_left
                     ·simp only [Act.put, mD, mE, mF, i64_w, i32_w]
                      rfl
                     refine pure_ (i := 3) (N := some 80) (v := ?_) (a' := ?_) #[true, true, false, true, false, false, false, false, false, false, false, false, false, false] rfl rfl (any_of HT_.out (by kernel_rfl)) (fun _ _ _ h => h) (Or.inl ⟨by rfl, ?_⟩) ?_ ?_
                     rotate_left
                     ·intro w'
                      go_simp
                      with_reducible rfl
                     rotate_left
                     ·simp only [Act.put, mD, mE, mF, i64_w, i32_w]
                      rfl
                     refine pure_ (i := 4) (N := some 81) (v := ?_) (a' := ?_) #[true, true, false, true, true, false, false, false, false, false, false, false, false, false] rfl rfl (any_of HT_.out (by kernel_rfl)) (fun _ _ _ h => h) (Or.inl ⟨by rfl, ?_⟩) ?_ ?_
                     rotate_left
                     ·intro w'
                      go_simp
                      with_reducible rfl
                     rotate_left
                     ·simp only [Act.put, mD, mE, mF, i64_w, i32_w]
                      rfl
                     refine pure_ (i := 5) (N := some 82) (v := ?_) (a' := ?_) #[true, true, false, true, true, true, false, false, false, false, false, false, false, false] rfl rfl (any_of HT_.out (by kernel_rfl)) (fun _ _ _ h => h) (Or.inl ⟨by rfl, ?_⟩) ?_ ?_
                     rotate_left
                     ·intro w'
                      go_simp
                      with_reducible rfl
                     rotate_left
                     ·simp only [Act.put, mD, mE, mF, i64_w, i32_w]
                      rfl
                     refine pure_ (i := 9) (N := some 86) (v := ?_) (a' := ?_) #[true, true, false, true, true, true, false, false, false, true, false, false, false, false] rfl rfl (any_of HT_.out (by kernel_rfl)) (fun _ _ _ h => h) (Or.inl ⟨by rfl, ?_⟩) ?_ ?_
                     rotate_left
                     ·intro w'
                      go_simp
                      with_reducible rfl
                     rotate_left
                     ·simp only [Act.put, mD, mE, mF, i64_w, i32_w]
                      rfl
                     refine take_ (i := 2) (N := some 79) (v := ?_) (a' := ?_) #[true, true, true, true, true, true, false, false, false, true, false, false, false, false] rfl rfl (take_ofW HT_.out HW_.out (by kernel_rfl)) (fun _ _ _ h => h) (Or.inl ⟨by rfl, ?_⟩) hHeld ?_ ?_
                     rotate_left
                     ·rintro w' ⟨s0, s1, s2, s3⟩
                      go_simp
                      with_reducible rfl
                     rotate_left
                     ·simp only [Act.put, mD, mE, mF, i64_w, i32_w]
                      rfl
                     refine take_ (i := 6) (N := some 83) (v := ?_) (a' := ?_) #[true, true, true, true, true, true, true, false, false, true, false, false, false, false] rfl rfl (take_ofW HT_.out HW_.out (by kernel_rfl)) (fun _ _ _ h => h) (Or.inl ⟨by rfl, ?_⟩) hHeld ?_ ?_
                     rotate_left
                     ·rintro w' ⟨s0, s1, s2, s3⟩
                      go_simp
                      with_reducible rfl
                     rotate_left
                     ·simp only [Act.put, mD, mE, mF, i64_w, i32_w]
                      rfl
                     refine pure_ (i := 7) (N := some 84) (v := ?_) (a' := ?_) #[true, true, true, true, true, true, true, true, false, true, false, false, false, false] rfl rfl (any_of HT_.out (by kernel_rfl)) (fun _ _ _ h => h) (Or.inl ⟨by rfl, ?_⟩) ?_ ?_
                     rotate_left
                     ·intro w'
                      go_simp
                      with_reducible rfl
                     rotate_left
                     ·simp only [Act.put, mD, mE, mF, i64_w, i32_w]
                      rfl
                     refine take_ (i := 8) (N := some 85) (v := ?_) (a' := ?_) #[true, true, true, true, true, true, true, true, true, true, false, false, false, false] rfl rfl (take_ofW HT_.out HW_.out (by kernel_rfl)) (fun _ _ _ h => h) (Or.inl ⟨by rfl, ?_⟩) hHeld ?_ ?_
                     rotate_left
                     ·rintro w' ⟨s0, s1, s2, s3⟩
                      go_simp
                      with_reducible rfl
                     rotate_left
                     ·simp only [Act.put, mD, mE, mF, i64_w, i32_w]
                      rfl
                     refine pure_ (i := 10) (N := some 87) (v := ?_) (a' := ?_) #[true, true, true, true, true, true, true, true, true, true, true, false, false, false] rfl rfl (any_of HT_.out (by kernel_rfl)) (fun _ _ _ h => h) (Or.inl ⟨by rfl, ?_⟩) ?_ ?_
                     rotate_left
                     ·intro w'
                      go_simp
                      with_reducible rfl
                     rotate_left
                     ·simp only [Act.put, mD, mE, mF, i64_w, i32_w]
                      rfl
                     refine take_ (i := 11) (N := some 88) (v := ?_) (a' := ?_) #[true, true, true, true, true, true, true, true, true, true, true, true, false, false] rfl rfl (take_ofW HT_.out HW_.out (by kernel_rfl)) (fun _ _ _ h => h) (Or.inl ⟨by rfl, ?_⟩) hHeld ?_ ?_
                     rotate_left
                     ·rintro w' ⟨s0, s1, s2, s3⟩
                      go_simp
                      with_reducible rfl
                     rotate_left
                     ·simp only [Act.put, mD, mE, mF, i64_w, i32_w]
                      rfl
                     refine one_ (i := 12) (N := some 89) #[true, true, true, true, true, true, true, true, true, true, true, true, true, false] rfl rfl (one_of HT_.out (by kernel_rfl)) (by decide) (fun K hK => ?_)
                     refine goes_ Try.func85 (by kernel_rfl) rfl #[.slice Ao52 x7_4.length co52, .int .i64 (rd (rd_L1 l0_0 (rd x5_2 x8_3)) x9_4)] (by rfl) rfl rfl (by (try simp only [mA, mB, mC]); first | done | rfl | (simp only [List.length_drop, List.length_take]; rfl)) ?_
                     with_reducible refine (spec_l4Has.calls k4 _ _ x7_4 (rd (rd_L1 l0_0 (rd x5_2 x8_3)) x9_4) false _ ?side1 ?side2 A44.out).mono ?_
                     (case side1 => repeat (first | exact (Kd.R_reads' HO_7.out).2.2 | (with_reducible refine Kd.C_alloc ?_ _) | (with_reducible refine Kd.C_drewN ?_ _) | (with_reducible refine Kd.C_drew ?_)))
                     (case side2 => exact (Kd.R_reads' HO_7.out).2.1)
                     rintro e w' ⟨rfl, ⟨nd, rfl⟩⟩
                     refine ⟨_, rfl, ?_⟩
                     refine hK.out _ _ ⟨(blk_cell BK326.out 0).trans rfl, hHeld.2.1, hHeld.2.2.1, hHeld.2.2.2⟩ (fun hHeld => ?_)
                     clear hK K
                     refine norm_ (a' := ?_) ?_ ?_
                     rotate_left
                     ·show Act.put _ (some 89) _ = _
                      simp only [Act.put, mD, mE, mF, i64_w, i32_w]
                      rfl
                     refine pure_ (i := 13) (N := some 90) (v := ?_) (a' := ?_) #[true, true, true, true, true, true, true, true, true, true, true, true, true, true] rfl rfl (any_of HT_.out (by kernel_rfl)) (fun _ _ _ h => h) (Or.inl ⟨by rfl, ?_⟩) ?_ ?_
                     rotate_left
                     ·intro w'
                      go_simp
                      with_reducible rfl
                     rotate_left
                     ·simp only [Act.put, mD, mE, mF, i64_w, i32_w]
                      rfl
                     refine done_ (done_of HT_.out (by kernel_rfl)) ?_
                     try go_wp2
                     (try (rw [drewN_self w51]; generalize hq_ : World.drewN w51 _ = w51; have n0_ : Aside0 (Kd.V (Kd.int .i64) 3 w51 w.heap.size (fun k_ => (P0_0_ k_ ∨ w.heap.size ≤ k_) ∧ some k_ ≠ (.slice Ao52 x7_4.length co52 : Value).ownBlock ∧ k_ ≠ gb326) (.slice A341_0 (rd_L1 l0_0 (rd x5_2 x8_3)).length c341_0) (rd_L1 l0_0 (rd x5_2 x8_3))) := ⟨by rw [← hq_]; exact (by (with_reducible repeat (first | apply Kd.V_alloc | apply Kd.V_drewN | apply Kd.V_drew)); exact HL341_0.out)⟩; have n1_ : Aside0 (Kd.V (Kd.int .i64) 3 w51 w.heap.size (fun k_ => (P0_0_ k_ ∨ w.heap.size ≤ k_) ∧ some k_ ≠ (.slice Ao52 x7_4.length co52 : Value).ownBlock ∧ k_ ≠ gb326) (.slice (some ad344) (rd_L1 l0_0 (rd x5_2 x8_3)).length c343_0) (rd_L1 l0_0 (rd x5_2 x8_3))) := ⟨by rw [← hq_]; exact (by (with_reducible repeat (first | apply Kd.V_alloc | apply Kd.V_drewN | apply Kd.V_drew)); exact HL343_0.out)⟩; have n2_ : Aside0 (Kd.V (Kd.slice 3 (Kd.int .i64)) 24 w51 w.heap.size (fun k_ => (P0_0_ k_ ∨ w.heap.size ≤ k_) ∧ some k_ ≠ (.slice Ao52 x7_4.length co52 : Value).ownBlock ∧ k_ ≠ gb326) (.slice (some ad331) l0_0.length c0_0) l0_0) := ⟨by rw [← hq_]; exact (by (with_reducible repeat (first | apply Kd.V_alloc | apply Kd.V_drewN | apply Kd.V_drew)); exact HO_327000.out)⟩; have n3_ : Aside0 (Kd.V (Kd.int .i64) 3 w51 w.heap.size (fun k_ => (P0_0_ k_ ∨ w.heap.size ≤ k_) ∧ some k_ ≠ (.slice Ao52 x7_4.length co52 : Value).ownBlock ∧ k_ ≠ gb326) (.slice (some ad340) x5_2.length co37) x5_2) := ⟨by rw [← hq_]; exact (by (with_reducible repeat (first | apply Kd.V_alloc | apply Kd.V_drewN | apply Kd.V_drew)); exact HO_5.out)⟩; have n4_ : Aside0 (Kd.R (Kd.int .i64) 3 w51 w.heap.size (fun k_ => (w.heap.size ≤ k_)) (.slice Ao52 x7_4.length co52) x7_4) := ⟨by rw [← hq_]; exact (by (with_reducible repeat (first | apply Kd.R_alloc | apply Kd.R_drewN | apply Kd.R_drew)); exact HO_7.out)⟩; have n5_ : Aside0 (w51.heap[gb326]? = some (.cells #[.slice (some ad331) l0_0.length c0_0] 46 (0, 0))) := ⟨by rw [← hq_]; exact (by (with_reducible repeat (first | refine blk_drewN ?_ _ | refine blk_drew ?_ | refine blk_alloc ?_ _)); exact BK326.out)⟩; have n6_ : Aside0 (Below w.heap.size w w51) := ⟨by rw [← hq_]; exact (by repeat (first | (with_reducible first | exact HB.out | apply below_alloc | apply pw_below_drewN | apply below_drew1 | refine below_set ?_ GE326.out) | exact HB.out))⟩; have n7_ : Aside0 (Kd.C (Kd.int .i64) w51 A341_0 (rd_L1 l0_0 (rd x5_2 x8_3)).length (rd_L1 l0_0 (rd x5_2 x8_3))) := ⟨by rw [← hq_]; exact (by repeat (first | (with_reducible exact HR341_0.out) | (with_reducible refine Kd.C_alloc ?_ _) | (with_reducible refine Kd.C_drewN ?_ _) | (with_reducible refine Kd.C_drew ?_) | exact HR341_0.out))⟩; have n8_ : Aside0 (Kd.C (Kd.int .i64) w51 (some ad344) (rd_L1 l0_0 (rd x5_2 x8_3)).length (rd_L1 l0_0 (rd x5_2 x8_3))) := ⟨by rw [← hq_]; exact (by repeat (first | (with_reducible exact HR343_0.out) | (with_reducible refine Kd.C_alloc ?_ _) | (with_reducible refine Kd.C_drewN ?_ _) | (with_reducible refine Kd.C_drew ?_) | exact HR343_0.out))⟩; clear HL341_0 HL343_0 HO_327000 HO_5 HO_7 BK326 HB HR341_0 HR343_0 hq_; revert n0_ n1_ n2_ n3_ n4_ n5_ n6_ n7_ n8_; intro HL341_0 HL343_0 HO_327000 HO_5 HO_7 BK326 HB HR341_0 HR343_0))
                     have n0_ := A_ (Kd.V_drew HO_5.out)
                     have n1_ := A_ (Kd.R_drew HO_7.out)
                     have n2_ := A_ (Kd.V_drew HO_327000.out)
                     have n3_ := A_ (Kd.V_drew HL341_0.out)
                     have n4_ := A_ (Kd.V_drew HL343_0.out)
                     have n5_ := A_ (blk_drew BK326.out)
                     have n6_ := A_ (Kd.C_drew HR341_0.out)
                     have n7_ := A_ (Kd.C_drew HR343_0.out)
                     have n8_ := A_ (below_drew1 HB.out)
                     clear HO_5
                     clear HO_7
                     clear HO_327000
                     clear HL341_0
                     clear HL343_0
                     clear BK326
                     clear HR341_0
                     clear HR343_0
                     clear HB
                     have HO_5 := n0_
                     have HO_7 := n1_
                     have HO_327000 := n2_
                     have HL341_0 := n3_
                     have HL343_0 := n4_
                     have BK326 := n5_
                     have HR341_0 := n6_
                     have HR343_0 := n7_
                     have HB := n8_
                     clear n0_ n1_ n2_ n3_ n4_ n5_ n6_ n7_ n8_
                     have p346 : 0 ≤ (x8_3 : Int) := of_decide_eq_true (by first | (with_reducible assumption) | assumption)
                     have q346 : x8_3 < (x5_2.length : Int) := of_decide_eq_true (by first | (with_reducible assumption) | assumption)
                     obtain ⟨ad346, e346, hx346_0⟩ := Kd.at_int (Kd.V_reads' HO_5.out).2.2 x8_3 p346 q346
                     obtain rfl : ad340 = ad346 := (by injection e346)
                     replace p346 := eq_true p346
                     replace q346 := eq_true q346
                     have p347 : 0 ≤ ((rd x5_2 x8_3) : Int) := of_decide_eq_true (by first | (with_reducible assumption) | assumption)
                     have q347 : (rd x5_2 x8_3) < (l0_0.length : Int) := of_decide_eq_true (by first | (with_reducible assumption) | assumption)
                     obtain ⟨ad347, A347_0, c347_0, e347, hx347_0, hl347_0, hi347_0⟩ := at_L1 (Kd.V_reads' HO_327000.out).2.2 (rd x5_2 x8_3) p347 q347
                     obtain rfl : ad331 = ad347 := (by injection e347)
                     obtain ⟨ce347, hce347, hMe347, hcc347⟩ := Kd.V_get HO_327000.out [] (rd x5_2 x8_3) p347 (by first | exact q347 | exact of_decide_eq_true (by first | (with_reducible assumption) | assumption) | (have e_ := (Kd.V_reads' HO_327000.out).1; omega))
                     obtain ⟨ua347_0, uc347_0, rfl, ul347_0, ge347_0⟩ := Kd.FK_slice_open hMe347
                     have hv347_0 := hcc347 0 _ rfl
                     rw [Nat.add_zero, show ((Kd.slice 3 (Kd.int .i64))).sz = 1 from rfl, Nat.mul_one] at hv347_0
                     replace hv347_0 := Option.some.inj (hv347_0.symm.trans hx347_0)
                     injection hv347_0 with hva_ hvn_ hvc_
                     rw [hva_] at ge347_0
                     rw [hvc_] at ul347_0
                     have HL347_0 := A_ (show Kd.V (Kd.int .i64) 3 _ w.heap.size _ _ (rd_L1 l0_0 (rd x5_2 x8_3)) from Kd.V_mk ul347_0 ge347_0)
                     clear hva_ hvn_ hvc_ ge347_0 ul347_0
                     clear hcc347 hce347
                     have HR347_0 := A_ hi347_0
                     have HC347_0 := A_ hl347_0
                     clear hi347_0 hl347_0
                     replace p347 := eq_true p347
                     replace q347 := eq_true q347
                     have p348 : 0 ≤ (x9_4 : Int) := of_decide_eq_true (by first | (with_reducible assumption) | assumption)
                     have q348 : x9_4 < ((rd_L1 l0_0 (rd x5_2 x8_3)).length : Int) := of_decide_eq_true (by first | (with_reducible assumption) | assumption)
                     obtain ⟨ad348, e348, hx348_0⟩ := Kd.at_int (by repeat (first | (with_reducible exact HR347_0.out) | (with_reducible refine Kd.C_alloc ?_ _) | (with_reducible refine Kd.C_drewN ?_ _) | (with_reducible refine Kd.C_drew ?_) | exact HR347_0.out)) x9_4 p348 q348
                     cases e348
                     replace p348 := eq_true p348
                     replace q348 := eq_true q348
                     refine start_ (n := 15) (S := fun w' => w'.cell? ⟨gb326, 0, none⟩ = some (.slice (some ad331) l0_0.length c0_0) ∧ w'.cell? (ad340.add (x8_3).toNat) = some (.int .i64 (rd x5_2 x8_3)) ∧ w'.cell? (ad331.add ((rd x5_2 x8_3)).toNat) = some (.slice (some ad348) (rd_L1 l0_0 (rd x5_2 x8_3)).length c347_0) ∧ w'.cell? (ad348.add (x9_4).toNat) = some (.int .i64 (rd (rd_L1 l0_0 (rd x5_2 x8_3)) x9_4))) (ds := [12, 13]) #[false, false, false, false, false, false, false, false, false, false, false, false, false, false, false] (by kernel_rfl) rfl rfl ⟨(blk_cell BK326.out 0).trans rfl, hx346_0, hx347_0, hx348_0⟩ (fun hHeld => ?_); refine with_tabW spec_IsGrowing.tab15 spec_IsGrowing.bits15 (fun HT_ HW_ => ?_)
                     generalize w51.drew = w53 at HO_5 HO_7 HO_327000 HL341_0 HL343_0 BK326 HR341_0 HR343_0 HB HL347_0 HR347_0 hx346_0 hx347_0 hx348_0 hHeld ⊢
                     refine pure_ (i := 0) (N := some 91) (v := ?_) (a' := ?_) #[true, false, false, false, false, false, false, false, false, false, false, false, false, false, false] rfl rfl (any_of HT_.out (by kernel_rfl)) (fun _ _ _ h => h) (Or.inl ⟨by rfl, ?_⟩) ?_ ?_
                     rotate_left
                     ·intro w'
                      go_simp
                      with_reducible rfl
                     rotate_left
                     ·simp only [Act.put, mD, mE, mF, i64_w, i32_w]
                      rfl
                     refine pure_ (i := 1) (N := some 92) (v := ?_) (a' := ?_) #[true, true, false, false, false, false, false, false, false, false, false, false, false, false, false] rfl rfl (any_of HT_.out (by kernel_rfl)) (fun _ _ _ h => h) (Or.inl ⟨by rfl, ?_⟩) ?_ ?_
                     rotate_left
                     ·intro w'
                      go_simp
                      with_reducible rfl
                     rotate_left
                     ·simp only [Act.put, mD, mE, mF, i64_w, i32_w]
                      rfl
                     refine pure_ (i := 3) (N := some 94) (v := ?_) (a' := ?_) #[true, true, false, true, false, false, false, false, false, false, false, false, false, false, false] rfl rfl (any_of HT_.out (by kernel_rfl)) (fun _ _ _ h => h) (Or.inl ⟨by rfl, ?_⟩) ?_ ?_
                     rotate_left
                     ·intro w'
                      go_simp
                      with_reducible rfl
                     rotate_left
                     ·simp only [Act.put, mD, mE, mF, i64_w, i32_w]
                      rfl
                     refine pure_ (i := 4) (N := some 95) (v := ?_) (a' := ?_) #[true, true, false, true, true, false, false, false, false, false, false, false, false, false, false] rfl rfl (any_of HT_.out (by kernel_rfl)) (fun _ _ _ h => h) (Or.inl ⟨by rfl, ?_⟩) ?_ ?_
                     rotate_left
                     ·intro w'
                      go_simp
                      with_reducible rfl
                     rotate_left
                     ·simp only [Act.put, mD, mE, mF, i64_w, i32_w]
                      rfl
                     refine pure_ (i := 5) (N := some 96) (v := ?_) (a' := ?_) #[true, true, false, true, true, true, false, false, false, false, false, false, false, false, false] rfl rfl (any_of HT_.out (by kernel_rfl)) (fun _ _ _ h => h) (Or.inl ⟨by rfl, ?_⟩) ?_ ?_
                     rotate_left
                     ·intro w'
                      go_simp
                      with_reducible rfl
                     rotate_left
                     ·simp only [Act.put, mD, mE, mF, i64_w, i32_w]
                      rfl
                     refine pure_ (i := 9) (N := some 100) (v := ?_) (a' := ?_) #[true, true, false, true, true, true, false, false, false, true, false, false, false, false, false] rfl rfl (any_of HT_.out (by kernel_rfl)) (fun _ _ _ h => h) (Or.inl ⟨by rfl, ?_⟩) ?_ ?_
                     rotate_left
                     ·intro w'
                      go_simp
                      with_reducible rfl
                     rotate_left
                     ·simp only [Act.put, mD, mE, mF, i64_w, i32_w]
                      rfl
                     refine take_ (i := 2) (N := some 93) (v := ?_) (a' := ?_) #[true, true, true, true, true, true, false, false, false, true, false, false, false, false, false] rfl rfl (take_ofW HT_.out HW_.out (by kernel_rfl)) (fun _ _ _ h => h) (Or.inl ⟨by rfl, ?_⟩) hHeld ?_ ?_
                     rotate_left
                     ·rintro w' ⟨s0, s1, s2, s3⟩
                      go_simp
                      with_reducible rfl
                     rotate_left
                     ·simp only [Act.put, mD, mE, mF, i64_w, i32_w]
                      rfl
                     refine take_ (i := 6) (N := some 97) (v := ?_) (a' := ?_) #[true, true, true, true, true, true, true, false, false, true, false, false, false, false, false] rfl rfl (take_ofW HT_.out HW_.out (by kernel_rfl)) (fun _ _ _ h => h) (Or.inl ⟨by rfl, ?_⟩) hHeld ?_ ?_
                     rotate_left
                     ·rintro w' ⟨s0, s1, s2, s3⟩
                      go_simp
                      with_reducible rfl
                     rotate_left
                     ·simp only [Act.put, mD, mE, mF, i64_w, i32_w]
                      rfl
                     refine pure_ (i := 7) (N := some 98) (v := ?_) (a' := ?_) #[true, true, true, true, true, true, true, true, false, true, false, false, false, false, false] rfl rfl (any_of HT_.out (by kernel_rfl)) (fun _ _ _ h => h) (Or.inl ⟨by rfl, ?_⟩) ?_ ?_
                     rotate_left
                     ·intro w'
                      go_simp
                      with_reducible rfl
                     rotate_left
                     ·simp only [Act.put, mD, mE, mF, i64_w, i32_w]
                      rfl
                     refine take_ (i := 8) (N := some 99) (v := ?_) (a' := ?_) #[true, true, true, true, true, true, true, true, true, true, false, false, false, false, false] rfl rfl (take_ofW HT_.out HW_.out (by kernel_rfl)) (fun _ _ _ h => h) (Or.inl ⟨by rfl, ?_⟩) hHeld ?_ ?_
                     rotate_left
                     ·rintro w' ⟨s0, s1, s2, s3⟩
                      go_simp
                      with_reducible rfl
                     rotate_left
                     ·simp only [Act.put, mD, mE, mF, i64_w, i32_w]
                      rfl
                     refine pure_ (i := 10) (N := some 101) (v := ?_) (a' := ?_) #[true, true, true, true, true, true, true, true, true, true, true, false, false, false, false] rfl rfl (any_of HT_.out (by kernel_rfl)) (fun _ _ _ h => h) (Or.inl ⟨by rfl, ?_⟩) ?_ ?_
                     rotate_left
                     ·intro w'
                      go_simp
                      with_reducible rfl
                     rotate_left
                     ·simp only [Act.put, mD, mE, mF, i64_w, i32_w]
                      rfl
                     refine take_ (i := 11) (N := some 102) (v := ?_) (a' := ?_) #[true, true, true, true, true, true, true, true, true, true, true, true, false, false, false] rfl rfl (take_ofW HT_.out HW_.out (by kernel_rfl)) (fun _ _ _ h => h) (Or.inl ⟨by rfl, ?_⟩) hHeld ?_ ?_
                     rotate_left
                     ·rintro w' ⟨s0, s1, s2, s3⟩
                      go_simp
                      with_reducible rfl
                     rotate_left
                     ·simp only [Act.put, mD, mE, mF, i64_w, i32_w]
                      rfl
                     refine last_ (i := 12) (N := some 103) #[true, true, true, true, true, true, true, true, true, true, true, true, true, false, false] rfl rfl (one_of HT_.out (by kernel_rfl)) (by decide) (fun K hK => ?_)
                     refine value_ (w1 := ?_) (v := ?_) (by rfl) rfl ?_ ?_
                     rotate_left 2
                     ·go_simp
                      constructor
                      ·rfl
                      rfl
                     refine hK.out _ _ ?_
                     clear hK K
                     refine norm_ (a' := ?_) ?_ ?_
                     rotate_left
                     ·show Act.put _ (some 103) _ = _
                      simp only [Act.put, mD, mE, mF, i64_w, i32_w]
                      rfl
                     refine last_ (i := 13) (N := some 104) #[true, true, true, true, true, true, true, true, true, true, true, true, true, true, false] rfl rfl (one_of HT_.out (by kernel_rfl)) (by decide) (fun K hK => ?_)
                     refine Kd.R_append_step (Kd.int .i64) (w0 := w) w.heap.size (by rfl) (.tmp 91) (.tmp 103) 24 3 (.int .i64 0) 8 rfl Try.underlying24 info3 rfl (by decide) (by omega) (.slice Ao52 x7_4.length co52) x7_4 (rd (rd_L1 l0_0 (rd x5_2 x8_3)) x9_4) [.int .i64 (rd (rd_L1 l0_0 (rd x5_2 x8_3)) x9_4)] (fun k_ => (w.heap.size ≤ k_)) (fun _ => False) rfl rfl ?aP (fun _ hk => hk.elim) ?aF ?aO ?aB ?aS ?aL ?_
                     (case aP => exact rfl)
                     (case aB => exact HB.out)
                     (case aF => exact (fun k_ hk => (Nat.le_trans (below_size HB.out) hk)))
                     (case aO => exact HO_7.out)
                     (case aS => exact (below_size HB.out))
                     (case aL => have := LMc49.out; omega)
                     intro v350 w54 ho hb hg hat
                     rw [← Ny349.out] at ho
                     have n0_ := A_ (Kd.V_afterv (ok := (fun k_ => (P0_0_ k_ ∨ w.heap.size ≤ k_) ∧ k_ ≠ gb326)) (by exact Kd.V_mono HO_5.out (fun _ hk => ⟨⟨hk.1, hk.2.2⟩, hk.2.1⟩)) hg hat)
                     have n1_ := A_ (Kd.V_afterv (ok := (fun k_ => (P0_0_ k_ ∨ w.heap.size ≤ k_) ∧ k_ ≠ gb326)) (by exact Kd.V_mono HO_327000.out (fun _ hk => ⟨⟨hk.1, hk.2.2⟩, hk.2.1⟩)) hg hat)
                     have n2_ := A_ (blk_grown (g := gb326) (o := .cells #[.slice (some ad331) l0_0.length c0_0] 46 (0, 0)) BK326.out hg (Kd.R_ne HO_7.out BK326.out (by decide)))
                     have n3_ := A_ (Kd.V_afterv (ok := (fun k_ => (P0_0_ k_ ∨ w.heap.size ≤ k_) ∧ k_ ≠ gb326)) (by exact Kd.V_mono HL341_0.out (fun _ hk => ⟨⟨hk.1, hk.2.2⟩, hk.2.1⟩)) hg hat)
                     have n4_ := A_ (Kd.V_afterv (ok := (fun k_ => (P0_0_ k_ ∨ w.heap.size ≤ k_) ∧ k_ ≠ gb326)) (by exact Kd.V_mono HL343_0.out (fun _ hk => ⟨⟨hk.1, hk.2.2⟩, hk.2.1⟩)) hg hat)
                     have n5_ := A_ (Kd.V_afterv (ok := (fun k_ => (P0_0_ k_ ∨ w.heap.size ≤ k_) ∧ k_ ≠ gb326)) (by exact Kd.V_mono HL347_0.out (fun _ hk => ⟨⟨hk.1, hk.2.2⟩, hk.2.1⟩)) hg hat)
                     have n6_ := A_ (hb)
                     have n7_ := A_ (ho)
                     clear HO_5
                     clear HO_327000
                     clear BK326
                     clear HL341_0
                     clear HL343_0
                     clear HL347_0
                     clear HB
                     clear HO_7
                     have HO_5 := n0_
                     have HO_327000 := n1_
                     have BK326 := n2_
                     have HL341_0 := n3_
                     have HL343_0 := n4_
                     have HL347_0 := n5_
                     have HB := n6_
                     have HO351 := n7_
                     clear n0_ n1_ n2_ n3_ n4_ n5_ n6_ n7_
                     clear ho hb hg hat
                     refine hK.out _ _ ?_
                     clear hK K
                     refine norm_ (a' := ?_) ?_ ?_
                     rotate_left
                     ·show Act.put _ (some 104) _ = _
                      simp only [Act.put, mD, mE, mF, i64_w, i32_w]
                      rfl
                     refine pure_ (i := 14) (N := some 7) (v := ?_) (a' := ?_) #[true, true, true, true, true, true, true, true, true, true, true, true, true, true, true] rfl rfl (any_of HT_.out (by kernel_rfl)) (fun _ _ _ h => h) (Or.inl ⟨by rfl, ?_⟩) ?_ ?_
                     rotate_left
                     ·intro w'
                      go_simp
                      with_reducible rfl
                     rotate_left
                     ·simp only [Act.put, mD, mE, mF, i64_w, i32_w]
                      rfl
                     refine done_ (done_of HT_.out (by kernel_rfl)) ?_
                     try go_wp2
                     go_roundg k4
                     case measure => have := HJ2.out; have := HK2.out; have := HK3.out; have := HK4.out; omega
                     case rel => exact ⟨(y349), (wrap64 (x9_4 + 1)), (by rfl), H', ⟨by have := HJ2.out; have := HK2.out; have := HK3.out; have := HK4.out; omega⟩, ⟨by exact Kd.V_mono HO_5.out (fun _ hk => ⟨hk.1.1, ⟨hk.2, hk.1.2⟩⟩)⟩, ⟨HO351.out⟩, ⟨by exact Kd.V_mono HO_327000.out (fun _ hk => ⟨hk.1.1, ⟨hk.2, hk.1.2⟩⟩)⟩, ⟨BK326.out⟩, ⟨HB.out⟩⟩
                    rw [if_neg c49] at H
                    exact absurd H (by simp)
                   rw [if_neg c43] at H
                   exact absurd H (by simp)
                  rw [if_neg c42] at H
                  have c42b0 : decide (x9_4 < ((rd_L1 l0_0 (rd x5_2 x8_3)).length : Int)) = false := decide_eq_false c42
                  clear c42
                  have H' := A_ H
                  clear H
                  try go_wp2
                  have n0_ := A_ (Kd.V_drew HO_5.out)
                  have n1_ := A_ (Kd.R_drew HO_7.out)
                  have n2_ := A_ (Kd.V_drew HO_327000.out)
                  have n3_ := A_ (blk_drew BK326.out)
                  have n4_ := A_ (below_drew1 HB.out)
                  clear HO_5
                  clear HO_7
                  clear HO_327000
                  clear BK326
                  clear HB
                  have HO_5 := n0_
                  have HO_7 := n1_
                  have HO_327000 := n2_
                  have BK326 := n3_
                  have HB := n4_
                  clear n0_ n1_ n2_ n3_ n4_
                  have p340 : 0 ≤ (x8_3 : Int) := of_decide_eq_true (by first | (with_reducible assumption) | assumption)
                  have q340 : x8_3 < (x5_2.length : Int) := of_decide_eq_true (by first | (with_reducible assumption) | assumption)
                  obtain ⟨ad340, e340, hx340_0⟩ := Kd.at_int (Kd.V_reads' HO_5.out).2.2 x8_3 p340 q340
                  cases e340
                  replace p340 := eq_true p340
                  replace q340 := eq_true q340
                  have p341 : 0 ≤ ((rd x5_2 x8_3) : Int) := of_decide_eq_true (by first | (with_reducible assumption) | assumption)
                  have q341 : (rd x5_2 x8_3) < (l0_0.length : Int) := of_decide_eq_true (by first | (with_reducible assumption) | assumption)
                  obtain ⟨ad341, A341_0, c341_0, e341, hx341_0, hl341_0, hi341_0⟩ := at_L1 (Kd.V_reads' HO_327000.out).2.2 (rd x5_2 x8_3) p341 q341
                  obtain rfl : ad331 = ad341 := (by injection e341)
                  obtain ⟨ce341, hce341, hMe341, hcc341⟩ := Kd.V_get HO_327000.out [] (rd x5_2 x8_3) p341 (by first | exact q341 | exact of_decide_eq_true (by first | (with_reducible assumption) | assumption) | (have e_ := (Kd.V_reads' HO_327000.out).1; omega))
                  obtain ⟨ua341_0, uc341_0, rfl, ul341_0, ge341_0⟩ := Kd.FK_slice_open hMe341
                  have hv341_0 := hcc341 0 _ rfl
                  rw [Nat.add_zero, show ((Kd.slice 3 (Kd.int .i64))).sz = 1 from rfl, Nat.mul_one] at hv341_0
                  replace hv341_0 := Option.some.inj (hv341_0.symm.trans hx341_0)
                  injection hv341_0 with hva_ hvn_ hvc_
                  rw [hva_] at ge341_0
                  rw [hvc_] at ul341_0
                  have HL341_0 := A_ (show Kd.V (Kd.int .i64) 3 _ w.heap.size _ _ (rd_L1 l0_0 (rd x5_2 x8_3)) from Kd.V_mk ul341_0 ge341_0)
                  clear hva_ hvn_ hvc_ ge341_0 ul341_0
                  clear hcc341 hce341
                  have HR341_0 := A_ hi341_0
                  have HC341_0 := A_ hl341_0
                  clear hi341_0 hl341_0
                  replace p341 := eq_true p341
                  replace q341 := eq_true q341
                  refine start_ (n := 11) (S := fun w' => w'.cell? ⟨gb326, 0, none⟩ = some (.slice (some ad331) l0_0.length c0_0) ∧ w'.cell? (ad340.add (x8_3).toNat) = some (.int .i64 (rd x5_2 x8_3)) ∧ w'.cell? (ad331.add ((rd x5_2 x8_3)).toNat) = some (.slice A341_0 (rd_L1 l0_0 (rd x5_2 x8_3)).length c341_0)) (ds := []) #[false, false, false, false, false, false, false, false, false, false, false] (by kernel_rfl) rfl rfl ⟨(blk_cell BK326.out 0).trans rfl, hx340_0, hx341_0⟩ (fun hHeld => ?_); refine with_tabW spec_IsGrowing.tab12 spec_IsGrowing.bits12 (fun HT_ HW_ => ?_)
                  generalize wr.drew = w55 at HO_5 HO_7 HO_327000 BK326 HB HL341_0 HR341_0 hx340_0 hx341_0 hHeld ⊢
                  refine pure_ (i := 0) (N := some 64) (v := ?_) (a' := ?_) #[true, false, false, false, false, false, false, false, false, false, false] rfl rfl (any_of HT_.out (by kernel_rfl)) (fun _ _ _ h => h) (Or.inl ⟨by rfl, ?_⟩) ?_ ?_
                  rotate_left
                  ·intro w'
                   go_simp
                   with_reducible rfl
                  rotate_left
                  ·simp only [Act.put, mD, mE, mF, i64_w, i32_w]
                   rfl
                  refine pure_ (i := 1) (N := some 65) (v := ?_) (a' := ?_) #[true, true, false, false, false, false, false, false, false, false, false] rfl rfl (any_of HT_.out (by kernel_rfl)) (fun _ _ _ h => h) (Or.inl ⟨by rfl, ?_⟩) ?_ ?_
                  rotate_left
                  ·intro w'
                   go_simp
                   with_reducible rfl
                  rotate_left
                  ·simp only [Act.put, mD, mE, mF, i64_w, i32_w]
                   rfl
                  refine pure_ (i := 3) (N := some 67) (v := ?_) (a' := ?_) #[true, true, false, true, false, false, false, false, false, false, false] rfl rfl (any_of HT_.out (by kernel_rfl)) (fun _ _ _ h => h) (Or.inl ⟨by rfl, ?_⟩) ?_ ?_
                  rotate_left
                  ·intro w'
                   go_simp
                   with_reducible rfl
                  rotate_left
                  ·simp only [Act.put, mD, mE, mF, i64_w, i32_w]
                   rfl
                  refine pure_ (i := 4) (N := some 68) (v := ?_) (a' := ?_) #[true, true, false, true, true, false, false, false, false, false, false] rfl rfl (any_of HT_.out (by kernel_rfl)) (fun _ _ _ h => h) (Or.inl ⟨by rfl, ?_⟩) ?_ ?_
                  rotate_left
                  ·intro w'
                   go_simp
                   with_reducible rfl
                  rotate_left
                  ·simp only [Act.put, mD, mE, mF, i64_w, i32_w]
                   rfl
                  refine pure_ (i := 5) (N := some 69) (v := ?_) (a' := ?_) #[true, true, false, true, true, true, false, false, false, false, false] rfl rfl (any_of HT_.out (by kernel_rfl)) (fun _ _ _ h => h) (Or.inl ⟨by rfl, ?_⟩) ?_ ?_
                  rotate_left
                  ·intro w'
                   go_simp
                   with_reducible rfl
                  rotate_left
                  ·simp only [Act.put, mD, mE, mF, i64_w, i32_w]
                   rfl
                  refine take_ (i := 2) (N := some 66) (v := ?_) (a' := ?_) #[true, true, true, true, true, true, false, false, false, false, false] rfl rfl (take_ofW HT_.out HW_.out (by kernel_rfl)) (fun _ _ _ h => h) (Or.inl ⟨by rfl, ?_⟩) hHeld ?_ ?_
                  rotate_left
                  ·rintro w' ⟨s0, s1, s2⟩
                   go_simp
                   with_reducible rfl
                  rotate_left
                  ·simp only [Act.put, mD, mE, mF, i64_w, i32_w]
                   rfl
                  refine take_ (i := 6) (N := some 70) (v := ?_) (a' := ?_) #[true, true, true, true, true, true, true, false, false, false, false] rfl rfl (take_ofW HT_.out HW_.out (by kernel_rfl)) (fun _ _ _ h => h) (Or.inl ⟨by rfl, ?_⟩) hHeld ?_ ?_
                  rotate_left
                  ·rintro w' ⟨s0, s1, s2⟩
                   go_simp
                   with_reducible rfl
                  rotate_left
                  ·simp only [Act.put, mD, mE, mF, i64_w, i32_w]
                   rfl
                  refine pure_ (i := 7) (N := some 71) (v := ?_) (a' := ?_) #[true, true, true, true, true, true, true, true, false, false, false] rfl rfl (any_of HT_.out (by kernel_rfl)) (fun _ _ _ h => h) (Or.inl ⟨by rfl, ?_⟩) ?_ ?_
                  rotate_left
                  ·intro w'
                   go_simp
                   with_reducible rfl
                  rotate_left
                  ·simp only [Act.put, mD, mE, mF, i64_w, i32_w]
                   rfl
                  refine take_ (i := 8) (N := some 72) (v := ?_) (a' := ?_) #[true, true, true, true, true, true, true, true, true, false, false] rfl rfl (take_ofW HT_.out HW_.out (by kernel_rfl)) (fun _ _ _ h => h) (Or.inl ⟨by rfl, ?_⟩) hHeld ?_ ?_
                  rotate_left
                  ·rintro w' ⟨s0, s1, s2⟩
                   go_simp
                   with_reducible rfl
                  rotate_left
                  ·simp only [Act.put, mD, mE, mF, i64_w, i32_w]
                   rfl
                  refine pure_ (i := 9) (N := some 73) (v := ?_) (a' := ?_) #[true, true, true, true, true, true, true, true, true, true, false] rfl rfl (any_of HT_.out (by kernel_rfl)) (fun _ _ _ h => h) (Or.inl ⟨by rfl, ?_⟩) ?_ ?_
                  rotate_left
                  ·intro w'
                   go_simp
                   with_reducible rfl
                  rotate_left
                  ·simp only [Act.put, mD, mE, mF, i64_w, i32_w]
                   rfl
                  refine pure_ (i := 10) (N := some 74) (v := ?_) (a' := ?_) #[true, true, true, true, true, true, true, true, true, true, true] rfl rfl (any_of HT_.out (by kernel_rfl)) (fun _ _ _ h => h) (Or.inl ⟨by rfl, ?_⟩) ?_ ?_
                  rotate_left
                  ·intro w'
                   go_simp
                   with_reducible rfl
                  rotate_left
                  ·simp only [Act.put, mD, mE, mF, i64_w, i32_w]
                   rfl
                  refine done_ (done_of HT_.out (by kernel_rfl)) ?_
                  try go_wp2
                  go_roundg k4
                  case measure => have := HJ2.out; have := HK2.out; have := HK3.out; have := HK4.out; omega
                  case rel => exact ⟨(x7_4), (wrap64 (x8_3 + 1)), (by rfl), H', ⟨by have := HJ2.out; have := HK2.out; have := HK3.out; have := HK4.out; omega⟩, ⟨HO_5.out⟩, ⟨HO_7.out⟩, ⟨HO_327000.out⟩, ⟨BK326.out⟩, ⟨HB.out⟩⟩
                 rw [if_neg c41] at H
                 exact absurd H (by simp)
                rw [if_neg c40] at H
                exact absurd H (by simp)
               rw [if_neg c39] at H
               exact absurd H (by simp)
              rw [if_neg c38] at H
              exact absurd H (by simp)
           rw [if_neg c36] at H
           have c36b0 : decide (x8_3 < (x5_2.length : Int)) = false := decide_eq_false c36
           clear c36
           have H' := A_ H
           clear H
           obtain ⟨Ao56, co56, eo56⟩ := Kd.V_slice HO_5.out
           subst eo56
           go_wp2
           go_roundg k3
           case measure => have := HJ2.out; have := HK2.out; have := HK3.out; omega
           case rel => exact ⟨(x7_3), (wrap64 (x6_2 + 1)), (by rfl), H', ⟨by have := HJ2.out; have := HK2.out; have := HK3.out; omega⟩, ⟨Kd.V_mono (Kd.R_V (by exact (Kd.R_types HO_7.out BK326.out (by decide)))) (fun k_ hk => by first | exact ⟨(.inr (hk.1)), hk.2⟩ | exact (.inr (hk)))⟩, ⟨by exact Kd.V_mono HO_327000.out (fun _ hk => ⟨hk.1, hk.2.2⟩)⟩, ⟨BK326.out⟩, ⟨HB.out⟩⟩
        rw [if_neg c32] at H
        have c32b0 : decide (x6_2 ≤ (l0_0.length : Int)) = false := decide_eq_false c32
        clear c32
        obtain rfl := Option.some.inj H
        have hcz57_0 : wr.cell? ⟨gb326, 0, none⟩ = some (.slice (some ad331) l0_0.length c0_0) := (blk_cell BK326.out 0).trans rfl
        have hfz57_0 := blk_frozen BK326.out 0
        obtain ⟨Ao58, co58, eo58⟩ := Kd.V_slice HO_5.out
        subst eo58
        go_wp2
        go_ret
        exact ⟨by rfl, HB.out⟩
     rw [if_neg c29] at H
     exact absurd H (by simp)
    rw [if_neg c28] at H
    exact absurd H (by simp)
   rw [if_neg c27] at H
   exact absurd H (by simp)

end Go.Proofs.Ytdcakddfibnllaa.PFnFibonacci
