/- Written by this session's own program (wip/myprint.py): the machine side of one law, some contracts of it typed by hand. -/
import Derived.Test.YtdcakddfibnllaaPFnFibonaccix0
import Derived.Test.YtdcakddfibnllaaPFnFibonaccix1
import Derived.Test.YtdcakddfibnllaaPFnFibonaccix3
import Derived.Test.YtdcakddfibnllaaPFnFibonaccix4
namespace Go.Proofs.Ytdcakddfibnllaa.PFnFibonacci
open Go.RowKit Go.Proofs.YtdcakddfibnllaaW.PrintWords Go.Proofs.YtdcakddfibnllaaW.PrintLast Go.Proofs.YtdcakddfibnllaaW.PrintMore
attribute [local go_sem] max2_int min2_int max_two min_two max_three min_three max_four min_four   -- for this text's walks alone
set_option linter.unusedVariables false
set_option maxHeartbeats 8000000
set_option maxRecDepth 100000
set_option linter.unusedSimpArgs false

/-! ### impl_FixedPrefix: function 80 -/
mutual
def impl_FixedPrefix.j0 : Nat → Int → Int → Bool → List (List Int) → Option (List Int × Bool)
 | 0, _, _, _, _ => none
 | k + 1, x1, x2, x21, x165000 => if x21 = true then (some ((([] : List Int)), false)) else (if 0 ≤ x1 then (if x1 < (x165000.length : Int) then ((slices_Clone_int_int.f (rd_L1 x165000 x1)).bind fun t170 => (impl_FixedPrefix.l0 k x2 t170 1 x165000)) else (none)) else (none))
def impl_FixedPrefix.l0 : Nat → Int → List Int → Int → List (List Int) → Option (List Int × Bool)
 | 0, _, _, _, _ => none
 | k + 1, x2, x8, x9, x165000 => if (x8.length : Int) < x2 then (if 0 ≤ x9 then (if x9 < (x8.length : Int) then (if 0 ≤ (rd x8 x9) then (if (rd x8 x9) < (x165000.length : Int) then (if x8.length + (rd_L1 x165000 (rd x8 x9)).length < 17592186044416 then (impl_FixedPrefix.l0 k x2 (x8 ++ (rd_L1 x165000 (rd x8 x9))) (wrap64 (x9 + 1)) x165000) else (none)) else (none)) else (none)) else (none)) else (none)) else ((some (([] : List Int) : List Int)).bind fun y178 => (if 0 ≤ x2 then (if x2 ≤ (x8.length : Int) then ((some (x8.take (x2 : Int).toNat : List Int)).bind fun y181 => (if y178.length + y181.length < 17592186044416 then (some ((y178 ++ y181), true)) else (none))) else (none)) else (none)))
end
def impl_FixedPrefix.f (k : Nat) (l0_0 : List (List Int)) (a1 : Int) (a2 : Int) : Option (List Int × Bool) := (impl_IsGrowing.f k l0_0 a1).bind fun t165 => (if t165 = true then (if a2 < 0 then (impl_FixedPrefix.j0 k a1 a2 true l0_0) else (impl_FixedPrefix.j0 k a1 a2 (decide (a2 > 256)) l0_0)) else (impl_FixedPrefix.j0 k a1 a2 true l0_0))
theorem impl_FixedPrefix.mono_l : ∀ k, (∀ y0 y1 y2 y3, LeO (impl_FixedPrefix.j0 k y0 y1 y2 y3) (impl_FixedPrefix.j0 (k + 1) y0 y1 y2 y3)) ∧ (∀ y0 y1 y2 y3, LeO (impl_FixedPrefix.l0 k y0 y1 y2 y3) (impl_FixedPrefix.l0 (k + 1) y0 y1 y2 y3))
 | 0 => ⟨fun _ _ _ _ r h => by simp [impl_FixedPrefix.j0] at h, fun _ _ _ _ r h => by simp [impl_FixedPrefix.l0] at h⟩
 | k + 1 => by
  obtain ⟨ih0, ih1⟩ := impl_FixedPrefix.mono_l k
  refine ⟨?_, ?_⟩
  ·intro y0 y1 y2 y3
   unfold impl_FixedPrefix.j0
   with_reducible repeat' first | exact ih0 _ _ _ _ | exact ih1 _ _ _ _ | exact impl_IsGrowing.mono _ _ _ | exact LeO.refl _ | exact LeO.none _ | refine LeO.ite ?_ ?_ | refine LeO.bind ?_ (fun _ => ?_)
  intro y0 y1 y2 y3
  unfold impl_FixedPrefix.l0
  with_reducible repeat' first | exact ih0 _ _ _ _ | exact ih1 _ _ _ _ | exact impl_IsGrowing.mono _ _ _ | exact LeO.refl _ | exact LeO.none _ | refine LeO.ite ?_ ?_ | refine LeO.bind ?_ (fun _ => ?_)
theorem impl_FixedPrefix.mono : ∀ a0 a1 a2 k, LeO (impl_FixedPrefix.f k a0 a1 a2) (impl_FixedPrefix.f (k + 1) a0 a1 a2) := by
 intro a0 a1 a2 k
 obtain ⟨ih0, ih1⟩ := impl_FixedPrefix.mono_l k
 unfold impl_FixedPrefix.f
 with_reducible repeat' first | exact ih0 _ _ _ _ | exact ih1 _ _ _ _ | exact impl_IsGrowing.mono _ _ _ | exact LeO.refl _ | exact LeO.none _ | refine LeO.ite ?_ ?_ | refine LeO.bind ?_ (fun _ => ?_)
def impl_FixedPrefix.T7 : Bool × List (List Nat × List Nat) := (true, [([], []), ([], []), ([1], [1]), ([], []), ([], []), ([3, 4], [3, 4]), ([5], [5]), ([2, 6], [2, 6]), ([7], [7]), ([0, 8], [0, 8]), ([9, 9, 0, 1, 2, 3, 4, 5, 6, 7, 8, 9], [0, 3, 9])])
def impl_FixedPrefix.B7 : List Nat := [0, 0, 2, 0, 0, 24, 56, 126, 254, 511, 1023]
theorem impl_FixedPrefix.tab7 : rtab .any (opsOf Try.f80 7) = impl_FixedPrefix.T7 := by kernel_rfl
theorem impl_FixedPrefix.bits7 : waitsOk impl_FixedPrefix.T7.2 impl_FixedPrefix.B7 = true := by kernel_rfl
theorem impl_FixedPrefix.calls (k : Nat) (A0_0 : Option Addr) (c0_0 : Nat) (l0_0 : List (List Int)) (a1 : Int) (a2 : Int) (r1 : List Int) (r2 : Bool) (w : World) (hr0_0 : Kd.C (Kd.slice 3 (Kd.int .i64)) w A0_0 l0_0.length l0_0) (hc0_0 : l0_0.length ≤ c0_0) (h : impl_FixedPrefix.f k l0_0 a1 a2 = some (r1, r2)) :
  Calls Try.prog 80 #[.agg #[.slice A0_0 l0_0.length c0_0], .int .i64 a1, .int .i64 a2] w fun e w' => ∃ v0_ : Value, e = .returned (.tuple #[v0_, .bool r2]) ∧ Kd.R (Kd.int .i64) 3 w' w.heap.size (fun _ => True) v0_ r1 ∧ Below w.heap.size w w' := by
 have hu46 := Try.underlying46
 have HR0_0 := A_ hr0_0
 have HC0_0 := A_ hc0_0
 clear hr0_0 hc0_0
 have HB := A_ (Below.refl w.heap.size w)
 unfold impl_FixedPrefix.f at h
 have H := h
 clear h
 have HC4 := A_ H
 clear H
 go_enter Try.func80, Try.ntmps80
 go_upto_region 1 with (first | ((with_reducible refine gate_dst (N := 3) rfl ?_); refine box_event ?hg (N := 3) ?hd (cs := #[.slice A0_0 l0_0.length c0_0]) (t := 46) ?hr ?_; (case hd | hg => rfl); (case hr => go_simp; done); intro gb164 hg w5 hbox hb; have n0_ := A_ (below_step HB.out hb); have n1_ := A_ (hbox); have n2_ := A_ ((by rw [hg]; exact (below_size HB.out) : w.heap.size ≤ gb164)); have n3_ := A_ ((by rw [hg]; exact (below_size HB.out) : w.heap.size ≤ gb164)); clear HB; revert n0_ n1_ n2_ n3_; intro HB BK164 GW164 GE164; clear hb hbox hg))
 (try simp only [Act.put, mD, mE, mF])
 go_cut [21] (fun v21 wc => ∃ (kq : Nat) (x21_3 : Bool), v21 = .bool x21_3 ∧ Aside0 (impl_FixedPrefix.j0 kq a1 a2 x21_3 l0_0 = some (r1, r2)) ∧ Aside0 (kq ≤ k) ∧ Aside0 (wc.heap[gb164]? = some (.cells #[(.slice A0_0 l0_0.length c0_0)] 46 (0, 0))) ∧ Aside0 (Below w.heap.size w wc))
 case first =>
  have H := HC4.out
  clear HC4
  replace H := Option.bind_eq_some_iff.mp H
  obtain ⟨t165, A60, H⟩ := H
  have A6 := A_ A60
  clear A60
  by_cases c7 : t165 = true
  ·subst c7
   rw [if_pos rfl] at H
   by_cases c8 : a2 < 0
   ·rw [if_pos c8] at H
    have c8b0 : decide (a2 < 0) = true := decide_eq_true c8
    clear c8
    (first | rw [c8b0] | (simp only [i64_w, i32_w]; rw [c8b0]) | skip)
    have H' := A_ H
    clear H
    have hcz9_0 : w5.cell? ⟨gb164, 0, none⟩ = some (.slice A0_0 l0_0.length c0_0) := (blk_cell BK164.out 0).trans rfl
    have hfz9_0 := blk_frozen BK164.out 0
    go_wp2_with (first | ((with_reducible refine gate_callee (f := 87) rfl ?_); refine goesL_ (some 12) rfl rfl Try.func87 (by kernel_rfl) rfl #[.agg #[.slice A0_0 l0_0.length c0_0], .int .i64 a1] rfl (by (try simp only [mA, mB, mC]); first | done | rfl | (simp only [List.length_drop, List.length_take]; rfl)) ?_; (with_reducible refine (impl_IsGrowing.calls k _ _ l0_0 a1 true _ ?side1 ?side2 A6.out).mono ?_); (case side1 => repeat (first | exact (Kd.C_below HR0_0.out HB.out) | (with_reducible refine Kd.C_alloc ?_ _) | (with_reducible refine Kd.C_drewN ?_ _) | (with_reducible refine Kd.C_drew ?_))); (case side2 => exact HC0_0.out); rintro e w10 ⟨rfl, hb⟩; refine ⟨_, rfl, ?_⟩; have n0_ := A_ (blk_below BK164.out hb); have n1_ := A_ (below_step HB.out hb); clear BK164 HB; revert n0_ n1_; intro BK164 HB; clear hb; (try clear hi)))
    go_meet
    case rel => exact ⟨_, (true), (by rfl), H', ⟨by first | omega | exact Nat.le_refl _⟩, ⟨BK164.out⟩, ⟨HB.out⟩⟩
   rw [if_neg c8] at H
   have c8b0 : decide (a2 < 0) = false := decide_eq_false c8
   clear c8
   (first | rw [c8b0] | (simp only [i64_w, i32_w]; rw [c8b0]) | skip)
   have H' := A_ H
   clear H
   have hcz11_0 : w5.cell? ⟨gb164, 0, none⟩ = some (.slice A0_0 l0_0.length c0_0) := (blk_cell BK164.out 0).trans rfl
   have hfz11_0 := blk_frozen BK164.out 0
   go_wp2_with (first | ((with_reducible refine gate_callee (f := 87) rfl ?_); refine goesL_ (some 12) rfl rfl Try.func87 (by kernel_rfl) rfl #[.agg #[.slice A0_0 l0_0.length c0_0], .int .i64 a1] rfl (by (try simp only [mA, mB, mC]); first | done | rfl | (simp only [List.length_drop, List.length_take]; rfl)) ?_; (with_reducible refine (impl_IsGrowing.calls k _ _ l0_0 a1 true _ ?side1 ?side2 A6.out).mono ?_); (case side1 => repeat (first | exact (Kd.C_below HR0_0.out HB.out) | (with_reducible refine Kd.C_alloc ?_ _) | (with_reducible refine Kd.C_drewN ?_ _) | (with_reducible refine Kd.C_drew ?_))); (case side2 => exact HC0_0.out); rintro e w12 ⟨rfl, hb⟩; refine ⟨_, rfl, ?_⟩; have n0_ := A_ (blk_below BK164.out hb); have n1_ := A_ (below_step HB.out hb); clear BK164 HB; revert n0_ n1_; intro BK164 HB; clear hb; (try clear hi)))
   go_meet
   case rel => exact ⟨_, (decide (a2 > 256)), (by rfl), H', ⟨by first | omega | exact Nat.le_refl _⟩, ⟨BK164.out⟩, ⟨HB.out⟩⟩
  replace c7 := Bool.eq_false_iff.mpr c7
  subst c7
  rw [if_neg (show ¬ (false = true) by decide)] at H
  have H' := A_ H
  clear H
  have hcz13_0 : w5.cell? ⟨gb164, 0, none⟩ = some (.slice A0_0 l0_0.length c0_0) := (blk_cell BK164.out 0).trans rfl
  have hfz13_0 := blk_frozen BK164.out 0
  go_wp2_with (first | ((with_reducible refine gate_callee (f := 87) rfl ?_); refine goesL_ (some 12) rfl rfl Try.func87 (by kernel_rfl) rfl #[.agg #[.slice A0_0 l0_0.length c0_0], .int .i64 a1] rfl (by (try simp only [mA, mB, mC]); first | done | rfl | (simp only [List.length_drop, List.length_take]; rfl)) ?_; (with_reducible refine (impl_IsGrowing.calls k _ _ l0_0 a1 false _ ?side1 ?side2 A6.out).mono ?_); (case side1 => repeat (first | exact (Kd.C_below HR0_0.out HB.out) | (with_reducible refine Kd.C_alloc ?_ _) | (with_reducible refine Kd.C_drewN ?_ _) | (with_reducible refine Kd.C_drew ?_))); (case side2 => exact HC0_0.out); rintro e w14 ⟨rfl, hb⟩; refine ⟨_, rfl, ?_⟩; have n0_ := A_ (blk_below BK164.out hb); have n1_ := A_ (below_step HB.out hb); clear BK164 HB; revert n0_ n1_; intro BK164 HB; clear hb; (try clear hi)))
  go_meet
  case rel => exact ⟨_, (true), (by rfl), H', ⟨by first | omega | exact Nat.le_refl _⟩, ⟨BK164.out⟩, ⟨HB.out⟩⟩
 case rest =>
  clear HC4
  obtain ⟨kq, x21_3, rfl, HA, HJ3, BK164, HB⟩ := hcut
  cases kq with
  | zero => exact absurd HA.out (by simp [impl_FixedPrefix.j0])
  | succ kj3 =>
   have H := HA.out
   clear HA
   simp only [impl_FixedPrefix.j0] at H
   by_cases c15 : x21_3 = true
   ·subst c15
    rw [if_pos rfl] at H
    obtain ⟨y166, hy166⟩ : ∃ y_ : List Int, y_ = (([] : List Int)) := ⟨_, rfl⟩
    replace H : (some (y166, false)) = some (r1, r2) := by (rw [hy166]; with_reducible exact H)
    have Ny166 := A_ hy166
    clear hy166
    simp only [Option.some.injEq, Prod.mk.injEq] at H
    obtain ⟨rfl, rfl⟩ := H
    go_wp2_with (first | ((with_reducible refine gate_dst (N := 22) rfl ?_); refine Kd.R_lit (Kd.int .i64) _ 3 ?hg (N := 22) ?hd (xs := ([] : List Int)) (inner := []) (ok := fun _ => True) (okp := fun _ => True) ?hr ?hp (fun _ hk => hk) trivial (Below.refl _ _) (Nat.le_refl _) (by simp) ?_; (case hd | hg => rfl); (case hr => go_simp; done); (case hp => exact (Reps.none _ _)); intro v167 w16 ho17 hb hg_ hnew_; clear hg_ hnew_; (first | rw [← Ny166.out] at ho17 | (simp only [Int.reduceToNat] at ho17; rw [← Ny166.out] at ho17)); have n0_ := A_ (Kd.R_lower ho17 (below_size HB.out)); have n1_ := A_ (blk_below BK164.out hb); have n2_ := A_ (below_step HB.out hb); clear BK164 HB; revert n0_ n1_ n2_; intro HO168 BK164 HB; clear hb ho17))
    go_ret2
    exact ⟨_, by rfl, HO168.out, HB.out⟩
   replace c15 := Bool.eq_false_iff.mpr c15
   subst c15
   rw [if_neg (show ¬ (false = true) by decide)] at H
   by_cases c18 : 0 ≤ a1
   ·rw [if_pos c18] at H
    have c18b0 : decide (0 ≤ a1) = true := decide_eq_true c18
    clear c18
    by_cases c19 : a1 < (l0_0.length : Int)
    ·rw [if_pos c19] at H
     have c19b0 : decide (a1 < (l0_0.length : Int)) = true := decide_eq_true c19
     clear c19
     replace H := Option.bind_eq_some_iff.mp H
     obtain ⟨t170, A200, H⟩ := H
     have A20 := A_ A200
     clear A200
     have H' := A_ H
     clear H
     have hcz21_0 : wc.cell? ⟨gb164, 0, none⟩ = some (.slice A0_0 l0_0.length c0_0) := (blk_cell BK164.out 0).trans rfl
     have hfz21_0 := blk_frozen BK164.out 0
     have p169 : 0 ≤ (a1 : Int) := of_decide_eq_true (by first | (with_reducible assumption) | assumption)
     have q169 : a1 < (l0_0.length : Int) := of_decide_eq_true (by first | (with_reducible assumption) | assumption)
     obtain ⟨ad169, A169_0, c169_0, e169, hx169_0, hl169_0, hi169_0⟩ := at_L1 HR0_0.out a1 p169 q169
     cases e169
     replace hx169_0 := (HB.out.cell (World.block_lt_of_cell? w _ hx169_0)).trans hx169_0
     have HR169_0 := A_ hi169_0
     have HC169_0 := A_ hl169_0
     clear hi169_0 hl169_0
     replace p169 := eq_true p169
     replace q169 := eq_true q169
     go_wp2_with (first | ((with_reducible refine gate_callee (f := 88) rfl ?_); refine goesL_ (some 28) rfl rfl Try.func88 (by kernel_rfl) rfl #[.slice A169_0 (rd_L1 l0_0 a1).length c169_0] rfl (by (try simp only [mA, mB, mC]); first | done | rfl | (simp only [List.length_drop, List.length_take]; rfl)) ?_; (with_reducible refine (slices_Clone_int_int.calls _ _ (rd_L1 l0_0 a1) t170 _ ?side1 ?side2 A20.out).mono ?_); (case side1 => repeat (first | exact (Kd.C_below HR169_0.out HB.out) | (with_reducible refine Kd.C_alloc ?_ _) | (with_reducible refine Kd.C_drewN ?_ _) | (with_reducible refine Kd.C_drew ?_))); (case side2 => exact HC169_0.out); rintro e w22 ⟨v171, rfl, ho0, hb⟩; refine ⟨_, rfl, ?_⟩; have n0_ := A_ (Kd.R_lower ho0 (below_size HB.out)); have n1_ := A_ (blk_below BK164.out hb); have n2_ := A_ (below_step HB.out hb); clear BK164 HB; revert n0_ n1_ n2_; intro HO172 BK164 HB; clear hb; (try clear ho0)))
     go_loopg [8, 9] kj3 (fun kq v8 v9 w' => ∃ (x8_2 : List Int) (x9_2 : Int), v9 = .int .i64 x9_2 ∧ Aside0 (impl_FixedPrefix.l0 kq a2 x8_2 x9_2 l0_0 = some (r1, r2)) ∧ Aside0 (kq ≤ kj3) ∧ Aside0 (Kd.R (Kd.int .i64) 3 w' w.heap.size (fun _ => True) v8 x8_2) ∧ Aside0 (w'.heap[gb164]? = some (.cells #[(.slice (some ad169) l0_0.length c0_0)] 46 (0, 0))) ∧ Aside0 (Below w.heap.size w w'))
     case atStart => exact ⟨(t170), (1), (by rfl), H', ⟨Nat.le_refl _⟩, ⟨HO172.out⟩, ⟨BK164.out⟩, ⟨HB.out⟩⟩
     case round =>
      clear H'
      try clear c18b0
      try clear c19b0
      try clear hcz21_0
      try clear hfz21_0
      try clear hx169_0
      try clear p169
      try clear q169
      obtain ⟨x8_2, x9_2, rfl, HA, HK2, HO_8, BK164, HB⟩ := hrel
      cases gk with
      | zero => exact absurd HA.out (by simp [impl_FixedPrefix.l0])
      | succ k2 =>
       have H := HA.out
       clear HA
       simp only [impl_FixedPrefix.l0] at H
       by_cases c23 : (x8_2.length : Int) < a2
       ·rw [if_pos c23] at H
        have c23b0 : decide ((x8_2.length : Int) < a2) = true := decide_eq_true c23
        clear c23
        by_cases c24 : 0 ≤ x9_2
        ·rw [if_pos c24] at H
         have c24b0 : decide (0 ≤ x9_2) = true := decide_eq_true c24
         clear c24
         by_cases c25 : x9_2 < (x8_2.length : Int)
         ·rw [if_pos c25] at H
          have c25b0 : decide (x9_2 < (x8_2.length : Int)) = true := decide_eq_true c25
          clear c25
          by_cases c26 : 0 ≤ (rd x8_2 x9_2)
          ·rw [if_pos c26] at H
           have c26b0 : decide (0 ≤ (rd x8_2 x9_2)) = true := decide_eq_true c26
           clear c26
           by_cases c27 : (rd x8_2 x9_2) < (l0_0.length : Int)
           ·rw [if_pos c27] at H
            have c27b0 : decide ((rd x8_2 x9_2) < (l0_0.length : Int)) = true := decide_eq_true c27
            clear c27
            by_cases c28 : x8_2.length + (rd_L1 l0_0 (rd x8_2 x9_2)).length < 17592186044416
            ·rw [if_pos c28] at H
             have LMc28 := A_ c28
             clear c28
             obtain ⟨y175, hy175⟩ : ∃ y_ : List Int, y_ = (x8_2 ++ (rd_L1 l0_0 (rd x8_2 x9_2))) := ⟨_, rfl⟩
             replace H : (impl_FixedPrefix.l0 k2 a2 y175 (wrap64 (x9_2 + 1)) l0_0) = some (r1, r2) := by (rw [hy175]; with_reducible exact H)
             have Ny175 := A_ hy175
             clear hy175
             have H' := A_ H
             clear H
             obtain ⟨Ao29, co29, eo29⟩ := Kd.R_slice HO_8.out
             subst eo29
             try go_wp2
             have n0_ := A_ (Kd.R_drew HO_8.out)
             have n1_ := A_ (blk_drew BK164.out)
             have n2_ := A_ (below_drew1 HB.out)
             clear HO_8
             clear BK164
             clear HB
             have HO_8 := n0_
             have BK164 := n1_
             have HB := n2_
             clear n0_ n1_ n2_
             have p173 : 0 ≤ (x9_2 : Int) := of_decide_eq_true (by first | (with_reducible assumption) | assumption)
             have q173 : x9_2 < (x8_2.length : Int) := of_decide_eq_true (by first | (with_reducible assumption) | assumption)
             obtain ⟨ad173, e173, hx173_0⟩ := Kd.at_int (Kd.R_reads' HO_8.out).2.2 x9_2 p173 q173
             cases e173
             replace p173 := eq_true p173
             replace q173 := eq_true q173
             have p174 : 0 ≤ ((rd x8_2 x9_2) : Int) := of_decide_eq_true (by first | (with_reducible assumption) | assumption)
             have q174 : (rd x8_2 x9_2) < (l0_0.length : Int) := of_decide_eq_true (by first | (with_reducible assumption) | assumption)
             obtain ⟨ad174, A174_0, c174_0, e174, hx174_0, hl174_0, hi174_0⟩ := at_L1 HR0_0.out (rd x8_2 x9_2) p174 q174
             have hw174_0 := hx174_0
             obtain rfl : ad169 = ad174 := (by injection e174)
             replace hx174_0 := (HB.out.cell (World.block_lt_of_cell? w _ hx174_0)).trans hx174_0
             have HR174_0 := A_ hi174_0
             have HC174_0 := A_ hl174_0
             clear hi174_0 hl174_0
             replace p174 := eq_true p174
             replace q174 := eq_true q174
             refine start_ (n := 11) (S := fun w' => w'.cell? ⟨gb164, 0, none⟩ = some (.slice (some ad169) l0_0.length c0_0) ∧ w'.cell? (ad173.add (x9_2).toNat) = some (.int .i64 (rd x8_2 x9_2)) ∧ w'.cell? (ad169.add ((rd x8_2 x9_2)).toNat) = some (.slice A174_0 (rd_L1 l0_0 (rd x8_2 x9_2)).length c174_0)) (ds := [9]) #[false, false, false, false, false, false, false, false, false, false, false] (by kernel_rfl) rfl rfl ⟨(blk_cell BK164.out 0).trans rfl, hx173_0, ((HB.out.cell (World.block_lt_of_cell? w _ hw174_0)).trans hw174_0)⟩ (fun hHeld => ?_); refine with_tabW impl_FixedPrefix.tab7 impl_FixedPrefix.bits7 (fun HT_ HW_ => ?_)
             generalize wr.drew = w30 at HO_8 BK164 HB HR174_0 hx173_0 hx174_0 hHeld ⊢
             refine pure_ (i := 0) (N := some 35) (v := ?_) (a' := ?_) #[true, false, false, false, false, false, false, false, false, false, false] rfl rfl (any_of HT_.out (by kernel_rfl)) (fun _ _ _ h => h) (Or.inl ⟨by rfl, ?_⟩) ?_ ?_
             rotate_left
             ·intro w'
              go_simp
              with_reducible rfl
             rotate_left
             ·simp only [Act.put, mD, mE, mF, i64_w, i32_w]
              rfl
             refine pure_ (i := 1) (N := some 36) (v := ?_) (a' := ?_) #[true, true, false, false, false, false, false, false, false, false, false] rfl rfl (any_of HT_.out (by kernel_rfl)) (fun _ _ _ h => h) (Or.inl ⟨by rfl, ?_⟩) ?_ ?_
             rotate_left
             ·intro w'
              go_simp
              with_reducible rfl
             rotate_left
             ·simp only [Act.put, mD, mE, mF, i64_w, i32_w]
              rfl
             refine pure_ (i := 3) (N := some 38) (v := ?_) (a' := ?_) #[true, true, false, true, false, false, false, false, false, false, false] rfl rfl (any_of HT_.out (by kernel_rfl)) (fun _ _ _ h => h) (Or.inl ⟨by rfl, ?_⟩) ?_ ?_
             rotate_left
             ·intro w'
              go_simp
              with_reducible rfl
             rotate_left
             ·simp only [Act.put, mD, mE, mF, i64_w, i32_w]
              rfl
             refine pure_ (i := 4) (N := some 39) (v := ?_) (a' := ?_) #[true, true, false, true, true, false, false, false, false, false, false] rfl rfl (any_of HT_.out (by kernel_rfl)) (fun _ _ _ h => h) (Or.inl ⟨by rfl, ?_⟩) ?_ ?_
             rotate_left
             ·intro w'
              go_simp
              with_reducible rfl
             rotate_left
             ·simp only [Act.put, mD, mE, mF, i64_w, i32_w]
              rfl
             refine pure_ (i := 5) (N := some 40) (v := ?_) (a' := ?_) #[true, true, false, true, true, true, false, false, false, false, false] rfl rfl (any_of HT_.out (by kernel_rfl)) (fun _ _ _ h => h) (Or.inl ⟨by rfl, ?_⟩) ?_ ?_
             rotate_left
             ·intro w'
              go_simp
              with_reducible rfl
             rotate_left
             ·simp only [Act.put, mD, mE, mF, i64_w, i32_w]
              rfl
             refine take_ (i := 2) (N := some 37) (v := ?_) (a' := ?_) #[true, true, true, true, true, true, false, false, false, false, false] rfl rfl (take_ofW HT_.out HW_.out (by kernel_rfl)) (fun _ _ _ h => h) (Or.inl ⟨by rfl, ?_⟩) hHeld ?_ ?_
             rotate_left
             ·rintro w' ⟨s0, s1, s2⟩
              go_simp
              with_reducible rfl
             rotate_left
             ·simp only [Act.put, mD, mE, mF, i64_w, i32_w]
              rfl
             refine take_ (i := 6) (N := some 41) (v := ?_) (a' := ?_) #[true, true, true, true, true, true, true, false, false, false, false] rfl rfl (take_ofW HT_.out HW_.out (by kernel_rfl)) (fun _ _ _ h => h) (Or.inl ⟨by rfl, ?_⟩) hHeld ?_ ?_
             rotate_left
             ·rintro w' ⟨s0, s1, s2⟩
              go_simp
              with_reducible rfl
             rotate_left
             ·simp only [Act.put, mD, mE, mF, i64_w, i32_w]
              rfl
             refine pure_ (i := 7) (N := some 42) (v := ?_) (a' := ?_) #[true, true, true, true, true, true, true, true, false, false, false] rfl rfl (any_of HT_.out (by kernel_rfl)) (fun _ _ _ h => h) (Or.inl ⟨by rfl, ?_⟩) ?_ ?_
             rotate_left
             ·intro w'
              go_simp
              with_reducible rfl
             rotate_left
             ·simp only [Act.put, mD, mE, mF, i64_w, i32_w]
              rfl
             refine take_ (i := 8) (N := some 43) (v := ?_) (a' := ?_) #[true, true, true, true, true, true, true, true, true, false, false] rfl rfl (take_ofW HT_.out HW_.out (by kernel_rfl)) (fun _ _ _ h => h) (Or.inl ⟨by rfl, ?_⟩) hHeld ?_ ?_
             rotate_left
             ·rintro w' ⟨s0, s1, s2⟩
              go_simp
              with_reducible rfl
             rotate_left
             ·simp only [Act.put, mD, mE, mF, i64_w, i32_w]
              rfl
             refine last_ (i := 9) (N := some 44) #[true, true, true, true, true, true, true, true, true, true, false] rfl rfl (one_of HT_.out (by kernel_rfl)) (by decide) (fun K hK => ?_)
             refine Kd.R_append_rows_step (Kd.int .i64) (w0 := w) w.heap.size (by rfl) (.tmp 35) (.tmp 43) 24 3 (.int .i64 0) 8 rfl Try.underlying24 info3 rfl (by decide) (by omega) (.slice (some ad173) x8_2.length co29) x8_2 (rd_L1 l0_0 (rd x8_2 x9_2)) _ _ _ (fun _ => True) (fun _ => False) rfl rfl ?aO ?aR (fun _ _ h => h) (fun _ h => h.elim) ?aF ?aB ?aS ?aL ?_
             (case aR => repeat (first | exact (Kd.C_below HR174_0.out HB.out) | (with_reducible refine Kd.C_alloc ?_ _) | (with_reducible refine Kd.C_drewN ?_ _) | (with_reducible refine Kd.C_drew ?_)))
             (case aB => exact HB.out)
             (case aF => exact (fun _ _ => trivial))
             (case aO => exact HO_8.out)
             (case aS => exact (below_size HB.out))
             (case aL => have := LMc28.out; omega)
             intro v176 w31 ho hb hg hat
             rw [← Ny175.out] at ho
             have n0_ := A_ (blk_grown (g := gb164) (o := .cells #[.slice (some ad169) l0_0.length c0_0] 46 (0, 0)) BK164.out hg (Kd.R_ne HO_8.out BK164.out (by decide)))
             have n1_ := A_ (hb)
             have n2_ := A_ (ho)
             clear BK164
             clear HB
             clear HO_8
             have BK164 := n0_
             have HB := n1_
             have HO177 := n2_
             clear n0_ n1_ n2_
             clear ho hb hg hat
             refine hK.out _ _ ?_
             clear hK K
             refine norm_ (a' := ?_) ?_ ?_
             rotate_left
             ·show Act.put _ (some 44) _ = _
              simp only [Act.put, mD, mE, mF, i64_w, i32_w]
              rfl
             refine pure_ (i := 10) (N := some 8) (v := ?_) (a' := ?_) #[true, true, true, true, true, true, true, true, true, true, true] rfl rfl (any_of HT_.out (by kernel_rfl)) (fun _ _ _ h => h) (Or.inl ⟨by rfl, ?_⟩) ?_ ?_
             rotate_left
             ·intro w'
              go_simp
              with_reducible rfl
             rotate_left
             ·simp only [Act.put, mD, mE, mF, i64_w, i32_w]
              rfl
             refine done_ (done_of HT_.out (by kernel_rfl)) ?_
             try go_wp2
             go_roundg k2
             case measure => have := HJ3.out; have := HK2.out; omega
             case rel => exact ⟨(y175), (wrap64 (x9_2 + 1)), (by rfl), H', ⟨by have := HJ3.out; have := HK2.out; omega⟩, ⟨HO177.out⟩, ⟨BK164.out⟩, ⟨HB.out⟩⟩
            rw [if_neg c28] at H
            exact absurd H (by simp)
           rw [if_neg c27] at H
           exact absurd H (by simp)
          rw [if_neg c26] at H
          exact absurd H (by simp)
         rw [if_neg c25] at H
         exact absurd H (by simp)
        rw [if_neg c24] at H
        exact absurd H (by simp)
       rw [if_neg c23] at H
       have c23b0 : decide ((x8_2.length : Int) < a2) = false := decide_eq_false c23
       clear c23
       obtain ⟨y178, hy178⟩ : ∃ y_ : List Int, y_ = (([] : List Int)) := ⟨_, rfl⟩
       replace H : (if 0 ≤ a2 then (if a2 ≤ (x8_2.length : Int) then ((some (x8_2.take (a2 : Int).toNat : List Int)).bind fun y181 => (if y178.length + y181.length < 17592186044416 then (some ((y178 ++ y181), true)) else (none))) else (none)) else (none)) = some (r1, r2) := by (have H2_ := (Option.bind_some _ _).symm.trans H; rw [hy178]; with_reducible exact H2_)
       have Ny178 := A_ hy178
       clear hy178
       by_cases c32 : 0 ≤ a2
       ·rw [if_pos c32] at H
        have c32b0 := eq_true c32
        have c32b1 : decide (0 ≤ a2) = true := decide_eq_true c32
        clear c32
        by_cases c33 : a2 ≤ (x8_2.length : Int)
        ·rw [if_pos c33] at H
         have c33b0 := eq_true c33
         have c33b1 : decide (a2 ≤ (x8_2.length : Int)) = true := decide_eq_true c33
         clear c33
         obtain ⟨y181, hy181⟩ : ∃ y_ : List Int, y_ = (x8_2.take (a2 : Int).toNat) := ⟨_, rfl⟩
         replace H : (if y178.length + y181.length < 17592186044416 then (some ((y178 ++ y181), true)) else (none)) = some (r1, r2) := by (have H2_ := (Option.bind_some _ _).symm.trans H; rw [hy181]; with_reducible exact H2_)
         have Ny181 := A_ hy181
         clear hy181
         by_cases c34 : y178.length + y181.length < 17592186044416
         ·rw [if_pos c34] at H
          have LMc34 := A_ c34
          clear c34
          obtain ⟨y185, hy185⟩ : ∃ y_ : List Int, y_ = (y178 ++ y181) := ⟨_, rfl⟩
          replace H : (some (y185, true)) = some (r1, r2) := by (rw [hy185]; with_reducible exact H)
          have Ny185 := A_ hy185
          clear hy185
          simp only [Option.some.injEq, Prod.mk.injEq] at H
          obtain ⟨rfl, rfl⟩ := H
          obtain ⟨Ao35, co35, eo35⟩ := Kd.R_slice HO_8.out
          subst eo35
          go_wp2_with (first | ((with_reducible refine gate_dst (N := 45) rfl ?_); refine Kd.R_lit (Kd.int .i64) _ 3 ?hg (N := 45) ?hd (xs := ([] : List Int)) (inner := []) (ok := fun _ => True) (okp := fun _ => True) ?hr ?hp (fun _ hk => hk) trivial (Below.refl _ _) (Nat.le_refl _) (by simp) ?_; (case hd | hg => rfl); (case hr => go_simp; done); (case hp => exact (Reps.none _ _)); intro v179 w36 ho37 hb hg_ hnew_; clear hg_ hnew_; (first | rw [← Ny178.out] at ho37 | (simp only [Int.reduceToNat] at ho37; rw [← Ny178.out] at ho37)); have n0_ := A_ (Kd.R_elder' HO_8.out (Kd.R_base ho37) hb); have n1_ := A_ (Kd.R_lower (Kd.R_new' ho37 (Kd.R_lt HO_8.out)) (below_size HB.out)); have n2_ := A_ (blk_below BK164.out hb); have n3_ := A_ (below_step HB.out hb); clear HO_8 BK164 HB; revert n0_ n1_ n2_ n3_; intro HO_8 HO180 BK164 HB; clear hb ho37; have q38 : (a2 : Int) ≤ ((x8_2.length : Int) : Int) := of_decide_eq_true (by first | (with_reducible assumption) | assumption); obtain ⟨i038, hi038, _, hsz38, _⟩ := info_parts info3; have hroom38 : x8_2.length ≤ co35 := (Kd.R_reads' HO_8.out).2.1; have hC38 : Kd.C (Kd.int .i64) _ Ao35 x8_2.length x8_2 := (Kd.R_reads' HO_8.out).2.2; have hcut38 := cut_to (P := Try.prog) 24 3 .i64 Try.underlying24 hi038 Ao35 x8_2.length co35 a2 (of_decide_eq_true (by first | (with_reducible assumption) | assumption)) q38 hroom38; have hr38 := Kd.C_take (m := (a2 : Int).toNat) hC38 (by omega); have hy38 : y181.length = (a2 : Int).toNat := (by rw [Ny181.out, List.length_take]; omega); rw [← Ny181.out] at hr38; rw [← hy38] at hcut38; have HR184 := A_ hr38; have HC184 := A_ (show y181.length ≤ co35 from by omega); clear hr38 hC38 hroom38 hi038 hsz38; have KY38 := A_ hy38; clear hy38; have KL38 := A_ (show (a2 : Int).toNat ≤ x8_2.length from by omega); replace q38 := eq_true q38) | ((with_reducible refine gate_builtin (b := .append) (xs := #[.tmp 45, .tmp 48]) rfl ?_); at_builtin; refine Kd.R_append_rows (Kd.int .i64) (w0 := w) w.heap.size rfl (.tmp 45) (.tmp 48) 24 3 (.int .i64 0) 8 rfl Try.underlying24 info3 rfl (by decide) (by omega) v179 y178 y181 _ _ _ (fun k_ => some k_ ≠ (.slice Ao35 x8_2.length co35 : Value).ownBlock) (fun _ => False) rfl rfl ?aO ?aR (fun _ _ h => h) (fun _ h => h.elim) ?aF ?aB ?aS ?aL ?_; (case aR => repeat (first | exact (by repeat (first | (with_reducible exact HR184.out) | (with_reducible refine Kd.C_alloc ?_ _) | (with_reducible refine Kd.C_drewN ?_ _) | (with_reducible refine Kd.C_drew ?_) | exact HR184.out)) | (with_reducible refine Kd.C_alloc ?_ _) | (with_reducible refine Kd.C_drewN ?_ _) | (with_reducible refine Kd.C_drew ?_))); (case aB => exact HB.out); (case aF => exact (fun k_ hk => Kd.fresh' (Kd.R_lt HO_8.out) k_ hk)); (case aO => exact (by exact Kd.R_mono HO180.out (fun _ hk => hk.2))); (case aS => exact (below_size HB.out)); (case aL => have := LMc34.out; omega); intro v186 w39 ho hb hg hat; rw [← Ny185.out] at ho; have n0_ := A_ (Kd.R_after (ok := (fun _ => True)) HO_8.out hg hat); have n1_ := A_ (blk_grown (g := gb164) (o := .cells #[.slice (some ad169) l0_0.length c0_0] 46 (0, 0)) BK164.out hg (Kd.R_ne HO180.out BK164.out (by decide))); have n2_ := A_ (hb); have n3_ := A_ ((show Kd.C (Kd.int .i64) w39 Ao35 y181.length y181 from by rw [Ny181.out]; exact Kd.C_take (m := (a2 : Int).toNat) ((Kd.R_reads' (Kd.R_after (ok := (fun _ => True)) HO_8.out hg hat)).2.2) KL38.out)); have n4_ := A_ (ho); clear HO_8 BK164 HB HR184 HO180; revert n0_ n1_ n2_ n3_ n4_; intro HO_8 BK164 HB HR184 HO187; clear ho hb hg hat))
          go_ret2
          exact ⟨_, by rfl, by exact Kd.R_mono HO187.out (fun _ hk => trivial), HB.out⟩
         rw [if_neg c34] at H
         exact absurd H (by simp)
        rw [if_neg c33] at H
        exact absurd H (by simp)
       rw [if_neg c32] at H
       exact absurd H (by simp)
    rw [if_neg c19] at H
    exact absurd H (by simp)
   rw [if_neg c18] at H
   exact absurd H (by simp)

/-! ### impl_fibonacciWord: function 63 -/
def impl_fibonacciWord.f (k : Nat) (a0 : Int) : Option (List Int) := (impl_FixedPrefix.f k (([(([0, 1] : List Int)), (([0] : List Int))] : List (List Int))) 0 a0).bind fun bt197 => (some bt197.1)
theorem impl_fibonacciWord.mono : ∀ a0 k, LeO (impl_fibonacciWord.f k a0) (impl_fibonacciWord.f (k + 1) a0) := by
 intro a0 k
 unfold impl_fibonacciWord.f
 with_reducible repeat' first | exact impl_FixedPrefix.mono _ _ _ _ | exact LeO.refl _ | exact LeO.none _ | refine LeO.ite ?_ ?_ | refine LeO.bind ?_ (fun _ => ?_)
theorem impl_fibonacciWord.calls (k : Nat) (a0 : Int) (r : List Int) (w : World) (h : impl_fibonacciWord.f k a0 = some r) :
  Calls Try.prog 63 #[.int .i64 a0] w fun e w' => ∃ v0_ : Value, e = .returned (v0_) ∧ Kd.R (Kd.int .i64) 3 w' w.heap.size (fun _ => True) v0_ r ∧ Below w.heap.size w w' := by
 have hu46 := Try.underlying46
 have HB := A_ (Below.refl w.heap.size w)
 unfold impl_fibonacciWord.f at h
 have H := h
 clear h
 obtain ⟨y188, hy188⟩ : ∃ y_ : List Int, y_ = (([0, 1] : List Int)) := ⟨_, rfl⟩
 replace H : ((impl_FixedPrefix.f k (([y188, (([0] : List Int))] : List (List Int))) 0 a0).bind fun bt197 => (some bt197.1)) = some r := by (rw [hy188]; with_reducible exact H)
 have Ny188 := A_ hy188
 clear hy188
 obtain ⟨y191, hy191⟩ : ∃ y_ : List Int, y_ = (([0] : List Int)) := ⟨_, rfl⟩
 replace H : ((impl_FixedPrefix.f k (([y188, y191] : List (List Int))) 0 a0).bind fun bt197 => (some bt197.1)) = some r := by (rw [hy191]; with_reducible exact H)
 have Ny191 := A_ hy191
 clear hy191
 obtain ⟨y194, hy194⟩ : ∃ y_ : List (List Int), y_ = (([y188, y191] : List (List Int))) := ⟨_, rfl⟩
 replace H : ((impl_FixedPrefix.f k y194 0 a0).bind fun bt197 => (some bt197.1)) = some r := by (rw [hy194]; with_reducible exact H)
 have Ny194 := A_ hy194
 clear hy194
 replace H := Option.bind_eq_some_iff.mp H
 obtain ⟨⟨t197, t200⟩, A20, H⟩ := H
 dsimp only at H
 have A2 := A_ A20
 clear A20
 obtain rfl := Option.some.inj H
 go_enter Try.func63, Try.ntmps63
 go_wp2_with (first | ((with_reducible refine gate_dst (N := 6) rfl ?_); refine Kd.R_lit (Kd.int .i64) _ 3 ?hg (N := 6) ?hd (xs := ([0, 1] : List Int)) (inner := [.int .i64 0, .int .i64 1]) (ok := fun _ => True) (okp := fun _ => True) ?hr ?hp (fun _ hk => hk) trivial (Below.refl _ _) (Nat.le_refl _) (by simp) ?_; (case hd | hg => rfl); (case hr => go_simp; done); (case hp => exact (Reps.one (show Kd.M (Kd.int .i64) _ _ _ 0 [.int .i64 0] from rfl) (Reps.one (show Kd.M (Kd.int .i64) _ _ _ 1 [.int .i64 1] from rfl) (Reps.none _ _)))); intro v189 w3 ho4 hb hg_ hnew_; clear hg_ hnew_; (first | rw [← Ny188.out] at ho4 | (simp only [Int.reduceToNat] at ho4; rw [← Ny188.out] at ho4)); have n0_ := A_ (Kd.R_lower ho4 (below_size HB.out)); have n1_ := A_ (below_step HB.out hb); clear HB; revert n0_ n1_; intro HO190 HB; clear hb ho4) | ((with_reducible refine gate_dst (N := 7) rfl ?_); refine Kd.R_lit (Kd.int .i64) _ 3 ?hg (N := 7) ?hd (xs := ([0] : List Int)) (inner := [.int .i64 0]) (ok := fun _ => True) (okp := fun _ => True) ?hr ?hp (fun _ hk => hk) trivial (Below.refl _ _) (Nat.le_refl _) (by simp) ?_; (case hd | hg => rfl); (case hr => go_simp; done); (case hp => exact (Reps.one (show Kd.M (Kd.int .i64) _ _ _ 0 [.int .i64 0] from rfl) (Reps.none _ _))); intro v192 w5 ho6 hb hg_ hnew_; clear hg_ hnew_; (first | rw [← Ny191.out] at ho6 | (simp only [Int.reduceToNat] at ho6; rw [← Ny191.out] at ho6)); have n0_ := A_ (Kd.R_elder' HO190.out (Kd.R_base ho6) hb); have n1_ := A_ (Kd.R_lower (Kd.R_new' ho6 (Kd.R_lt HO190.out)) (below_size HB.out)); have n2_ := A_ (below_step HB.out hb); clear HO190 HB; revert n0_ n1_ n2_; intro HO190 HO193 HB; clear hb ho6; obtain ⟨Ao7, co7, eo7⟩ := Kd.R_slice HO190.out; subst eo7; obtain ⟨Ao8, co8, eo8⟩ := Kd.R_slice HO193.out; subst eo8) | ((with_reducible refine gate_dst (N := 8) rfl ?_); refine Kd.N_lit (Kd.slice 3 (Kd.int .i64)) _ 24 ?hg (N' := 8) ?hd (xs := ([y188, y191] : List (List Int))) (inner := [.slice Ao7 y188.length co7, .slice Ao8 y191.length co8]) (ok := (fun _ => True)) (okp := (fun _ => True)) ?hr ?hp (fun _ hk => hk) ((show ∀ k_, w5.heap.size ≤ k_ → (fun _ => True) k_ from fun k_ hk => trivial) _ (Nat.le_refl _)) (Below.refl _ _) (Nat.le_refl _) (by simp) ?_; (case hd | hg => rfl); (case hr => go_simp; done); (case hp => exact (Reps.one (show Kd.FK (Kd.slice 3 (Kd.int .i64)) _ _ y188 [.slice Ao7 y188.length co7] from (Kd.FK_slice_mk (Kd.R_reads' (Kd.R_mono (ok' := (fun _ => True)) (HO190.out) (fun k_ hk => trivial))).2.1 (Kd.R_F (Kd.R_mono (ok' := (fun _ => True)) (HO190.out) (fun k_ hk => trivial))))) (Reps.one (show Kd.FK (Kd.slice 3 (Kd.int .i64)) _ _ y191 [.slice Ao8 y191.length co8] from (Kd.FK_slice_mk (Kd.R_reads' (Kd.R_mono (ok' := (fun _ => True)) (HO193.out) (fun k_ hk => trivial))).2.1 (Kd.R_F (Kd.R_mono (ok' := (fun _ => True)) (HO193.out) (fun k_ hk => trivial))))) (Reps.none _ _)))); intro v195 w9 ho10 hb hg_ hnew_; clear hg_ hnew_; (first | rw [← Ny194.out] at ho10 | (simp only [Int.reduceToNat] at ho10; rw [← Ny194.out] at ho10)); have n0_ := A_ (Kd.N_lower ho10 (below_size HB.out)); have n1_ := A_ (below_step HB.out hb); clear HB HO190 HO193; revert n0_ n1_; intro HO196 HB; clear hb ho10; obtain ⟨Ao11, co11, eo11⟩ := Kd.N_slice HO196.out; subst eo11) | ((with_reducible refine gate_callee (f := 80) rfl ?_); refine goesL_ (some 11) rfl rfl Try.func80 (by kernel_rfl) rfl #[.agg #[.slice Ao11 y194.length co11], .int .i64 0, .int .i64 a0] rfl (by (try simp only [mA, mB, mC]); first | done | rfl | (simp only [List.length_drop, List.length_take]; rfl)) ?_; (with_reducible refine (impl_FixedPrefix.calls k _ _ y194 0 a0 t197 t200 _ ?side1 ?side2 A2.out).mono ?_); (case side1 => repeat (first | exact (Kd.N_reads' HO196.out).2.2 | (with_reducible refine Kd.C_alloc ?_ _) | (with_reducible refine Kd.C_drewN ?_ _) | (with_reducible refine Kd.C_drew ?_))); (case side2 => exact (Kd.N_reads' HO196.out).2.1); rintro e w12 ⟨v198, rfl, ho0, hb⟩; refine ⟨_, rfl, ?_⟩; have n0_ := A_ (Kd.N_elder' HO196.out (Kd.R_base ho0) hb); have n1_ := A_ (Kd.R_lower ho0 (below_size HB.out)); have n2_ := A_ (below_step HB.out hb); clear HO196 HB; revert n0_ n1_ n2_; intro HO196 HO199 HB; clear hb; (try clear ho0)))
 go_ret
 exact ⟨_, by rfl, HO199.out, HB.out⟩

/-! ### impl_LowerWythoff: function 15 -/
mutual
def impl_LowerWythoff.j0 : Nat → Int → Bool → Option (Int)
 | 0, _, _ => none
 | k + 1, x0, x10 => if x10 = true then (some 0) else ((impl_fibonacciWord.f k 256).bind fun t201 => (impl_LowerWythoff.l0 k x0 t201 (t201.length : Int) 0))
def impl_LowerWythoff.l0 : Nat → Int → List Int → Int → Int → Option (Int)
 | 0, _, _, _, _ => none
 | k + 1, x0, x11, x12, x13 => if x13 < x12 then (if 0 ≤ x13 then (if x13 < (x11.length : Int) then (if (rd x11 x13) = 0 then (if (wrap64 (x0 - 1)) = 0 then (some (wrap64 (x13 + 1))) else (impl_LowerWythoff.l0 k (wrap64 (x0 - 1)) x11 x12 (wrap64 (x13 + 1)))) else (if x0 = 0 then (some (wrap64 (x13 + 1))) else (impl_LowerWythoff.l0 k x0 x11 x12 (wrap64 (x13 + 1))))) else (none)) else (none)) else (some 0)
end
def impl_LowerWythoff.f (k : Nat) (a0 : Int) : Option (Int) := if a0 < 1 then (impl_LowerWythoff.j0 k a0 true) else (impl_LowerWythoff.j0 k a0 (decide (a0 > 100)))
theorem impl_LowerWythoff.mono_l : ∀ k, (∀ y0 y1, LeO (impl_LowerWythoff.j0 k y0 y1) (impl_LowerWythoff.j0 (k + 1) y0 y1)) ∧ (∀ y0 y1 y2 y3, LeO (impl_LowerWythoff.l0 k y0 y1 y2 y3) (impl_LowerWythoff.l0 (k + 1) y0 y1 y2 y3))
 | 0 => ⟨fun _ _ r h => by simp [impl_LowerWythoff.j0] at h, fun _ _ _ _ r h => by simp [impl_LowerWythoff.l0] at h⟩
 | k + 1 => by
  obtain ⟨ih0, ih1⟩ := impl_LowerWythoff.mono_l k
  refine ⟨?_, ?_⟩
  ·intro y0 y1
   unfold impl_LowerWythoff.j0
   with_reducible repeat' first | exact ih0 _ _ | exact ih1 _ _ _ _ | exact impl_fibonacciWord.mono _ _ | exact LeO.refl _ | exact LeO.none _ | refine LeO.ite ?_ ?_ | refine LeO.bind ?_ (fun _ => ?_)
  intro y0 y1 y2 y3
  unfold impl_LowerWythoff.l0
  with_reducible repeat' first | exact ih0 _ _ | exact ih1 _ _ _ _ | exact impl_fibonacciWord.mono _ _ | exact LeO.refl _ | exact LeO.none _ | refine LeO.ite ?_ ?_ | refine LeO.bind ?_ (fun _ => ?_)
theorem impl_LowerWythoff.mono : ∀ a0 k, LeO (impl_LowerWythoff.f k a0) (impl_LowerWythoff.f (k + 1) a0) := by
 intro a0 k
 obtain ⟨ih0, ih1⟩ := impl_LowerWythoff.mono_l k
 unfold impl_LowerWythoff.f
 with_reducible repeat' first | exact ih0 _ _ | exact ih1 _ _ _ _ | exact impl_fibonacciWord.mono _ _ | exact LeO.refl _ | exact LeO.none _ | refine LeO.ite ?_ ?_ | refine LeO.bind ?_ (fun _ => ?_)
theorem impl_LowerWythoff.calls (k : Nat) (a0 : Int) (r : Int) (w : World) (h : impl_LowerWythoff.f k a0 = some r) :
  Calls Try.prog 15 #[.int .i64 a0] w fun e w' => e = .returned (.int .i64 r) ∧ Below w.heap.size w w' := by
 have HB := A_ (Below.refl w.heap.size w)
 unfold impl_LowerWythoff.f at h
 have H := h
 clear h
 have HC2 := A_ H
 clear H
 go_enter Try.func15, Try.ntmps15
 go_upto_region 1 with (fail)
 go_cut [10] (fun v10 wc => ∃ (kq : Nat) (x10_1 : Bool), v10 = .bool x10_1 ∧ Aside0 (impl_LowerWythoff.j0 kq a0 x10_1 = some r) ∧ Aside0 (kq ≤ k) ∧ Aside0 (Below w.heap.size w wc))
 case first =>
  have H := HC2.out
  clear HC2
  by_cases c3 : a0 < 1
  ·rw [if_pos c3] at H
   have c3b0 : decide (a0 < 1) = true := decide_eq_true c3
   clear c3
   (first | rw [c3b0] | (simp only [i64_w, i32_w]; rw [c3b0]) | skip)
   have H' := A_ H
   clear H
   go_wp2
   go_meet
   case rel => exact ⟨_, (true), (by rfl), H', ⟨by first | omega | exact Nat.le_refl _⟩, ⟨HB.out⟩⟩
  rw [if_neg c3] at H
  have c3b0 : decide (a0 < 1) = false := decide_eq_false c3
  clear c3
  (first | rw [c3b0] | (simp only [i64_w, i32_w]; rw [c3b0]) | skip)
  have H' := A_ H
  clear H
  go_wp2
  go_meet
  case rel => exact ⟨_, (decide (a0 > 100)), (by rfl), H', ⟨by first | omega | exact Nat.le_refl _⟩, ⟨HB.out⟩⟩
 case rest =>
  clear HC2
  obtain ⟨kq, x10_1, rfl, HA, HJ1, HB⟩ := hcut
  cases kq with
  | zero => exact absurd HA.out (by simp [impl_LowerWythoff.j0])
  | succ kj1 =>
   have H := HA.out
   clear HA
   simp only [impl_LowerWythoff.j0] at H
   by_cases c4 : x10_1 = true
   ·subst c4
    rw [if_pos rfl] at H
    obtain rfl := Option.some.inj H
    go_wp2
    go_ret
    exact ⟨by rfl, HB.out⟩
   replace c4 := Bool.eq_false_iff.mpr c4
   subst c4
   rw [if_neg (show ¬ (false = true) by decide)] at H
   replace H := Option.bind_eq_some_iff.mp H
   obtain ⟨t201, A50, H⟩ := H
   have A5 := A_ A50
   clear A50
   have H' := A_ H
   clear H
   go_wp2_with (first | ((with_reducible refine gate_callee (f := 63) rfl ?_); refine goesL_ (some 11) rfl rfl Try.func63 (by kernel_rfl) rfl #[.int .i64 256] rfl (by (try simp only [mA, mB, mC]); first | done | rfl | (simp only [List.length_drop, List.length_take]; rfl)) ?_; (with_reducible refine (impl_fibonacciWord.calls kj1 256 t201 _ A5.out).mono ?_); rintro e w6 ⟨v202, rfl, ho0, hb⟩; refine ⟨_, rfl, ?_⟩; have n0_ := A_ (Kd.R_lower ho0 (below_size HB.out)); have n1_ := A_ (below_step HB.out hb); clear HB; revert n0_ n1_; intro HO203 HB; clear hb ho0; obtain ⟨Ao7, co7, eo7⟩ := Kd.R_slice HO203.out; subst eo7))
   go_loopg [0, 13] kj1 (fun kq v0 v13 w' => ∃ (x0_2 : Int) (x13_2 : Int), v0 = .int .i64 x0_2 ∧ v13 = .int .i64 x13_2 ∧ Aside0 (impl_LowerWythoff.l0 kq x0_2 t201 (t201.length : Int) x13_2 = some r) ∧ Aside0 (kq ≤ kj1) ∧ Aside0 (Kd.R (Kd.int .i64) 3 w' w.heap.size (fun _ => True) (.slice Ao7 t201.length co7) t201) ∧ Aside0 (Below w.heap.size w w'))
   case atStart => exact ⟨(a0), (0), (by rfl), (by rfl), H', ⟨Nat.le_refl _⟩, ⟨HO203.out⟩, ⟨HB.out⟩⟩
   case round =>
    clear H'
    obtain ⟨x0_2, x13_2, rfl, rfl, HA, HK2, HO_11, HB⟩ := hrel
    cases gk with
    | zero => exact absurd HA.out (by simp [impl_LowerWythoff.l0])
    | succ k2 =>
     have H := HA.out
     clear HA
     simp only [impl_LowerWythoff.l0] at H
     by_cases c8 : x13_2 < (t201.length : Int)
     ·rw [if_pos c8] at H
      have c8b0 : decide (x13_2 < (t201.length : Int)) = true := decide_eq_true c8
      clear c8
      by_cases c9 : 0 ≤ x13_2
      ·rw [if_pos c9] at H
       have c9b0 : decide (0 ≤ x13_2) = true := decide_eq_true c9
       clear c9
       by_cases c10 : x13_2 < (t201.length : Int)
       ·rw [if_pos c10] at H
        have c10b0 : decide (x13_2 < (t201.length : Int)) = true := decide_eq_true c10
        clear c10
        by_cases c11 : (rd t201 x13_2) = 0
        ·rw [if_pos c11] at H
         have c11b0 : ((rd t201 x13_2) == 0) = true := beq_iff_eq.mpr c11
         have c11b1 : ((rd t201 x13_2) != 0) = false := bne_eq_false_iff_eq.mpr c11
         clear c11
         by_cases c12 : (wrap64 (x0_2 - 1)) = 0
         ·rw [if_pos c12] at H
          have c12b0 : ((wrap64 (x0_2 - 1)) == 0) = true := beq_iff_eq.mpr c12
          have c12b1 : ((wrap64 (x0_2 - 1)) != 0) = false := bne_eq_false_iff_eq.mpr c12
          clear c12
          obtain rfl := Option.some.inj H
          have p204 : 0 ≤ (x13_2 : Int) := of_decide_eq_true (by first | (with_reducible assumption) | assumption)
          have q204 : x13_2 < (t201.length : Int) := of_decide_eq_true (by first | (with_reducible assumption) | assumption)
          obtain ⟨ad204, e204, hx204_0⟩ := Kd.at_int (Kd.R_reads' HO_11.out).2.2 x13_2 p204 q204
          cases e204
          replace p204 := eq_true p204
          replace q204 := eq_true q204
          go_wp2
          go_ret
          exact ⟨by rfl, HB.out⟩
         rw [if_neg c12] at H
         have c12b0 : ((wrap64 (x0_2 - 1)) == 0) = false := beq_eq_false_iff_ne.mpr c12
         have c12b1 : ((wrap64 (x0_2 - 1)) != 0) = true := bne_iff_ne.mpr c12
         have H' := A_ H
         clear H
         have p204 : 0 ≤ (x13_2 : Int) := of_decide_eq_true (by first | (with_reducible assumption) | assumption)
         have q204 : x13_2 < (t201.length : Int) := of_decide_eq_true (by first | (with_reducible assumption) | assumption)
         obtain ⟨ad204, e204, hx204_0⟩ := Kd.at_int (Kd.R_reads' HO_11.out).2.2 x13_2 p204 q204
         cases e204
         replace p204 := eq_true p204
         replace q204 := eq_true q204
         go_wp2
         go_roundg k2
         case measure => have := HJ1.out; have := HK2.out; omega
         case rel => exact ⟨(wrap64 (x0_2 - 1)), (wrap64 (x13_2 + 1)), (by rfl), (by rfl), H', ⟨by have := HJ1.out; have := HK2.out; omega⟩, ⟨HO_11.out⟩, ⟨HB.out⟩⟩
        rw [if_neg c11] at H
        have c11b0 : ((rd t201 x13_2) == 0) = false := beq_eq_false_iff_ne.mpr c11
        have c11b1 : ((rd t201 x13_2) != 0) = true := bne_iff_ne.mpr c11
        by_cases c13 : x0_2 = 0
        ·rw [if_pos c13] at H
         have c13b0 : (x0_2 == 0) = true := beq_iff_eq.mpr c13
         have c13b1 : (x0_2 != 0) = false := bne_eq_false_iff_eq.mpr c13
         clear c13
         obtain rfl := Option.some.inj H
         have p204 : 0 ≤ (x13_2 : Int) := of_decide_eq_true (by first | (with_reducible assumption) | assumption)
         have q204 : x13_2 < (t201.length : Int) := of_decide_eq_true (by first | (with_reducible assumption) | assumption)
         obtain ⟨ad204, e204, hx204_0⟩ := Kd.at_int (Kd.R_reads' HO_11.out).2.2 x13_2 p204 q204
         cases e204
         replace p204 := eq_true p204
         replace q204 := eq_true q204
         go_wp2
         go_ret
         exact ⟨by rfl, HB.out⟩
        rw [if_neg c13] at H
        have c13b0 : (x0_2 == 0) = false := beq_eq_false_iff_ne.mpr c13
        have c13b1 : (x0_2 != 0) = true := bne_iff_ne.mpr c13
        have H' := A_ H
        clear H
        have p204 : 0 ≤ (x13_2 : Int) := of_decide_eq_true (by first | (with_reducible assumption) | assumption)
        have q204 : x13_2 < (t201.length : Int) := of_decide_eq_true (by first | (with_reducible assumption) | assumption)
        obtain ⟨ad204, e204, hx204_0⟩ := Kd.at_int (Kd.R_reads' HO_11.out).2.2 x13_2 p204 q204
        cases e204
        replace p204 := eq_true p204
        replace q204 := eq_true q204
        go_wp2
        go_roundg k2
        case measure => have := HJ1.out; have := HK2.out; omega
        case rel => exact ⟨(x0_2), (wrap64 (x13_2 + 1)), (by rfl), (by rfl), H', ⟨by have := HJ1.out; have := HK2.out; omega⟩, ⟨HO_11.out⟩, ⟨HB.out⟩⟩
       rw [if_neg c10] at H
       exact absurd H (by simp)
      rw [if_neg c9] at H
      exact absurd H (by simp)
     rw [if_neg c8] at H
     have c8b0 : decide (x13_2 < (t201.length : Int)) = false := decide_eq_false c8
     clear c8
     obtain rfl := Option.some.inj H
     go_wp2
     go_ret
     exact ⟨by rfl, HB.out⟩

/-! ### spec_UpperWythoff: function 16 -/
def spec_UpperWythoff.f (k : Nat) (a0 : Int) : Option (Int) := (spec_l1In.f a0 1 100).bind fun t205 => (if t205 = true then ((spec_LowerWythoff.f k a0).bind fun t206 => (some (wrap64 (t206 + a0)))) else (some 0))
theorem spec_UpperWythoff.mono : ∀ a0 k, LeO (spec_UpperWythoff.f k a0) (spec_UpperWythoff.f (k + 1) a0) := by
 intro a0 k
 unfold spec_UpperWythoff.f
 with_reducible repeat' first | exact spec_LowerWythoff.mono _ _ | exact LeO.refl _ | exact LeO.none _ | refine LeO.ite ?_ ?_ | refine LeO.bind ?_ (fun _ => ?_)
theorem spec_UpperWythoff.calls (k : Nat) (a0 : Int) (r : Int) (w : World) (h : spec_UpperWythoff.f k a0 = some r) :
  Calls Try.prog 16 #[.int .i64 a0] w fun e w' => e = .returned (.int .i64 r) ∧ Below w.heap.size w w' := by
 have HB := A_ (Below.refl w.heap.size w)
 unfold spec_UpperWythoff.f at h
 have H := h
 clear h
 replace H := Option.bind_eq_some_iff.mp H
 obtain ⟨t205, A20, H⟩ := H
 have A2 := A_ A20
 clear A20
 by_cases c3 : t205 = true
 ·subst c3
  rw [if_pos rfl] at H
  replace H := Option.bind_eq_some_iff.mp H
  obtain ⟨t206, A40, H⟩ := H
  have A4 := A_ A40
  clear A40
  obtain rfl := Option.some.inj H
  go_enter Try.func16, Try.ntmps16
  go_wp2_with (first | ((with_reducible refine gate_callee (f := 62) rfl ?_); refine goesL_ (some 4) rfl rfl Try.func62 (by kernel_rfl) rfl #[.int .i64 a0, .int .i64 1, .int .i64 100] rfl (by (try simp only [mA, mB, mC]); first | done | rfl | (simp only [List.length_drop, List.length_take]; rfl)) ?_; (with_reducible refine (spec_l1In.calls a0 1 100 true _ A2.out).mono ?_); rintro e w' ⟨rfl, ⟨nd, rfl⟩⟩; refine ⟨_, rfl, ?_⟩) | ((with_reducible refine gate_callee (f := 14) rfl ?_); refine goesL_ (some 7) rfl rfl Try.func14 (by kernel_rfl) rfl #[.int .i64 a0] rfl (by (try simp only [mA, mB, mC]); first | done | rfl | (simp only [List.length_drop, List.length_take]; rfl)) ?_; (with_reducible refine (spec_LowerWythoff.calls k a0 t206 _ A4.out).mono ?_); rintro e w5 ⟨rfl, hb⟩; refine ⟨_, rfl, ?_⟩; have n0_ := A_ (below_step (by repeat (first | (with_reducible first | exact HB.out | apply below_alloc | apply pw_below_drewN | apply below_drew1) | exact HB.out)) hb); clear HB; revert n0_; intro HB; clear hb; (try clear hi)))
  go_ret
  exact ⟨by rfl, HB.out⟩
 replace c3 := Bool.eq_false_iff.mpr c3
 subst c3
 rw [if_neg (show ¬ (false = true) by decide)] at H
 obtain rfl := Option.some.inj H
 go_enter Try.func16, Try.ntmps16
 go_wp2_with (first | ((with_reducible refine gate_callee (f := 62) rfl ?_); refine goesL_ (some 4) rfl rfl Try.func62 (by kernel_rfl) rfl #[.int .i64 a0, .int .i64 1, .int .i64 100] rfl (by (try simp only [mA, mB, mC]); first | done | rfl | (simp only [List.length_drop, List.length_take]; rfl)) ?_; (with_reducible refine (spec_l1In.calls a0 1 100 false _ A2.out).mono ?_); rintro e w' ⟨rfl, ⟨nd, rfl⟩⟩; refine ⟨_, rfl, ?_⟩))
 go_ret
 exact ⟨by rfl, by repeat (first | (with_reducible first | exact HB.out | apply below_alloc | apply pw_below_drewN | apply below_drew1) | exact HB.out)⟩

/-! ### impl_UpperWythoff: function 17 -/
def impl_UpperWythoff.f (k : Nat) (a0 : Int) : Option (Int) := if a0 < 1 then (some 0) else (if a0 > 100 then (some 0) else ((impl_LowerWythoff.f k a0).bind fun t207 => (some (wrap64 (t207 + a0)))))
theorem impl_UpperWythoff.mono : ∀ a0 k, LeO (impl_UpperWythoff.f k a0) (impl_UpperWythoff.f (k + 1) a0) := by
 intro a0 k
 unfold impl_UpperWythoff.f
 with_reducible repeat' first | exact impl_LowerWythoff.mono _ _ | exact LeO.refl _ | exact LeO.none _ | refine LeO.ite ?_ ?_ | refine LeO.bind ?_ (fun _ => ?_)
theorem impl_UpperWythoff.calls (k : Nat) (a0 : Int) (r : Int) (w : World) (h : impl_UpperWythoff.f k a0 = some r) :
  Calls Try.prog 17 #[.int .i64 a0] w fun e w' => e = .returned (.int .i64 r) ∧ Below w.heap.size w w' := by
 have HB := A_ (Below.refl w.heap.size w)
 unfold impl_UpperWythoff.f at h
 have H := h
 clear h
 by_cases c2 : a0 < 1
 ·rw [if_pos c2] at H
  have c2b0 : decide (a0 < 1) = true := decide_eq_true c2
  clear c2
  obtain rfl := Option.some.inj H
  go_enter Try.func17, Try.ntmps17
  go_wp2
  go_ret
  exact ⟨by rfl, HB.out⟩
 rw [if_neg c2] at H
 have c2b0 : decide (a0 < 1) = false := decide_eq_false c2
 clear c2
 by_cases c3 : a0 > 100
 ·rw [if_pos c3] at H
  have c3b0 : decide (100 < a0) = true := decide_eq_true c3
  clear c3
  obtain rfl := Option.some.inj H
  go_enter Try.func17, Try.ntmps17
  go_wp2
  go_ret
  exact ⟨by rfl, HB.out⟩
 rw [if_neg c3] at H
 have c3b0 : decide (100 < a0) = false := decide_eq_false c3
 clear c3
 replace H := Option.bind_eq_some_iff.mp H
 obtain ⟨t207, A40, H⟩ := H
 have A4 := A_ A40
 clear A40
 obtain rfl := Option.some.inj H
 go_enter Try.func17, Try.ntmps17
 go_wp2_with (first | ((with_reducible refine gate_callee (f := 15) rfl ?_); refine goesL_ (some 10) rfl rfl Try.func15 (by kernel_rfl) rfl #[.int .i64 a0] rfl (by (try simp only [mA, mB, mC]); first | done | rfl | (simp only [List.length_drop, List.length_take]; rfl)) ?_; (with_reducible refine (impl_LowerWythoff.calls k a0 t207 _ A4.out).mono ?_); rintro e w5 ⟨rfl, hb⟩; refine ⟨_, rfl, ?_⟩; have n0_ := A_ (below_step HB.out hb); clear HB; revert n0_; intro HB; clear hb; (try clear hi)))
 go_ret
 exact ⟨by rfl, HB.out⟩

end Go.Proofs.Ytdcakddfibnllaa.PFnFibonacci
