/- Written by this session's own program (wip/myprint.py): the machine side of one law, some contracts of it typed by hand. -/
import Derived.Test.YtdcakddfibnllaaPFnFibonaccix0
import Derived.Test.YtdcakddfibnllaaPFnFibonaccix1
import Derived.Test.YtdcakddfibnllaaPFnFibonaccix3
import Derived.Test.YtdcakddfibnllaaPFnFibonaccix5
import Derived.Test.YtdcakddfibnllaaPFnFibonaccix7
import Derived.Test.YtdcakddfibnllaaPFnFibonaccix9
namespace Go.Proofs.Ytdcakddfibnllaa.PFnFibonacci
open Go.RowKit Go.Proofs.YtdcakddfibnllaaW.PrintWords Go.Proofs.YtdcakddfibnllaaW.PrintLast Go.Proofs.YtdcakddfibnllaaW.PrintMore
attribute [local go_sem] max2_int min2_int max_two min_two max_three min_three max_four min_four   -- for this text's walks alone
set_option linter.unusedVariables false
set_option maxHeartbeats 8000000
set_option maxRecDepth 100000
set_option linter.unusedSimpArgs false

/-! ### spec_FixedPrefix: function 53 -/
mutual
def spec_FixedPrefix.j0 : Nat → Int → Int → Bool → List (List Int) → Option (List Int × Bool)
 | 0, _, _, _, _ => none
 | k + 1, x1, x2, x18, x353000 => if x18 = true then (some ((([] : List Int)), false)) else ((some (([] : List Int) : List Int)).bind fun y358 => (if 0 ≤ x1 then (if x1 < (x353000.length : Int) then (if y358.length + (rd_L1 x353000 x1).length < 17592186044416 then (spec_FixedPrefix.l0 k x2 (y358 ++ (rd_L1 x353000 x1)) 1 x353000) else (none)) else (none)) else (none)))
def spec_FixedPrefix.l0 : Nat → Int → List Int → Int → List (List Int) → Option (List Int × Bool)
 | 0, _, _, _, _ => none
 | k + 1, x2, x8, x9, x353000 => if x9 < x2 then (if (x8.length : Int) < x2 then (if 0 ≤ x9 then (if x9 < (x8.length : Int) then (if 0 ≤ (rd x8 x9) then (if (rd x8 x9) < (x353000.length : Int) then (if x8.length + (rd_L1 x353000 (rd x8 x9)).length < 17592186044416 then (spec_FixedPrefix.l0 k x2 (x8 ++ (rd_L1 x353000 (rd x8 x9))) (wrap64 (x9 + 1)) x353000) else (none)) else (none)) else (none)) else (none)) else (none)) else (if 0 ≤ x2 then (if x2 ≤ (x8.length : Int) then (some ((x8.take (x2 : Int).toNat), true)) else (none)) else (none))) else (if (x8.length : Int) < x2 then (some ((([] : List Int)), false)) else (if 0 ≤ x2 then (if x2 ≤ (x8.length : Int) then (some ((x8.take (x2 : Int).toNat), true)) else (none)) else (none)))
end
def spec_FixedPrefix.f (k : Nat) (l0_0 : List (List Int)) (a1 : Int) (a2 : Int) : Option (List Int × Bool) := (spec_IsGrowing.f k l0_0 a1).bind fun t353 => (if t353 = true then ((spec_l1In.f a2 0 256).bind fun t354 => (spec_FixedPrefix.j0 k a1 a2 (!t354) l0_0)) else (spec_FixedPrefix.j0 k a1 a2 true l0_0))
theorem spec_FixedPrefix.mono_l : ∀ k, (∀ y0 y1 y2 y3, LeO (spec_FixedPrefix.j0 k y0 y1 y2 y3) (spec_FixedPrefix.j0 (k + 1) y0 y1 y2 y3)) ∧ (∀ y0 y1 y2 y3, LeO (spec_FixedPrefix.l0 k y0 y1 y2 y3) (spec_FixedPrefix.l0 (k + 1) y0 y1 y2 y3))
 | 0 => ⟨fun _ _ _ _ r h => by simp [spec_FixedPrefix.j0] at h, fun _ _ _ _ r h => by simp [spec_FixedPrefix.l0] at h⟩
 | k + 1 => by
  obtain ⟨ih0, ih1⟩ := spec_FixedPrefix.mono_l k
  refine ⟨?_, ?_⟩
  ·intro y0 y1 y2 y3
   unfold spec_FixedPrefix.j0
   with_reducible repeat' first | exact ih0 _ _ _ _ | exact ih1 _ _ _ _ | exact spec_IsGrowing.mono _ _ _ | exact LeO.refl _ | exact LeO.none _ | refine LeO.ite ?_ ?_ | refine LeO.bind ?_ (fun _ => ?_)
  intro y0 y1 y2 y3
  unfold spec_FixedPrefix.l0
  with_reducible repeat' first | exact ih0 _ _ _ _ | exact ih1 _ _ _ _ | exact spec_IsGrowing.mono _ _ _ | exact LeO.refl _ | exact LeO.none _ | refine LeO.ite ?_ ?_ | refine LeO.bind ?_ (fun _ => ?_)
theorem spec_FixedPrefix.mono : ∀ a0 a1 a2 k, LeO (spec_FixedPrefix.f k a0 a1 a2) (spec_FixedPrefix.f (k + 1) a0 a1 a2) := by
 intro a0 a1 a2 k
 obtain ⟨ih0, ih1⟩ := spec_FixedPrefix.mono_l k
 unfold spec_FixedPrefix.f
 with_reducible repeat' first | exact ih0 _ _ _ _ | exact ih1 _ _ _ _ | exact spec_IsGrowing.mono _ _ _ | exact LeO.refl _ | exact LeO.none _ | refine LeO.ite ?_ ?_ | refine LeO.bind ?_ (fun _ => ?_)
def spec_FixedPrefix.T7 : Bool × List (List Nat × List Nat) := (true, [([], []), ([], []), ([1], [1]), ([], []), ([], []), ([3, 4], [3, 4]), ([5], [5]), ([2, 6], [2, 6]), ([7], [7]), ([0, 8], [0, 8]), ([9, 9, 0, 1, 2, 3, 4, 5, 6, 7, 8, 9], [0, 3, 9])])
def spec_FixedPrefix.B7 : List Nat := [0, 0, 2, 0, 0, 24, 56, 126, 254, 511, 1023]
theorem spec_FixedPrefix.tab7 : rtab .any (opsOf Try.f53 7) = spec_FixedPrefix.T7 := by kernel_rfl
theorem spec_FixedPrefix.bits7 : waitsOk spec_FixedPrefix.T7.2 spec_FixedPrefix.B7 = true := by kernel_rfl
theorem spec_FixedPrefix.calls (k : Nat) (A0_0 : Option Addr) (c0_0 : Nat) (l0_0 : List (List Int)) (a1 : Int) (a2 : Int) (r1 : List Int) (r2 : Bool) (w : World) (hr0_0 : Kd.C (Kd.slice 3 (Kd.int .i64)) w A0_0 l0_0.length l0_0) (hc0_0 : l0_0.length ≤ c0_0) (h : spec_FixedPrefix.f k l0_0 a1 a2 = some (r1, r2)) :
  Calls Try.prog 53 #[.agg #[.slice A0_0 l0_0.length c0_0], .int .i64 a1, .int .i64 a2] w fun e w' => ∃ v0_ : Value, e = .returned (.tuple #[v0_, .bool r2]) ∧ Kd.R (Kd.int .i64) 3 w' w.heap.size (fun _ => True) v0_ r1 ∧ Below w.heap.size w w' := by
 have hu46 := Try.underlying46
 have HR0_0 := A_ hr0_0
 have HC0_0 := A_ hc0_0
 clear hr0_0 hc0_0
 have HB := A_ (Below.refl w.heap.size w)
 unfold spec_FixedPrefix.f at h
 have H := h
 clear h
 have HC4 := A_ H
 clear H
 go_enter Try.func53, Try.ntmps53
 go_upto_region 1 with (first | ((with_reducible refine gate_dst (N := 3) rfl ?_); (try (refine gate_guard (by rfl) ?_; dsimp only)); refine box_event ?hg (N := 3) ?hd (cs := #[.slice A0_0 l0_0.length c0_0]) (t := 46) ?hr ?_; (case hd | hg => rfl); (case hr => go_simp; done); intro gb352 hg w5 hbox hb; have n0_ := A_ (below_step HB.out hb); have n1_ := A_ (hbox); have n2_ := A_ ((by rw [hg]; exact (below_size HB.out) : w.heap.size ≤ gb352)); have n3_ := A_ ((by rw [hg]; exact (below_size HB.out) : w.heap.size ≤ gb352)); clear HB; revert n0_ n1_ n2_ n3_; intro HB BK352 GW352 GE352; clear hb hbox hg))
 (try simp only [Act.put, mD, mE, mF])
 go_cut [18] (fun v18 wc => ∃ (kq : Nat) (x18_3 : Bool), v18 = .bool x18_3 ∧ Aside0 (spec_FixedPrefix.j0 kq a1 a2 x18_3 l0_0 = some (r1, r2)) ∧ Aside0 (kq ≤ k) ∧ Aside0 (wc.heap[gb352]? = some (.cells #[(.slice A0_0 l0_0.length c0_0)] 46 (0, 0))) ∧ Aside0 (Below w.heap.size w wc))
 case first =>
  have H := HC4.out
  clear HC4
  replace H := Option.bind_eq_some_iff.mp H
  obtain ⟨t353, A60, H⟩ := H
  have A6 := A_ A60
  clear A60
  by_cases c7 : t353 = true
  ·subst c7
   rw [if_pos rfl] at H
   replace H := Option.bind_eq_some_iff.mp H
   obtain ⟨t354, A80, H⟩ := H
   have A8 := A_ A80
   clear A80
   have H' := A_ H
   clear H
   have hcz9_0 : w5.cell? ⟨gb352, 0, none⟩ = some (.slice A0_0 l0_0.length c0_0) := (blk_cell BK352.out 0).trans rfl
   have hfz9_0 := blk_frozen BK352.out 0
   go_wp2_with (first | ((with_reducible refine gate_callee (f := 76) rfl ?_); refine goesL_ (some 12) rfl rfl Try.func76 (by kernel_rfl) rfl #[.agg #[.slice A0_0 l0_0.length c0_0], .int .i64 a1] rfl (by (try simp only [mA, mB, mC]); first | done | rfl | (simp only [List.length_drop, List.length_take]; rfl)) ?_; (with_reducible refine (spec_IsGrowing.calls k (fun k_ => k_ < w.heap.size) _ _ l0_0 a1 true _ ?side1 A6.out).mono ?_); (case side1 => exact Kd.V_mk HC0_0.out (Kd.F_below (Kd.C_F (Kd.heap_slice 3 (Kd.heap_int .i64)) HR0_0.out) HB.out)); rintro e w10 ⟨rfl, hb⟩; refine ⟨_, rfl, ?_⟩; have n0_ := A_ (blk_below BK352.out hb); have n1_ := A_ (below_step HB.out hb); clear BK352 HB; revert n0_ n1_; intro BK352 HB; clear hb; (try clear hi)) | (go_at_call 62; (with_reducible refine (spec_l1In.calls a2 0 256 t354 _ A8.out).mono ?_); rintro e w' ⟨rfl, ⟨nd, rfl⟩⟩))
   go_meet
   case rel => exact ⟨_, (!t354), (by rfl), H', ⟨by first | omega | exact Nat.le_refl _⟩, ⟨by (with_reducible repeat (first | refine blk_drewN ?_ _ | refine blk_drew ?_ | refine blk_alloc ?_ _)); exact BK352.out⟩, ⟨by repeat (first | (with_reducible first | exact HB.out | apply below_alloc | apply pw_below_drewN | apply below_drew1 | refine below_set ?_ GE352.out) | exact HB.out)⟩⟩
  replace c7 := Bool.eq_false_iff.mpr c7
  subst c7
  rw [if_neg (show ¬ (false = true) by decide)] at H
  have H' := A_ H
  clear H
  have hcz11_0 : w5.cell? ⟨gb352, 0, none⟩ = some (.slice A0_0 l0_0.length c0_0) := (blk_cell BK352.out 0).trans rfl
  have hfz11_0 := blk_frozen BK352.out 0
  go_wp2_with (first | ((with_reducible refine gate_callee (f := 76) rfl ?_); refine goesL_ (some 12) rfl rfl Try.func76 (by kernel_rfl) rfl #[.agg #[.slice A0_0 l0_0.length c0_0], .int .i64 a1] rfl (by (try simp only [mA, mB, mC]); first | done | rfl | (simp only [List.length_drop, List.length_take]; rfl)) ?_; (with_reducible refine (spec_IsGrowing.calls k (fun k_ => k_ < w.heap.size) _ _ l0_0 a1 false _ ?side1 A6.out).mono ?_); (case side1 => exact Kd.V_mk HC0_0.out (Kd.F_below (Kd.C_F (Kd.heap_slice 3 (Kd.heap_int .i64)) HR0_0.out) HB.out)); rintro e w12 ⟨rfl, hb⟩; refine ⟨_, rfl, ?_⟩; have n0_ := A_ (blk_below BK352.out hb); have n1_ := A_ (below_step HB.out hb); clear BK352 HB; revert n0_ n1_; intro BK352 HB; clear hb; (try clear hi)))
  go_meet
  case rel => exact ⟨_, (true), (by rfl), H', ⟨by first | omega | exact Nat.le_refl _⟩, ⟨BK352.out⟩, ⟨HB.out⟩⟩
 case rest =>
  clear HC4
  obtain ⟨kq, x18_3, rfl, HA, HJ3, BK352, HB⟩ := hcut
  cases kq with
  | zero => exact absurd HA.out (by simp [spec_FixedPrefix.j0])
  | succ kj3 =>
   have H := HA.out
   clear HA
   simp only [spec_FixedPrefix.j0] at H
   by_cases c13 : x18_3 = true
   ·subst c13
    rw [if_pos rfl] at H
    obtain ⟨y355, hy355⟩ : ∃ y_ : List Int, y_ = (([] : List Int)) := ⟨_, rfl⟩
    replace H : (some (y355, false)) = some (r1, r2) := by (rw [hy355]; with_reducible exact H)
    have Ny355 := A_ hy355
    clear hy355
    simp only [Option.some.injEq, Prod.mk.injEq] at H
    obtain ⟨rfl, rfl⟩ := H
    go_wp2_with (first | ((with_reducible refine gate_dst (N := 19) rfl ?_); (try (refine gate_guard (by rfl) ?_; dsimp only)); refine Kd.R_lit (Kd.int .i64) _ 3 ?hg (N := 19) ?hd (xs := ([] : List Int)) (inner := []) (ok := fun _ => True) (okp := fun _ => True) ?hr ?hp (fun _ hk => hk) trivial (Below.refl _ _) (Nat.le_refl _) (by simp) ?_; (case hd | hg => rfl); (case hr => go_simp; done); (case hp => exact (Reps.none _ _)); intro v356 w14 ho15 hb hg_ hnew_; clear hg_ hnew_; (first | rw [← Ny355.out] at ho15 | (simp only [Int.reduceToNat] at ho15; rw [← Ny355.out] at ho15)); have n0_ := A_ (Kd.R_lower ho15 (below_size HB.out)); have n1_ := A_ (blk_below BK352.out hb); have n2_ := A_ (below_step HB.out hb); clear BK352 HB; revert n0_ n1_ n2_; intro HO357 BK352 HB; clear hb ho15))
    go_ret2
    exact ⟨_, by rfl, HO357.out, HB.out⟩
   replace c13 := Bool.eq_false_iff.mpr c13
   subst c13
   rw [if_neg (show ¬ (false = true) by decide)] at H
   obtain ⟨y358, hy358⟩ : ∃ y_ : List Int, y_ = (([] : List Int)) := ⟨_, rfl⟩
   replace H : (if 0 ≤ a1 then (if a1 < (l0_0.length : Int) then (if y358.length + (rd_L1 l0_0 a1).length < 17592186044416 then (spec_FixedPrefix.l0 kj3 a2 (y358 ++ (rd_L1 l0_0 a1)) 1 l0_0) else (none)) else (none)) else (none)) = some (r1, r2) := by (have H2_ := (Option.bind_some _ _).symm.trans H; rw [hy358]; with_reducible exact H2_)
   have Ny358 := A_ hy358
   clear hy358
   by_cases c16 : 0 ≤ a1
   ·rw [if_pos c16] at H
    have c16b0 : decide (0 ≤ a1) = true := decide_eq_true c16
    clear c16
    by_cases c17 : a1 < (l0_0.length : Int)
    ·rw [if_pos c17] at H
     have c17b0 : decide (a1 < (l0_0.length : Int)) = true := decide_eq_true c17
     clear c17
     by_cases c18 : y358.length + (rd_L1 l0_0 a1).length < 17592186044416
     ·rw [if_pos c18] at H
      have LMc18 := A_ c18
      clear c18
      obtain ⟨y362, hy362⟩ : ∃ y_ : List Int, y_ = (y358 ++ (rd_L1 l0_0 a1)) := ⟨_, rfl⟩
      replace H : (spec_FixedPrefix.l0 kj3 a2 y362 1 l0_0) = some (r1, r2) := by (rw [hy362]; with_reducible exact H)
      have Ny362 := A_ hy362
      clear hy362
      have H' := A_ H
      clear H
      go_wp2_with (first | ((with_reducible refine gate_dst (N := 20) rfl ?_); (try (refine gate_guard (by rfl) ?_; dsimp only)); refine Kd.R_lit (Kd.int .i64) _ 3 ?hg (N := 20) ?hd (xs := ([] : List Int)) (inner := []) (ok := fun _ => True) (okp := fun _ => True) ?hr ?hp (fun _ hk => hk) trivial (Below.refl _ _) (Nat.le_refl _) (by simp) ?_; (case hd | hg => rfl); (case hr => go_simp; done); (case hp => exact (Reps.none _ _)); intro v359 w19 ho20 hb hg_ hnew_; clear hg_ hnew_; (first | rw [← Ny358.out] at ho20 | (simp only [Int.reduceToNat] at ho20; rw [← Ny358.out] at ho20)); have n0_ := A_ (Kd.R_lower ho20 (below_size HB.out)); have n1_ := A_ (blk_below BK352.out hb); have n2_ := A_ (below_step HB.out hb); clear BK352 HB; revert n0_ n1_ n2_; intro HO360 BK352 HB; clear hb ho20; have hcz21_0 : w19.cell? ⟨gb352, 0, none⟩ = some (.slice A0_0 l0_0.length c0_0) := (blk_cell BK352.out 0).trans rfl; have hfz21_0 := blk_frozen BK352.out 0; have p361 : 0 ≤ (a1 : Int) := of_decide_eq_true (by first | (with_reducible assumption) | assumption); have q361 : a1 < (l0_0.length : Int) := of_decide_eq_true (by first | (with_reducible assumption) | assumption); obtain ⟨ad361, A361_0, c361_0, e361, hx361_0, hl361_0, hi361_0⟩ := at_L1 HR0_0.out a1 p361 q361; cases e361; replace hx361_0 := (HB.out.cell (World.block_lt_of_cell? w _ hx361_0)).trans hx361_0; have HR361_0 := A_ hi361_0; have HC361_0 := A_ hl361_0; clear hi361_0 hl361_0; replace p361 := eq_true p361; replace q361 := eq_true q361) | ((with_reducible refine gate_builtin (b := .append) (xs := #[.tmp 20, .tmp 25]) rfl ?_); (try (refine gate_guard (by rfl) ?_; dsimp only)); at_builtin; refine Kd.R_append_rows (Kd.int .i64) (w0 := w) w.heap.size rfl (.tmp 20) (.tmp 25) 24 3 (.int .i64 0) 8 rfl Try.underlying24 info3 rfl (by decide) (by omega) v359 y358 (rd_L1 l0_0 a1) _ _ _ (fun _ => True) (fun _ => False) rfl rfl ?aO ?aR (fun _ _ h => h) (fun _ h => h.elim) ?aF ?aB ?aS ?aL ?_; (case aR => repeat (first | exact (Kd.C_below HR361_0.out HB.out) | (with_reducible refine Kd.C_alloc ?_ _) | (with_reducible refine Kd.C_drewN ?_ _) | (with_reducible refine Kd.C_drew ?_))); (case aB => exact HB.out); (case aF => exact (fun _ _ => trivial)); (case aO => exact HO360.out); (case aS => exact (below_size HB.out)); (case aL => have := LMc18.out; omega); intro v363 w22 ho hb hg hat; rw [← Ny362.out] at ho; have n0_ := A_ (blk_grown (g := gb352) (o := .cells #[.slice (some ad361) l0_0.length c0_0] 46 (0, 0)) BK352.out hg (Kd.R_ne HO360.out BK352.out (by decide))); have n1_ := A_ (hb); have n2_ := A_ (ho); clear BK352 HB HO360; revert n0_ n1_ n2_; intro BK352 HB HO364; clear ho hb hg hat))
      go_loopg [8, 9] kj3 (fun kq v8 v9 w' => ∃ (x8_2 : List Int) (x9_2 : Int), v9 = .int .i64 x9_2 ∧ Aside0 (spec_FixedPrefix.l0 kq a2 x8_2 x9_2 l0_0 = some (r1, r2)) ∧ Aside0 (kq ≤ kj3) ∧ Aside0 (Kd.R (Kd.int .i64) 3 w' w.heap.size (fun _ => True) v8 x8_2) ∧ Aside0 (w'.heap[gb352]? = some (.cells #[(.slice (some ad361) l0_0.length c0_0)] 46 (0, 0))) ∧ Aside0 (Below w.heap.size w w'))
      case atStart => exact ⟨(y362), (1), (by rfl), H', ⟨Nat.le_refl _⟩, ⟨HO364.out⟩, ⟨BK352.out⟩, ⟨HB.out⟩⟩
      case round =>
       clear H'
       try clear c16b0
       try clear c17b0
       try clear hcz21_0
       try clear hfz21_0
       try clear hx361_0
       try clear p361
       try clear q361
       obtain ⟨x8_2, x9_2, rfl, HA, HK2, HO_8, BK352, HB⟩ := hrel
       cases gk with
       | zero => exact absurd HA.out (by simp [spec_FixedPrefix.l0])
       | succ k2 =>
        have H := HA.out
        clear HA
        simp only [spec_FixedPrefix.l0] at H
        by_cases c23 : x9_2 < a2
        ·rw [if_pos c23] at H
         have c23b0 : decide (x9_2 < a2) = true := decide_eq_true c23
         clear c23
         by_cases c24 : (x8_2.length : Int) < a2
         ·rw [if_pos c24] at H
          have c24b0 : decide ((x8_2.length : Int) < a2) = true := decide_eq_true c24
          clear c24
          by_cases c25 : 0 ≤ x9_2
          ·rw [if_pos c25] at H
           have c25b0 : decide (0 ≤ x9_2) = true := decide_eq_true c25
           clear c25
           by_cases c26 : x9_2 < (x8_2.length : Int)
           ·rw [if_pos c26] at H
            have c26b0 : decide (x9_2 < (x8_2.length : Int)) = true := decide_eq_true c26
            clear c26
            by_cases c27 : 0 ≤ (rd x8_2 x9_2)
            ·rw [if_pos c27] at H
             have c27b0 : decide (0 ≤ (rd x8_2 x9_2)) = true := decide_eq_true c27
             clear c27
             by_cases c28 : (rd x8_2 x9_2) < (l0_0.length : Int)
             ·rw [if_pos c28] at H
              have c28b0 : decide ((rd x8_2 x9_2) < (l0_0.length : Int)) = true := decide_eq_true c28
              clear c28
              by_cases c29 : x8_2.length + (rd_L1 l0_0 (rd x8_2 x9_2)).length < 17592186044416
              ·rw [if_pos c29] at H
               have LMc29 := A_ c29
               clear c29
               obtain ⟨y367, hy367⟩ : ∃ y_ : List Int, y_ = (x8_2 ++ (rd_L1 l0_0 (rd x8_2 x9_2))) := ⟨_, rfl⟩
               replace H : (spec_FixedPrefix.l0 k2 a2 y367 (wrap64 (x9_2 + 1)) l0_0) = some (r1, r2) := by (rw [hy367]; with_reducible exact H)
               have Ny367 := A_ hy367
               clear hy367
               have H' := A_ H
               clear H
               obtain ⟨Ao30, co30, eo30⟩ := Kd.R_slice HO_8.out
               subst eo30
               try go_wp2
               have n0_ := A_ (Kd.R_drew HO_8.out)
               have n1_ := A_ (blk_drew BK352.out)
               have n2_ := A_ (below_drew1 HB.out)
               clear HO_8
               clear BK352
               clear HB
               have HO_8 := n0_
               have BK352 := n1_
               have HB := n2_
               clear n0_ n1_ n2_
               have p365 : 0 ≤ (x9_2 : Int) := of_decide_eq_true (by first | (with_reducible assumption) | assumption)
               have q365 : x9_2 < (x8_2.length : Int) := of_decide_eq_true (by first | (with_reducible assumption) | assumption)
               obtain ⟨ad365, e365, hx365_0⟩ := Kd.at_int (Kd.R_reads' HO_8.out).2.2 x9_2 p365 q365
               cases e365
               replace p365 := eq_true p365
               replace q365 := eq_true q365
               have p366 : 0 ≤ ((rd x8_2 x9_2) : Int) := of_decide_eq_true (by first | (with_reducible assumption) | assumption)
               have q366 : (rd x8_2 x9_2) < (l0_0.length : Int) := of_decide_eq_true (by first | (with_reducible assumption) | assumption)
               obtain ⟨ad366, A366_0, c366_0, e366, hx366_0, hl366_0, hi366_0⟩ := at_L1 HR0_0.out (rd x8_2 x9_2) p366 q366
               have hw366_0 := hx366_0
               obtain rfl : ad361 = ad366 := (by injection e366)
               replace hx366_0 := (HB.out.cell (World.block_lt_of_cell? w _ hx366_0)).trans hx366_0
               have HR366_0 := A_ hi366_0
               have HC366_0 := A_ hl366_0
               clear hi366_0 hl366_0
               replace p366 := eq_true p366
               replace q366 := eq_true q366
               refine start_ (n := 11) (S := fun w' => w'.cell? ⟨gb352, 0, none⟩ = some (.slice (some ad361) l0_0.length c0_0) ∧ w'.cell? (ad365.add (x9_2).toNat) = some (.int .i64 (rd x8_2 x9_2)) ∧ w'.cell? (ad361.add ((rd x8_2 x9_2)).toNat) = some (.slice A366_0 (rd_L1 l0_0 (rd x8_2 x9_2)).length c366_0)) (ds := [9]) #[false, false, false, false, false, false, false, false, false, false, false] (by kernel_rfl) rfl rfl ⟨(blk_cell BK352.out 0).trans rfl, hx365_0, ((HB.out.cell (World.block_lt_of_cell? w _ hw366_0)).trans hw366_0)⟩ (fun hHeld => ?_); refine with_tabW spec_FixedPrefix.tab7 spec_FixedPrefix.bits7 (fun HT_ HW_ => ?_)
               generalize wr.drew = w31 at HO_8 BK352 HB HR366_0 hx365_0 hx366_0 hHeld ⊢
               refine pure_ (i := 0) (N := some 38) (v := ?_) (a' := ?_) #[true, false, false, false, false, false, false, false, false, false, false] rfl rfl (any_of HT_.out (by kernel_rfl)) (fun _ _ _ h => h) (Or.inl ⟨by rfl, ?_⟩) ?_ ?_
               rotate_left
               ·intro w'
                go_simp
                with_reducible rfl
               rotate_left
               ·simp only [Act.put, mD, mE, mF, i64_w, i32_w]
                rfl
               refine pure_ (i := 1) (N := some 39) (v := ?_) (a' := ?_) #[true, true, false, false, false, false, false, false, false, false, false] rfl rfl (any_of HT_.out (by kernel_rfl)) (fun _ _ _ h => h) (Or.inl ⟨by rfl, ?_⟩) ?_ ?_
               rotate_left
               ·intro w'
                go_simp
                with_reducible rfl
               rotate_left
               ·simp only [Act.put, mD, mE, mF, i64_w, i32_w]
                rfl
               refine pure_ (i := 3) (N := some 41) (v := ?_) (a' := ?_) #[true, true, false, true, false, false, false, false, false, false, false] rfl rfl (any_of HT_.out (by kernel_rfl)) (fun _ _ _ h => h) (Or.inl ⟨by rfl, ?_⟩) ?_ ?_
               rotate_left
               ·intro w'
                go_simp
                with_reducible rfl
               rotate_left
               ·simp only [Act.put, mD, mE, mF, i64_w, i32_w]
                rfl
               refine pure_ (i := 4) (N := some 42) (v := ?_) (a' := ?_) #[true, true, false, true, true, false, false, false, false, false, false] rfl rfl (any_of HT_.out (by kernel_rfl)) (fun _ _ _ h => h) (Or.inl ⟨by rfl, ?_⟩) ?_ ?_
               rotate_left
               ·intro w'
                go_simp
                with_reducible rfl
               rotate_left
               ·simp only [Act.put, mD, mE, mF, i64_w, i32_w]
                rfl
               refine pure_ (i := 5) (N := some 43) (v := ?_) (a' := ?_) #[true, true, false, true, true, true, false, false, false, false, false] rfl rfl (any_of HT_.out (by kernel_rfl)) (fun _ _ _ h => h) (Or.inl ⟨by rfl, ?_⟩) ?_ ?_
               rotate_left
               ·intro w'
                go_simp
                with_reducible rfl
               rotate_left
               ·simp only [Act.put, mD, mE, mF, i64_w, i32_w]
                rfl
               refine take_ (i := 2) (N := some 40) (v := ?_) (a' := ?_) #[true, true, true, true, true, true, false, false, false, false, false] rfl rfl (take_ofW HT_.out HW_.out (by kernel_rfl)) (fun _ _ _ h => h) (Or.inl ⟨by rfl, ?_⟩) hHeld ?_ ?_
               rotate_left
               ·rintro w' ⟨s0, s1, s2⟩
                go_simp
                with_reducible rfl
               rotate_left
               ·simp only [Act.put, mD, mE, mF, i64_w, i32_w]
                rfl
               refine take_ (i := 6) (N := some 44) (v := ?_) (a' := ?_) #[true, true, true, true, true, true, true, false, false, false, false] rfl rfl (take_ofW HT_.out HW_.out (by kernel_rfl)) (fun _ _ _ h => h) (Or.inl ⟨by rfl, ?_⟩) hHeld ?_ ?_
               rotate_left
               ·rintro w' ⟨s0, s1, s2⟩
                go_simp
                with_reducible rfl
               rotate_left
               ·simp only [Act.put, mD, mE, mF, i64_w, i32_w]
                rfl
               refine pure_ (i := 7) (N := some 45) (v := ?_) (a' := ?_) #[true, true, true, true, true, true, true, true, false, false, false] rfl rfl (any_of HT_.out (by kernel_rfl)) (fun _ _ _ h => h) (Or.inl ⟨by rfl, ?_⟩) ?_ ?_
               rotate_left
               ·intro w'
                go_simp
                with_reducible rfl
               rotate_left
               ·simp only [Act.put, mD, mE, mF, i64_w, i32_w]
                rfl
               refine take_ (i := 8) (N := some 46) (v := ?_) (a' := ?_) #[true, true, true, true, true, true, true, true, true, false, false] rfl rfl (take_ofW HT_.out HW_.out (by kernel_rfl)) (fun _ _ _ h => h) (Or.inl ⟨by rfl, ?_⟩) hHeld ?_ ?_
               rotate_left
               ·rintro w' ⟨s0, s1, s2⟩
                go_simp
                with_reducible rfl
               rotate_left
               ·simp only [Act.put, mD, mE, mF, i64_w, i32_w]
                rfl
               refine last_ (i := 9) (N := some 47) #[true, true, true, true, true, true, true, true, true, true, false] rfl rfl (one_of HT_.out (by kernel_rfl)) (by decide) (fun K hK => ?_)
               refine Kd.R_append_rows_step (Kd.int .i64) (w0 := w) w.heap.size (by rfl) (.tmp 38) (.tmp 46) 24 3 (.int .i64 0) 8 rfl Try.underlying24 info3 rfl (by decide) (by omega) (.slice (some ad365) x8_2.length co30) x8_2 (rd_L1 l0_0 (rd x8_2 x9_2)) _ _ _ (fun _ => True) (fun _ => False) rfl rfl ?aO ?aR (fun _ _ h => h) (fun _ h => h.elim) ?aF ?aB ?aS ?aL ?_
               (case aR => repeat (first | exact (Kd.C_below HR366_0.out HB.out) | (with_reducible refine Kd.C_alloc ?_ _) | (with_reducible refine Kd.C_drewN ?_ _) | (with_reducible refine Kd.C_drew ?_)))
               (case aB => exact HB.out)
               (case aF => exact (fun _ _ => trivial))
               (case aO => exact HO_8.out)
               (case aS => exact (below_size HB.out))
               (case aL => have := LMc29.out; omega)
               intro v368 w32 ho hb hg hat
               rw [← Ny367.out] at ho
               have n0_ := A_ (blk_grown (g := gb352) (o := .cells #[.slice (some ad361) l0_0.length c0_0] 46 (0, 0)) BK352.out hg (Kd.R_ne HO_8.out BK352.out (by decide)))
               have n1_ := A_ (hb)
               have n2_ := A_ (ho)
               clear BK352
               clear HB
               clear HO_8
               have BK352 := n0_
               have HB := n1_
               have HO369 := n2_
               clear n0_ n1_ n2_
               clear ho hb hg hat
               refine hK.out _ _ ?_
               clear hK K
               refine norm_ (a' := ?_) ?_ ?_
               rotate_left
               ·show Act.put _ (some 47) _ = _
                simp only [Act.put, mD, mE, mF, i64_w, i32_w]
                rfl
               refine pure_ (i := 10) (N := some 8) (v := ?_) (a' := ?_) #[true, true, true, true, true, true, true, true, true, true, true] rfl rfl (any_of HT_.out (by kernel_rfl)) (fun _ _ _ h => h) (Or.inl ⟨by rfl, ?_⟩) ?_ ?_
               rotate_left
               ·intro w'
                go_simp
                with_reducible rfl
               rotate_left
               ·simp only [Act.put, mD, mE, mF, i64_w, i32_w]
                rfl
               refine done_ (done_of HT_.out (by kernel_rfl)) ?_
               try go_wp2
               go_roundg k2
               case measure => have := HJ3.out; have := HK2.out; omega
               case rel => exact ⟨(y367), (wrap64 (x9_2 + 1)), (by rfl), H', ⟨by have := HJ3.out; have := HK2.out; omega⟩, ⟨HO369.out⟩, ⟨BK352.out⟩, ⟨HB.out⟩⟩
              rw [if_neg c29] at H
              exact absurd H (by simp)
             rw [if_neg c28] at H
             exact absurd H (by simp)
            rw [if_neg c27] at H
            exact absurd H (by simp)
           rw [if_neg c26] at H
           exact absurd H (by simp)
          rw [if_neg c25] at H
          exact absurd H (by simp)
         rw [if_neg c24] at H
         have c24b0 : decide ((x8_2.length : Int) < a2) = false := decide_eq_false c24
         clear c24
         by_cases c33 : 0 ≤ a2
         ·rw [if_pos c33] at H
          have c33b0 := eq_true c33
          have c33b1 : decide (0 ≤ a2) = true := decide_eq_true c33
          clear c33
          by_cases c34 : a2 ≤ (x8_2.length : Int)
          ·rw [if_pos c34] at H
           have c34b0 := eq_true c34
           have c34b1 : decide (a2 ≤ (x8_2.length : Int)) = true := decide_eq_true c34
           clear c34
           obtain ⟨y370, hy370⟩ : ∃ y_ : List Int, y_ = (x8_2.take (a2 : Int).toNat) := ⟨_, rfl⟩
           replace H : (some (y370, true)) = some (r1, r2) := by (rw [hy370]; with_reducible exact H)
           have Ny370 := A_ hy370
           clear hy370
           simp only [Option.some.injEq, Prod.mk.injEq] at H
           obtain ⟨rfl, rfl⟩ := H
           obtain ⟨Ao35, co35, eo35⟩ := Kd.R_slice HO_8.out
           subst eo35
           have q36 : (a2 : Int) ≤ ((x8_2.length : Int) : Int) := of_decide_eq_true (by first | (with_reducible assumption) | assumption)
           obtain ⟨i036, hi036, _, hsz36, _⟩ := info_parts info3
           have hcut36 := cut_to (P := Try.prog) 24 3 .i64 Try.underlying24 hi036 Ao35 x8_2.length co35 a2 (of_decide_eq_true (by first | (with_reducible assumption) | assumption)) q36 (Kd.R_reads' HO_8.out).2.1
           have hr36 := Kd.R_take (m := (a2 : Int).toNat) HO_8.out (by omega)
           have hy36 : y370.length = (a2 : Int).toNat := (by rw [Ny370.out, List.length_take]; omega)
           rw [← Ny370.out] at hr36
           rw [← hy36] at hr36 hcut36
           clear hy36 hi036 hsz36 HO_8
           have HO372 := A_ hr36
           clear hr36
           replace q36 := eq_true q36
           go_wp2
           go_ret2
           exact ⟨_, by rfl, HO372.out, HB.out⟩
          rw [if_neg c34] at H
          exact absurd H (by simp)
         rw [if_neg c33] at H
         exact absurd H (by simp)
        rw [if_neg c23] at H
        have c23b0 : decide (x9_2 < a2) = false := decide_eq_false c23
        clear c23
        by_cases c37 : (x8_2.length : Int) < a2
        ·rw [if_pos c37] at H
         have c37b0 : decide ((x8_2.length : Int) < a2) = true := decide_eq_true c37
         clear c37
         obtain ⟨y373, hy373⟩ : ∃ y_ : List Int, y_ = (([] : List Int)) := ⟨_, rfl⟩
         replace H : (some (y373, false)) = some (r1, r2) := by (rw [hy373]; with_reducible exact H)
         have Ny373 := A_ hy373
         clear hy373
         simp only [Option.some.injEq, Prod.mk.injEq] at H
         obtain ⟨rfl, rfl⟩ := H
         obtain ⟨Ao38, co38, eo38⟩ := Kd.R_slice HO_8.out
         subst eo38
         go_wp2_with (first | ((with_reducible refine gate_dst (N := 52) rfl ?_); (try (refine gate_guard (by rfl) ?_; dsimp only)); refine Kd.R_lit (Kd.int .i64) _ 3 ?hg (N := 52) ?hd (xs := ([] : List Int)) (inner := []) (ok := fun _ => True) (okp := fun _ => True) ?hr ?hp (fun _ hk => hk) trivial (Below.refl _ _) (Nat.le_refl _) (by simp) ?_; (case hd | hg => rfl); (case hr => go_simp; done); (case hp => exact (Reps.none _ _)); intro v374 w39 ho40 hb hg_ hnew_; clear hg_ hnew_; (first | rw [← Ny373.out] at ho40 | (simp only [Int.reduceToNat] at ho40; rw [← Ny373.out] at ho40)); have n0_ := A_ (Kd.R_elder' HO_8.out (Kd.R_base ho40) hb); have n1_ := A_ (Kd.R_lower (Kd.R_new' ho40 (Kd.R_lt HO_8.out)) (below_size HB.out)); have n2_ := A_ (blk_below BK352.out hb); have n3_ := A_ (below_step HB.out hb); clear HO_8 BK352 HB; revert n0_ n1_ n2_ n3_; intro HO_8 HO375 BK352 HB; clear hb ho40))
         go_ret2
         exact ⟨_, by rfl, by exact Kd.R_mono HO375.out (fun _ hk => trivial), HB.out⟩
        rw [if_neg c37] at H
        have c37b0 : decide ((x8_2.length : Int) < a2) = false := decide_eq_false c37
        clear c37
        by_cases c41 : 0 ≤ a2
        ·rw [if_pos c41] at H
         have c41b0 := eq_true c41
         have c41b1 : decide (0 ≤ a2) = true := decide_eq_true c41
         clear c41
         by_cases c42 : a2 ≤ (x8_2.length : Int)
         ·rw [if_pos c42] at H
          have c42b0 := eq_true c42
          have c42b1 : decide (a2 ≤ (x8_2.length : Int)) = true := decide_eq_true c42
          clear c42
          obtain ⟨y376, hy376⟩ : ∃ y_ : List Int, y_ = (x8_2.take (a2 : Int).toNat) := ⟨_, rfl⟩
          replace H : (some (y376, true)) = some (r1, r2) := by (rw [hy376]; with_reducible exact H)
          have Ny376 := A_ hy376
          clear hy376
          simp only [Option.some.injEq, Prod.mk.injEq] at H
          obtain ⟨rfl, rfl⟩ := H
          obtain ⟨Ao43, co43, eo43⟩ := Kd.R_slice HO_8.out
          subst eo43
          have q44 : (a2 : Int) ≤ ((x8_2.length : Int) : Int) := of_decide_eq_true (by first | (with_reducible assumption) | assumption)
          obtain ⟨i044, hi044, _, hsz44, _⟩ := info_parts info3
          have hcut44 := cut_to (P := Try.prog) 24 3 .i64 Try.underlying24 hi044 Ao43 x8_2.length co43 a2 (of_decide_eq_true (by first | (with_reducible assumption) | assumption)) q44 (Kd.R_reads' HO_8.out).2.1
          have hr44 := Kd.R_take (m := (a2 : Int).toNat) HO_8.out (by omega)
          have hy44 : y376.length = (a2 : Int).toNat := (by rw [Ny376.out, List.length_take]; omega)
          rw [← Ny376.out] at hr44
          rw [← hy44] at hr44 hcut44
          clear hy44 hi044 hsz44 HO_8
          have HO378 := A_ hr44
          clear hr44
          replace q44 := eq_true q44
          go_wp2
          go_ret2
          exact ⟨_, by rfl, HO378.out, HB.out⟩
         rw [if_neg c42] at H
         exact absurd H (by simp)
        rw [if_neg c41] at H
        exact absurd H (by simp)
     rw [if_neg c18] at H
     exact absurd H (by simp)
    rw [if_neg c17] at H
    exact absurd H (by simp)
   rw [if_neg c16] at H
   exact absurd H (by simp)

/-! ### laws_at: function 54 -/
def laws_at.f (l0 : List Int) (a1 : Int) : Option (Int) := if a1 < (l0.length : Int) then (if 0 ≤ a1 then (some (wrap64 (rd l0 a1))) else (none)) else (some (Int.tmod (wrap64 ((wrap64 (a1 * 37)) + (wrap64 ((l0.length : Int) * 11)))) 256))
theorem laws_at.calls (A0 : Option Addr) (c0 : Nat) (l0 : List Int) (a1 : Int) (r : Int) (w : World) (hr0 : Kd.C (Kd.int .u8) w A0 l0.length l0) (hc0 : l0.length ≤ c0) (h : laws_at.f l0 a1 = some r) :
  Calls Try.prog 54 #[.slice A0 l0.length c0, .int .i64 a1] w fun e w' => e = .returned (.int .i64 r) ∧ Drawn0 w w' := by
 have HR0 := A_ hr0
 have HC0 := A_ hc0
 clear hr0 hc0
 unfold laws_at.f at h
 have H := h
 clear h
 by_cases c3 : a1 < (l0.length : Int)
 ·rw [if_pos c3] at H
  have c3b0 : decide (a1 < (l0.length : Int)) = true := decide_eq_true c3
  clear c3
  by_cases c4 : 0 ≤ a1
  ·rw [if_pos c4] at H
   have c4b0 : decide (0 ≤ a1) = true := decide_eq_true c4
   clear c4
   obtain rfl := Option.some.inj H
   have p379 : 0 ≤ (a1 : Int) := of_decide_eq_true (by first | (with_reducible assumption) | assumption)
   have q379 : a1 < (l0.length : Int) := of_decide_eq_true (by first | (with_reducible assumption) | assumption)
   obtain ⟨ad379, e379, hx379_0⟩ := Kd.at_int HR0.out a1 p379 q379
   cases e379
   replace p379 := eq_true p379
   replace q379 := eq_true q379
   go_enter Try.func54, Try.ntmps54
   go_wp2
   go_ret
   exact ⟨by rfl, by repeat (first | exact Drawn0.refl _ | apply Drawn0.step)⟩
  rw [if_neg c4] at H
  exact absurd H (by simp)
 rw [if_neg c3] at H
 have c3b0 : decide (a1 < (l0.length : Int)) = false := decide_eq_false c3
 clear c3
 obtain rfl := Option.some.inj H
 go_enter Try.func54, Try.ntmps54
 go_wp2
 go_ret
 exact ⟨by rfl, by repeat (first | exact Drawn0.refl _ | apply Drawn0.step)⟩

/-! ### spec_l1Once: function 77 -/
def spec_l1Once.f (s0_0 : List Int) (s0_1 : Int) (s0_2 : Int) (a1 : Int) : Option (Bool × Int × Int) := (spec_l1Below.f s0_0 s0_1 s0_2 a1).bind fun bt380 => (some ((bt380.1 == 0), bt380.2.1, bt380.2.2))
theorem spec_l1Once.calls (g : Nat) (s0_0 : List Int) (s0_1 : Int) (s0_2 : Int) (a1 : Int) (r1 : Bool) (r2 : Int) (r3 : Int) (w0 w : World) (hI : IsS67 w0 w g s0_0 s0_1 s0_2) (hB : Below w0.heap.size w0 w) (h : spec_l1Once.f s0_0 s0_1 s0_2 a1 = some (r1, r2, r3)) :
  Calls Try.prog 77 #[.pointer (some ⟨g, 0, none⟩), .int .i64 a1] w fun e w' => e = .returned (.bool r1) ∧ IsS67 w0 w' g s0_0 r2 r3 ∧ Below w0.heap.size w0 w' ∧ KeepBut w w' g none := by
 have HI0 := A_ hI
 have HK := A_ (KeepBut.refl w g none)
 have HL := A_ hB.size
 clear hI
 have HW0 := A_ hB.size
 have HB := A_ hB
 clear hB
 unfold spec_l1Once.f at h
 have H := h
 clear h
 replace H := Option.bind_eq_some_iff.mp H
 obtain ⟨⟨t380, t381, t382⟩, A30, H⟩ := H
 dsimp only at H
 have A3 := A_ A30
 clear A30
 simp only [Option.some.injEq, Prod.mk.injEq] at H
 obtain ⟨rfl, rfl, rfl⟩ := H
 go_enter Try.func77, Try.ntmps77
 go_wp2_with (first | ((with_reducible refine gate_callee (f := 74) rfl ?_); refine goesL_ (some 7) rfl rfl Try.func74 (by kernel_rfl) rfl #[.pointer (some ⟨g, 0, none⟩), .int .i64 a1] rfl (by (try simp only [mA, mB, mC]); first | done | rfl | (simp only [List.length_drop, List.length_take]; rfl)) ?_; (with_reducible refine (spec_l1Below.calls g s0_0 s0_1 s0_2 a1 t380 t381 t382 w0 _ ?side1 ?side2 A3.out).mono ?_); (case side1 => exact HI0.out); (case side2 => exact HB.out); rintro e w4 ⟨rfl, hi, hb, hk⟩; refine ⟨_, rfl, ?_⟩; have n0_ := A_ (KeepBut.trans HK.out hk (.inl rfl)); have n1_ := A_ (hb); have n2_ := A_ (hi); clear HK HB HI0; revert n0_ n1_ n2_; intro HK HB HI0; clear hb hk; (try clear hi)))
 go_ret
 exact ⟨by rfl, HI0.out, HB.out, HK.out⟩

/-! ### spec_DrawIsColdPair: function 55 -/
def spec_DrawIsColdPair.f (k : Nat) (l0 : List Int) : Option (Int × Int) := (spec_l1New.f k l0).bind fun bt383 => ((spec_l1Below.f bt383.1 bt383.2.1 bt383.2.2 60).bind fun bt387 => ((spec_l1Once.f bt383.1 bt387.2.1 bt387.2.2 2).bind fun bt390 => (if bt390.1 = true then ((spec_UpperWythoff.f k bt387.1).bind fun t393 => ((spec_LowerWythoff.f k bt387.1).bind fun t394 => (some (t393, t394)))) else ((spec_l1Below.f bt383.1 bt390.2.1 bt390.2.2 40).bind fun bt395 => ((spec_l1Below.f bt383.1 bt395.2.1 bt395.2.2 60).bind fun bt398 => (some (wrap64 (bt395.1 - 1), bt398.1)))))))
theorem spec_DrawIsColdPair.mono : ∀ a0 k, LeO (spec_DrawIsColdPair.f k a0) (spec_DrawIsColdPair.f (k + 1) a0) := by
 intro a0 k
 unfold spec_DrawIsColdPair.f
 with_reducible repeat' first | exact spec_LowerWythoff.mono _ _ | exact spec_UpperWythoff.mono _ _ | exact spec_l1New.mono _ _ | exact LeO.refl _ | exact LeO.none _ | refine LeO.ite ?_ ?_ | refine LeO.bind ?_ (fun _ => ?_)
theorem spec_DrawIsColdPair.calls (k : Nat) (A0 : Option Addr) (c0 : Nat) (l0 : List Int) (r1 : Int) (r2 : Int) (w : World) (hr0 : Kd.C (Kd.int .u8) w A0 l0.length l0) (hc0 : l0.length ≤ c0) (h : spec_DrawIsColdPair.f k l0 = some (r1, r2)) :
  Calls Try.prog 55 #[.slice A0 l0.length c0] w fun e w' => e = .returned (.tuple #[.int .i64 r1, .int .i64 r2]) ∧ Below w.heap.size w w' := by
 have HR0 := A_ hr0
 have HC0 := A_ hc0
 clear hr0 hc0
 have HB := A_ (Below.refl w.heap.size w)
 unfold spec_DrawIsColdPair.f at h
 have H := h
 clear h
 replace H := Option.bind_eq_some_iff.mp H
 obtain ⟨⟨t383, t384, t385⟩, A20, H⟩ := H
 dsimp only at H
 have A2 := A_ A20
 clear A20
 replace H := Option.bind_eq_some_iff.mp H
 obtain ⟨⟨t387, t388, t389⟩, A30, H⟩ := H
 dsimp only at H
 have A3 := A_ A30
 clear A30
 replace H := Option.bind_eq_some_iff.mp H
 obtain ⟨⟨t390, t391, t392⟩, A40, H⟩ := H
 dsimp only at H
 have A4 := A_ A40
 clear A40
 by_cases c5 : t390 = true
 ·subst c5
  rw [if_pos rfl] at H
  replace H := Option.bind_eq_some_iff.mp H
  obtain ⟨t393, A60, H⟩ := H
  have A6 := A_ A60
  clear A60
  replace H := Option.bind_eq_some_iff.mp H
  obtain ⟨t394, A70, H⟩ := H
  have A7 := A_ A70
  clear A70
  simp only [Option.some.injEq, Prod.mk.injEq] at H
  obtain ⟨rfl, rfl⟩ := H
  go_enter Try.func55, Try.ntmps55
  go_wp2_with (first | ((with_reducible refine gate_callee (f := 66) rfl ?_); refine goesL_ (some 7) rfl rfl Try.func66 (by kernel_rfl) rfl #[.slice A0 l0.length c0] rfl (by (try simp only [mA, mB, mC]); first | done | rfl | (simp only [List.length_drop, List.length_take]; rfl)) ?_; (with_reducible refine (spec_l1New.calls k _ _ l0 t383 t384 t385 w _ ?side1 ?side2 ?side3 A2.out).mono ?_); (case side1 => exact HB.out); (case side2 => exact HR0.out); (case side3 => exact HC0.out); rintro e w8 ⟨g386, rfl, hi, hb, hb2⟩; refine ⟨_, rfl, ?_⟩; have n0_ := A_ (hb); have n1_ := A_ (hi); clear HB; revert n0_ n1_; intro HB HI386; clear hb hb2; (try clear hi)) | ((with_reducible refine gate_callee (f := 74) rfl ?_); refine goesL_ (some 9) rfl rfl Try.func74 (by kernel_rfl) rfl #[.pointer (some ⟨g386, 0, none⟩), .int .i64 60] rfl (by (try simp only [mA, mB, mC]); first | done | rfl | (simp only [List.length_drop, List.length_take]; rfl)) ?_; (with_reducible refine (spec_l1Below.calls g386 t383 t384 t385 60 t387 t388 t389 w _ ?side1 ?side2 A3.out).mono ?_); (case side1 => exact HI386.out); (case side2 => exact HB.out); rintro e w9 ⟨rfl, hi, hb, hk⟩; refine ⟨_, rfl, ?_⟩; have n0_ := A_ (hb); have n1_ := A_ (hi); clear HB HI386; revert n0_ n1_; intro HB HI386; clear hb hk; (try clear hi)) | ((with_reducible refine gate_callee (f := 77) rfl ?_); refine goesL_ (some 11) rfl rfl Try.func77 (by kernel_rfl) rfl #[.pointer (some ⟨g386, 0, none⟩), .int .i64 2] rfl (by (try simp only [mA, mB, mC]); first | done | rfl | (simp only [List.length_drop, List.length_take]; rfl)) ?_; (with_reducible refine (spec_l1Once.calls g386 t383 t388 t389 2 true t391 t392 w _ ?side1 ?side2 A4.out).mono ?_); (case side1 => exact HI386.out); (case side2 => exact HB.out); rintro e w10 ⟨rfl, hi, hb, hk⟩; refine ⟨_, rfl, ?_⟩; have n0_ := A_ (hb); have n1_ := A_ (hi); clear HB HI386; revert n0_ n1_; intro HB HI386; clear hb hk; (try clear hi)) | ((with_reducible refine gate_callee (f := 16) rfl ?_); refine goesL_ (some 13) rfl rfl Try.func16 (by kernel_rfl) rfl #[.int .i64 t387] rfl (by (try simp only [mA, mB, mC]); first | done | rfl | (simp only [List.length_drop, List.length_take]; rfl)) ?_; (with_reducible refine (spec_UpperWythoff.calls k t387 t393 _ A6.out).mono ?_); rintro e w11 ⟨rfl, hb⟩; refine ⟨_, rfl, ?_⟩; have n0_ := A_ (IsS67.below HI386.out hb); have n1_ := A_ (below_step HB.out hb); clear HI386 HB; revert n0_ n1_; intro HI386 HB; clear hb; (try clear hi)) | ((with_reducible refine gate_callee (f := 14) rfl ?_); refine goesL_ (some 15) rfl rfl Try.func14 (by kernel_rfl) rfl #[.int .i64 t387] rfl (by (try simp only [mA, mB, mC]); first | done | rfl | (simp only [List.length_drop, List.length_take]; rfl)) ?_; (with_reducible refine (spec_LowerWythoff.calls k t387 t394 _ A7.out).mono ?_); rintro e w12 ⟨rfl, hb⟩; refine ⟨_, rfl, ?_⟩; have n0_ := A_ (IsS67.below HI386.out hb); have n1_ := A_ (below_step HB.out hb); clear HI386 HB; revert n0_ n1_; intro HI386 HB; clear hb; (try clear hi)))
  go_ret2
  exact ⟨by rfl, HB.out⟩
 replace c5 := Bool.eq_false_iff.mpr c5
 subst c5
 rw [if_neg (show ¬ (false = true) by decide)] at H
 replace H := Option.bind_eq_some_iff.mp H
 obtain ⟨⟨t395, t396, t397⟩, A130, H⟩ := H
 dsimp only at H
 have A13 := A_ A130
 clear A130
 replace H := Option.bind_eq_some_iff.mp H
 obtain ⟨⟨t398, t399, t400⟩, A140, H⟩ := H
 dsimp only at H
 have A14 := A_ A140
 clear A140
 simp only [Option.some.injEq, Prod.mk.injEq] at H
 obtain ⟨rfl, rfl⟩ := H
 go_enter Try.func55, Try.ntmps55
 go_wp2_with (first | ((with_reducible refine gate_callee (f := 66) rfl ?_); refine goesL_ (some 7) rfl rfl Try.func66 (by kernel_rfl) rfl #[.slice A0 l0.length c0] rfl (by (try simp only [mA, mB, mC]); first | done | rfl | (simp only [List.length_drop, List.length_take]; rfl)) ?_; (with_reducible refine (spec_l1New.calls k _ _ l0 t383 t384 t385 w _ ?side1 ?side2 ?side3 A2.out).mono ?_); (case side1 => exact HB.out); (case side2 => exact HR0.out); (case side3 => exact HC0.out); rintro e w15 ⟨g386, rfl, hi, hb, hb2⟩; refine ⟨_, rfl, ?_⟩; have n0_ := A_ (hb); have n1_ := A_ (hi); clear HB; revert n0_ n1_; intro HB HI386; clear hb hb2; (try clear hi)) | ((with_reducible refine gate_callee (f := 74) rfl ?_); refine goesL_ (some 9) rfl rfl Try.func74 (by kernel_rfl) rfl #[.pointer (some ⟨g386, 0, none⟩), .int .i64 60] rfl (by (try simp only [mA, mB, mC]); first | done | rfl | (simp only [List.length_drop, List.length_take]; rfl)) ?_; (with_reducible refine (spec_l1Below.calls g386 t383 t384 t385 60 t387 t388 t389 w _ ?side1 ?side2 A3.out).mono ?_); (case side1 => exact HI386.out); (case side2 => exact HB.out); rintro e w16 ⟨rfl, hi, hb, hk⟩; refine ⟨_, rfl, ?_⟩; have n0_ := A_ (hb); have n1_ := A_ (hi); clear HB HI386; revert n0_ n1_; intro HB HI386; clear hb hk; (try clear hi)) | ((with_reducible refine gate_callee (f := 77) rfl ?_); refine goesL_ (some 11) rfl rfl Try.func77 (by kernel_rfl) rfl #[.pointer (some ⟨g386, 0, none⟩), .int .i64 2] rfl (by (try simp only [mA, mB, mC]); first | done | rfl | (simp only [List.length_drop, List.length_take]; rfl)) ?_; (with_reducible refine (spec_l1Once.calls g386 t383 t388 t389 2 false t391 t392 w _ ?side1 ?side2 A4.out).mono ?_); (case side1 => exact HI386.out); (case side2 => exact HB.out); rintro e w17 ⟨rfl, hi, hb, hk⟩; refine ⟨_, rfl, ?_⟩; have n0_ := A_ (hb); have n1_ := A_ (hi); clear HB HI386; revert n0_ n1_; intro HB HI386; clear hb hk; (try clear hi)) | ((with_reducible refine gate_callee (f := 74) rfl ?_); refine goesL_ (some 17) rfl rfl Try.func74 (by kernel_rfl) rfl #[.pointer (some ⟨g386, 0, none⟩), .int .i64 40] rfl (by (try simp only [mA, mB, mC]); first | done | rfl | (simp only [List.length_drop, List.length_take]; rfl)) ?_; (with_reducible refine (spec_l1Below.calls g386 t383 t391 t392 40 t395 t396 t397 w _ ?side1 ?side2 A13.out).mono ?_); (case side1 => exact HI386.out); (case side2 => exact HB.out); rintro e w18 ⟨rfl, hi, hb, hk⟩; refine ⟨_, rfl, ?_⟩; have n0_ := A_ (hb); have n1_ := A_ (hi); clear HB HI386; revert n0_ n1_; intro HB HI386; clear hb hk; (try clear hi)) | ((with_reducible refine gate_callee (f := 74) rfl ?_); refine goesL_ (some 20) rfl rfl Try.func74 (by kernel_rfl) rfl #[.pointer (some ⟨g386, 0, none⟩), .int .i64 60] rfl (by (try simp only [mA, mB, mC]); first | done | rfl | (simp only [List.length_drop, List.length_take]; rfl)) ?_; (with_reducible refine (spec_l1Below.calls g386 t383 t396 t397 60 t398 t399 t400 w _ ?side1 ?side2 A14.out).mono ?_); (case side1 => exact HI386.out); (case side2 => exact HB.out); rintro e w19 ⟨rfl, hi, hb, hk⟩; refine ⟨_, rfl, ?_⟩; have n0_ := A_ (hb); have n1_ := A_ (hi); clear HB HI386; revert n0_ n1_; intro HB HI386; clear hb hk; (try clear hi)))
 go_ret2
 exact ⟨by rfl, HB.out⟩

/-! ### spec_NamedSequence: function 98 -/
def spec_NamedSequence.f (a0 : ByteArray) : Option (Int × (List (List Int)) × List Int × Bool) := if a0.toList = ([116, 104, 117, 101] : List UInt8) then (some (2, (([(([0, 1] : List Int)), (([1, 0] : List Int))] : List (List Int))), (([0, 1] : List Int)), true)) else (if a0.toList = ([114, 117, 100, 105, 110] : List UInt8) then (some (2, (([(([0, 1] : List Int)), (([0, 2] : List Int)), (([3, 1] : List Int)), (([3, 2] : List Int))] : List (List Int))), (([0, 0, 1, 1] : List Int)), true)) else (if a0.toList = ([112, 101, 114, 105, 111, 100] : List UInt8) then (some (2, (([(([0, 1] : List Int)), (([2, 3] : List Int)), (([0, 1] : List Int)), (([2, 3] : List Int))] : List (List Int))), (([0, 0, 1, 1] : List Int)), true)) else (if a0.toList = ([112, 111, 119, 101, 114, 115] : List UInt8) then (some (2, (([(([0, 1] : List Int)), (([1, 2] : List Int)), (([2, 2] : List Int))] : List (List Int))), (([0, 1, 0] : List Int)), true)) else (if a0.toList = ([99, 97, 110, 116, 111, 114] : List UInt8) then (some (3, (([(([0, 1, 0] : List Int)), (([1, 1, 1] : List Int))] : List (List Int))), (([1, 0] : List Int)), true)) else (if a0.toList = ([109, 111, 100] : List UInt8) then (some (2, (([(([0, 1] : List Int)), (([2, 0] : List Int)), (([1, 2] : List Int))] : List (List Int))), (([0, 1, 2] : List Int)), true)) else (some (0, ([] : List (List Int)), ([] : List Int), false)))))))
theorem spec_NamedSequence.calls (a0 : ByteArray) (r1 : Int) (r2 : List (List Int)) (r3 : List Int) (r4 : Bool) (w : World) (h : spec_NamedSequence.f a0 = some (r1, r2, r3, r4)) :
  Calls Try.prog 98 #[.string a0] w fun e w' => ∃ v1_ v2_ : Value, e = .returned (.tuple #[.agg #[.int .i64 r1, v1_, v2_], .bool r4]) ∧ Kd.N (Kd.slice 3 (Kd.int .i64)) 24 w' w.heap.size (fun k_ => (w.heap.size ≤ k_) ∧ some k_ ≠ (v2_ : Value).ownBlock) v1_ r2 ∧ Kd.R (Kd.int .i64) 3 w' w.heap.size (fun k_ => (w.heap.size ≤ k_)) v2_ r3 ∧ Below w.heap.size w w' := by
 have hu72 := Try.underlying72
 have HB := A_ (Below.refl w.heap.size w)
 unfold spec_NamedSequence.f at h
 have H := h
 clear h
 by_cases c2 : a0.toList = ([116, 104, 117, 101] : List UInt8)
 ·rw [if_pos c2] at H
  have c2b0 : (a0.toList == ([116, 104, 117, 101] : List UInt8)) = true := beq_iff_eq.mpr c2
  have c2b1 : (a0.toList != ([116, 104, 117, 101] : List UInt8)) = false := bne_eq_false_iff_eq.mpr c2
  clear c2
  obtain ⟨y402, hy402⟩ : ∃ y_ : List Int, y_ = (([0, 1] : List Int)) := ⟨_, rfl⟩
  replace H : (some (2, (([y402, (([1, 0] : List Int))] : List (List Int))), (([0, 1] : List Int)), true)) = some (r1, r2, r3, r4) := by (rw [hy402]; with_reducible exact H)
  have Ny402 := A_ hy402
  clear hy402
  obtain ⟨y405, hy405⟩ : ∃ y_ : List Int, y_ = (([1, 0] : List Int)) := ⟨_, rfl⟩
  replace H : (some (2, (([y402, y405] : List (List Int))), (([0, 1] : List Int)), true)) = some (r1, r2, r3, r4) := by (rw [hy405]; with_reducible exact H)
  have Ny405 := A_ hy405
  clear hy405
  obtain ⟨y408, hy408⟩ : ∃ y_ : List (List Int), y_ = (([y402, y405] : List (List Int))) := ⟨_, rfl⟩
  replace H : (some (2, y408, (([0, 1] : List Int)), true)) = some (r1, r2, r3, r4) := by (rw [hy408]; with_reducible exact H)
  have Ny408 := A_ hy408
  clear hy408
  obtain ⟨y411, hy411⟩ : ∃ y_ : List Int, y_ = (([0, 1] : List Int)) := ⟨_, rfl⟩
  replace H : (some (2, y408, y411, true)) = some (r1, r2, r3, r4) := by (rw [hy411]; with_reducible exact H)
  have Ny411 := A_ hy411
  clear hy411
  simp only [Option.some.injEq, Prod.mk.injEq] at H
  obtain ⟨rfl, rfl, rfl, rfl⟩ := H
  go_enter Try.func98, Try.ntmps98
  go_wp2_with (first | ((with_reducible refine gate_dst (N := 2) rfl ?_); refine box_event ?hg (N := 2) ?hd (cs := #[.int .i64 0, .slice none 0 0, .slice none 0 0]) (t := 72) ?hr ?_; (case hd | hg => rfl); (case hr => go_simp; done); intro gb401 hg w3 hbox hb; have n0_ := A_ (below_step HB.out hb); have n1_ := A_ (hbox); have n2_ := A_ ((by rw [hg]; exact (below_size HB.out) : w.heap.size ≤ gb401)); have n3_ := A_ ((by rw [hg]; exact (below_size HB.out) : w.heap.size ≤ gb401)); clear HB; revert n0_ n1_ n2_ n3_; intro HB BK401 GW401 GE401; clear hb hbox hg) | ((with_reducible refine gate_dst (N := 7) rfl ?_); refine Kd.R_lit (Kd.int .i64) _ 3 ?hg (N := 7) ?hd (xs := ([0, 1] : List Int)) (inner := [.int .i64 0, .int .i64 1]) (ok := fun _ => True) (okp := fun _ => True) ?hr ?hp (fun _ hk => hk) trivial (Below.refl _ _) (Nat.le_refl _) (by simp) ?_; (case hd | hg => rfl); (case hr => go_simp; done); (case hp => exact (Reps.one (show Kd.M (Kd.int .i64) _ _ _ 0 [.int .i64 0] from rfl) (Reps.one (show Kd.M (Kd.int .i64) _ _ _ 1 [.int .i64 1] from rfl) (Reps.none _ _)))); intro v403 w4 ho5 hb hg_ hnew_; clear hg_ hnew_; (first | rw [← Ny402.out] at ho5 | (simp only [Int.reduceToNat] at ho5; rw [← Ny402.out] at ho5)); have n0_ := A_ (Kd.R_lower (Kd.R_newM (M := fun k_ => (w.heap.size ≤ k_)) ho5 (below_size HB.out) (fun k_ h_ => h_)) (below_size HB.out)); have n1_ := A_ (blk_below BK401.out hb); have n2_ := A_ (below_step HB.out hb); clear BK401 HB; revert n0_ n1_ n2_; intro HO404 BK401 HB; clear hb ho5) | ((with_reducible refine gate_dst (N := 8) rfl ?_); refine Kd.R_lit (Kd.int .i64) _ 3 ?hg (N := 8) ?hd (xs := ([1, 0] : List Int)) (inner := [.int .i64 1, .int .i64 0]) (ok := fun _ => True) (okp := fun _ => True) ?hr ?hp (fun _ hk => hk) trivial (Below.refl _ _) (Nat.le_refl _) (by simp) ?_; (case hd | hg => rfl); (case hr => go_simp; done); (case hp => exact (Reps.one (show Kd.M (Kd.int .i64) _ _ _ 1 [.int .i64 1] from rfl) (Reps.one (show Kd.M (Kd.int .i64) _ _ _ 0 [.int .i64 0] from rfl) (Reps.none _ _)))); intro v406 w6 ho7 hb hg_ hnew_; clear hg_ hnew_; (first | rw [← Ny405.out] at ho7 | (simp only [Int.reduceToNat] at ho7; rw [← Ny405.out] at ho7)); have n0_ := A_ (Kd.R_elder' HO404.out (Kd.R_base ho7) hb); have n1_ := A_ (Kd.R_lower (Kd.R_new' (Kd.R_newM (M := fun k_ => (w.heap.size ≤ k_)) ho7 (below_size HB.out) (fun k_ h_ => h_)) (Kd.R_lt HO404.out)) (below_size HB.out)); have n2_ := A_ (blk_below BK401.out hb); have n3_ := A_ (below_step HB.out hb); clear HO404 BK401 HB; revert n0_ n1_ n2_ n3_; intro HO404 HO407 BK401 HB; clear hb ho7; obtain ⟨Ao8, co8, eo8⟩ := Kd.R_slice HO404.out; subst eo8; obtain ⟨Ao9, co9, eo9⟩ := Kd.R_slice HO407.out; subst eo9) | ((with_reducible refine gate_dst (N := 9) rfl ?_); refine Kd.N_lit (Kd.slice 3 (Kd.int .i64)) _ 24 ?hg (N' := 9) ?hd (xs := ([y402, y405] : List (List Int))) (inner := [.slice Ao8 y402.length co8, .slice Ao9 y405.length co9]) (ok := (fun k_ => (w.heap.size ≤ k_) ∧ k_ ≠ gb401)) (okp := (fun k_ => (w.heap.size ≤ k_) ∧ k_ ≠ gb401)) ?hr ?hp (fun _ hk => hk) ((show ∀ k_, w6.heap.size ≤ k_ → (fun k_ => (w.heap.size ≤ k_) ∧ k_ ≠ gb401) k_ from fun k_ hk => ⟨(Nat.le_trans (below_size HB.out) hk), Kd.freshB BK401.out k_ hk⟩) _ (Nat.le_refl _)) (Below.refl _ _) (Nat.le_refl _) (by simp) ?_; (case hd | hg => rfl); (case hr => go_simp; done); (case hp => exact (Reps.one (show Kd.FK (Kd.slice 3 (Kd.int .i64)) _ _ y402 [.slice Ao8 y402.length co8] from (Kd.FK_slice_mk (Kd.R_reads' (Kd.R_mono (ok' := (fun k_ => (w.heap.size ≤ k_) ∧ k_ ≠ gb401)) (Kd.R_types (HO404.out) BK401.out (by decide)) (fun k_ hk => ⟨hk.1.1.1, hk.2⟩))).2.1 (Kd.R_F (Kd.R_mono (ok' := (fun k_ => (w.heap.size ≤ k_) ∧ k_ ≠ gb401)) (Kd.R_types (HO404.out) BK401.out (by decide)) (fun k_ hk => ⟨hk.1.1.1, hk.2⟩))))) (Reps.one (show Kd.FK (Kd.slice 3 (Kd.int .i64)) _ _ y405 [.slice Ao9 y405.length co9] from (Kd.FK_slice_mk (Kd.R_reads' (Kd.R_mono (ok' := (fun k_ => (w.heap.size ≤ k_) ∧ k_ ≠ gb401)) (Kd.R_types (HO407.out) BK401.out (by decide)) (fun k_ hk => ⟨hk.1.1.1, hk.2⟩))).2.1 (Kd.R_F (Kd.R_mono (ok' := (fun k_ => (w.heap.size ≤ k_) ∧ k_ ≠ gb401)) (Kd.R_types (HO407.out) BK401.out (by decide)) (fun k_ hk => ⟨hk.1.1.1, hk.2⟩))))) (Reps.none _ _)))); intro v409 w10 ho11 hb hg_ hnew_; clear hg_ hnew_; (first | rw [← Ny408.out] at ho11 | (simp only [Int.reduceToNat] at ho11; rw [← Ny408.out] at ho11)); have n0_ := A_ (Kd.N_lower ho11 (below_size HB.out)); have n1_ := A_ (blk_below BK401.out hb); have n2_ := A_ (below_step HB.out hb); clear BK401 HB HO404 HO407; revert n0_ n1_ n2_; intro HO410 BK401 HB; clear hb ho11) | ((with_reducible refine gate_dst (N := 10) rfl ?_); refine Kd.R_lit (Kd.int .i64) _ 3 ?hg (N := 10) ?hd (xs := ([0, 1] : List Int)) (inner := [.int .i64 0, .int .i64 1]) (ok := fun _ => True) (okp := fun _ => True) ?hr ?hp (fun _ hk => hk) trivial (Below.refl _ _) (Nat.le_refl _) (by simp) ?_; (case hd | hg => rfl); (case hr => go_simp; done); (case hp => exact (Reps.one (show Kd.M (Kd.int .i64) _ _ _ 0 [.int .i64 0] from rfl) (Reps.one (show Kd.M (Kd.int .i64) _ _ _ 1 [.int .i64 1] from rfl) (Reps.none _ _)))); intro v412 w12 ho13 hb hg_ hnew_; clear hg_ hnew_; (first | rw [← Ny411.out] at ho13 | (simp only [Int.reduceToNat] at ho13; rw [← Ny411.out] at ho13)); have n0_ := A_ (Kd.N_elder' HO410.out (Kd.R_base ho13) hb); have n1_ := A_ (Kd.R_lower (Kd.R_newM (M := fun k_ => (w.heap.size ≤ k_)) ho13 (below_size HB.out) (fun k_ h_ => h_)) (below_size HB.out)); have n2_ := A_ (blk_below BK401.out hb); have n3_ := A_ (below_step HB.out hb); clear HO410 BK401 HB; revert n0_ n1_ n2_ n3_; intro HO410 HO413 BK401 HB; clear hb ho13; obtain ⟨Ao14, co14, eo14⟩ := Kd.R_slice HO413.out; subst eo14; obtain ⟨Ao15, co15, eo15⟩ := Kd.N_slice HO410.out; subst eo15; have hcz16_0 : w12.cell? ⟨gb401, 0, none⟩ = some (.int .i64 0) := (blk_cell BK401.out 0).trans rfl; have hcz16_1 : w12.cell? ⟨gb401, 1, none⟩ = some (.slice none 0 0) := (blk_cell BK401.out 1).trans rfl; have hcz16_2 : w12.cell? ⟨gb401, 2, none⟩ = some (.slice none 0 0) := (blk_cell BK401.out 2).trans rfl; have hfz16_0 := blk_frozen BK401.out 0; have hfz16_1 := blk_frozen BK401.out 1; have hfz16_2 := blk_frozen BK401.out 2))
  refine bodyPost_ret (results_ct rfl _ _ gb401 72 #[.int .i64 2, .slice Ao15 y408.length co15, .slice Ao14 y411.length co14] (0, 0) _ rfl (by refine blk_put (cs := #[.int .i64 2, .slice Ao15 y408.length co15, .slice none 0 0]) ?_ 2 _ rfl; refine blk_put (cs := #[.int .i64 2, .slice none 0 0, .slice none 0 0]) ?_ 1 _ rfl; refine blk_put (cs := #[.int .i64 0, .slice none 0 0, .slice none 0 0]) ?_ 0 _ rfl; exact BK401.out) Try.underlying72 rfl (by kernel_rfl)) rfl ?_
  exact ⟨_, _, by rfl, by exact Kd.N_mono (Kd.N_far (p := ⟨gb401, 2, none⟩) (Kd.N_far (p := ⟨gb401, 1, none⟩) (Kd.N_far (p := ⟨gb401, 0, none⟩) (Kd.N_mono HO410.out (fun k_ hk => (⟨hk, hk.1.2⟩ : _ ∧ k_ ≠ gb401))) (fun _ hk => hk.2) (.int .i64 2)) (fun _ hk => hk.2) (.slice Ao15 y408.length co15)) (fun _ hk => hk.2) (.slice Ao14 y411.length co14)) (fun _ hk => ⟨hk.1.1.1, hk.1.2⟩), by exact Kd.R_mono (Kd.R_far (p := ⟨gb401, 2, none⟩) (Kd.R_far (p := ⟨gb401, 1, none⟩) (Kd.R_far (p := ⟨gb401, 0, none⟩) (Kd.R_types HO413.out BK401.out (by decide)) (fun _ hk => hk.2) (.int .i64 2)) (fun _ hk => hk.2) (.slice Ao15 y408.length co15)) (fun _ hk => hk.2) (.slice Ao14 y411.length co14)) (fun _ hk => hk.1.1), by repeat (first | (with_reducible first | exact HB.out | apply below_alloc | apply pw_below_drewN | apply below_drew1 | refine below_set ?_ GE401.out) | exact HB.out)⟩
 rw [if_neg c2] at H
 have c2b0 : (a0.toList == ([116, 104, 117, 101] : List UInt8)) = false := beq_eq_false_iff_ne.mpr c2
 have c2b1 : (a0.toList != ([116, 104, 117, 101] : List UInt8)) = true := bne_iff_ne.mpr c2
 by_cases c17 : a0.toList = ([114, 117, 100, 105, 110] : List UInt8)
 ·rw [if_pos c17] at H
  have c17b0 : (a0.toList == ([114, 117, 100, 105, 110] : List UInt8)) = true := beq_iff_eq.mpr c17
  have c17b1 : (a0.toList != ([114, 117, 100, 105, 110] : List UInt8)) = false := bne_eq_false_iff_eq.mpr c17
  clear c17
  obtain ⟨y414, hy414⟩ : ∃ y_ : List Int, y_ = (([0, 1] : List Int)) := ⟨_, rfl⟩
  replace H : (some (2, (([y414, (([0, 2] : List Int)), (([3, 1] : List Int)), (([3, 2] : List Int))] : List (List Int))), (([0, 0, 1, 1] : List Int)), true)) = some (r1, r2, r3, r4) := by (rw [hy414]; with_reducible exact H)
  have Ny414 := A_ hy414
  clear hy414
  obtain ⟨y417, hy417⟩ : ∃ y_ : List Int, y_ = (([0, 2] : List Int)) := ⟨_, rfl⟩
  replace H : (some (2, (([y414, y417, (([3, 1] : List Int)), (([3, 2] : List Int))] : List (List Int))), (([0, 0, 1, 1] : List Int)), true)) = some (r1, r2, r3, r4) := by (rw [hy417]; with_reducible exact H)
  have Ny417 := A_ hy417
  clear hy417
  obtain ⟨y420, hy420⟩ : ∃ y_ : List Int, y_ = (([3, 1] : List Int)) := ⟨_, rfl⟩
  replace H : (some (2, (([y414, y417, y420, (([3, 2] : List Int))] : List (List Int))), (([0, 0, 1, 1] : List Int)), true)) = some (r1, r2, r3, r4) := by (rw [hy420]; with_reducible exact H)
  have Ny420 := A_ hy420
  clear hy420
  obtain ⟨y423, hy423⟩ : ∃ y_ : List Int, y_ = (([3, 2] : List Int)) := ⟨_, rfl⟩
  replace H : (some (2, (([y414, y417, y420, y423] : List (List Int))), (([0, 0, 1, 1] : List Int)), true)) = some (r1, r2, r3, r4) := by (rw [hy423]; with_reducible exact H)
  have Ny423 := A_ hy423
  clear hy423
  obtain ⟨y426, hy426⟩ : ∃ y_ : List (List Int), y_ = (([y414, y417, y420, y423] : List (List Int))) := ⟨_, rfl⟩
  replace H : (some (2, y426, (([0, 0, 1, 1] : List Int)), true)) = some (r1, r2, r3, r4) := by (rw [hy426]; with_reducible exact H)
  have Ny426 := A_ hy426
  clear hy426
  obtain ⟨y429, hy429⟩ : ∃ y_ : List Int, y_ = (([0, 0, 1, 1] : List Int)) := ⟨_, rfl⟩
  replace H : (some (2, y426, y429, true)) = some (r1, r2, r3, r4) := by (rw [hy429]; with_reducible exact H)
  have Ny429 := A_ hy429
  clear hy429
  simp only [Option.some.injEq, Prod.mk.injEq] at H
  obtain ⟨rfl, rfl, rfl, rfl⟩ := H
  go_enter Try.func98, Try.ntmps98
  go_wp2_with (first | ((with_reducible refine gate_dst (N := 2) rfl ?_); refine box_event ?hg (N := 2) ?hd (cs := #[.int .i64 0, .slice none 0 0, .slice none 0 0]) (t := 72) ?hr ?_; (case hd | hg => rfl); (case hr => go_simp; done); intro gb401 hg w18 hbox hb; have n0_ := A_ (below_step HB.out hb); have n1_ := A_ (hbox); have n2_ := A_ ((by rw [hg]; exact (below_size HB.out) : w.heap.size ≤ gb401)); have n3_ := A_ ((by rw [hg]; exact (below_size HB.out) : w.heap.size ≤ gb401)); clear HB; revert n0_ n1_ n2_ n3_; intro HB BK401 GW401 GE401; clear hb hbox hg) | ((with_reducible refine gate_dst (N := 14) rfl ?_); refine Kd.R_lit (Kd.int .i64) _ 3 ?hg (N := 14) ?hd (xs := ([0, 1] : List Int)) (inner := [.int .i64 0, .int .i64 1]) (ok := fun _ => True) (okp := fun _ => True) ?hr ?hp (fun _ hk => hk) trivial (Below.refl _ _) (Nat.le_refl _) (by simp) ?_; (case hd | hg => rfl); (case hr => go_simp; done); (case hp => exact (Reps.one (show Kd.M (Kd.int .i64) _ _ _ 0 [.int .i64 0] from rfl) (Reps.one (show Kd.M (Kd.int .i64) _ _ _ 1 [.int .i64 1] from rfl) (Reps.none _ _)))); intro v415 w19 ho20 hb hg_ hnew_; clear hg_ hnew_; (first | rw [← Ny414.out] at ho20 | (simp only [Int.reduceToNat] at ho20; rw [← Ny414.out] at ho20)); have n0_ := A_ (Kd.R_lower (Kd.R_newM (M := fun k_ => (w.heap.size ≤ k_)) ho20 (below_size HB.out) (fun k_ h_ => h_)) (below_size HB.out)); have n1_ := A_ (blk_below BK401.out hb); have n2_ := A_ (below_step HB.out hb); clear BK401 HB; revert n0_ n1_ n2_; intro HO416 BK401 HB; clear hb ho20) | ((with_reducible refine gate_dst (N := 15) rfl ?_); refine Kd.R_lit (Kd.int .i64) _ 3 ?hg (N := 15) ?hd (xs := ([0, 2] : List Int)) (inner := [.int .i64 0, .int .i64 2]) (ok := fun _ => True) (okp := fun _ => True) ?hr ?hp (fun _ hk => hk) trivial (Below.refl _ _) (Nat.le_refl _) (by simp) ?_; (case hd | hg => rfl); (case hr => go_simp; done); (case hp => exact (Reps.one (show Kd.M (Kd.int .i64) _ _ _ 0 [.int .i64 0] from rfl) (Reps.one (show Kd.M (Kd.int .i64) _ _ _ 2 [.int .i64 2] from rfl) (Reps.none _ _)))); intro v418 w21 ho22 hb hg_ hnew_; clear hg_ hnew_; (first | rw [← Ny417.out] at ho22 | (simp only [Int.reduceToNat] at ho22; rw [← Ny417.out] at ho22)); have n0_ := A_ (Kd.R_elder' HO416.out (Kd.R_base ho22) hb); have n1_ := A_ (Kd.R_lower (Kd.R_new' (Kd.R_newM (M := fun k_ => (w.heap.size ≤ k_)) ho22 (below_size HB.out) (fun k_ h_ => h_)) (Kd.R_lt HO416.out)) (below_size HB.out)); have n2_ := A_ (blk_below BK401.out hb); have n3_ := A_ (below_step HB.out hb); clear HO416 BK401 HB; revert n0_ n1_ n2_ n3_; intro HO416 HO419 BK401 HB; clear hb ho22) | ((with_reducible refine gate_dst (N := 16) rfl ?_); refine Kd.R_lit (Kd.int .i64) _ 3 ?hg (N := 16) ?hd (xs := ([3, 1] : List Int)) (inner := [.int .i64 3, .int .i64 1]) (ok := fun _ => True) (okp := fun _ => True) ?hr ?hp (fun _ hk => hk) trivial (Below.refl _ _) (Nat.le_refl _) (by simp) ?_; (case hd | hg => rfl); (case hr => go_simp; done); (case hp => exact (Reps.one (show Kd.M (Kd.int .i64) _ _ _ 3 [.int .i64 3] from rfl) (Reps.one (show Kd.M (Kd.int .i64) _ _ _ 1 [.int .i64 1] from rfl) (Reps.none _ _)))); intro v421 w23 ho24 hb hg_ hnew_; clear hg_ hnew_; (first | rw [← Ny420.out] at ho24 | (simp only [Int.reduceToNat] at ho24; rw [← Ny420.out] at ho24)); have n0_ := A_ (Kd.R_elder' HO416.out (Kd.R_base ho24) hb); have n1_ := A_ (Kd.R_elder' HO419.out (Kd.R_base ho24) hb); have n2_ := A_ (Kd.R_lower (Kd.R_new' (Kd.R_new' (Kd.R_newM (M := fun k_ => (w.heap.size ≤ k_)) ho24 (below_size HB.out) (fun k_ h_ => h_)) (Kd.R_lt HO416.out)) (Kd.R_lt HO419.out)) (below_size HB.out)); have n3_ := A_ (blk_below BK401.out hb); have n4_ := A_ (below_step HB.out hb); clear HO416 HO419 BK401 HB; revert n0_ n1_ n2_ n3_ n4_; intro HO416 HO419 HO422 BK401 HB; clear hb ho24) | ((with_reducible refine gate_dst (N := 17) rfl ?_); refine Kd.R_lit (Kd.int .i64) _ 3 ?hg (N := 17) ?hd (xs := ([3, 2] : List Int)) (inner := [.int .i64 3, .int .i64 2]) (ok := fun _ => True) (okp := fun _ => True) ?hr ?hp (fun _ hk => hk) trivial (Below.refl _ _) (Nat.le_refl _) (by simp) ?_; (case hd | hg => rfl); (case hr => go_simp; done); (case hp => exact (Reps.one (show Kd.M (Kd.int .i64) _ _ _ 3 [.int .i64 3] from rfl) (Reps.one (show Kd.M (Kd.int .i64) _ _ _ 2 [.int .i64 2] from rfl) (Reps.none _ _)))); intro v424 w25 ho26 hb hg_ hnew_; clear hg_ hnew_; (first | rw [← Ny423.out] at ho26 | (simp only [Int.reduceToNat] at ho26; rw [← Ny423.out] at ho26)); have n0_ := A_ (Kd.R_elder' HO416.out (Kd.R_base ho26) hb); have n1_ := A_ (Kd.R_elder' HO419.out (Kd.R_base ho26) hb); have n2_ := A_ (Kd.R_elder' HO422.out (Kd.R_base ho26) hb); have n3_ := A_ (Kd.R_lower (Kd.R_new' (Kd.R_new' (Kd.R_new' (Kd.R_newM (M := fun k_ => (w.heap.size ≤ k_)) ho26 (below_size HB.out) (fun k_ h_ => h_)) (Kd.R_lt HO416.out)) (Kd.R_lt HO419.out)) (Kd.R_lt HO422.out)) (below_size HB.out)); have n4_ := A_ (blk_below BK401.out hb); have n5_ := A_ (below_step HB.out hb); clear HO416 HO419 HO422 BK401 HB; revert n0_ n1_ n2_ n3_ n4_ n5_; intro HO416 HO419 HO422 HO425 BK401 HB; clear hb ho26; obtain ⟨Ao27, co27, eo27⟩ := Kd.R_slice HO416.out; subst eo27; obtain ⟨Ao28, co28, eo28⟩ := Kd.R_slice HO419.out; subst eo28; obtain ⟨Ao29, co29, eo29⟩ := Kd.R_slice HO422.out; subst eo29; obtain ⟨Ao30, co30, eo30⟩ := Kd.R_slice HO425.out; subst eo30) | ((with_reducible refine gate_dst (N := 18) rfl ?_); refine Kd.N_lit (Kd.slice 3 (Kd.int .i64)) _ 24 ?hg (N' := 18) ?hd (xs := ([y414, y417, y420, y423] : List (List Int))) (inner := [.slice Ao27 y414.length co27, .slice Ao28 y417.length co28, .slice Ao29 y420.length co29, .slice Ao30 y423.length co30]) (ok := (fun k_ => (w.heap.size ≤ k_) ∧ k_ ≠ gb401)) (okp := (fun k_ => (w.heap.size ≤ k_) ∧ k_ ≠ gb401)) ?hr ?hp (fun _ hk => hk) ((show ∀ k_, w25.heap.size ≤ k_ → (fun k_ => (w.heap.size ≤ k_) ∧ k_ ≠ gb401) k_ from fun k_ hk => ⟨(Nat.le_trans (below_size HB.out) hk), Kd.freshB BK401.out k_ hk⟩) _ (Nat.le_refl _)) (Below.refl _ _) (Nat.le_refl _) (by simp) ?_; (case hd | hg => rfl); (case hr => go_simp; done); (case hp => exact (Reps.one (show Kd.FK (Kd.slice 3 (Kd.int .i64)) _ _ y414 [.slice Ao27 y414.length co27] from (Kd.FK_slice_mk (Kd.R_reads' (Kd.R_mono (ok' := (fun k_ => (w.heap.size ≤ k_) ∧ k_ ≠ gb401)) (Kd.R_types (HO416.out) BK401.out (by decide)) (fun k_ hk => ⟨hk.1.1.1.1.1, hk.2⟩))).2.1 (Kd.R_F (Kd.R_mono (ok' := (fun k_ => (w.heap.size ≤ k_) ∧ k_ ≠ gb401)) (Kd.R_types (HO416.out) BK401.out (by decide)) (fun k_ hk => ⟨hk.1.1.1.1.1, hk.2⟩))))) (Reps.one (show Kd.FK (Kd.slice 3 (Kd.int .i64)) _ _ y417 [.slice Ao28 y417.length co28] from (Kd.FK_slice_mk (Kd.R_reads' (Kd.R_mono (ok' := (fun k_ => (w.heap.size ≤ k_) ∧ k_ ≠ gb401)) (Kd.R_types (HO419.out) BK401.out (by decide)) (fun k_ hk => ⟨hk.1.1.1.1.1, hk.2⟩))).2.1 (Kd.R_F (Kd.R_mono (ok' := (fun k_ => (w.heap.size ≤ k_) ∧ k_ ≠ gb401)) (Kd.R_types (HO419.out) BK401.out (by decide)) (fun k_ hk => ⟨hk.1.1.1.1.1, hk.2⟩))))) (Reps.one (show Kd.FK (Kd.slice 3 (Kd.int .i64)) _ _ y420 [.slice Ao29 y420.length co29] from (Kd.FK_slice_mk (Kd.R_reads' (Kd.R_mono (ok' := (fun k_ => (w.heap.size ≤ k_) ∧ k_ ≠ gb401)) (Kd.R_types (HO422.out) BK401.out (by decide)) (fun k_ hk => ⟨hk.1.1.1.1.1, hk.2⟩))).2.1 (Kd.R_F (Kd.R_mono (ok' := (fun k_ => (w.heap.size ≤ k_) ∧ k_ ≠ gb401)) (Kd.R_types (HO422.out) BK401.out (by decide)) (fun k_ hk => ⟨hk.1.1.1.1.1, hk.2⟩))))) (Reps.one (show Kd.FK (Kd.slice 3 (Kd.int .i64)) _ _ y423 [.slice Ao30 y423.length co30] from (Kd.FK_slice_mk (Kd.R_reads' (Kd.R_mono (ok' := (fun k_ => (w.heap.size ≤ k_) ∧ k_ ≠ gb401)) (Kd.R_types (HO425.out) BK401.out (by decide)) (fun k_ hk => ⟨hk.1.1.1.1.1, hk.2⟩))).2.1 (Kd.R_F (Kd.R_mono (ok' := (fun k_ => (w.heap.size ≤ k_) ∧ k_ ≠ gb401)) (Kd.R_types (HO425.out) BK401.out (by decide)) (fun k_ hk => ⟨hk.1.1.1.1.1, hk.2⟩))))) (Reps.none _ _)))))); intro v427 w31 ho32 hb hg_ hnew_; clear hg_ hnew_; (first | rw [← Ny426.out] at ho32 | (simp only [Int.reduceToNat] at ho32; rw [← Ny426.out] at ho32)); have n0_ := A_ (Kd.N_lower ho32 (below_size HB.out)); have n1_ := A_ (blk_below BK401.out hb); have n2_ := A_ (below_step HB.out hb); clear BK401 HB HO416 HO419 HO422 HO425; revert n0_ n1_ n2_; intro HO428 BK401 HB; clear hb ho32) | ((with_reducible refine gate_dst (N := 19) rfl ?_); refine Kd.R_lit (Kd.int .i64) _ 3 ?hg (N := 19) ?hd (xs := ([0, 0, 1, 1] : List Int)) (inner := [.int .i64 0, .int .i64 0, .int .i64 1, .int .i64 1]) (ok := fun _ => True) (okp := fun _ => True) ?hr ?hp (fun _ hk => hk) trivial (Below.refl _ _) (Nat.le_refl _) (by simp) ?_; (case hd | hg => rfl); (case hr => go_simp; done); (case hp => exact (Reps.one (show Kd.M (Kd.int .i64) _ _ _ 0 [.int .i64 0] from rfl) (Reps.one (show Kd.M (Kd.int .i64) _ _ _ 0 [.int .i64 0] from rfl) (Reps.one (show Kd.M (Kd.int .i64) _ _ _ 1 [.int .i64 1] from rfl) (Reps.one (show Kd.M (Kd.int .i64) _ _ _ 1 [.int .i64 1] from rfl) (Reps.none _ _)))))); intro v430 w33 ho34 hb hg_ hnew_; clear hg_ hnew_; (first | rw [← Ny429.out] at ho34 | (simp only [Int.reduceToNat] at ho34; rw [← Ny429.out] at ho34)); have n0_ := A_ (Kd.N_elder' HO428.out (Kd.R_base ho34) hb); have n1_ := A_ (Kd.R_lower (Kd.R_newM (M := fun k_ => (w.heap.size ≤ k_)) ho34 (below_size HB.out) (fun k_ h_ => h_)) (below_size HB.out)); have n2_ := A_ (blk_below BK401.out hb); have n3_ := A_ (below_step HB.out hb); clear HO428 BK401 HB; revert n0_ n1_ n2_ n3_; intro HO428 HO431 BK401 HB; clear hb ho34; obtain ⟨Ao35, co35, eo35⟩ := Kd.R_slice HO431.out; subst eo35; obtain ⟨Ao36, co36, eo36⟩ := Kd.N_slice HO428.out; subst eo36; have hcz37_0 : w33.cell? ⟨gb401, 0, none⟩ = some (.int .i64 0) := (blk_cell BK401.out 0).trans rfl; have hcz37_1 : w33.cell? ⟨gb401, 1, none⟩ = some (.slice none 0 0) := (blk_cell BK401.out 1).trans rfl; have hcz37_2 : w33.cell? ⟨gb401, 2, none⟩ = some (.slice none 0 0) := (blk_cell BK401.out 2).trans rfl; have hfz37_0 := blk_frozen BK401.out 0; have hfz37_1 := blk_frozen BK401.out 1; have hfz37_2 := blk_frozen BK401.out 2))
  refine bodyPost_ret (results_ct rfl _ _ gb401 72 #[.int .i64 2, .slice Ao36 y426.length co36, .slice Ao35 y429.length co35] (0, 0) _ rfl (by refine blk_put (cs := #[.int .i64 2, .slice Ao36 y426.length co36, .slice none 0 0]) ?_ 2 _ rfl; refine blk_put (cs := #[.int .i64 2, .slice none 0 0, .slice none 0 0]) ?_ 1 _ rfl; refine blk_put (cs := #[.int .i64 0, .slice none 0 0, .slice none 0 0]) ?_ 0 _ rfl; exact BK401.out) Try.underlying72 rfl (by kernel_rfl)) rfl ?_
  exact ⟨_, _, by rfl, by exact Kd.N_mono (Kd.N_far (p := ⟨gb401, 2, none⟩) (Kd.N_far (p := ⟨gb401, 1, none⟩) (Kd.N_far (p := ⟨gb401, 0, none⟩) (Kd.N_mono HO428.out (fun k_ hk => (⟨hk, hk.1.2⟩ : _ ∧ k_ ≠ gb401))) (fun _ hk => hk.2) (.int .i64 2)) (fun _ hk => hk.2) (.slice Ao36 y426.length co36)) (fun _ hk => hk.2) (.slice Ao35 y429.length co35)) (fun _ hk => ⟨hk.1.1.1, hk.1.2⟩), by exact Kd.R_mono (Kd.R_far (p := ⟨gb401, 2, none⟩) (Kd.R_far (p := ⟨gb401, 1, none⟩) (Kd.R_far (p := ⟨gb401, 0, none⟩) (Kd.R_types HO431.out BK401.out (by decide)) (fun _ hk => hk.2) (.int .i64 2)) (fun _ hk => hk.2) (.slice Ao36 y426.length co36)) (fun _ hk => hk.2) (.slice Ao35 y429.length co35)) (fun _ hk => hk.1.1), by repeat (first | (with_reducible first | exact HB.out | apply below_alloc | apply pw_below_drewN | apply below_drew1 | refine below_set ?_ GE401.out) | exact HB.out)⟩
 rw [if_neg c17] at H
 have c17b0 : (a0.toList == ([114, 117, 100, 105, 110] : List UInt8)) = false := beq_eq_false_iff_ne.mpr c17
 have c17b1 : (a0.toList != ([114, 117, 100, 105, 110] : List UInt8)) = true := bne_iff_ne.mpr c17
 by_cases c38 : a0.toList = ([112, 101, 114, 105, 111, 100] : List UInt8)
 ·rw [if_pos c38] at H
  have c38b0 : (a0.toList == ([112, 101, 114, 105, 111, 100] : List UInt8)) = true := beq_iff_eq.mpr c38
  have c38b1 : (a0.toList != ([112, 101, 114, 105, 111, 100] : List UInt8)) = false := bne_eq_false_iff_eq.mpr c38
  clear c38
  obtain ⟨y432, hy432⟩ : ∃ y_ : List Int, y_ = (([0, 1] : List Int)) := ⟨_, rfl⟩
  replace H : (some (2, (([y432, (([2, 3] : List Int)), (([0, 1] : List Int)), (([2, 3] : List Int))] : List (List Int))), (([0, 0, 1, 1] : List Int)), true)) = some (r1, r2, r3, r4) := by (rw [hy432]; with_reducible exact H)
  have Ny432 := A_ hy432
  clear hy432
  obtain ⟨y435, hy435⟩ : ∃ y_ : List Int, y_ = (([2, 3] : List Int)) := ⟨_, rfl⟩
  replace H : (some (2, (([y432, y435, (([0, 1] : List Int)), (([2, 3] : List Int))] : List (List Int))), (([0, 0, 1, 1] : List Int)), true)) = some (r1, r2, r3, r4) := by (rw [hy435]; with_reducible exact H)
  have Ny435 := A_ hy435
  clear hy435
  obtain ⟨y438, hy438⟩ : ∃ y_ : List Int, y_ = (([0, 1] : List Int)) := ⟨_, rfl⟩
  replace H : (some (2, (([y432, y435, y438, (([2, 3] : List Int))] : List (List Int))), (([0, 0, 1, 1] : List Int)), true)) = some (r1, r2, r3, r4) := by (rw [hy438]; with_reducible exact H)
  have Ny438 := A_ hy438
  clear hy438
  obtain ⟨y441, hy441⟩ : ∃ y_ : List Int, y_ = (([2, 3] : List Int)) := ⟨_, rfl⟩
  replace H : (some (2, (([y432, y435, y438, y441] : List (List Int))), (([0, 0, 1, 1] : List Int)), true)) = some (r1, r2, r3, r4) := by (rw [hy441]; with_reducible exact H)
  have Ny441 := A_ hy441
  clear hy441
  obtain ⟨y444, hy444⟩ : ∃ y_ : List (List Int), y_ = (([y432, y435, y438, y441] : List (List Int))) := ⟨_, rfl⟩
  replace H : (some (2, y444, (([0, 0, 1, 1] : List Int)), true)) = some (r1, r2, r3, r4) := by (rw [hy444]; with_reducible exact H)
  have Ny444 := A_ hy444
  clear hy444
  obtain ⟨y447, hy447⟩ : ∃ y_ : List Int, y_ = (([0, 0, 1, 1] : List Int)) := ⟨_, rfl⟩
  replace H : (some (2, y444, y447, true)) = some (r1, r2, r3, r4) := by (rw [hy447]; with_reducible exact H)
  have Ny447 := A_ hy447
  clear hy447
  simp only [Option.some.injEq, Prod.mk.injEq] at H
  obtain ⟨rfl, rfl, rfl, rfl⟩ := H
  go_enter Try.func98, Try.ntmps98
  go_wp2_with (first | ((with_reducible refine gate_dst (N := 2) rfl ?_); refine box_event ?hg (N := 2) ?hd (cs := #[.int .i64 0, .slice none 0 0, .slice none 0 0]) (t := 72) ?hr ?_; (case hd | hg => rfl); (case hr => go_simp; done); intro gb401 hg w39 hbox hb; have n0_ := A_ (below_step HB.out hb); have n1_ := A_ (hbox); have n2_ := A_ ((by rw [hg]; exact (below_size HB.out) : w.heap.size ≤ gb401)); have n3_ := A_ ((by rw [hg]; exact (below_size HB.out) : w.heap.size ≤ gb401)); clear HB; revert n0_ n1_ n2_ n3_; intro HB BK401 GW401 GE401; clear hb hbox hg) | ((with_reducible refine gate_dst (N := 23) rfl ?_); refine Kd.R_lit (Kd.int .i64) _ 3 ?hg (N := 23) ?hd (xs := ([0, 1] : List Int)) (inner := [.int .i64 0, .int .i64 1]) (ok := fun _ => True) (okp := fun _ => True) ?hr ?hp (fun _ hk => hk) trivial (Below.refl _ _) (Nat.le_refl _) (by simp) ?_; (case hd | hg => rfl); (case hr => go_simp; done); (case hp => exact (Reps.one (show Kd.M (Kd.int .i64) _ _ _ 0 [.int .i64 0] from rfl) (Reps.one (show Kd.M (Kd.int .i64) _ _ _ 1 [.int .i64 1] from rfl) (Reps.none _ _)))); intro v433 w40 ho41 hb hg_ hnew_; clear hg_ hnew_; (first | rw [← Ny432.out] at ho41 | (simp only [Int.reduceToNat] at ho41; rw [← Ny432.out] at ho41)); have n0_ := A_ (Kd.R_lower (Kd.R_newM (M := fun k_ => (w.heap.size ≤ k_)) ho41 (below_size HB.out) (fun k_ h_ => h_)) (below_size HB.out)); have n1_ := A_ (blk_below BK401.out hb); have n2_ := A_ (below_step HB.out hb); clear BK401 HB; revert n0_ n1_ n2_; intro HO434 BK401 HB; clear hb ho41) | ((with_reducible refine gate_dst (N := 24) rfl ?_); refine Kd.R_lit (Kd.int .i64) _ 3 ?hg (N := 24) ?hd (xs := ([2, 3] : List Int)) (inner := [.int .i64 2, .int .i64 3]) (ok := fun _ => True) (okp := fun _ => True) ?hr ?hp (fun _ hk => hk) trivial (Below.refl _ _) (Nat.le_refl _) (by simp) ?_; (case hd | hg => rfl); (case hr => go_simp; done); (case hp => exact (Reps.one (show Kd.M (Kd.int .i64) _ _ _ 2 [.int .i64 2] from rfl) (Reps.one (show Kd.M (Kd.int .i64) _ _ _ 3 [.int .i64 3] from rfl) (Reps.none _ _)))); intro v436 w42 ho43 hb hg_ hnew_; clear hg_ hnew_; (first | rw [← Ny435.out] at ho43 | (simp only [Int.reduceToNat] at ho43; rw [← Ny435.out] at ho43)); have n0_ := A_ (Kd.R_elder' HO434.out (Kd.R_base ho43) hb); have n1_ := A_ (Kd.R_lower (Kd.R_new' (Kd.R_newM (M := fun k_ => (w.heap.size ≤ k_)) ho43 (below_size HB.out) (fun k_ h_ => h_)) (Kd.R_lt HO434.out)) (below_size HB.out)); have n2_ := A_ (blk_below BK401.out hb); have n3_ := A_ (below_step HB.out hb); clear HO434 BK401 HB; revert n0_ n1_ n2_ n3_; intro HO434 HO437 BK401 HB; clear hb ho43) | ((with_reducible refine gate_dst (N := 25) rfl ?_); refine Kd.R_lit (Kd.int .i64) _ 3 ?hg (N := 25) ?hd (xs := ([0, 1] : List Int)) (inner := [.int .i64 0, .int .i64 1]) (ok := fun _ => True) (okp := fun _ => True) ?hr ?hp (fun _ hk => hk) trivial (Below.refl _ _) (Nat.le_refl _) (by simp) ?_; (case hd | hg => rfl); (case hr => go_simp; done); (case hp => exact (Reps.one (show Kd.M (Kd.int .i64) _ _ _ 0 [.int .i64 0] from rfl) (Reps.one (show Kd.M (Kd.int .i64) _ _ _ 1 [.int .i64 1] from rfl) (Reps.none _ _)))); intro v439 w44 ho45 hb hg_ hnew_; clear hg_ hnew_; (first | rw [← Ny438.out] at ho45 | (simp only [Int.reduceToNat] at ho45; rw [← Ny438.out] at ho45)); have n0_ := A_ (Kd.R_elder' HO434.out (Kd.R_base ho45) hb); have n1_ := A_ (Kd.R_elder' HO437.out (Kd.R_base ho45) hb); have n2_ := A_ (Kd.R_lower (Kd.R_new' (Kd.R_new' (Kd.R_newM (M := fun k_ => (w.heap.size ≤ k_)) ho45 (below_size HB.out) (fun k_ h_ => h_)) (Kd.R_lt HO434.out)) (Kd.R_lt HO437.out)) (below_size HB.out)); have n3_ := A_ (blk_below BK401.out hb); have n4_ := A_ (below_step HB.out hb); clear HO434 HO437 BK401 HB; revert n0_ n1_ n2_ n3_ n4_; intro HO434 HO437 HO440 BK401 HB; clear hb ho45) | ((with_reducible refine gate_dst (N := 26) rfl ?_); refine Kd.R_lit (Kd.int .i64) _ 3 ?hg (N := 26) ?hd (xs := ([2, 3] : List Int)) (inner := [.int .i64 2, .int .i64 3]) (ok := fun _ => True) (okp := fun _ => True) ?hr ?hp (fun _ hk => hk) trivial (Below.refl _ _) (Nat.le_refl _) (by simp) ?_; (case hd | hg => rfl); (case hr => go_simp; done); (case hp => exact (Reps.one (show Kd.M (Kd.int .i64) _ _ _ 2 [.int .i64 2] from rfl) (Reps.one (show Kd.M (Kd.int .i64) _ _ _ 3 [.int .i64 3] from rfl) (Reps.none _ _)))); intro v442 w46 ho47 hb hg_ hnew_; clear hg_ hnew_; (first | rw [← Ny441.out] at ho47 | (simp only [Int.reduceToNat] at ho47; rw [← Ny441.out] at ho47)); have n0_ := A_ (Kd.R_elder' HO434.out (Kd.R_base ho47) hb); have n1_ := A_ (Kd.R_elder' HO437.out (Kd.R_base ho47) hb); have n2_ := A_ (Kd.R_elder' HO440.out (Kd.R_base ho47) hb); have n3_ := A_ (Kd.R_lower (Kd.R_new' (Kd.R_new' (Kd.R_new' (Kd.R_newM (M := fun k_ => (w.heap.size ≤ k_)) ho47 (below_size HB.out) (fun k_ h_ => h_)) (Kd.R_lt HO434.out)) (Kd.R_lt HO437.out)) (Kd.R_lt HO440.out)) (below_size HB.out)); have n4_ := A_ (blk_below BK401.out hb); have n5_ := A_ (below_step HB.out hb); clear HO434 HO437 HO440 BK401 HB; revert n0_ n1_ n2_ n3_ n4_ n5_; intro HO434 HO437 HO440 HO443 BK401 HB; clear hb ho47; obtain ⟨Ao48, co48, eo48⟩ := Kd.R_slice HO434.out; subst eo48; obtain ⟨Ao49, co49, eo49⟩ := Kd.R_slice HO437.out; subst eo49; obtain ⟨Ao50, co50, eo50⟩ := Kd.R_slice HO440.out; subst eo50; obtain ⟨Ao51, co51, eo51⟩ := Kd.R_slice HO443.out; subst eo51) | ((with_reducible refine gate_dst (N := 27) rfl ?_); refine Kd.N_lit (Kd.slice 3 (Kd.int .i64)) _ 24 ?hg (N' := 27) ?hd (xs := ([y432, y435, y438, y441] : List (List Int))) (inner := [.slice Ao48 y432.length co48, .slice Ao49 y435.length co49, .slice Ao50 y438.length co50, .slice Ao51 y441.length co51]) (ok := (fun k_ => (w.heap.size ≤ k_) ∧ k_ ≠ gb401)) (okp := (fun k_ => (w.heap.size ≤ k_) ∧ k_ ≠ gb401)) ?hr ?hp (fun _ hk => hk) ((show ∀ k_, w46.heap.size ≤ k_ → (fun k_ => (w.heap.size ≤ k_) ∧ k_ ≠ gb401) k_ from fun k_ hk => ⟨(Nat.le_trans (below_size HB.out) hk), Kd.freshB BK401.out k_ hk⟩) _ (Nat.le_refl _)) (Below.refl _ _) (Nat.le_refl _) (by simp) ?_; (case hd | hg => rfl); (case hr => go_simp; done); (case hp => exact (Reps.one (show Kd.FK (Kd.slice 3 (Kd.int .i64)) _ _ y432 [.slice Ao48 y432.length co48] from (Kd.FK_slice_mk (Kd.R_reads' (Kd.R_mono (ok' := (fun k_ => (w.heap.size ≤ k_) ∧ k_ ≠ gb401)) (Kd.R_types (HO434.out) BK401.out (by decide)) (fun k_ hk => ⟨hk.1.1.1.1.1, hk.2⟩))).2.1 (Kd.R_F (Kd.R_mono (ok' := (fun k_ => (w.heap.size ≤ k_) ∧ k_ ≠ gb401)) (Kd.R_types (HO434.out) BK401.out (by decide)) (fun k_ hk => ⟨hk.1.1.1.1.1, hk.2⟩))))) (Reps.one (show Kd.FK (Kd.slice 3 (Kd.int .i64)) _ _ y435 [.slice Ao49 y435.length co49] from (Kd.FK_slice_mk (Kd.R_reads' (Kd.R_mono (ok' := (fun k_ => (w.heap.size ≤ k_) ∧ k_ ≠ gb401)) (Kd.R_types (HO437.out) BK401.out (by decide)) (fun k_ hk => ⟨hk.1.1.1.1.1, hk.2⟩))).2.1 (Kd.R_F (Kd.R_mono (ok' := (fun k_ => (w.heap.size ≤ k_) ∧ k_ ≠ gb401)) (Kd.R_types (HO437.out) BK401.out (by decide)) (fun k_ hk => ⟨hk.1.1.1.1.1, hk.2⟩))))) (Reps.one (show Kd.FK (Kd.slice 3 (Kd.int .i64)) _ _ y438 [.slice Ao50 y438.length co50] from (Kd.FK_slice_mk (Kd.R_reads' (Kd.R_mono (ok' := (fun k_ => (w.heap.size ≤ k_) ∧ k_ ≠ gb401)) (Kd.R_types (HO440.out) BK401.out (by decide)) (fun k_ hk => ⟨hk.1.1.1.1.1, hk.2⟩))).2.1 (Kd.R_F (Kd.R_mono (ok' := (fun k_ => (w.heap.size ≤ k_) ∧ k_ ≠ gb401)) (Kd.R_types (HO440.out) BK401.out (by decide)) (fun k_ hk => ⟨hk.1.1.1.1.1, hk.2⟩))))) (Reps.one (show Kd.FK (Kd.slice 3 (Kd.int .i64)) _ _ y441 [.slice Ao51 y441.length co51] from (Kd.FK_slice_mk (Kd.R_reads' (Kd.R_mono (ok' := (fun k_ => (w.heap.size ≤ k_) ∧ k_ ≠ gb401)) (Kd.R_types (HO443.out) BK401.out (by decide)) (fun k_ hk => ⟨hk.1.1.1.1.1, hk.2⟩))).2.1 (Kd.R_F (Kd.R_mono (ok' := (fun k_ => (w.heap.size ≤ k_) ∧ k_ ≠ gb401)) (Kd.R_types (HO443.out) BK401.out (by decide)) (fun k_ hk => ⟨hk.1.1.1.1.1, hk.2⟩))))) (Reps.none _ _)))))); intro v445 w52 ho53 hb hg_ hnew_; clear hg_ hnew_; (first | rw [← Ny444.out] at ho53 | (simp only [Int.reduceToNat] at ho53; rw [← Ny444.out] at ho53)); have n0_ := A_ (Kd.N_lower ho53 (below_size HB.out)); have n1_ := A_ (blk_below BK401.out hb); have n2_ := A_ (below_step HB.out hb); clear BK401 HB HO434 HO437 HO440 HO443; revert n0_ n1_ n2_; intro HO446 BK401 HB; clear hb ho53) | ((with_reducible refine gate_dst (N := 28) rfl ?_); refine Kd.R_lit (Kd.int .i64) _ 3 ?hg (N := 28) ?hd (xs := ([0, 0, 1, 1] : List Int)) (inner := [.int .i64 0, .int .i64 0, .int .i64 1, .int .i64 1]) (ok := fun _ => True) (okp := fun _ => True) ?hr ?hp (fun _ hk => hk) trivial (Below.refl _ _) (Nat.le_refl _) (by simp) ?_; (case hd | hg => rfl); (case hr => go_simp; done); (case hp => exact (Reps.one (show Kd.M (Kd.int .i64) _ _ _ 0 [.int .i64 0] from rfl) (Reps.one (show Kd.M (Kd.int .i64) _ _ _ 0 [.int .i64 0] from rfl) (Reps.one (show Kd.M (Kd.int .i64) _ _ _ 1 [.int .i64 1] from rfl) (Reps.one (show Kd.M (Kd.int .i64) _ _ _ 1 [.int .i64 1] from rfl) (Reps.none _ _)))))); intro v448 w54 ho55 hb hg_ hnew_; clear hg_ hnew_; (first | rw [← Ny447.out] at ho55 | (simp only [Int.reduceToNat] at ho55; rw [← Ny447.out] at ho55)); have n0_ := A_ (Kd.N_elder' HO446.out (Kd.R_base ho55) hb); have n1_ := A_ (Kd.R_lower (Kd.R_newM (M := fun k_ => (w.heap.size ≤ k_)) ho55 (below_size HB.out) (fun k_ h_ => h_)) (below_size HB.out)); have n2_ := A_ (blk_below BK401.out hb); have n3_ := A_ (below_step HB.out hb); clear HO446 BK401 HB; revert n0_ n1_ n2_ n3_; intro HO446 HO449 BK401 HB; clear hb ho55; obtain ⟨Ao56, co56, eo56⟩ := Kd.R_slice HO449.out; subst eo56; obtain ⟨Ao57, co57, eo57⟩ := Kd.N_slice HO446.out; subst eo57; have hcz58_0 : w54.cell? ⟨gb401, 0, none⟩ = some (.int .i64 0) := (blk_cell BK401.out 0).trans rfl; have hcz58_1 : w54.cell? ⟨gb401, 1, none⟩ = some (.slice none 0 0) := (blk_cell BK401.out 1).trans rfl; have hcz58_2 : w54.cell? ⟨gb401, 2, none⟩ = some (.slice none 0 0) := (blk_cell BK401.out 2).trans rfl; have hfz58_0 := blk_frozen BK401.out 0; have hfz58_1 := blk_frozen BK401.out 1; have hfz58_2 := blk_frozen BK401.out 2))
  refine bodyPost_ret (results_ct rfl _ _ gb401 72 #[.int .i64 2, .slice Ao57 y444.length co57, .slice Ao56 y447.length co56] (0, 0) _ rfl (by refine blk_put (cs := #[.int .i64 2, .slice Ao57 y444.length co57, .slice none 0 0]) ?_ 2 _ rfl; refine blk_put (cs := #[.int .i64 2, .slice none 0 0, .slice none 0 0]) ?_ 1 _ rfl; refine blk_put (cs := #[.int .i64 0, .slice none 0 0, .slice none 0 0]) ?_ 0 _ rfl; exact BK401.out) Try.underlying72 rfl (by kernel_rfl)) rfl ?_
  exact ⟨_, _, by rfl, by exact Kd.N_mono (Kd.N_far (p := ⟨gb401, 2, none⟩) (Kd.N_far (p := ⟨gb401, 1, none⟩) (Kd.N_far (p := ⟨gb401, 0, none⟩) (Kd.N_mono HO446.out (fun k_ hk => (⟨hk, hk.1.2⟩ : _ ∧ k_ ≠ gb401))) (fun _ hk => hk.2) (.int .i64 2)) (fun _ hk => hk.2) (.slice Ao57 y444.length co57)) (fun _ hk => hk.2) (.slice Ao56 y447.length co56)) (fun _ hk => ⟨hk.1.1.1, hk.1.2⟩), by exact Kd.R_mono (Kd.R_far (p := ⟨gb401, 2, none⟩) (Kd.R_far (p := ⟨gb401, 1, none⟩) (Kd.R_far (p := ⟨gb401, 0, none⟩) (Kd.R_types HO449.out BK401.out (by decide)) (fun _ hk => hk.2) (.int .i64 2)) (fun _ hk => hk.2) (.slice Ao57 y444.length co57)) (fun _ hk => hk.2) (.slice Ao56 y447.length co56)) (fun _ hk => hk.1.1), by repeat (first | (with_reducible first | exact HB.out | apply below_alloc | apply pw_below_drewN | apply below_drew1 | refine below_set ?_ GE401.out) | exact HB.out)⟩
 rw [if_neg c38] at H
 have c38b0 : (a0.toList == ([112, 101, 114, 105, 111, 100] : List UInt8)) = false := beq_eq_false_iff_ne.mpr c38
 have c38b1 : (a0.toList != ([112, 101, 114, 105, 111, 100] : List UInt8)) = true := bne_iff_ne.mpr c38
 by_cases c59 : a0.toList = ([112, 111, 119, 101, 114, 115] : List UInt8)
 ·rw [if_pos c59] at H
  have c59b0 : (a0.toList == ([112, 111, 119, 101, 114, 115] : List UInt8)) = true := beq_iff_eq.mpr c59
  have c59b1 : (a0.toList != ([112, 111, 119, 101, 114, 115] : List UInt8)) = false := bne_eq_false_iff_eq.mpr c59
  clear c59
  obtain ⟨y450, hy450⟩ : ∃ y_ : List Int, y_ = (([0, 1] : List Int)) := ⟨_, rfl⟩
  replace H : (some (2, (([y450, (([1, 2] : List Int)), (([2, 2] : List Int))] : List (List Int))), (([0, 1, 0] : List Int)), true)) = some (r1, r2, r3, r4) := by (rw [hy450]; with_reducible exact H)
  have Ny450 := A_ hy450
  clear hy450
  obtain ⟨y453, hy453⟩ : ∃ y_ : List Int, y_ = (([1, 2] : List Int)) := ⟨_, rfl⟩
  replace H : (some (2, (([y450, y453, (([2, 2] : List Int))] : List (List Int))), (([0, 1, 0] : List Int)), true)) = some (r1, r2, r3, r4) := by (rw [hy453]; with_reducible exact H)
  have Ny453 := A_ hy453
  clear hy453
  obtain ⟨y456, hy456⟩ : ∃ y_ : List Int, y_ = (([2, 2] : List Int)) := ⟨_, rfl⟩
  replace H : (some (2, (([y450, y453, y456] : List (List Int))), (([0, 1, 0] : List Int)), true)) = some (r1, r2, r3, r4) := by (rw [hy456]; with_reducible exact H)
  have Ny456 := A_ hy456
  clear hy456
  obtain ⟨y459, hy459⟩ : ∃ y_ : List (List Int), y_ = (([y450, y453, y456] : List (List Int))) := ⟨_, rfl⟩
  replace H : (some (2, y459, (([0, 1, 0] : List Int)), true)) = some (r1, r2, r3, r4) := by (rw [hy459]; with_reducible exact H)
  have Ny459 := A_ hy459
  clear hy459
  obtain ⟨y462, hy462⟩ : ∃ y_ : List Int, y_ = (([0, 1, 0] : List Int)) := ⟨_, rfl⟩
  replace H : (some (2, y459, y462, true)) = some (r1, r2, r3, r4) := by (rw [hy462]; with_reducible exact H)
  have Ny462 := A_ hy462
  clear hy462
  simp only [Option.some.injEq, Prod.mk.injEq] at H
  obtain ⟨rfl, rfl, rfl, rfl⟩ := H
  go_enter Try.func98, Try.ntmps98
  go_wp2_with (first | ((with_reducible refine gate_dst (N := 2) rfl ?_); refine box_event ?hg (N := 2) ?hd (cs := #[.int .i64 0, .slice none 0 0, .slice none 0 0]) (t := 72) ?hr ?_; (case hd | hg => rfl); (case hr => go_simp; done); intro gb401 hg w60 hbox hb; have n0_ := A_ (below_step HB.out hb); have n1_ := A_ (hbox); have n2_ := A_ ((by rw [hg]; exact (below_size HB.out) : w.heap.size ≤ gb401)); have n3_ := A_ ((by rw [hg]; exact (below_size HB.out) : w.heap.size ≤ gb401)); clear HB; revert n0_ n1_ n2_ n3_; intro HB BK401 GW401 GE401; clear hb hbox hg) | ((with_reducible refine gate_dst (N := 32) rfl ?_); refine Kd.R_lit (Kd.int .i64) _ 3 ?hg (N := 32) ?hd (xs := ([0, 1] : List Int)) (inner := [.int .i64 0, .int .i64 1]) (ok := fun _ => True) (okp := fun _ => True) ?hr ?hp (fun _ hk => hk) trivial (Below.refl _ _) (Nat.le_refl _) (by simp) ?_; (case hd | hg => rfl); (case hr => go_simp; done); (case hp => exact (Reps.one (show Kd.M (Kd.int .i64) _ _ _ 0 [.int .i64 0] from rfl) (Reps.one (show Kd.M (Kd.int .i64) _ _ _ 1 [.int .i64 1] from rfl) (Reps.none _ _)))); intro v451 w61 ho62 hb hg_ hnew_; clear hg_ hnew_; (first | rw [← Ny450.out] at ho62 | (simp only [Int.reduceToNat] at ho62; rw [← Ny450.out] at ho62)); have n0_ := A_ (Kd.R_lower (Kd.R_newM (M := fun k_ => (w.heap.size ≤ k_)) ho62 (below_size HB.out) (fun k_ h_ => h_)) (below_size HB.out)); have n1_ := A_ (blk_below BK401.out hb); have n2_ := A_ (below_step HB.out hb); clear BK401 HB; revert n0_ n1_ n2_; intro HO452 BK401 HB; clear hb ho62) | ((with_reducible refine gate_dst (N := 33) rfl ?_); refine Kd.R_lit (Kd.int .i64) _ 3 ?hg (N := 33) ?hd (xs := ([1, 2] : List Int)) (inner := [.int .i64 1, .int .i64 2]) (ok := fun _ => True) (okp := fun _ => True) ?hr ?hp (fun _ hk => hk) trivial (Below.refl _ _) (Nat.le_refl _) (by simp) ?_; (case hd | hg => rfl); (case hr => go_simp; done); (case hp => exact (Reps.one (show Kd.M (Kd.int .i64) _ _ _ 1 [.int .i64 1] from rfl) (Reps.one (show Kd.M (Kd.int .i64) _ _ _ 2 [.int .i64 2] from rfl) (Reps.none _ _)))); intro v454 w63 ho64 hb hg_ hnew_; clear hg_ hnew_; (first | rw [← Ny453.out] at ho64 | (simp only [Int.reduceToNat] at ho64; rw [← Ny453.out] at ho64)); have n0_ := A_ (Kd.R_elder' HO452.out (Kd.R_base ho64) hb); have n1_ := A_ (Kd.R_lower (Kd.R_new' (Kd.R_newM (M := fun k_ => (w.heap.size ≤ k_)) ho64 (below_size HB.out) (fun k_ h_ => h_)) (Kd.R_lt HO452.out)) (below_size HB.out)); have n2_ := A_ (blk_below BK401.out hb); have n3_ := A_ (below_step HB.out hb); clear HO452 BK401 HB; revert n0_ n1_ n2_ n3_; intro HO452 HO455 BK401 HB; clear hb ho64) | ((with_reducible refine gate_dst (N := 34) rfl ?_); refine Kd.R_lit (Kd.int .i64) _ 3 ?hg (N := 34) ?hd (xs := ([2, 2] : List Int)) (inner := [.int .i64 2, .int .i64 2]) (ok := fun _ => True) (okp := fun _ => True) ?hr ?hp (fun _ hk => hk) trivial (Below.refl _ _) (Nat.le_refl _) (by simp) ?_; (case hd | hg => rfl); (case hr => go_simp; done); (case hp => exact (Reps.one (show Kd.M (Kd.int .i64) _ _ _ 2 [.int .i64 2] from rfl) (Reps.one (show Kd.M (Kd.int .i64) _ _ _ 2 [.int .i64 2] from rfl) (Reps.none _ _)))); intro v457 w65 ho66 hb hg_ hnew_; clear hg_ hnew_; (first | rw [← Ny456.out] at ho66 | (simp only [Int.reduceToNat] at ho66; rw [← Ny456.out] at ho66)); have n0_ := A_ (Kd.R_elder' HO452.out (Kd.R_base ho66) hb); have n1_ := A_ (Kd.R_elder' HO455.out (Kd.R_base ho66) hb); have n2_ := A_ (Kd.R_lower (Kd.R_new' (Kd.R_new' (Kd.R_newM (M := fun k_ => (w.heap.size ≤ k_)) ho66 (below_size HB.out) (fun k_ h_ => h_)) (Kd.R_lt HO452.out)) (Kd.R_lt HO455.out)) (below_size HB.out)); have n3_ := A_ (blk_below BK401.out hb); have n4_ := A_ (below_step HB.out hb); clear HO452 HO455 BK401 HB; revert n0_ n1_ n2_ n3_ n4_; intro HO452 HO455 HO458 BK401 HB; clear hb ho66; obtain ⟨Ao67, co67, eo67⟩ := Kd.R_slice HO452.out; subst eo67; obtain ⟨Ao68, co68, eo68⟩ := Kd.R_slice HO455.out; subst eo68; obtain ⟨Ao69, co69, eo69⟩ := Kd.R_slice HO458.out; subst eo69) | ((with_reducible refine gate_dst (N := 35) rfl ?_); refine Kd.N_lit (Kd.slice 3 (Kd.int .i64)) _ 24 ?hg (N' := 35) ?hd (xs := ([y450, y453, y456] : List (List Int))) (inner := [.slice Ao67 y450.length co67, .slice Ao68 y453.length co68, .slice Ao69 y456.length co69]) (ok := (fun k_ => (w.heap.size ≤ k_) ∧ k_ ≠ gb401)) (okp := (fun k_ => (w.heap.size ≤ k_) ∧ k_ ≠ gb401)) ?hr ?hp (fun _ hk => hk) ((show ∀ k_, w65.heap.size ≤ k_ → (fun k_ => (w.heap.size ≤ k_) ∧ k_ ≠ gb401) k_ from fun k_ hk => ⟨(Nat.le_trans (below_size HB.out) hk), Kd.freshB BK401.out k_ hk⟩) _ (Nat.le_refl _)) (Below.refl _ _) (Nat.le_refl _) (by simp) ?_; (case hd | hg => rfl); (case hr => go_simp; done); (case hp => exact (Reps.one (show Kd.FK (Kd.slice 3 (Kd.int .i64)) _ _ y450 [.slice Ao67 y450.length co67] from (Kd.FK_slice_mk (Kd.R_reads' (Kd.R_mono (ok' := (fun k_ => (w.heap.size ≤ k_) ∧ k_ ≠ gb401)) (Kd.R_types (HO452.out) BK401.out (by decide)) (fun k_ hk => ⟨hk.1.1.1.1, hk.2⟩))).2.1 (Kd.R_F (Kd.R_mono (ok' := (fun k_ => (w.heap.size ≤ k_) ∧ k_ ≠ gb401)) (Kd.R_types (HO452.out) BK401.out (by decide)) (fun k_ hk => ⟨hk.1.1.1.1, hk.2⟩))))) (Reps.one (show Kd.FK (Kd.slice 3 (Kd.int .i64)) _ _ y453 [.slice Ao68 y453.length co68] from (Kd.FK_slice_mk (Kd.R_reads' (Kd.R_mono (ok' := (fun k_ => (w.heap.size ≤ k_) ∧ k_ ≠ gb401)) (Kd.R_types (HO455.out) BK401.out (by decide)) (fun k_ hk => ⟨hk.1.1.1.1, hk.2⟩))).2.1 (Kd.R_F (Kd.R_mono (ok' := (fun k_ => (w.heap.size ≤ k_) ∧ k_ ≠ gb401)) (Kd.R_types (HO455.out) BK401.out (by decide)) (fun k_ hk => ⟨hk.1.1.1.1, hk.2⟩))))) (Reps.one (show Kd.FK (Kd.slice 3 (Kd.int .i64)) _ _ y456 [.slice Ao69 y456.length co69] from (Kd.FK_slice_mk (Kd.R_reads' (Kd.R_mono (ok' := (fun k_ => (w.heap.size ≤ k_) ∧ k_ ≠ gb401)) (Kd.R_types (HO458.out) BK401.out (by decide)) (fun k_ hk => ⟨hk.1.1.1.1, hk.2⟩))).2.1 (Kd.R_F (Kd.R_mono (ok' := (fun k_ => (w.heap.size ≤ k_) ∧ k_ ≠ gb401)) (Kd.R_types (HO458.out) BK401.out (by decide)) (fun k_ hk => ⟨hk.1.1.1.1, hk.2⟩))))) (Reps.none _ _))))); intro v460 w70 ho71 hb hg_ hnew_; clear hg_ hnew_; (first | rw [← Ny459.out] at ho71 | (simp only [Int.reduceToNat] at ho71; rw [← Ny459.out] at ho71)); have n0_ := A_ (Kd.N_lower ho71 (below_size HB.out)); have n1_ := A_ (blk_below BK401.out hb); have n2_ := A_ (below_step HB.out hb); clear BK401 HB HO452 HO455 HO458; revert n0_ n1_ n2_; intro HO461 BK401 HB; clear hb ho71) | ((with_reducible refine gate_dst (N := 36) rfl ?_); refine Kd.R_lit (Kd.int .i64) _ 3 ?hg (N := 36) ?hd (xs := ([0, 1, 0] : List Int)) (inner := [.int .i64 0, .int .i64 1, .int .i64 0]) (ok := fun _ => True) (okp := fun _ => True) ?hr ?hp (fun _ hk => hk) trivial (Below.refl _ _) (Nat.le_refl _) (by simp) ?_; (case hd | hg => rfl); (case hr => go_simp; done); (case hp => exact (Reps.one (show Kd.M (Kd.int .i64) _ _ _ 0 [.int .i64 0] from rfl) (Reps.one (show Kd.M (Kd.int .i64) _ _ _ 1 [.int .i64 1] from rfl) (Reps.one (show Kd.M (Kd.int .i64) _ _ _ 0 [.int .i64 0] from rfl) (Reps.none _ _))))); intro v463 w72 ho73 hb hg_ hnew_; clear hg_ hnew_; (first | rw [← Ny462.out] at ho73 | (simp only [Int.reduceToNat] at ho73; rw [← Ny462.out] at ho73)); have n0_ := A_ (Kd.N_elder' HO461.out (Kd.R_base ho73) hb); have n1_ := A_ (Kd.R_lower (Kd.R_newM (M := fun k_ => (w.heap.size ≤ k_)) ho73 (below_size HB.out) (fun k_ h_ => h_)) (below_size HB.out)); have n2_ := A_ (blk_below BK401.out hb); have n3_ := A_ (below_step HB.out hb); clear HO461 BK401 HB; revert n0_ n1_ n2_ n3_; intro HO461 HO464 BK401 HB; clear hb ho73; obtain ⟨Ao74, co74, eo74⟩ := Kd.R_slice HO464.out; subst eo74; obtain ⟨Ao75, co75, eo75⟩ := Kd.N_slice HO461.out; subst eo75; have hcz76_0 : w72.cell? ⟨gb401, 0, none⟩ = some (.int .i64 0) := (blk_cell BK401.out 0).trans rfl; have hcz76_1 : w72.cell? ⟨gb401, 1, none⟩ = some (.slice none 0 0) := (blk_cell BK401.out 1).trans rfl; have hcz76_2 : w72.cell? ⟨gb401, 2, none⟩ = some (.slice none 0 0) := (blk_cell BK401.out 2).trans rfl; have hfz76_0 := blk_frozen BK401.out 0; have hfz76_1 := blk_frozen BK401.out 1; have hfz76_2 := blk_frozen BK401.out 2))
  refine bodyPost_ret (results_ct rfl _ _ gb401 72 #[.int .i64 2, .slice Ao75 y459.length co75, .slice Ao74 y462.length co74] (0, 0) _ rfl (by refine blk_put (cs := #[.int .i64 2, .slice Ao75 y459.length co75, .slice none 0 0]) ?_ 2 _ rfl; refine blk_put (cs := #[.int .i64 2, .slice none 0 0, .slice none 0 0]) ?_ 1 _ rfl; refine blk_put (cs := #[.int .i64 0, .slice none 0 0, .slice none 0 0]) ?_ 0 _ rfl; exact BK401.out) Try.underlying72 rfl (by kernel_rfl)) rfl ?_
  exact ⟨_, _, by rfl, by exact Kd.N_mono (Kd.N_far (p := ⟨gb401, 2, none⟩) (Kd.N_far (p := ⟨gb401, 1, none⟩) (Kd.N_far (p := ⟨gb401, 0, none⟩) (Kd.N_mono HO461.out (fun k_ hk => (⟨hk, hk.1.2⟩ : _ ∧ k_ ≠ gb401))) (fun _ hk => hk.2) (.int .i64 2)) (fun _ hk => hk.2) (.slice Ao75 y459.length co75)) (fun _ hk => hk.2) (.slice Ao74 y462.length co74)) (fun _ hk => ⟨hk.1.1.1, hk.1.2⟩), by exact Kd.R_mono (Kd.R_far (p := ⟨gb401, 2, none⟩) (Kd.R_far (p := ⟨gb401, 1, none⟩) (Kd.R_far (p := ⟨gb401, 0, none⟩) (Kd.R_types HO464.out BK401.out (by decide)) (fun _ hk => hk.2) (.int .i64 2)) (fun _ hk => hk.2) (.slice Ao75 y459.length co75)) (fun _ hk => hk.2) (.slice Ao74 y462.length co74)) (fun _ hk => hk.1.1), by repeat (first | (with_reducible first | exact HB.out | apply below_alloc | apply pw_below_drewN | apply below_drew1 | refine below_set ?_ GE401.out) | exact HB.out)⟩
 rw [if_neg c59] at H
 have c59b0 : (a0.toList == ([112, 111, 119, 101, 114, 115] : List UInt8)) = false := beq_eq_false_iff_ne.mpr c59
 have c59b1 : (a0.toList != ([112, 111, 119, 101, 114, 115] : List UInt8)) = true := bne_iff_ne.mpr c59
 by_cases c77 : a0.toList = ([99, 97, 110, 116, 111, 114] : List UInt8)
 ·rw [if_pos c77] at H
  have c77b0 : (a0.toList == ([99, 97, 110, 116, 111, 114] : List UInt8)) = true := beq_iff_eq.mpr c77
  have c77b1 : (a0.toList != ([99, 97, 110, 116, 111, 114] : List UInt8)) = false := bne_eq_false_iff_eq.mpr c77
  clear c77
  obtain ⟨y465, hy465⟩ : ∃ y_ : List Int, y_ = (([0, 1, 0] : List Int)) := ⟨_, rfl⟩
  replace H : (some (3, (([y465, (([1, 1, 1] : List Int))] : List (List Int))), (([1, 0] : List Int)), true)) = some (r1, r2, r3, r4) := by (rw [hy465]; with_reducible exact H)
  have Ny465 := A_ hy465
  clear hy465
  obtain ⟨y468, hy468⟩ : ∃ y_ : List Int, y_ = (([1, 1, 1] : List Int)) := ⟨_, rfl⟩
  replace H : (some (3, (([y465, y468] : List (List Int))), (([1, 0] : List Int)), true)) = some (r1, r2, r3, r4) := by (rw [hy468]; with_reducible exact H)
  have Ny468 := A_ hy468
  clear hy468
  obtain ⟨y471, hy471⟩ : ∃ y_ : List (List Int), y_ = (([y465, y468] : List (List Int))) := ⟨_, rfl⟩
  replace H : (some (3, y471, (([1, 0] : List Int)), true)) = some (r1, r2, r3, r4) := by (rw [hy471]; with_reducible exact H)
  have Ny471 := A_ hy471
  clear hy471
  obtain ⟨y474, hy474⟩ : ∃ y_ : List Int, y_ = (([1, 0] : List Int)) := ⟨_, rfl⟩
  replace H : (some (3, y471, y474, true)) = some (r1, r2, r3, r4) := by (rw [hy474]; with_reducible exact H)
  have Ny474 := A_ hy474
  clear hy474
  simp only [Option.some.injEq, Prod.mk.injEq] at H
  obtain ⟨rfl, rfl, rfl, rfl⟩ := H
  go_enter Try.func98, Try.ntmps98
  go_wp2_with (first | ((with_reducible refine gate_dst (N := 2) rfl ?_); refine box_event ?hg (N := 2) ?hd (cs := #[.int .i64 0, .slice none 0 0, .slice none 0 0]) (t := 72) ?hr ?_; (case hd | hg => rfl); (case hr => go_simp; done); intro gb401 hg w78 hbox hb; have n0_ := A_ (below_step HB.out hb); have n1_ := A_ (hbox); have n2_ := A_ ((by rw [hg]; exact (below_size HB.out) : w.heap.size ≤ gb401)); have n3_ := A_ ((by rw [hg]; exact (below_size HB.out) : w.heap.size ≤ gb401)); clear HB; revert n0_ n1_ n2_ n3_; intro HB BK401 GW401 GE401; clear hb hbox hg) | ((with_reducible refine gate_dst (N := 40) rfl ?_); refine Kd.R_lit (Kd.int .i64) _ 3 ?hg (N := 40) ?hd (xs := ([0, 1, 0] : List Int)) (inner := [.int .i64 0, .int .i64 1, .int .i64 0]) (ok := fun _ => True) (okp := fun _ => True) ?hr ?hp (fun _ hk => hk) trivial (Below.refl _ _) (Nat.le_refl _) (by simp) ?_; (case hd | hg => rfl); (case hr => go_simp; done); (case hp => exact (Reps.one (show Kd.M (Kd.int .i64) _ _ _ 0 [.int .i64 0] from rfl) (Reps.one (show Kd.M (Kd.int .i64) _ _ _ 1 [.int .i64 1] from rfl) (Reps.one (show Kd.M (Kd.int .i64) _ _ _ 0 [.int .i64 0] from rfl) (Reps.none _ _))))); intro v466 w79 ho80 hb hg_ hnew_; clear hg_ hnew_; (first | rw [← Ny465.out] at ho80 | (simp only [Int.reduceToNat] at ho80; rw [← Ny465.out] at ho80)); have n0_ := A_ (Kd.R_lower (Kd.R_newM (M := fun k_ => (w.heap.size ≤ k_)) ho80 (below_size HB.out) (fun k_ h_ => h_)) (below_size HB.out)); have n1_ := A_ (blk_below BK401.out hb); have n2_ := A_ (below_step HB.out hb); clear BK401 HB; revert n0_ n1_ n2_; intro HO467 BK401 HB; clear hb ho80) | ((with_reducible refine gate_dst (N := 41) rfl ?_); refine Kd.R_lit (Kd.int .i64) _ 3 ?hg (N := 41) ?hd (xs := ([1, 1, 1] : List Int)) (inner := [.int .i64 1, .int .i64 1, .int .i64 1]) (ok := fun _ => True) (okp := fun _ => True) ?hr ?hp (fun _ hk => hk) trivial (Below.refl _ _) (Nat.le_refl _) (by simp) ?_; (case hd | hg => rfl); (case hr => go_simp; done); (case hp => exact (Reps.one (show Kd.M (Kd.int .i64) _ _ _ 1 [.int .i64 1] from rfl) (Reps.one (show Kd.M (Kd.int .i64) _ _ _ 1 [.int .i64 1] from rfl) (Reps.one (show Kd.M (Kd.int .i64) _ _ _ 1 [.int .i64 1] from rfl) (Reps.none _ _))))); intro v469 w81 ho82 hb hg_ hnew_; clear hg_ hnew_; (first | rw [← Ny468.out] at ho82 | (simp only [Int.reduceToNat] at ho82; rw [← Ny468.out] at ho82)); have n0_ := A_ (Kd.R_elder' HO467.out (Kd.R_base ho82) hb); have n1_ := A_ (Kd.R_lower (Kd.R_new' (Kd.R_newM (M := fun k_ => (w.heap.size ≤ k_)) ho82 (below_size HB.out) (fun k_ h_ => h_)) (Kd.R_lt HO467.out)) (below_size HB.out)); have n2_ := A_ (blk_below BK401.out hb); have n3_ := A_ (below_step HB.out hb); clear HO467 BK401 HB; revert n0_ n1_ n2_ n3_; intro HO467 HO470 BK401 HB; clear hb ho82; obtain ⟨Ao83, co83, eo83⟩ := Kd.R_slice HO467.out; subst eo83; obtain ⟨Ao84, co84, eo84⟩ := Kd.R_slice HO470.out; subst eo84) | ((with_reducible refine gate_dst (N := 42) rfl ?_); refine Kd.N_lit (Kd.slice 3 (Kd.int .i64)) _ 24 ?hg (N' := 42) ?hd (xs := ([y465, y468] : List (List Int))) (inner := [.slice Ao83 y465.length co83, .slice Ao84 y468.length co84]) (ok := (fun k_ => (w.heap.size ≤ k_) ∧ k_ ≠ gb401)) (okp := (fun k_ => (w.heap.size ≤ k_) ∧ k_ ≠ gb401)) ?hr ?hp (fun _ hk => hk) ((show ∀ k_, w81.heap.size ≤ k_ → (fun k_ => (w.heap.size ≤ k_) ∧ k_ ≠ gb401) k_ from fun k_ hk => ⟨(Nat.le_trans (below_size HB.out) hk), Kd.freshB BK401.out k_ hk⟩) _ (Nat.le_refl _)) (Below.refl _ _) (Nat.le_refl _) (by simp) ?_; (case hd | hg => rfl); (case hr => go_simp; done); (case hp => exact (Reps.one (show Kd.FK (Kd.slice 3 (Kd.int .i64)) _ _ y465 [.slice Ao83 y465.length co83] from (Kd.FK_slice_mk (Kd.R_reads' (Kd.R_mono (ok' := (fun k_ => (w.heap.size ≤ k_) ∧ k_ ≠ gb401)) (Kd.R_types (HO467.out) BK401.out (by decide)) (fun k_ hk => ⟨hk.1.1.1, hk.2⟩))).2.1 (Kd.R_F (Kd.R_mono (ok' := (fun k_ => (w.heap.size ≤ k_) ∧ k_ ≠ gb401)) (Kd.R_types (HO467.out) BK401.out (by decide)) (fun k_ hk => ⟨hk.1.1.1, hk.2⟩))))) (Reps.one (show Kd.FK (Kd.slice 3 (Kd.int .i64)) _ _ y468 [.slice Ao84 y468.length co84] from (Kd.FK_slice_mk (Kd.R_reads' (Kd.R_mono (ok' := (fun k_ => (w.heap.size ≤ k_) ∧ k_ ≠ gb401)) (Kd.R_types (HO470.out) BK401.out (by decide)) (fun k_ hk => ⟨hk.1.1.1, hk.2⟩))).2.1 (Kd.R_F (Kd.R_mono (ok' := (fun k_ => (w.heap.size ≤ k_) ∧ k_ ≠ gb401)) (Kd.R_types (HO470.out) BK401.out (by decide)) (fun k_ hk => ⟨hk.1.1.1, hk.2⟩))))) (Reps.none _ _)))); intro v472 w85 ho86 hb hg_ hnew_; clear hg_ hnew_; (first | rw [← Ny471.out] at ho86 | (simp only [Int.reduceToNat] at ho86; rw [← Ny471.out] at ho86)); have n0_ := A_ (Kd.N_lower ho86 (below_size HB.out)); have n1_ := A_ (blk_below BK401.out hb); have n2_ := A_ (below_step HB.out hb); clear BK401 HB HO467 HO470; revert n0_ n1_ n2_; intro HO473 BK401 HB; clear hb ho86) | ((with_reducible refine gate_dst (N := 43) rfl ?_); refine Kd.R_lit (Kd.int .i64) _ 3 ?hg (N := 43) ?hd (xs := ([1, 0] : List Int)) (inner := [.int .i64 1, .int .i64 0]) (ok := fun _ => True) (okp := fun _ => True) ?hr ?hp (fun _ hk => hk) trivial (Below.refl _ _) (Nat.le_refl _) (by simp) ?_; (case hd | hg => rfl); (case hr => go_simp; done); (case hp => exact (Reps.one (show Kd.M (Kd.int .i64) _ _ _ 1 [.int .i64 1] from rfl) (Reps.one (show Kd.M (Kd.int .i64) _ _ _ 0 [.int .i64 0] from rfl) (Reps.none _ _)))); intro v475 w87 ho88 hb hg_ hnew_; clear hg_ hnew_; (first | rw [← Ny474.out] at ho88 | (simp only [Int.reduceToNat] at ho88; rw [← Ny474.out] at ho88)); have n0_ := A_ (Kd.N_elder' HO473.out (Kd.R_base ho88) hb); have n1_ := A_ (Kd.R_lower (Kd.R_newM (M := fun k_ => (w.heap.size ≤ k_)) ho88 (below_size HB.out) (fun k_ h_ => h_)) (below_size HB.out)); have n2_ := A_ (blk_below BK401.out hb); have n3_ := A_ (below_step HB.out hb); clear HO473 BK401 HB; revert n0_ n1_ n2_ n3_; intro HO473 HO476 BK401 HB; clear hb ho88; obtain ⟨Ao89, co89, eo89⟩ := Kd.R_slice HO476.out; subst eo89; obtain ⟨Ao90, co90, eo90⟩ := Kd.N_slice HO473.out; subst eo90; have hcz91_0 : w87.cell? ⟨gb401, 0, none⟩ = some (.int .i64 0) := (blk_cell BK401.out 0).trans rfl; have hcz91_1 : w87.cell? ⟨gb401, 1, none⟩ = some (.slice none 0 0) := (blk_cell BK401.out 1).trans rfl; have hcz91_2 : w87.cell? ⟨gb401, 2, none⟩ = some (.slice none 0 0) := (blk_cell BK401.out 2).trans rfl; have hfz91_0 := blk_frozen BK401.out 0; have hfz91_1 := blk_frozen BK401.out 1; have hfz91_2 := blk_frozen BK401.out 2))
  refine bodyPost_ret (results_ct rfl _ _ gb401 72 #[.int .i64 3, .slice Ao90 y471.length co90, .slice Ao89 y474.length co89] (0, 0) _ rfl (by refine blk_put (cs := #[.int .i64 3, .slice Ao90 y471.length co90, .slice none 0 0]) ?_ 2 _ rfl; refine blk_put (cs := #[.int .i64 3, .slice none 0 0, .slice none 0 0]) ?_ 1 _ rfl; refine blk_put (cs := #[.int .i64 0, .slice none 0 0, .slice none 0 0]) ?_ 0 _ rfl; exact BK401.out) Try.underlying72 rfl (by kernel_rfl)) rfl ?_
  exact ⟨_, _, by rfl, by exact Kd.N_mono (Kd.N_far (p := ⟨gb401, 2, none⟩) (Kd.N_far (p := ⟨gb401, 1, none⟩) (Kd.N_far (p := ⟨gb401, 0, none⟩) (Kd.N_mono HO473.out (fun k_ hk => (⟨hk, hk.1.2⟩ : _ ∧ k_ ≠ gb401))) (fun _ hk => hk.2) (.int .i64 3)) (fun _ hk => hk.2) (.slice Ao90 y471.length co90)) (fun _ hk => hk.2) (.slice Ao89 y474.length co89)) (fun _ hk => ⟨hk.1.1.1, hk.1.2⟩), by exact Kd.R_mono (Kd.R_far (p := ⟨gb401, 2, none⟩) (Kd.R_far (p := ⟨gb401, 1, none⟩) (Kd.R_far (p := ⟨gb401, 0, none⟩) (Kd.R_types HO476.out BK401.out (by decide)) (fun _ hk => hk.2) (.int .i64 3)) (fun _ hk => hk.2) (.slice Ao90 y471.length co90)) (fun _ hk => hk.2) (.slice Ao89 y474.length co89)) (fun _ hk => hk.1.1), by repeat (first | (with_reducible first | exact HB.out | apply below_alloc | apply pw_below_drewN | apply below_drew1 | refine below_set ?_ GE401.out) | exact HB.out)⟩
 rw [if_neg c77] at H
 have c77b0 : (a0.toList == ([99, 97, 110, 116, 111, 114] : List UInt8)) = false := beq_eq_false_iff_ne.mpr c77
 have c77b1 : (a0.toList != ([99, 97, 110, 116, 111, 114] : List UInt8)) = true := bne_iff_ne.mpr c77
 by_cases c92 : a0.toList = ([109, 111, 100] : List UInt8)
 ·rw [if_pos c92] at H
  have c92b0 : (a0.toList == ([109, 111, 100] : List UInt8)) = true := beq_iff_eq.mpr c92
  have c92b1 : (a0.toList != ([109, 111, 100] : List UInt8)) = false := bne_eq_false_iff_eq.mpr c92
  clear c92
  obtain ⟨y477, hy477⟩ : ∃ y_ : List Int, y_ = (([0, 1] : List Int)) := ⟨_, rfl⟩
  replace H : (some (2, (([y477, (([2, 0] : List Int)), (([1, 2] : List Int))] : List (List Int))), (([0, 1, 2] : List Int)), true)) = some (r1, r2, r3, r4) := by (rw [hy477]; with_reducible exact H)
  have Ny477 := A_ hy477
  clear hy477
  obtain ⟨y480, hy480⟩ : ∃ y_ : List Int, y_ = (([2, 0] : List Int)) := ⟨_, rfl⟩
  replace H : (some (2, (([y477, y480, (([1, 2] : List Int))] : List (List Int))), (([0, 1, 2] : List Int)), true)) = some (r1, r2, r3, r4) := by (rw [hy480]; with_reducible exact H)
  have Ny480 := A_ hy480
  clear hy480
  obtain ⟨y483, hy483⟩ : ∃ y_ : List Int, y_ = (([1, 2] : List Int)) := ⟨_, rfl⟩
  replace H : (some (2, (([y477, y480, y483] : List (List Int))), (([0, 1, 2] : List Int)), true)) = some (r1, r2, r3, r4) := by (rw [hy483]; with_reducible exact H)
  have Ny483 := A_ hy483
  clear hy483
  obtain ⟨y486, hy486⟩ : ∃ y_ : List (List Int), y_ = (([y477, y480, y483] : List (List Int))) := ⟨_, rfl⟩
  replace H : (some (2, y486, (([0, 1, 2] : List Int)), true)) = some (r1, r2, r3, r4) := by (rw [hy486]; with_reducible exact H)
  have Ny486 := A_ hy486
  clear hy486
  obtain ⟨y489, hy489⟩ : ∃ y_ : List Int, y_ = (([0, 1, 2] : List Int)) := ⟨_, rfl⟩
  replace H : (some (2, y486, y489, true)) = some (r1, r2, r3, r4) := by (rw [hy489]; with_reducible exact H)
  have Ny489 := A_ hy489
  clear hy489
  simp only [Option.some.injEq, Prod.mk.injEq] at H
  obtain ⟨rfl, rfl, rfl, rfl⟩ := H
  go_enter Try.func98, Try.ntmps98
  go_wp2_with (first | ((with_reducible refine gate_dst (N := 2) rfl ?_); refine box_event ?hg (N := 2) ?hd (cs := #[.int .i64 0, .slice none 0 0, .slice none 0 0]) (t := 72) ?hr ?_; (case hd | hg => rfl); (case hr => go_simp; done); intro gb401 hg w93 hbox hb; have n0_ := A_ (below_step HB.out hb); have n1_ := A_ (hbox); have n2_ := A_ ((by rw [hg]; exact (below_size HB.out) : w.heap.size ≤ gb401)); have n3_ := A_ ((by rw [hg]; exact (below_size HB.out) : w.heap.size ≤ gb401)); clear HB; revert n0_ n1_ n2_ n3_; intro HB BK401 GW401 GE401; clear hb hbox hg) | ((with_reducible refine gate_dst (N := 47) rfl ?_); refine Kd.R_lit (Kd.int .i64) _ 3 ?hg (N := 47) ?hd (xs := ([0, 1] : List Int)) (inner := [.int .i64 0, .int .i64 1]) (ok := fun _ => True) (okp := fun _ => True) ?hr ?hp (fun _ hk => hk) trivial (Below.refl _ _) (Nat.le_refl _) (by simp) ?_; (case hd | hg => rfl); (case hr => go_simp; done); (case hp => exact (Reps.one (show Kd.M (Kd.int .i64) _ _ _ 0 [.int .i64 0] from rfl) (Reps.one (show Kd.M (Kd.int .i64) _ _ _ 1 [.int .i64 1] from rfl) (Reps.none _ _)))); intro v478 w94 ho95 hb hg_ hnew_; clear hg_ hnew_; (first | rw [← Ny477.out] at ho95 | (simp only [Int.reduceToNat] at ho95; rw [← Ny477.out] at ho95)); have n0_ := A_ (Kd.R_lower (Kd.R_newM (M := fun k_ => (w.heap.size ≤ k_)) ho95 (below_size HB.out) (fun k_ h_ => h_)) (below_size HB.out)); have n1_ := A_ (blk_below BK401.out hb); have n2_ := A_ (below_step HB.out hb); clear BK401 HB; revert n0_ n1_ n2_; intro HO479 BK401 HB; clear hb ho95) | ((with_reducible refine gate_dst (N := 48) rfl ?_); refine Kd.R_lit (Kd.int .i64) _ 3 ?hg (N := 48) ?hd (xs := ([2, 0] : List Int)) (inner := [.int .i64 2, .int .i64 0]) (ok := fun _ => True) (okp := fun _ => True) ?hr ?hp (fun _ hk => hk) trivial (Below.refl _ _) (Nat.le_refl _) (by simp) ?_; (case hd | hg => rfl); (case hr => go_simp; done); (case hp => exact (Reps.one (show Kd.M (Kd.int .i64) _ _ _ 2 [.int .i64 2] from rfl) (Reps.one (show Kd.M (Kd.int .i64) _ _ _ 0 [.int .i64 0] from rfl) (Reps.none _ _)))); intro v481 w96 ho97 hb hg_ hnew_; clear hg_ hnew_; (first | rw [← Ny480.out] at ho97 | (simp only [Int.reduceToNat] at ho97; rw [← Ny480.out] at ho97)); have n0_ := A_ (Kd.R_elder' HO479.out (Kd.R_base ho97) hb); have n1_ := A_ (Kd.R_lower (Kd.R_new' (Kd.R_newM (M := fun k_ => (w.heap.size ≤ k_)) ho97 (below_size HB.out) (fun k_ h_ => h_)) (Kd.R_lt HO479.out)) (below_size HB.out)); have n2_ := A_ (blk_below BK401.out hb); have n3_ := A_ (below_step HB.out hb); clear HO479 BK401 HB; revert n0_ n1_ n2_ n3_; intro HO479 HO482 BK401 HB; clear hb ho97) | ((with_reducible refine gate_dst (N := 49) rfl ?_); refine Kd.R_lit (Kd.int .i64) _ 3 ?hg (N := 49) ?hd (xs := ([1, 2] : List Int)) (inner := [.int .i64 1, .int .i64 2]) (ok := fun _ => True) (okp := fun _ => True) ?hr ?hp (fun _ hk => hk) trivial (Below.refl _ _) (Nat.le_refl _) (by simp) ?_; (case hd | hg => rfl); (case hr => go_simp; done); (case hp => exact (Reps.one (show Kd.M (Kd.int .i64) _ _ _ 1 [.int .i64 1] from rfl) (Reps.one (show Kd.M (Kd.int .i64) _ _ _ 2 [.int .i64 2] from rfl) (Reps.none _ _)))); intro v484 w98 ho99 hb hg_ hnew_; clear hg_ hnew_; (first | rw [← Ny483.out] at ho99 | (simp only [Int.reduceToNat] at ho99; rw [← Ny483.out] at ho99)); have n0_ := A_ (Kd.R_elder' HO479.out (Kd.R_base ho99) hb); have n1_ := A_ (Kd.R_elder' HO482.out (Kd.R_base ho99) hb); have n2_ := A_ (Kd.R_lower (Kd.R_new' (Kd.R_new' (Kd.R_newM (M := fun k_ => (w.heap.size ≤ k_)) ho99 (below_size HB.out) (fun k_ h_ => h_)) (Kd.R_lt HO479.out)) (Kd.R_lt HO482.out)) (below_size HB.out)); have n3_ := A_ (blk_below BK401.out hb); have n4_ := A_ (below_step HB.out hb); clear HO479 HO482 BK401 HB; revert n0_ n1_ n2_ n3_ n4_; intro HO479 HO482 HO485 BK401 HB; clear hb ho99; obtain ⟨Ao100, co100, eo100⟩ := Kd.R_slice HO479.out; subst eo100; obtain ⟨Ao101, co101, eo101⟩ := Kd.R_slice HO482.out; subst eo101; obtain ⟨Ao102, co102, eo102⟩ := Kd.R_slice HO485.out; subst eo102) | ((with_reducible refine gate_dst (N := 50) rfl ?_); refine Kd.N_lit (Kd.slice 3 (Kd.int .i64)) _ 24 ?hg (N' := 50) ?hd (xs := ([y477, y480, y483] : List (List Int))) (inner := [.slice Ao100 y477.length co100, .slice Ao101 y480.length co101, .slice Ao102 y483.length co102]) (ok := (fun k_ => (w.heap.size ≤ k_) ∧ k_ ≠ gb401)) (okp := (fun k_ => (w.heap.size ≤ k_) ∧ k_ ≠ gb401)) ?hr ?hp (fun _ hk => hk) ((show ∀ k_, w98.heap.size ≤ k_ → (fun k_ => (w.heap.size ≤ k_) ∧ k_ ≠ gb401) k_ from fun k_ hk => ⟨(Nat.le_trans (below_size HB.out) hk), Kd.freshB BK401.out k_ hk⟩) _ (Nat.le_refl _)) (Below.refl _ _) (Nat.le_refl _) (by simp) ?_; (case hd | hg => rfl); (case hr => go_simp; done); (case hp => exact (Reps.one (show Kd.FK (Kd.slice 3 (Kd.int .i64)) _ _ y477 [.slice Ao100 y477.length co100] from (Kd.FK_slice_mk (Kd.R_reads' (Kd.R_mono (ok' := (fun k_ => (w.heap.size ≤ k_) ∧ k_ ≠ gb401)) (Kd.R_types (HO479.out) BK401.out (by decide)) (fun k_ hk => ⟨hk.1.1.1.1, hk.2⟩))).2.1 (Kd.R_F (Kd.R_mono (ok' := (fun k_ => (w.heap.size ≤ k_) ∧ k_ ≠ gb401)) (Kd.R_types (HO479.out) BK401.out (by decide)) (fun k_ hk => ⟨hk.1.1.1.1, hk.2⟩))))) (Reps.one (show Kd.FK (Kd.slice 3 (Kd.int .i64)) _ _ y480 [.slice Ao101 y480.length co101] from (Kd.FK_slice_mk (Kd.R_reads' (Kd.R_mono (ok' := (fun k_ => (w.heap.size ≤ k_) ∧ k_ ≠ gb401)) (Kd.R_types (HO482.out) BK401.out (by decide)) (fun k_ hk => ⟨hk.1.1.1.1, hk.2⟩))).2.1 (Kd.R_F (Kd.R_mono (ok' := (fun k_ => (w.heap.size ≤ k_) ∧ k_ ≠ gb401)) (Kd.R_types (HO482.out) BK401.out (by decide)) (fun k_ hk => ⟨hk.1.1.1.1, hk.2⟩))))) (Reps.one (show Kd.FK (Kd.slice 3 (Kd.int .i64)) _ _ y483 [.slice Ao102 y483.length co102] from (Kd.FK_slice_mk (Kd.R_reads' (Kd.R_mono (ok' := (fun k_ => (w.heap.size ≤ k_) ∧ k_ ≠ gb401)) (Kd.R_types (HO485.out) BK401.out (by decide)) (fun k_ hk => ⟨hk.1.1.1.1, hk.2⟩))).2.1 (Kd.R_F (Kd.R_mono (ok' := (fun k_ => (w.heap.size ≤ k_) ∧ k_ ≠ gb401)) (Kd.R_types (HO485.out) BK401.out (by decide)) (fun k_ hk => ⟨hk.1.1.1.1, hk.2⟩))))) (Reps.none _ _))))); intro v487 w103 ho104 hb hg_ hnew_; clear hg_ hnew_; (first | rw [← Ny486.out] at ho104 | (simp only [Int.reduceToNat] at ho104; rw [← Ny486.out] at ho104)); have n0_ := A_ (Kd.N_lower ho104 (below_size HB.out)); have n1_ := A_ (blk_below BK401.out hb); have n2_ := A_ (below_step HB.out hb); clear BK401 HB HO479 HO482 HO485; revert n0_ n1_ n2_; intro HO488 BK401 HB; clear hb ho104) | ((with_reducible refine gate_dst (N := 51) rfl ?_); refine Kd.R_lit (Kd.int .i64) _ 3 ?hg (N := 51) ?hd (xs := ([0, 1, 2] : List Int)) (inner := [.int .i64 0, .int .i64 1, .int .i64 2]) (ok := fun _ => True) (okp := fun _ => True) ?hr ?hp (fun _ hk => hk) trivial (Below.refl _ _) (Nat.le_refl _) (by simp) ?_; (case hd | hg => rfl); (case hr => go_simp; done); (case hp => exact (Reps.one (show Kd.M (Kd.int .i64) _ _ _ 0 [.int .i64 0] from rfl) (Reps.one (show Kd.M (Kd.int .i64) _ _ _ 1 [.int .i64 1] from rfl) (Reps.one (show Kd.M (Kd.int .i64) _ _ _ 2 [.int .i64 2] from rfl) (Reps.none _ _))))); intro v490 w105 ho106 hb hg_ hnew_; clear hg_ hnew_; (first | rw [← Ny489.out] at ho106 | (simp only [Int.reduceToNat] at ho106; rw [← Ny489.out] at ho106)); have n0_ := A_ (Kd.N_elder' HO488.out (Kd.R_base ho106) hb); have n1_ := A_ (Kd.R_lower (Kd.R_newM (M := fun k_ => (w.heap.size ≤ k_)) ho106 (below_size HB.out) (fun k_ h_ => h_)) (below_size HB.out)); have n2_ := A_ (blk_below BK401.out hb); have n3_ := A_ (below_step HB.out hb); clear HO488 BK401 HB; revert n0_ n1_ n2_ n3_; intro HO488 HO491 BK401 HB; clear hb ho106; obtain ⟨Ao107, co107, eo107⟩ := Kd.R_slice HO491.out; subst eo107; obtain ⟨Ao108, co108, eo108⟩ := Kd.N_slice HO488.out; subst eo108; have hcz109_0 : w105.cell? ⟨gb401, 0, none⟩ = some (.int .i64 0) := (blk_cell BK401.out 0).trans rfl; have hcz109_1 : w105.cell? ⟨gb401, 1, none⟩ = some (.slice none 0 0) := (blk_cell BK401.out 1).trans rfl; have hcz109_2 : w105.cell? ⟨gb401, 2, none⟩ = some (.slice none 0 0) := (blk_cell BK401.out 2).trans rfl; have hfz109_0 := blk_frozen BK401.out 0; have hfz109_1 := blk_frozen BK401.out 1; have hfz109_2 := blk_frozen BK401.out 2))
  refine bodyPost_ret (results_ct rfl _ _ gb401 72 #[.int .i64 2, .slice Ao108 y486.length co108, .slice Ao107 y489.length co107] (0, 0) _ rfl (by refine blk_put (cs := #[.int .i64 2, .slice Ao108 y486.length co108, .slice none 0 0]) ?_ 2 _ rfl; refine blk_put (cs := #[.int .i64 2, .slice none 0 0, .slice none 0 0]) ?_ 1 _ rfl; refine blk_put (cs := #[.int .i64 0, .slice none 0 0, .slice none 0 0]) ?_ 0 _ rfl; exact BK401.out) Try.underlying72 rfl (by kernel_rfl)) rfl ?_
  exact ⟨_, _, by rfl, by exact Kd.N_mono (Kd.N_far (p := ⟨gb401, 2, none⟩) (Kd.N_far (p := ⟨gb401, 1, none⟩) (Kd.N_far (p := ⟨gb401, 0, none⟩) (Kd.N_mono HO488.out (fun k_ hk => (⟨hk, hk.1.2⟩ : _ ∧ k_ ≠ gb401))) (fun _ hk => hk.2) (.int .i64 2)) (fun _ hk => hk.2) (.slice Ao108 y486.length co108)) (fun _ hk => hk.2) (.slice Ao107 y489.length co107)) (fun _ hk => ⟨hk.1.1.1, hk.1.2⟩), by exact Kd.R_mono (Kd.R_far (p := ⟨gb401, 2, none⟩) (Kd.R_far (p := ⟨gb401, 1, none⟩) (Kd.R_far (p := ⟨gb401, 0, none⟩) (Kd.R_types HO491.out BK401.out (by decide)) (fun _ hk => hk.2) (.int .i64 2)) (fun _ hk => hk.2) (.slice Ao108 y486.length co108)) (fun _ hk => hk.2) (.slice Ao107 y489.length co107)) (fun _ hk => hk.1.1), by repeat (first | (with_reducible first | exact HB.out | apply below_alloc | apply pw_below_drewN | apply below_drew1 | refine below_set ?_ GE401.out) | exact HB.out)⟩
 rw [if_neg c92] at H
 have c92b0 : (a0.toList == ([109, 111, 100] : List UInt8)) = false := beq_eq_false_iff_ne.mpr c92
 have c92b1 : (a0.toList != ([109, 111, 100] : List UInt8)) = true := bne_iff_ne.mpr c92
 simp only [Option.some.injEq, Prod.mk.injEq] at H
 obtain ⟨rfl, rfl, rfl, rfl⟩ := H
 go_enter Try.func98, Try.ntmps98
 go_wp2_with (first | ((with_reducible refine gate_dst (N := 2) rfl ?_); refine box_event ?hg (N := 2) ?hd (cs := #[.int .i64 0, .slice none 0 0, .slice none 0 0]) (t := 72) ?hr ?_; (case hd | hg => rfl); (case hr => go_simp; done); intro gb401 hg w110 hbox hb; have n0_ := A_ (below_step HB.out hb); have n1_ := A_ (hbox); have n2_ := A_ ((by rw [hg]; exact (below_size HB.out) : w.heap.size ≤ gb401)); have n3_ := A_ ((by rw [hg]; exact (below_size HB.out) : w.heap.size ≤ gb401)); clear HB; revert n0_ n1_ n2_ n3_; intro HB BK401 GW401 GE401; clear hb hbox hg; have hcz111_0 : w110.cell? ⟨gb401, 0, none⟩ = some (.int .i64 0) := (blk_cell BK401.out 0).trans rfl; have hcz111_1 : w110.cell? ⟨gb401, 1, none⟩ = some (.slice none 0 0) := (blk_cell BK401.out 1).trans rfl; have hcz111_2 : w110.cell? ⟨gb401, 2, none⟩ = some (.slice none 0 0) := (blk_cell BK401.out 2).trans rfl; have hfz111_0 := blk_frozen BK401.out 0; have hfz111_1 := blk_frozen BK401.out 1; have hfz111_2 := blk_frozen BK401.out 2))
 refine bodyPost_ret (results_ct rfl _ _ gb401 72 #[.int .i64 0, .slice none 0 0, .slice none 0 0] (0, 0) _ rfl (by refine blk_put (cs := #[.int .i64 0, .slice none 0 0, .slice none 0 0]) ?_ 2 _ rfl; refine blk_put (cs := #[.int .i64 0, .slice none 0 0, .slice none 0 0]) ?_ 1 _ rfl; refine blk_put (cs := #[.int .i64 0, .slice none 0 0, .slice none 0 0]) ?_ 0 _ rfl; exact BK401.out) Try.underlying72 rfl (by kernel_rfl)) rfl ?_
 exact ⟨_, _, by rfl, by exact Kd.N_nil _ _ _ _ _, by exact Kd.R_nil _ _ _ _ _, by repeat (first | (with_reducible first | exact HB.out | apply below_alloc | apply pw_below_drewN | apply below_drew1 | refine below_set ?_ GE401.out) | exact HB.out)⟩

end Go.Proofs.Ytdcakddfibnllaa.PFnFibonacci
