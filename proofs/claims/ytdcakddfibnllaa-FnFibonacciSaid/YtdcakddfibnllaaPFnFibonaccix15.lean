/- Written by this session's own program (wip/myprint.py): the machine side of one law, some contracts of it typed by hand. -/
import Derived.Test.YtdcakddfibnllaaPFnFibonaccix0
import Derived.Test.YtdcakddfibnllaaPFnFibonaccix7
import Derived.Test.YtdcakddfibnllaaPFnFibonaccix10
namespace Go.Proofs.Ytdcakddfibnllaa.PFnFibonacci
open Go.RowKit Go.Proofs.YtdcakddfibnllaaW.PrintWords Go.Proofs.YtdcakddfibnllaaW.PrintLast Go.Proofs.YtdcakddfibnllaaW.PrintMore
attribute [local go_sem] max2_int min2_int max_two min_two max_three min_three max_four min_four   -- for this text's walks alone
set_option linter.unusedVariables false
set_option maxHeartbeats 8000000
set_option maxRecDepth 100000
set_option linter.unusedSimpArgs false

/-! ### spec_l7Morphism: function 92 -/
theorem S_toN {α : Type} {d : Kd α} {e base : Nat} {w : World} {ok : Nat → Prop} {v : Value} {xs : List α} (h : Kd.S d e w base ok v xs) : Kd.N d e w base (fun k_ => base ≤ k_) v xs := Kd.N_mono (Kd.R_N (Kd.S_R (Kd.S_bound h))) (fun _ hk => hk.2.1)
mutual
def spec_l7Morphism.l0 : Nat → Int → Int → List Int → Int → Int → List (List Int) → Option ((List (List Int)) × Int × Int)
 | 0, _, _, _, _, _, _ => none
 | k + 1, x3, x5, x1000, x1001, x1002, x614000 => if x5 < x3 then ((spec_l1Below.f x1000 x1001 x1002 4).bind fun bt617 => (spec_l7Morphism.l1 k x3 x5 (([] : List Int)) bt617.1 x1000 bt617.2.1 bt617.2.2 x614000)) else ((spec_l1Once.f x1000 x1001 x1002 12).bind fun bt629 => (if bt629.1 = true then (if 0 < (x614000.length : Int) then ((spec_l1PickInt.f x1000 bt629.2.1 bt629.2.2 (([(-1), 4, 0] : List Int))).bind fun bt636 => (if (rd_L1 x614000 0).length < 17592186044416 then (some ((x614000.set (0 : Int).toNat ((rd_L1 x614000 0) ++ [bt636.1])), bt636.2.1, bt636.2.2)) else (none))) else (none)) else (some (x614000, bt629.2.1, bt629.2.2))))
def spec_l7Morphism.l1 : Nat → Int → Int → List Int → Int → List Int → Int → Int → List (List Int) → Option ((List (List Int)) × Int × Int)
 | 0, _, _, _, _, _, _, _, _ => none
 | k + 1, x3, x5, x6, x7, x1000, x1001, x1002, x614000 => if x7 > 0 then ((spec_l1Below.f x1000 x1001 x1002 x3).bind fun bt620 => (if x6.length < 17592186044416 then (spec_l7Morphism.l1 k x3 x5 (x6 ++ [bt620.1]) (wrap64 (x7 - 1)) x1000 bt620.2.1 bt620.2.2 x614000) else (none))) else (if x614000.length < 5864062014805 then (spec_l7Morphism.l0 k x3 (wrap64 (x5 + 1)) x1000 x1001 x1002 (x614000 ++ [x6])) else (none))
end
def spec_l7Morphism.f (k : Nat) (s0_0 : List Int) (s0_1 : Int) (s0_2 : Int) : Option ((List (List Int)) × Int × Int) := (spec_l1Below.f s0_0 s0_1 s0_2 5).bind fun bt644 => (if bt644.1 = 0 then (some ((([(([0, 1] : List Int)), (([1, 0] : List Int))] : List (List Int))), bt644.2.1, bt644.2.2)) else (if bt644.1 = 1 then (some ((([(([0, 1] : List Int)), (([0] : List Int))] : List (List Int))), bt644.2.1, bt644.2.2)) else (if bt644.1 = 2 then (some ((([(([0, 1, 2] : List Int)), (([0, 2] : List Int)), (([1] : List Int))] : List (List Int))), bt644.2.1, bt644.2.2)) else ((spec_l1Below.f s0_0 bt644.2.1 bt644.2.2 3).bind fun bt677 => (spec_l7Morphism.l0 k (wrap64 (1 + bt677.1)) 0 s0_0 bt677.2.1 bt677.2.2 ([] : List (List Int)))))))
theorem spec_l7Morphism.mono_l : ∀ k, (∀ y0 y1 y2 y3 y4 y5, LeO (spec_l7Morphism.l0 k y0 y1 y2 y3 y4 y5) (spec_l7Morphism.l0 (k + 1) y0 y1 y2 y3 y4 y5)) ∧ (∀ y0 y1 y2 y3 y4 y5 y6 y7, LeO (spec_l7Morphism.l1 k y0 y1 y2 y3 y4 y5 y6 y7) (spec_l7Morphism.l1 (k + 1) y0 y1 y2 y3 y4 y5 y6 y7))
 | 0 => ⟨fun _ _ _ _ _ _ r h => by simp [spec_l7Morphism.l0] at h, fun _ _ _ _ _ _ _ _ r h => by simp [spec_l7Morphism.l1] at h⟩
 | k + 1 => by
  obtain ⟨ih0, ih1⟩ := spec_l7Morphism.mono_l k
  refine ⟨?_, ?_⟩
  ·intro y0 y1 y2 y3 y4 y5
   unfold spec_l7Morphism.l0
   with_reducible repeat' first | exact ih0 _ _ _ _ _ _ | exact ih1 _ _ _ _ _ _ _ _ | exact LeO.refl _ | exact LeO.none _ | refine LeO.ite ?_ ?_ | refine LeO.bind ?_ (fun _ => ?_)
  intro y0 y1 y2 y3 y4 y5 y6 y7
  unfold spec_l7Morphism.l1
  with_reducible repeat' first | exact ih0 _ _ _ _ _ _ | exact ih1 _ _ _ _ _ _ _ _ | exact LeO.refl _ | exact LeO.none _ | refine LeO.ite ?_ ?_ | refine LeO.bind ?_ (fun _ => ?_)
theorem spec_l7Morphism.mono : ∀ a0 a1 a2 k, LeO (spec_l7Morphism.f k a0 a1 a2) (spec_l7Morphism.f (k + 1) a0 a1 a2) := by
 intro a0 a1 a2 k
 obtain ⟨ih0, ih1⟩ := spec_l7Morphism.mono_l k
 unfold spec_l7Morphism.f
 with_reducible repeat' first | exact ih0 _ _ _ _ _ _ | exact ih1 _ _ _ _ _ _ _ _ | exact LeO.refl _ | exact LeO.none _ | refine LeO.ite ?_ ?_ | refine LeO.bind ?_ (fun _ => ?_)
def spec_l7Morphism.T20 : Bool × List (List Nat × List Nat) := (true, [([], []), ([0], [0]), ([], []), ([2], [2]), ([3], [3]), ([4], [4]), ([], []), ([], []), ([6, 7], [6, 7]), ([8], [8]), ([5, 9, 8], [5, 9]), ([1, 0, 1, 2, 3, 4, 5, 6, 7, 8, 9, 10], [1]), ([11, 10, 10, 0, 1, 2, 3, 4, 5, 6, 7, 8, 9, 10], [10, 11])])
def spec_l7Morphism.B20 : List Nat := [0, 1, 0, 4, 12, 28, 0, 0, 192, 448, 1020, 2047, 4095]
theorem spec_l7Morphism.tab20 : rtab .any (opsOf Try.f92 20) = spec_l7Morphism.T20 := by kernel_rfl
theorem spec_l7Morphism.bits20 : waitsOk spec_l7Morphism.T20.2 spec_l7Morphism.B20 = true := by kernel_rfl
theorem spec_l7Morphism.calls (k : Nat) (g : Nat) (s0_0 : List Int) (s0_1 : Int) (s0_2 : Int) (r1 : List (List Int)) (r2 : Int) (r3 : Int) (w0 w : World) (hI : IsS67 w0 w g s0_0 s0_1 s0_2) (hB : Below w0.heap.size w0 w) (h : spec_l7Morphism.f k s0_0 s0_1 s0_2 = some (r1, r2, r3)) :
  Calls Try.prog 92 #[.pointer (some ⟨g, 0, none⟩)] w fun e w' => ∃ v0_ : Value, e = .returned (.agg #[v0_]) ∧ Kd.N (Kd.slice 3 (Kd.int .i64)) 24 w' w.heap.size (fun k_ => (w.heap.size ≤ k_)) v0_ r1 ∧ IsS67 w0 w' g s0_0 r2 r3 ∧ Below w0.heap.size w0 w' ∧ KeepBut w w' g none := by
 have hu46 := Try.underlying46
 have HI0 := A_ hI
 have HK := A_ (KeepBut.refl w g none)
 have HL := A_ hB.size
 clear hI
 have HW0 := A_ hB.size
 have HB := A_ hB
 clear hB
 unfold spec_l7Morphism.f at h
 have H := h
 clear h
 replace H := Option.bind_eq_some_iff.mp H
 obtain ⟨⟨t644, t645, t646⟩, A20, H⟩ := H
 dsimp only at H
 have A2 := A_ A20
 clear A20
 by_cases c3 : t644 = 0
 ·rw [if_pos c3] at H
  have c3b0 : (t644 == 0) = true := beq_iff_eq.mpr c3
  have c3b1 : (t644 != 0) = false := bne_eq_false_iff_eq.mpr c3
  clear c3
  obtain ⟨y647, hy647⟩ : ∃ y_ : List Int, y_ = (([0, 1] : List Int)) := ⟨_, rfl⟩
  replace H : (some ((([y647, (([1, 0] : List Int))] : List (List Int))), t645, t646)) = some (r1, r2, r3) := by (rw [hy647]; with_reducible exact H)
  have Ny647 := A_ hy647
  clear hy647
  obtain ⟨y650, hy650⟩ : ∃ y_ : List Int, y_ = (([1, 0] : List Int)) := ⟨_, rfl⟩
  replace H : (some ((([y647, y650] : List (List Int))), t645, t646)) = some (r1, r2, r3) := by (rw [hy650]; with_reducible exact H)
  have Ny650 := A_ hy650
  clear hy650
  obtain ⟨y653, hy653⟩ : ∃ y_ : List (List Int), y_ = (([y647, y650] : List (List Int))) := ⟨_, rfl⟩
  replace H : (some (y653, t645, t646)) = some (r1, r2, r3) := by (rw [hy653]; with_reducible exact H)
  have Ny653 := A_ hy653
  clear hy653
  simp only [Option.some.injEq, Prod.mk.injEq] at H
  obtain ⟨rfl, rfl, rfl⟩ := H
  go_enter Try.func92, Try.ntmps92
  go_wp2_with (first | ((with_reducible refine gate_dst (N := 2) rfl ?_); refine box_event ?hg (N := 2) ?hd (cs := #[.slice none 0 0]) (t := 46) ?hr ?_; (case hd | hg => rfl); (case hr => go_simp; done); intro gb643 hg w4 hbox hb; have n0_ := A_ (IsS67.below HI0.out hb); have n1_ := A_ (KeepBut.trans HK.out (KeepBut.of_below hb g none) (.inl rfl)); have n2_ := A_ (below_step HB.out hb); have n3_ := A_ (hbox); have n4_ := A_ ((by rw [hg]; exact (keep_size HK.out) : w.heap.size ≤ gb643)); have n5_ := A_ ((Nat.le_trans HW0.out (by rw [hg]; exact (keep_size HK.out) : w.heap.size ≤ gb643) : w0.heap.size ≤ gb643)); have n6_ := A_ ((by rw [hg]; exact Nat.ne_of_lt (IsS67.lt HI0.out) : g ≠ gb643)); have n7_ := A_ ((by rw [hg]; exact Nat.ne_of_gt (IsS67.lt HI0.out) : gb643 ≠ g)); clear HI0 HK HB; revert n0_ n1_ n2_ n3_ n4_ n5_ n6_ n7_; intro HI0 HK HB BK643 GW643 GE643 NB0_643 NB643_0; clear hb hbox hg) | ((with_reducible refine gate_callee (f := 74) rfl ?_); refine goesL_ (some 9) rfl rfl Try.func74 (by kernel_rfl) rfl #[.pointer (some ⟨g, 0, none⟩), .int .i64 5] rfl (by (try simp only [mA, mB, mC]); first | done | rfl | (simp only [List.length_drop, List.length_take]; rfl)) ?_; (with_reducible refine (spec_l1Below.calls g s0_0 s0_1 s0_2 5 t644 t645 t646 w0 _ ?side1 ?side2 A2.out).mono ?_); (case side1 => exact HI0.out); (case side2 => exact HB.out); rintro e w5 ⟨rfl, hi, hb, hk⟩; refine ⟨_, rfl, ?_⟩; have n0_ := A_ (KeepBut.blk hk BK643.out NB643_0.out (by simp)); have n1_ := A_ (KeepBut.trans HK.out hk (.inl rfl)); have n2_ := A_ (hb); have n3_ := A_ (hi); clear BK643 HK HB HI0; revert n0_ n1_ n2_ n3_; intro BK643 HK HB HI0; clear hb hk; (try clear hi)) | ((with_reducible refine gate_dst (N := 12) rfl ?_); refine Kd.R_lit (Kd.int .i64) _ 3 ?hg (N := 12) ?hd (xs := ([0, 1] : List Int)) (inner := [.int .i64 0, .int .i64 1]) (ok := fun _ => True) (okp := fun _ => True) ?hr ?hp (fun _ hk => hk) trivial (Below.refl _ _) (Nat.le_refl _) (by simp) ?_; (case hd | hg => rfl); (case hr => go_simp; done); (case hp => exact (Reps.one (show Kd.M (Kd.int .i64) _ _ _ 0 [.int .i64 0] from rfl) (Reps.one (show Kd.M (Kd.int .i64) _ _ _ 1 [.int .i64 1] from rfl) (Reps.none _ _)))); intro v648 w6 ho7 hb hg_ hnew_; clear hg_ hnew_; (first | rw [← Ny647.out] at ho7 | (simp only [Int.reduceToNat] at ho7; rw [← Ny647.out] at ho7)); have n0_ := A_ (Kd.R_lower (Kd.R_newM (M := fun k_ => (w.heap.size ≤ k_)) ho7 (keep_size HK.out) (fun k_ h_ => h_)) (keep_size HK.out)); have n1_ := A_ (IsS67.below HI0.out hb); have n2_ := A_ (blk_below BK643.out hb); have n3_ := A_ (KeepBut.trans HK.out (KeepBut.of_below hb g none) (.inl rfl)); have n4_ := A_ (below_step HB.out hb); clear HI0 BK643 HK HB; revert n0_ n1_ n2_ n3_ n4_; intro HO649 HI0 BK643 HK HB; clear hb ho7) | ((with_reducible refine gate_dst (N := 13) rfl ?_); refine Kd.R_lit (Kd.int .i64) _ 3 ?hg (N := 13) ?hd (xs := ([1, 0] : List Int)) (inner := [.int .i64 1, .int .i64 0]) (ok := fun _ => True) (okp := fun _ => True) ?hr ?hp (fun _ hk => hk) trivial (Below.refl _ _) (Nat.le_refl _) (by simp) ?_; (case hd | hg => rfl); (case hr => go_simp; done); (case hp => exact (Reps.one (show Kd.M (Kd.int .i64) _ _ _ 1 [.int .i64 1] from rfl) (Reps.one (show Kd.M (Kd.int .i64) _ _ _ 0 [.int .i64 0] from rfl) (Reps.none _ _)))); intro v651 w8 ho9 hb hg_ hnew_; clear hg_ hnew_; (first | rw [← Ny650.out] at ho9 | (simp only [Int.reduceToNat] at ho9; rw [← Ny650.out] at ho9)); have n0_ := A_ (Kd.R_elder' HO649.out (Kd.R_base ho9) hb); have n1_ := A_ (Kd.R_lower (Kd.R_new' (Kd.R_newM (M := fun k_ => (w.heap.size ≤ k_)) ho9 (keep_size HK.out) (fun k_ h_ => h_)) (Kd.R_lt HO649.out)) (keep_size HK.out)); have n2_ := A_ (IsS67.below HI0.out hb); have n3_ := A_ (blk_below BK643.out hb); have n4_ := A_ (KeepBut.trans HK.out (KeepBut.of_below hb g none) (.inl rfl)); have n5_ := A_ (below_step HB.out hb); clear HO649 HI0 BK643 HK HB; revert n0_ n1_ n2_ n3_ n4_ n5_; intro HO649 HO652 HI0 BK643 HK HB; clear hb ho9; obtain ⟨Ao10, co10, eo10⟩ := Kd.R_slice HO649.out; subst eo10; obtain ⟨Ao11, co11, eo11⟩ := Kd.R_slice HO652.out; subst eo11) | ((with_reducible refine gate_dst (N := 14) rfl ?_); refine Kd.N_lit (Kd.slice 3 (Kd.int .i64)) _ 24 ?hg (N' := 14) ?hd (xs := ([y647, y650] : List (List Int))) (inner := [.slice Ao10 y647.length co10, .slice Ao11 y650.length co11]) (ok := (fun k_ => (w.heap.size ≤ k_) ∧ k_ ≠ gb643 ∧ k_ ≠ g)) (okp := (fun k_ => (w.heap.size ≤ k_) ∧ k_ ≠ gb643 ∧ k_ ≠ g)) ?hr ?hp (fun _ hk => hk) ((show ∀ k_, w8.heap.size ≤ k_ → (fun k_ => (w.heap.size ≤ k_) ∧ k_ ≠ gb643 ∧ k_ ≠ g) k_ from fun k_ hk => ⟨(Nat.le_trans (keep_size HK.out) hk), Kd.freshB BK643.out k_ hk, IsS67.fresh HI0.out k_ hk⟩) _ (Nat.le_refl _)) (Below.refl _ _) (Nat.le_refl _) (by simp) ?_; (case hd | hg => rfl); (case hr => go_simp; done); (case hp => exact (Reps.one (show Kd.FK (Kd.slice 3 (Kd.int .i64)) _ _ y647 [.slice Ao10 y647.length co10] from (Kd.FK_slice_mk (Kd.R_reads' (Kd.R_mono (ok' := (fun k_ => (w.heap.size ≤ k_) ∧ k_ ≠ gb643 ∧ k_ ≠ g)) (IsS67.apart HI0.out (Kd.R_types (HO649.out) BK643.out (by decide)) (by decide)) (fun k_ hk => ⟨hk.1.1.1.1, ⟨hk.1.2, hk.2⟩⟩))).2.1 (Kd.R_F (Kd.R_mono (ok' := (fun k_ => (w.heap.size ≤ k_) ∧ k_ ≠ gb643 ∧ k_ ≠ g)) (IsS67.apart HI0.out (Kd.R_types (HO649.out) BK643.out (by decide)) (by decide)) (fun k_ hk => ⟨hk.1.1.1.1, ⟨hk.1.2, hk.2⟩⟩))))) (Reps.one (show Kd.FK (Kd.slice 3 (Kd.int .i64)) _ _ y650 [.slice Ao11 y650.length co11] from (Kd.FK_slice_mk (Kd.R_reads' (Kd.R_mono (ok' := (fun k_ => (w.heap.size ≤ k_) ∧ k_ ≠ gb643 ∧ k_ ≠ g)) (IsS67.apart HI0.out (Kd.R_types (HO652.out) BK643.out (by decide)) (by decide)) (fun k_ hk => ⟨hk.1.1.1.1, ⟨hk.1.2, hk.2⟩⟩))).2.1 (Kd.R_F (Kd.R_mono (ok' := (fun k_ => (w.heap.size ≤ k_) ∧ k_ ≠ gb643 ∧ k_ ≠ g)) (IsS67.apart HI0.out (Kd.R_types (HO652.out) BK643.out (by decide)) (by decide)) (fun k_ hk => ⟨hk.1.1.1.1, ⟨hk.1.2, hk.2⟩⟩))))) (Reps.none _ _)))); intro v654 w12 ho13 hb hg_ hnew_; clear hg_ hnew_; (first | rw [← Ny653.out] at ho13 | (simp only [Int.reduceToNat] at ho13; rw [← Ny653.out] at ho13)); have n0_ := A_ (Kd.N_lower ho13 (keep_size HK.out)); have n1_ := A_ (IsS67.below HI0.out hb); have n2_ := A_ (blk_below BK643.out hb); have n3_ := A_ (KeepBut.trans HK.out (KeepBut.of_below hb g none) (.inl rfl)); have n4_ := A_ (below_step HB.out hb); clear HI0 BK643 HK HB HO649 HO652; revert n0_ n1_ n2_ n3_ n4_; intro HO655 HI0 BK643 HK HB; clear hb ho13; obtain ⟨Ao14, co14, eo14⟩ := Kd.N_slice HO655.out; subst eo14; have hnb15 := NB643_0.out; have hnc15 := NB0_643.out; have hcz16_0 : w12.cell? ⟨gb643, 0, none⟩ = some (.slice none 0 0) := (blk_cell BK643.out 0).trans rfl; have hfz16_0 := blk_frozen BK643.out 0))
  refine bodyPost_ret (results_cell_row rfl _ _ gb643 46 #[.slice Ao14 y653.length co14] (0, 0) _ rfl (by refine blk_put (cs := #[.slice none 0 0]) ?_ 0 _ rfl; exact BK643.out) Try.underlying46 rfl (by kernel_rfl)) rfl ?_
  exact ⟨_, by rfl, by exact Kd.N_mono (Kd.N_far (p := ⟨gb643, 0, none⟩) (Kd.N_mono HO655.out (fun k_ hk => (⟨hk, hk.2.1⟩ : _ ∧ k_ ≠ gb643))) (fun _ hk => hk.2) (.slice Ao14 y653.length co14)) (fun _ hk => hk.1.1), by repeat (first | (with_reducible first | exact HI0.out | apply IsS67.alloc | apply IsS67.drewN | apply IsS67.drew | apply IsS67.set_1 | apply IsS67.set_2 | refine IsS67.far ?_ NB0_643.out _) | exact HI0.out), by repeat (first | (with_reducible first | exact HB.out | apply below_alloc | apply pw_below_drewN | apply below_drew1 | refine below_set ?_ (IsS67.ge HI0.out) | refine below_set ?_ GE643.out) | exact HB.out), by repeat (first | (with_reducible first | exact HK.out | apply KeepBut.set_ | apply keep_drewN | apply keep_drew | apply keep_alloc | refine keep_far ?_ GW643.out _) | exact HK.out)⟩
 rw [if_neg c3] at H
 have c3b0 : (t644 == 0) = false := beq_eq_false_iff_ne.mpr c3
 have c3b1 : (t644 != 0) = true := bne_iff_ne.mpr c3
 by_cases c17 : t644 = 1
 ·rw [if_pos c17] at H
  have c17b0 : (t644 == 1) = true := beq_iff_eq.mpr c17
  have c17b1 : (t644 != 1) = false := bne_eq_false_iff_eq.mpr c17
  clear c17
  obtain ⟨y656, hy656⟩ : ∃ y_ : List Int, y_ = (([0, 1] : List Int)) := ⟨_, rfl⟩
  replace H : (some ((([y656, (([0] : List Int))] : List (List Int))), t645, t646)) = some (r1, r2, r3) := by (rw [hy656]; with_reducible exact H)
  have Ny656 := A_ hy656
  clear hy656
  obtain ⟨y659, hy659⟩ : ∃ y_ : List Int, y_ = (([0] : List Int)) := ⟨_, rfl⟩
  replace H : (some ((([y656, y659] : List (List Int))), t645, t646)) = some (r1, r2, r3) := by (rw [hy659]; with_reducible exact H)
  have Ny659 := A_ hy659
  clear hy659
  obtain ⟨y662, hy662⟩ : ∃ y_ : List (List Int), y_ = (([y656, y659] : List (List Int))) := ⟨_, rfl⟩
  replace H : (some (y662, t645, t646)) = some (r1, r2, r3) := by (rw [hy662]; with_reducible exact H)
  have Ny662 := A_ hy662
  clear hy662
  simp only [Option.some.injEq, Prod.mk.injEq] at H
  obtain ⟨rfl, rfl, rfl⟩ := H
  go_enter Try.func92, Try.ntmps92
  go_wp2_with (first | ((with_reducible refine gate_dst (N := 2) rfl ?_); refine box_event ?hg (N := 2) ?hd (cs := #[.slice none 0 0]) (t := 46) ?hr ?_; (case hd | hg => rfl); (case hr => go_simp; done); intro gb643 hg w18 hbox hb; have n0_ := A_ (IsS67.below HI0.out hb); have n1_ := A_ (KeepBut.trans HK.out (KeepBut.of_below hb g none) (.inl rfl)); have n2_ := A_ (below_step HB.out hb); have n3_ := A_ (hbox); have n4_ := A_ ((by rw [hg]; exact (keep_size HK.out) : w.heap.size ≤ gb643)); have n5_ := A_ ((Nat.le_trans HW0.out (by rw [hg]; exact (keep_size HK.out) : w.heap.size ≤ gb643) : w0.heap.size ≤ gb643)); have n6_ := A_ ((by rw [hg]; exact Nat.ne_of_lt (IsS67.lt HI0.out) : g ≠ gb643)); have n7_ := A_ ((by rw [hg]; exact Nat.ne_of_gt (IsS67.lt HI0.out) : gb643 ≠ g)); clear HI0 HK HB; revert n0_ n1_ n2_ n3_ n4_ n5_ n6_ n7_; intro HI0 HK HB BK643 GW643 GE643 NB0_643 NB643_0; clear hb hbox hg) | ((with_reducible refine gate_callee (f := 74) rfl ?_); refine goesL_ (some 9) rfl rfl Try.func74 (by kernel_rfl) rfl #[.pointer (some ⟨g, 0, none⟩), .int .i64 5] rfl (by (try simp only [mA, mB, mC]); first | done | rfl | (simp only [List.length_drop, List.length_take]; rfl)) ?_; (with_reducible refine (spec_l1Below.calls g s0_0 s0_1 s0_2 5 t644 t645 t646 w0 _ ?side1 ?side2 A2.out).mono ?_); (case side1 => exact HI0.out); (case side2 => exact HB.out); rintro e w19 ⟨rfl, hi, hb, hk⟩; refine ⟨_, rfl, ?_⟩; have n0_ := A_ (KeepBut.blk hk BK643.out NB643_0.out (by simp)); have n1_ := A_ (KeepBut.trans HK.out hk (.inl rfl)); have n2_ := A_ (hb); have n3_ := A_ (hi); clear BK643 HK HB HI0; revert n0_ n1_ n2_ n3_; intro BK643 HK HB HI0; clear hb hk; (try clear hi)) | ((with_reducible refine gate_dst (N := 18) rfl ?_); refine Kd.R_lit (Kd.int .i64) _ 3 ?hg (N := 18) ?hd (xs := ([0, 1] : List Int)) (inner := [.int .i64 0, .int .i64 1]) (ok := fun _ => True) (okp := fun _ => True) ?hr ?hp (fun _ hk => hk) trivial (Below.refl _ _) (Nat.le_refl _) (by simp) ?_; (case hd | hg => rfl); (case hr => go_simp; done); (case hp => exact (Reps.one (show Kd.M (Kd.int .i64) _ _ _ 0 [.int .i64 0] from rfl) (Reps.one (show Kd.M (Kd.int .i64) _ _ _ 1 [.int .i64 1] from rfl) (Reps.none _ _)))); intro v657 w20 ho21 hb hg_ hnew_; clear hg_ hnew_; (first | rw [← Ny656.out] at ho21 | (simp only [Int.reduceToNat] at ho21; rw [← Ny656.out] at ho21)); have n0_ := A_ (Kd.R_lower (Kd.R_newM (M := fun k_ => (w.heap.size ≤ k_)) ho21 (keep_size HK.out) (fun k_ h_ => h_)) (keep_size HK.out)); have n1_ := A_ (IsS67.below HI0.out hb); have n2_ := A_ (blk_below BK643.out hb); have n3_ := A_ (KeepBut.trans HK.out (KeepBut.of_below hb g none) (.inl rfl)); have n4_ := A_ (below_step HB.out hb); clear HI0 BK643 HK HB; revert n0_ n1_ n2_ n3_ n4_; intro HO658 HI0 BK643 HK HB; clear hb ho21) | ((with_reducible refine gate_dst (N := 19) rfl ?_); refine Kd.R_lit (Kd.int .i64) _ 3 ?hg (N := 19) ?hd (xs := ([0] : List Int)) (inner := [.int .i64 0]) (ok := fun _ => True) (okp := fun _ => True) ?hr ?hp (fun _ hk => hk) trivial (Below.refl _ _) (Nat.le_refl _) (by simp) ?_; (case hd | hg => rfl); (case hr => go_simp; done); (case hp => exact (Reps.one (show Kd.M (Kd.int .i64) _ _ _ 0 [.int .i64 0] from rfl) (Reps.none _ _))); intro v660 w22 ho23 hb hg_ hnew_; clear hg_ hnew_; (first | rw [← Ny659.out] at ho23 | (simp only [Int.reduceToNat] at ho23; rw [← Ny659.out] at ho23)); have n0_ := A_ (Kd.R_elder' HO658.out (Kd.R_base ho23) hb); have n1_ := A_ (Kd.R_lower (Kd.R_new' (Kd.R_newM (M := fun k_ => (w.heap.size ≤ k_)) ho23 (keep_size HK.out) (fun k_ h_ => h_)) (Kd.R_lt HO658.out)) (keep_size HK.out)); have n2_ := A_ (IsS67.below HI0.out hb); have n3_ := A_ (blk_below BK643.out hb); have n4_ := A_ (KeepBut.trans HK.out (KeepBut.of_below hb g none) (.inl rfl)); have n5_ := A_ (below_step HB.out hb); clear HO658 HI0 BK643 HK HB; revert n0_ n1_ n2_ n3_ n4_ n5_; intro HO658 HO661 HI0 BK643 HK HB; clear hb ho23; obtain ⟨Ao24, co24, eo24⟩ := Kd.R_slice HO658.out; subst eo24; obtain ⟨Ao25, co25, eo25⟩ := Kd.R_slice HO661.out; subst eo25) | ((with_reducible refine gate_dst (N := 20) rfl ?_); refine Kd.N_lit (Kd.slice 3 (Kd.int .i64)) _ 24 ?hg (N' := 20) ?hd (xs := ([y656, y659] : List (List Int))) (inner := [.slice Ao24 y656.length co24, .slice Ao25 y659.length co25]) (ok := (fun k_ => (w.heap.size ≤ k_) ∧ k_ ≠ gb643 ∧ k_ ≠ g)) (okp := (fun k_ => (w.heap.size ≤ k_) ∧ k_ ≠ gb643 ∧ k_ ≠ g)) ?hr ?hp (fun _ hk => hk) ((show ∀ k_, w22.heap.size ≤ k_ → (fun k_ => (w.heap.size ≤ k_) ∧ k_ ≠ gb643 ∧ k_ ≠ g) k_ from fun k_ hk => ⟨(Nat.le_trans (keep_size HK.out) hk), Kd.freshB BK643.out k_ hk, IsS67.fresh HI0.out k_ hk⟩) _ (Nat.le_refl _)) (Below.refl _ _) (Nat.le_refl _) (by simp) ?_; (case hd | hg => rfl); (case hr => go_simp; done); (case hp => exact (Reps.one (show Kd.FK (Kd.slice 3 (Kd.int .i64)) _ _ y656 [.slice Ao24 y656.length co24] from (Kd.FK_slice_mk (Kd.R_reads' (Kd.R_mono (ok' := (fun k_ => (w.heap.size ≤ k_) ∧ k_ ≠ gb643 ∧ k_ ≠ g)) (IsS67.apart HI0.out (Kd.R_types (HO658.out) BK643.out (by decide)) (by decide)) (fun k_ hk => ⟨hk.1.1.1.1, ⟨hk.1.2, hk.2⟩⟩))).2.1 (Kd.R_F (Kd.R_mono (ok' := (fun k_ => (w.heap.size ≤ k_) ∧ k_ ≠ gb643 ∧ k_ ≠ g)) (IsS67.apart HI0.out (Kd.R_types (HO658.out) BK643.out (by decide)) (by decide)) (fun k_ hk => ⟨hk.1.1.1.1, ⟨hk.1.2, hk.2⟩⟩))))) (Reps.one (show Kd.FK (Kd.slice 3 (Kd.int .i64)) _ _ y659 [.slice Ao25 y659.length co25] from (Kd.FK_slice_mk (Kd.R_reads' (Kd.R_mono (ok' := (fun k_ => (w.heap.size ≤ k_) ∧ k_ ≠ gb643 ∧ k_ ≠ g)) (IsS67.apart HI0.out (Kd.R_types (HO661.out) BK643.out (by decide)) (by decide)) (fun k_ hk => ⟨hk.1.1.1.1, ⟨hk.1.2, hk.2⟩⟩))).2.1 (Kd.R_F (Kd.R_mono (ok' := (fun k_ => (w.heap.size ≤ k_) ∧ k_ ≠ gb643 ∧ k_ ≠ g)) (IsS67.apart HI0.out (Kd.R_types (HO661.out) BK643.out (by decide)) (by decide)) (fun k_ hk => ⟨hk.1.1.1.1, ⟨hk.1.2, hk.2⟩⟩))))) (Reps.none _ _)))); intro v663 w26 ho27 hb hg_ hnew_; clear hg_ hnew_; (first | rw [← Ny662.out] at ho27 | (simp only [Int.reduceToNat] at ho27; rw [← Ny662.out] at ho27)); have n0_ := A_ (Kd.N_lower ho27 (keep_size HK.out)); have n1_ := A_ (IsS67.below HI0.out hb); have n2_ := A_ (blk_below BK643.out hb); have n3_ := A_ (KeepBut.trans HK.out (KeepBut.of_below hb g none) (.inl rfl)); have n4_ := A_ (below_step HB.out hb); clear HI0 BK643 HK HB HO658 HO661; revert n0_ n1_ n2_ n3_ n4_; intro HO664 HI0 BK643 HK HB; clear hb ho27; obtain ⟨Ao28, co28, eo28⟩ := Kd.N_slice HO664.out; subst eo28; have hnb29 := NB643_0.out; have hnc29 := NB0_643.out; have hcz30_0 : w26.cell? ⟨gb643, 0, none⟩ = some (.slice none 0 0) := (blk_cell BK643.out 0).trans rfl; have hfz30_0 := blk_frozen BK643.out 0))
  refine bodyPost_ret (results_cell_row rfl _ _ gb643 46 #[.slice Ao28 y662.length co28] (0, 0) _ rfl (by refine blk_put (cs := #[.slice none 0 0]) ?_ 0 _ rfl; exact BK643.out) Try.underlying46 rfl (by kernel_rfl)) rfl ?_
  exact ⟨_, by rfl, by exact Kd.N_mono (Kd.N_far (p := ⟨gb643, 0, none⟩) (Kd.N_mono HO664.out (fun k_ hk => (⟨hk, hk.2.1⟩ : _ ∧ k_ ≠ gb643))) (fun _ hk => hk.2) (.slice Ao28 y662.length co28)) (fun _ hk => hk.1.1), by repeat (first | (with_reducible first | exact HI0.out | apply IsS67.alloc | apply IsS67.drewN | apply IsS67.drew | apply IsS67.set_1 | apply IsS67.set_2 | refine IsS67.far ?_ NB0_643.out _) | exact HI0.out), by repeat (first | (with_reducible first | exact HB.out | apply below_alloc | apply pw_below_drewN | apply below_drew1 | refine below_set ?_ (IsS67.ge HI0.out) | refine below_set ?_ GE643.out) | exact HB.out), by repeat (first | (with_reducible first | exact HK.out | apply KeepBut.set_ | apply keep_drewN | apply keep_drew | apply keep_alloc | refine keep_far ?_ GW643.out _) | exact HK.out)⟩
 rw [if_neg c17] at H
 have c17b0 : (t644 == 1) = false := beq_eq_false_iff_ne.mpr c17
 have c17b1 : (t644 != 1) = true := bne_iff_ne.mpr c17
 by_cases c31 : t644 = 2
 ·rw [if_pos c31] at H
  have c31b0 : (t644 == 2) = true := beq_iff_eq.mpr c31
  have c31b1 : (t644 != 2) = false := bne_eq_false_iff_eq.mpr c31
  clear c31
  obtain ⟨y665, hy665⟩ : ∃ y_ : List Int, y_ = (([0, 1, 2] : List Int)) := ⟨_, rfl⟩
  replace H : (some ((([y665, (([0, 2] : List Int)), (([1] : List Int))] : List (List Int))), t645, t646)) = some (r1, r2, r3) := by (rw [hy665]; with_reducible exact H)
  have Ny665 := A_ hy665
  clear hy665
  obtain ⟨y668, hy668⟩ : ∃ y_ : List Int, y_ = (([0, 2] : List Int)) := ⟨_, rfl⟩
  replace H : (some ((([y665, y668, (([1] : List Int))] : List (List Int))), t645, t646)) = some (r1, r2, r3) := by (rw [hy668]; with_reducible exact H)
  have Ny668 := A_ hy668
  clear hy668
  obtain ⟨y671, hy671⟩ : ∃ y_ : List Int, y_ = (([1] : List Int)) := ⟨_, rfl⟩
  replace H : (some ((([y665, y668, y671] : List (List Int))), t645, t646)) = some (r1, r2, r3) := by (rw [hy671]; with_reducible exact H)
  have Ny671 := A_ hy671
  clear hy671
  obtain ⟨y674, hy674⟩ : ∃ y_ : List (List Int), y_ = (([y665, y668, y671] : List (List Int))) := ⟨_, rfl⟩
  replace H : (some (y674, t645, t646)) = some (r1, r2, r3) := by (rw [hy674]; with_reducible exact H)
  have Ny674 := A_ hy674
  clear hy674
  simp only [Option.some.injEq, Prod.mk.injEq] at H
  obtain ⟨rfl, rfl, rfl⟩ := H
  go_enter Try.func92, Try.ntmps92
  go_wp2_with (first | ((with_reducible refine gate_dst (N := 2) rfl ?_); refine box_event ?hg (N := 2) ?hd (cs := #[.slice none 0 0]) (t := 46) ?hr ?_; (case hd | hg => rfl); (case hr => go_simp; done); intro gb643 hg w32 hbox hb; have n0_ := A_ (IsS67.below HI0.out hb); have n1_ := A_ (KeepBut.trans HK.out (KeepBut.of_below hb g none) (.inl rfl)); have n2_ := A_ (below_step HB.out hb); have n3_ := A_ (hbox); have n4_ := A_ ((by rw [hg]; exact (keep_size HK.out) : w.heap.size ≤ gb643)); have n5_ := A_ ((Nat.le_trans HW0.out (by rw [hg]; exact (keep_size HK.out) : w.heap.size ≤ gb643) : w0.heap.size ≤ gb643)); have n6_ := A_ ((by rw [hg]; exact Nat.ne_of_lt (IsS67.lt HI0.out) : g ≠ gb643)); have n7_ := A_ ((by rw [hg]; exact Nat.ne_of_gt (IsS67.lt HI0.out) : gb643 ≠ g)); clear HI0 HK HB; revert n0_ n1_ n2_ n3_ n4_ n5_ n6_ n7_; intro HI0 HK HB BK643 GW643 GE643 NB0_643 NB643_0; clear hb hbox hg) | ((with_reducible refine gate_callee (f := 74) rfl ?_); refine goesL_ (some 9) rfl rfl Try.func74 (by kernel_rfl) rfl #[.pointer (some ⟨g, 0, none⟩), .int .i64 5] rfl (by (try simp only [mA, mB, mC]); first | done | rfl | (simp only [List.length_drop, List.length_take]; rfl)) ?_; (with_reducible refine (spec_l1Below.calls g s0_0 s0_1 s0_2 5 t644 t645 t646 w0 _ ?side1 ?side2 A2.out).mono ?_); (case side1 => exact HI0.out); (case side2 => exact HB.out); rintro e w33 ⟨rfl, hi, hb, hk⟩; refine ⟨_, rfl, ?_⟩; have n0_ := A_ (KeepBut.blk hk BK643.out NB643_0.out (by simp)); have n1_ := A_ (KeepBut.trans HK.out hk (.inl rfl)); have n2_ := A_ (hb); have n3_ := A_ (hi); clear BK643 HK HB HI0; revert n0_ n1_ n2_ n3_; intro BK643 HK HB HI0; clear hb hk; (try clear hi)) | ((with_reducible refine gate_dst (N := 24) rfl ?_); refine Kd.R_lit (Kd.int .i64) _ 3 ?hg (N := 24) ?hd (xs := ([0, 1, 2] : List Int)) (inner := [.int .i64 0, .int .i64 1, .int .i64 2]) (ok := fun _ => True) (okp := fun _ => True) ?hr ?hp (fun _ hk => hk) trivial (Below.refl _ _) (Nat.le_refl _) (by simp) ?_; (case hd | hg => rfl); (case hr => go_simp; done); (case hp => exact (Reps.one (show Kd.M (Kd.int .i64) _ _ _ 0 [.int .i64 0] from rfl) (Reps.one (show Kd.M (Kd.int .i64) _ _ _ 1 [.int .i64 1] from rfl) (Reps.one (show Kd.M (Kd.int .i64) _ _ _ 2 [.int .i64 2] from rfl) (Reps.none _ _))))); intro v666 w34 ho35 hb hg_ hnew_; clear hg_ hnew_; (first | rw [← Ny665.out] at ho35 | (simp only [Int.reduceToNat] at ho35; rw [← Ny665.out] at ho35)); have n0_ := A_ (Kd.R_lower (Kd.R_newM (M := fun k_ => (w.heap.size ≤ k_)) ho35 (keep_size HK.out) (fun k_ h_ => h_)) (keep_size HK.out)); have n1_ := A_ (IsS67.below HI0.out hb); have n2_ := A_ (blk_below BK643.out hb); have n3_ := A_ (KeepBut.trans HK.out (KeepBut.of_below hb g none) (.inl rfl)); have n4_ := A_ (below_step HB.out hb); clear HI0 BK643 HK HB; revert n0_ n1_ n2_ n3_ n4_; intro HO667 HI0 BK643 HK HB; clear hb ho35) | ((with_reducible refine gate_dst (N := 25) rfl ?_); refine Kd.R_lit (Kd.int .i64) _ 3 ?hg (N := 25) ?hd (xs := ([0, 2] : List Int)) (inner := [.int .i64 0, .int .i64 2]) (ok := fun _ => True) (okp := fun _ => True) ?hr ?hp (fun _ hk => hk) trivial (Below.refl _ _) (Nat.le_refl _) (by simp) ?_; (case hd | hg => rfl); (case hr => go_simp; done); (case hp => exact (Reps.one (show Kd.M (Kd.int .i64) _ _ _ 0 [.int .i64 0] from rfl) (Reps.one (show Kd.M (Kd.int .i64) _ _ _ 2 [.int .i64 2] from rfl) (Reps.none _ _)))); intro v669 w36 ho37 hb hg_ hnew_; clear hg_ hnew_; (first | rw [← Ny668.out] at ho37 | (simp only [Int.reduceToNat] at ho37; rw [← Ny668.out] at ho37)); have n0_ := A_ (Kd.R_elder' HO667.out (Kd.R_base ho37) hb); have n1_ := A_ (Kd.R_lower (Kd.R_new' (Kd.R_newM (M := fun k_ => (w.heap.size ≤ k_)) ho37 (keep_size HK.out) (fun k_ h_ => h_)) (Kd.R_lt HO667.out)) (keep_size HK.out)); have n2_ := A_ (IsS67.below HI0.out hb); have n3_ := A_ (blk_below BK643.out hb); have n4_ := A_ (KeepBut.trans HK.out (KeepBut.of_below hb g none) (.inl rfl)); have n5_ := A_ (below_step HB.out hb); clear HO667 HI0 BK643 HK HB; revert n0_ n1_ n2_ n3_ n4_ n5_; intro HO667 HO670 HI0 BK643 HK HB; clear hb ho37) | ((with_reducible refine gate_dst (N := 26) rfl ?_); refine Kd.R_lit (Kd.int .i64) _ 3 ?hg (N := 26) ?hd (xs := ([1] : List Int)) (inner := [.int .i64 1]) (ok := fun _ => True) (okp := fun _ => True) ?hr ?hp (fun _ hk => hk) trivial (Below.refl _ _) (Nat.le_refl _) (by simp) ?_; (case hd | hg => rfl); (case hr => go_simp; done); (case hp => exact (Reps.one (show Kd.M (Kd.int .i64) _ _ _ 1 [.int .i64 1] from rfl) (Reps.none _ _))); intro v672 w38 ho39 hb hg_ hnew_; clear hg_ hnew_; (first | rw [← Ny671.out] at ho39 | (simp only [Int.reduceToNat] at ho39; rw [← Ny671.out] at ho39)); have n0_ := A_ (Kd.R_elder' HO667.out (Kd.R_base ho39) hb); have n1_ := A_ (Kd.R_elder' HO670.out (Kd.R_base ho39) hb); have n2_ := A_ (Kd.R_lower (Kd.R_new' (Kd.R_new' (Kd.R_newM (M := fun k_ => (w.heap.size ≤ k_)) ho39 (keep_size HK.out) (fun k_ h_ => h_)) (Kd.R_lt HO667.out)) (Kd.R_lt HO670.out)) (keep_size HK.out)); have n3_ := A_ (IsS67.below HI0.out hb); have n4_ := A_ (blk_below BK643.out hb); have n5_ := A_ (KeepBut.trans HK.out (KeepBut.of_below hb g none) (.inl rfl)); have n6_ := A_ (below_step HB.out hb); clear HO667 HO670 HI0 BK643 HK HB; revert n0_ n1_ n2_ n3_ n4_ n5_ n6_; intro HO667 HO670 HO673 HI0 BK643 HK HB; clear hb ho39; obtain ⟨Ao40, co40, eo40⟩ := Kd.R_slice HO667.out; subst eo40; obtain ⟨Ao41, co41, eo41⟩ := Kd.R_slice HO670.out; subst eo41; obtain ⟨Ao42, co42, eo42⟩ := Kd.R_slice HO673.out; subst eo42) | ((with_reducible refine gate_dst (N := 27) rfl ?_); refine Kd.N_lit (Kd.slice 3 (Kd.int .i64)) _ 24 ?hg (N' := 27) ?hd (xs := ([y665, y668, y671] : List (List Int))) (inner := [.slice Ao40 y665.length co40, .slice Ao41 y668.length co41, .slice Ao42 y671.length co42]) (ok := (fun k_ => (w.heap.size ≤ k_) ∧ k_ ≠ gb643 ∧ k_ ≠ g)) (okp := (fun k_ => (w.heap.size ≤ k_) ∧ k_ ≠ gb643 ∧ k_ ≠ g)) ?hr ?hp (fun _ hk => hk) ((show ∀ k_, w38.heap.size ≤ k_ → (fun k_ => (w.heap.size ≤ k_) ∧ k_ ≠ gb643 ∧ k_ ≠ g) k_ from fun k_ hk => ⟨(Nat.le_trans (keep_size HK.out) hk), Kd.freshB BK643.out k_ hk, IsS67.fresh HI0.out k_ hk⟩) _ (Nat.le_refl _)) (Below.refl _ _) (Nat.le_refl _) (by simp) ?_; (case hd | hg => rfl); (case hr => go_simp; done); (case hp => exact (Reps.one (show Kd.FK (Kd.slice 3 (Kd.int .i64)) _ _ y665 [.slice Ao40 y665.length co40] from (Kd.FK_slice_mk (Kd.R_reads' (Kd.R_mono (ok' := (fun k_ => (w.heap.size ≤ k_) ∧ k_ ≠ gb643 ∧ k_ ≠ g)) (IsS67.apart HI0.out (Kd.R_types (HO667.out) BK643.out (by decide)) (by decide)) (fun k_ hk => ⟨hk.1.1.1.1.1, ⟨hk.1.2, hk.2⟩⟩))).2.1 (Kd.R_F (Kd.R_mono (ok' := (fun k_ => (w.heap.size ≤ k_) ∧ k_ ≠ gb643 ∧ k_ ≠ g)) (IsS67.apart HI0.out (Kd.R_types (HO667.out) BK643.out (by decide)) (by decide)) (fun k_ hk => ⟨hk.1.1.1.1.1, ⟨hk.1.2, hk.2⟩⟩))))) (Reps.one (show Kd.FK (Kd.slice 3 (Kd.int .i64)) _ _ y668 [.slice Ao41 y668.length co41] from (Kd.FK_slice_mk (Kd.R_reads' (Kd.R_mono (ok' := (fun k_ => (w.heap.size ≤ k_) ∧ k_ ≠ gb643 ∧ k_ ≠ g)) (IsS67.apart HI0.out (Kd.R_types (HO670.out) BK643.out (by decide)) (by decide)) (fun k_ hk => ⟨hk.1.1.1.1.1, ⟨hk.1.2, hk.2⟩⟩))).2.1 (Kd.R_F (Kd.R_mono (ok' := (fun k_ => (w.heap.size ≤ k_) ∧ k_ ≠ gb643 ∧ k_ ≠ g)) (IsS67.apart HI0.out (Kd.R_types (HO670.out) BK643.out (by decide)) (by decide)) (fun k_ hk => ⟨hk.1.1.1.1.1, ⟨hk.1.2, hk.2⟩⟩))))) (Reps.one (show Kd.FK (Kd.slice 3 (Kd.int .i64)) _ _ y671 [.slice Ao42 y671.length co42] from (Kd.FK_slice_mk (Kd.R_reads' (Kd.R_mono (ok' := (fun k_ => (w.heap.size ≤ k_) ∧ k_ ≠ gb643 ∧ k_ ≠ g)) (IsS67.apart HI0.out (Kd.R_types (HO673.out) BK643.out (by decide)) (by decide)) (fun k_ hk => ⟨hk.1.1.1.1.1, ⟨hk.1.2, hk.2⟩⟩))).2.1 (Kd.R_F (Kd.R_mono (ok' := (fun k_ => (w.heap.size ≤ k_) ∧ k_ ≠ gb643 ∧ k_ ≠ g)) (IsS67.apart HI0.out (Kd.R_types (HO673.out) BK643.out (by decide)) (by decide)) (fun k_ hk => ⟨hk.1.1.1.1.1, ⟨hk.1.2, hk.2⟩⟩))))) (Reps.none _ _))))); intro v675 w43 ho44 hb hg_ hnew_; clear hg_ hnew_; (first | rw [← Ny674.out] at ho44 | (simp only [Int.reduceToNat] at ho44; rw [← Ny674.out] at ho44)); have n0_ := A_ (Kd.N_lower ho44 (keep_size HK.out)); have n1_ := A_ (IsS67.below HI0.out hb); have n2_ := A_ (blk_below BK643.out hb); have n3_ := A_ (KeepBut.trans HK.out (KeepBut.of_below hb g none) (.inl rfl)); have n4_ := A_ (below_step HB.out hb); clear HI0 BK643 HK HB HO667 HO670 HO673; revert n0_ n1_ n2_ n3_ n4_; intro HO676 HI0 BK643 HK HB; clear hb ho44; obtain ⟨Ao45, co45, eo45⟩ := Kd.N_slice HO676.out; subst eo45; have hnb46 := NB643_0.out; have hnc46 := NB0_643.out; have hcz47_0 : w43.cell? ⟨gb643, 0, none⟩ = some (.slice none 0 0) := (blk_cell BK643.out 0).trans rfl; have hfz47_0 := blk_frozen BK643.out 0))
  refine bodyPost_ret (results_cell_row rfl _ _ gb643 46 #[.slice Ao45 y674.length co45] (0, 0) _ rfl (by refine blk_put (cs := #[.slice none 0 0]) ?_ 0 _ rfl; exact BK643.out) Try.underlying46 rfl (by kernel_rfl)) rfl ?_
  exact ⟨_, by rfl, by exact Kd.N_mono (Kd.N_far (p := ⟨gb643, 0, none⟩) (Kd.N_mono HO676.out (fun k_ hk => (⟨hk, hk.2.1⟩ : _ ∧ k_ ≠ gb643))) (fun _ hk => hk.2) (.slice Ao45 y674.length co45)) (fun _ hk => hk.1.1), by repeat (first | (with_reducible first | exact HI0.out | apply IsS67.alloc | apply IsS67.drewN | apply IsS67.drew | apply IsS67.set_1 | apply IsS67.set_2 | refine IsS67.far ?_ NB0_643.out _) | exact HI0.out), by repeat (first | (with_reducible first | exact HB.out | apply below_alloc | apply pw_below_drewN | apply below_drew1 | refine below_set ?_ (IsS67.ge HI0.out) | refine below_set ?_ GE643.out) | exact HB.out), by repeat (first | (with_reducible first | exact HK.out | apply KeepBut.set_ | apply keep_drewN | apply keep_drew | apply keep_alloc | refine keep_far ?_ GW643.out _) | exact HK.out)⟩
 rw [if_neg c31] at H
 have c31b0 : (t644 == 2) = false := beq_eq_false_iff_ne.mpr c31
 have c31b1 : (t644 != 2) = true := bne_iff_ne.mpr c31
 replace H := Option.bind_eq_some_iff.mp H
 obtain ⟨⟨t610, t611, t612⟩, A120, H⟩ := H
 dsimp only at H
 have A12 := A_ A120
 clear A120
 have H' := A_ H
 clear H
 go_enter Try.func92, Try.ntmps92
 go_wp2_with (first | ((with_reducible refine gate_dst (N := 2) rfl ?_); refine box_event ?hg (N := 2) ?hd (cs := #[.slice none 0 0]) (t := 46) ?hr ?_; (case hd | hg => rfl); (case hr => go_simp; done); intro gb606 hg w13 hbox hb; have n0_ := A_ (IsS67.below HI0.out hb); have n1_ := A_ (KeepBut.trans HK.out (KeepBut.of_below hb g none) (.inl rfl)); have n2_ := A_ (below_step HB.out hb); have n3_ := A_ (hbox); have n4_ := A_ ((by rw [hg]; exact (keep_size HK.out) : w.heap.size ≤ gb606)); have n5_ := A_ ((Nat.le_trans HW0.out (by rw [hg]; exact (keep_size HK.out) : w.heap.size ≤ gb606) : w0.heap.size ≤ gb606)); have n6_ := A_ ((by rw [hg]; exact Nat.ne_of_lt (IsS67.lt HI0.out) : g ≠ gb606)); have n7_ := A_ ((by rw [hg]; exact Nat.ne_of_gt (IsS67.lt HI0.out) : gb606 ≠ g)); clear HI0 HK HB; revert n0_ n1_ n2_ n3_ n4_ n5_ n6_ n7_; intro HI0 HK HB BK606 GW606 GE606 NB0_606 NB606_0; clear hb hbox hg) | ((with_reducible refine gate_callee (f := 74) rfl ?_); refine goesL_ (some 9) rfl rfl Try.func74 (by kernel_rfl) rfl #[.pointer (some ⟨g, 0, none⟩), .int .i64 5] rfl (by (try simp only [mA, mB, mC]); first | done | rfl | (simp only [List.length_drop, List.length_take]; rfl)) ?_; (with_reducible refine (spec_l1Below.calls g s0_0 s0_1 s0_2 5 t644 t645 t646 w0 _ ?side1 ?side2 A2.out).mono ?_); (case side1 => exact HI0.out); (case side2 => exact HB.out); rintro e w14 ⟨rfl, hi, hb, hk⟩; refine ⟨_, rfl, ?_⟩; have n0_ := A_ (KeepBut.blk hk BK606.out NB606_0.out (by simp)); have n1_ := A_ (KeepBut.trans HK.out hk (.inl rfl)); have n2_ := A_ (hb); have n3_ := A_ (hi); clear BK606 HK HB HI0; revert n0_ n1_ n2_ n3_; intro BK606 HK HB HI0; clear hb hk; (try clear hi)) | ((with_reducible refine gate_callee (f := 74) rfl ?_); refine goesL_ (some 30) rfl rfl Try.func74 (by kernel_rfl) rfl #[.pointer (some ⟨g, 0, none⟩), .int .i64 3] rfl (by (try simp only [mA, mB, mC]); first | done | rfl | (simp only [List.length_drop, List.length_take]; rfl)) ?_; (with_reducible refine (spec_l1Below.calls g s0_0 t645 t646 3 t610 t611 t612 w0 _ ?side1 ?side2 A12.out).mono ?_); (case side1 => exact HI0.out); (case side2 => exact HB.out); rintro e w15 ⟨rfl, hi, hb, hk⟩; refine ⟨_, rfl, ?_⟩; have n0_ := A_ (KeepBut.blk hk BK606.out NB606_0.out (by simp)); have n1_ := A_ (KeepBut.trans HK.out hk (.inl rfl)); have n2_ := A_ (hb); have n3_ := A_ (hi); clear BK606 HK HB HI0; revert n0_ n1_ n2_ n3_; intro BK606 HK HB HI0; clear hb hk; (try clear hi)) | ((with_reducible refine gate_dst (N := 4) rfl ?_); refine box_event ?hg (N := 4) ?hd (cs := #[.slice none 0 0]) (t := 46) ?hr ?_; (case hd | hg => rfl); (case hr => go_simp; done); intro gb613 hg w16 hbox hb; have n0_ := A_ (IsS67.below HI0.out hb); have n1_ := A_ (blk_below BK606.out hb); have n2_ := A_ (KeepBut.trans HK.out (KeepBut.of_below hb g none) (.inl rfl)); have n3_ := A_ (below_step HB.out hb); have n4_ := A_ (hbox); have n5_ := A_ ((by rw [hg]; exact (keep_size HK.out) : w.heap.size ≤ gb613)); have n6_ := A_ ((Nat.le_trans HW0.out (by rw [hg]; exact (keep_size HK.out) : w.heap.size ≤ gb613) : w0.heap.size ≤ gb613)); have n7_ := A_ ((by rw [hg]; exact Nat.ne_of_lt (blk_lt (g := gb606) (o := .cells #[.slice none 0 0] 46 (0, 0)) BK606.out) : gb606 ≠ gb613)); have n8_ := A_ ((by rw [hg]; exact Nat.ne_of_gt (blk_lt (g := gb606) (o := .cells #[.slice none 0 0] 46 (0, 0)) BK606.out) : gb613 ≠ gb606)); have n9_ := A_ ((by rw [hg]; exact Nat.ne_of_lt (IsS67.lt HI0.out) : g ≠ gb613)); have n10_ := A_ ((by rw [hg]; exact Nat.ne_of_gt (IsS67.lt HI0.out) : gb613 ≠ g)); clear HI0 BK606 HK HB; revert n0_ n1_ n2_ n3_ n4_ n5_ n6_ n7_ n8_ n9_ n10_; intro HI0 BK606 HK HB BK613 GW613 GE613 NB606_613 NB613_606 NB0_613 NB613_0; clear hb hbox hg; have hnb17 := NB613_606.out; have hnc17 := NB606_613.out; have hnb18 := NB613_0.out; have hnc18 := NB0_613.out; have hcz19_0 : w16.cell? ⟨gb613, 0, none⟩ = some (.slice none 0 0) := (blk_cell BK613.out 0).trans rfl; have hfz19_0 := blk_frozen BK613.out 0))
 go_loopg [5] k (fun kq v5 w' => ∃ (x5_1 : Int) (x1001_1 : Int) (x1002_1 : Int) (x614000_1 : List (List Int)) (u614000 : Value), v5 = .int .i64 x5_1 ∧ Aside0 (spec_l7Morphism.l0 kq (wrap64 (1 + t610)) x5_1 s0_0 x1001_1 x1002_1 x614000_1 = some (r1, r2, r3)) ∧ Aside0 (kq ≤ k) ∧ Aside0 (Kd.S (Kd.slice 3 (Kd.int .i64)) 24 w' w.heap.size (fun _ => True) u614000 x614000_1) ∧ Aside0 (w'.heap[gb606]? = some (.cells #[(.slice none 0 0)] 46 (0, 0))) ∧ Aside0 (w'.heap[gb613]? = some (.cells #[u614000] 46 (0, 0))) ∧ Aside0 (IsS67 w0 w' g s0_0 x1001_1 x1002_1) ∧ Aside0 (KeepBut w w' g none) ∧ Aside0 (Below w0.heap.size w0 w'))
 case atStart => exact ⟨(0), (t611), (t612), (([] : List (List Int))), (.slice none 0 0), (by rfl), H', ⟨Nat.le_refl _⟩, ⟨by exact Kd.S_nil _ _ _ _ _⟩, ⟨by refine blk_far ?_ NB606_613.out _; exact BK606.out⟩, ⟨by refine blk_put (cs := #[.slice none 0 0]) ?_ 0 _ rfl; exact BK613.out⟩, ⟨by repeat (first | (with_reducible first | exact HI0.out | apply IsS67.alloc | apply IsS67.drewN | apply IsS67.drew | apply IsS67.set_1 | apply IsS67.set_2 | refine IsS67.far ?_ NB0_606.out _ | refine IsS67.far ?_ NB0_613.out _) | exact HI0.out)⟩, ⟨by repeat (first | (with_reducible first | exact HK.out | apply KeepBut.set_ | apply keep_drewN | apply keep_drew | apply keep_alloc | refine keep_far ?_ GW606.out _ | refine keep_far ?_ GW613.out _) | exact HK.out)⟩, ⟨by repeat (first | (with_reducible first | exact HB.out | apply below_alloc | apply pw_below_drewN | apply below_drew1 | refine below_set ?_ (IsS67.ge HI0.out) | refine below_set ?_ GE606.out | refine below_set ?_ GE613.out) | exact HB.out)⟩⟩
 case round =>
  clear H'
  try clear c3
  try clear c3b0
  try clear c3b1
  try clear c17
  try clear hcz19_0
  try clear hfz19_0
  obtain ⟨x5_1, x1001_1, x1002_1, x614000_1, u614000, rfl, HA, HK1, HO_614000, BK606, BK613, HI0, HK, HB⟩ := hrel
  cases gk with
  | zero => exact absurd HA.out (by simp [spec_l7Morphism.l0])
  | succ k1 =>
   have H := HA.out
   clear HA
   simp only [spec_l7Morphism.l0] at H
   by_cases c20 : x5_1 < (wrap64 (1 + t610))
   ·rw [if_pos c20] at H
    have c20b0 : decide (x5_1 < (wrap64 (1 + t610))) = true := decide_eq_true c20
    clear c20
    obtain ⟨y614, hy614⟩ : ∃ y_ : List Int, y_ = (([] : List Int)) := ⟨_, rfl⟩
    replace H : ((spec_l1Below.f s0_0 x1001_1 x1002_1 4).bind fun bt617 => (spec_l7Morphism.l1 k1 (wrap64 (1 + t610)) x5_1 y614 bt617.1 s0_0 bt617.2.1 bt617.2.2 x614000_1)) = some (r1, r2, r3) := by (rw [hy614]; with_reducible exact H)
    have Ny614 := A_ hy614
    clear hy614
    replace H := Option.bind_eq_some_iff.mp H
    obtain ⟨⟨t617, t618, t619⟩, A210, H⟩ := H
    dsimp only at H
    have A21 := A_ A210
    clear A210
    have H' := A_ H
    clear H
    go_wp2_with (first | ((with_reducible refine gate_dst (N := 38) rfl ?_); refine Kd.R_lit (Kd.int .i64) _ 3 ?hg (N := 38) ?hd (xs := ([] : List Int)) (inner := []) (ok := fun _ => True) (okp := fun _ => True) ?hr ?hp (fun _ hk => hk) trivial (Below.refl _ _) (Nat.le_refl _) (by simp) ?_; (case hd | hg => rfl); (case hr => go_simp; done); (case hp => exact (Reps.none _ _)); intro v615 w22 ho23 hb hg_ hnew_; clear hg_ hnew_; (first | rw [← Ny614.out] at ho23 | (simp only [Int.reduceToNat] at ho23; rw [← Ny614.out] at ho23)); have n0_ := A_ (Kd.S_elder' HO_614000.out (Kd.R_base ho23) hb); have n1_ := A_ (Kd.R_lower ho23 (keep_size HK.out)); have n2_ := A_ (blk_below BK606.out hb); have n3_ := A_ (blk_below BK613.out hb); have n4_ := A_ (IsS67.below HI0.out hb); have n5_ := A_ (KeepBut.trans HK.out (KeepBut.of_below hb g none) (.inl rfl)); have n6_ := A_ (below_step HB.out hb); clear HO_614000 BK606 BK613 HI0 HK HB; revert n0_ n1_ n2_ n3_ n4_ n5_ n6_; intro HO_614000 HO616 BK606 BK613 HI0 HK HB; clear hb ho23) | ((with_reducible refine gate_callee (f := 74) rfl ?_); refine goesL_ (some 40) rfl rfl Try.func74 (by kernel_rfl) rfl #[.pointer (some ⟨g, 0, none⟩), .int .i64 4] rfl (by (try simp only [mA, mB, mC]); first | done | rfl | (simp only [List.length_drop, List.length_take]; rfl)) ?_; (with_reducible refine (spec_l1Below.calls g s0_0 x1001_1 x1002_1 4 t617 t618 t619 w0 _ ?side1 ?side2 A21.out).mono ?_); (case side1 => exact HI0.out); (case side2 => exact HB.out); rintro e w24 ⟨rfl, hi, hb, hk⟩; refine ⟨_, rfl, ?_⟩; have n0_ := A_ (Kd.S_mono (Kd.S_keep (IsS67.apartS HI0.out HO_614000.out (by decide)) hk (fun _ h => h.2)) (fun _ h => h.1)); have n1_ := A_ (KeepBut.blk hk BK606.out NB606_0.out (by simp)); have n2_ := A_ (KeepBut.blk hk BK613.out NB613_0.out (by simp)); have n3_ := A_ (Kd.R_mono (Kd.R_keep (IsS67.apart HI0.out HO616.out (by decide)) hk (fun _ h => h.2)) (fun _ h => h.1)); have n4_ := A_ (KeepBut.trans HK.out hk (.inl rfl)); have n5_ := A_ (hb); have n6_ := A_ (hi); clear HO_614000 BK606 BK613 HO616 HK HB HI0; revert n0_ n1_ n2_ n3_ n4_ n5_ n6_; intro HO_614000 BK606 BK613 HO616 HK HB HI0; clear hb hk; (try clear hi)))
    go_loopg [6, 7] k1 (fun kq v6 v7 w' => ∃ (x6_2 : List Int) (x7_2 : Int) (x1001_2 : Int) (x1002_2 : Int), v7 = .int .i64 x7_2 ∧ Aside0 (spec_l7Morphism.l1 kq (wrap64 (1 + t610)) x5_1 x6_2 x7_2 s0_0 x1001_2 x1002_2 x614000_1 = some (r1, r2, r3)) ∧ Aside0 (kq ≤ k1) ∧ Aside0 (Kd.R (Kd.int .i64) 3 w' w.heap.size (fun _ => True) v6 x6_2) ∧ Aside0 (Kd.S (Kd.slice 3 (Kd.int .i64)) 24 w' w.heap.size (fun k_ => some k_ ≠ (v6 : Value).ownBlock) u614000 x614000_1) ∧ Aside0 (w'.heap[gb606]? = some (.cells #[(.slice none 0 0)] 46 (0, 0))) ∧ Aside0 (w'.heap[gb613]? = some (.cells #[u614000] 46 (0, 0))) ∧ Aside0 (IsS67 w0 w' g s0_0 x1001_2 x1002_2) ∧ Aside0 (KeepBut w w' g none) ∧ Aside0 (Below w0.heap.size w0 w'))
    case atStart => exact ⟨(y614), (t617), (t618), (t619), (by rfl), H', ⟨Nat.le_refl _⟩, ⟨HO616.out⟩, ⟨by exact Kd.S_mono HO_614000.out (fun _ hk => hk.2)⟩, ⟨BK606.out⟩, ⟨BK613.out⟩, ⟨HI0.out⟩, ⟨HK.out⟩, ⟨HB.out⟩⟩
    case round =>
     clear H'
     try clear c20b0
     obtain ⟨x6_2, x7_2, x1001_2, x1002_2, rfl, HA, HK2, HO_6, HO_614000, BK606, BK613, HI0, HK, HB⟩ := hrel
     cases gk with
     | zero => exact absurd HA.out (by simp [spec_l7Morphism.l1])
     | succ k2 =>
      have H := HA.out
      clear HA
      simp only [spec_l7Morphism.l1] at H
      by_cases c25 : x7_2 > 0
      ·rw [if_pos c25] at H
       have c25b0 : decide (0 < x7_2) = true := decide_eq_true c25
       clear c25
       replace H := Option.bind_eq_some_iff.mp H
       obtain ⟨⟨t620, t621, t622⟩, A260, H⟩ := H
       dsimp only at H
       have A26 := A_ A260
       clear A260
       by_cases c27 : x6_2.length < 17592186044416
       ·rw [if_pos c27] at H
        have LMc27 := A_ c27
        clear c27
        obtain ⟨y623, hy623⟩ : ∃ y_ : List Int, y_ = (x6_2 ++ [t620]) := ⟨_, rfl⟩
        replace H : (spec_l7Morphism.l1 k2 (wrap64 (1 + t610)) x5_1 y623 (wrap64 (x7_2 - 1)) s0_0 t621 t622 x614000_1) = some (r1, r2, r3) := by (rw [hy623]; with_reducible exact H)
        have Ny623 := A_ hy623
        clear hy623
        have H' := A_ H
        clear H
        go_wp2_with (first | ((with_reducible refine gate_callee (f := 74) rfl ?_); refine goesL_ (some 48) rfl rfl Try.func74 (by kernel_rfl) rfl #[.pointer (some ⟨g, 0, none⟩), .int .i64 (wrap64 (1 + t610))] rfl (by (try simp only [mA, mB, mC]); first | done | rfl | (simp only [List.length_drop, List.length_take]; rfl)) ?_; (with_reducible refine (spec_l1Below.calls g s0_0 x1001_2 x1002_2 (wrap64 (1 + t610)) t620 t621 t622 w0 _ ?side1 ?side2 A26.out).mono ?_); (case side1 => exact HI0.out); (case side2 => exact HB.out); rintro e w28 ⟨rfl, hi, hb, hk⟩; refine ⟨_, rfl, ?_⟩; have n0_ := A_ (Kd.R_mono (Kd.R_keep (IsS67.apart HI0.out HO_6.out (by decide)) hk (fun _ h => h.2)) (fun _ h => h.1)); have n1_ := A_ (Kd.S_mono (Kd.S_keep (IsS67.apartS HI0.out HO_614000.out (by decide)) hk (fun _ h => h.2)) (fun _ h => h.1)); have n2_ := A_ (KeepBut.blk hk BK606.out NB606_0.out (by simp)); have n3_ := A_ (KeepBut.blk hk BK613.out NB613_0.out (by simp)); have n4_ := A_ (KeepBut.trans HK.out hk (.inl rfl)); have n5_ := A_ (hb); have n6_ := A_ (hi); clear HO_6 HO_614000 BK606 BK613 HK HB HI0; revert n0_ n1_ n2_ n3_ n4_ n5_ n6_; intro HO_6 HO_614000 BK606 BK613 HK HB HI0; clear hb hk; (try clear hi)) | ((with_reducible refine gate_builtin (b := .append) (xs := #[.tmp 45, .tmp 49]) rfl ?_); at_builtin; refine Kd.R_append (Kd.int .i64) w.heap.size rfl (.tmp 45) (.tmp 49) 24 3 (.int .i64 0) 8 rfl Try.underlying24 info3 rfl (by decide) (by omega) u6 x6_2 t620 [.int .i64 t620] (fun _ => True) (fun _ => False) rfl rfl ?aP (fun _ hk => hk.elim) ?aF ?aO (Below.refl _ _) ?aS ?aL ?_; (case aP => exact rfl); (case aF => exact (fun _ _ => trivial)); (case aO => exact HO_6.out); (case aS => exact (keep_size HK.out)); (case aL => have := LMc27.out; omega); intro v624 w29 ho hb hg hat; rw [← Ny623.out] at ho; have n0_ := A_ (Kd.S_after (ok := (fun _ => True)) (by exact Kd.S_mono HO_614000.out (fun _ hk => ⟨trivial, hk⟩)) hg hat); have n1_ := A_ (blk_grown (g := gb606) (o := .cells #[.slice none 0 0] 46 (0, 0)) BK606.out hg (Kd.R_ne HO_6.out BK606.out (by decide))); have n2_ := A_ (blk_grown (g := gb613) (o := .cells #[u614000] 46 (0, 0)) BK613.out hg (Kd.R_ne HO_6.out BK613.out (by decide))); have n3_ := A_ (IsS67.grown HI0.out hg (IsS67.own_ne HI0.out HO_6.out (by decide))); have n4_ := A_ (below_weaken HB.out HL.out hb); have n5_ := A_ (KeepBut.trans HK.out (KeepBut.of_grown hg g) (Kd.R_base2 HO_6.out)); have n6_ := A_ (ho); clear HO_614000 BK606 BK613 HI0 HB HK HO_6; revert n0_ n1_ n2_ n3_ n4_ n5_ n6_; intro HO_614000 BK606 BK613 HI0 HB HK HO625; clear ho hb hg hat))
        go_roundg k2
        case measure => have := HK1.out; have := HK2.out; omega
        case rel => exact ⟨(y623), (wrap64 (x7_2 - 1)), (t621), (t622), (by rfl), H', ⟨by have := HK1.out; have := HK2.out; omega⟩, ⟨HO625.out⟩, ⟨by exact Kd.S_mono HO_614000.out (fun _ hk => hk.2)⟩, ⟨BK606.out⟩, ⟨BK613.out⟩, ⟨HI0.out⟩, ⟨HK.out⟩, ⟨HB.out⟩⟩
       rw [if_neg c27] at H
       exact absurd H (by simp)
      rw [if_neg c25] at H
      have c25b0 : decide (0 < x7_2) = false := decide_eq_false c25
      clear c25
      by_cases c30 : x614000_1.length < 5864062014805
      ·rw [if_pos c30] at H
       have LMc30 := A_ c30
       clear c30
       obtain ⟨y626, hy626⟩ : ∃ y_ : List (List Int), y_ = (x614000_1 ++ [x6_2]) := ⟨_, rfl⟩
       replace H : (spec_l7Morphism.l0 k2 (wrap64 (1 + t610)) (wrap64 (x5_1 + 1)) s0_0 x1001_2 x1002_2 y626) = some (r1, r2, r3) := by (rw [hy626]; with_reducible exact H)
       have Ny626 := A_ hy626
       clear hy626
       have H' := A_ H
       clear H
       have hnb31 := NB613_606.out
       have hnc31 := NB606_613.out
       have hnb32 := NB613_0.out
       have hnc32 := NB0_613.out
       have hcz33_0 : wr.cell? ⟨gb613, 0, none⟩ = some (u614000) := (blk_cell BK613.out 0).trans rfl
       have hfz33_0 := blk_frozen BK613.out 0
       obtain ⟨Ao35, co35, eo35⟩ := Kd.R_slice HO_6.out
       subst eo35
       go_wp2_with (first | ((with_reducible refine gate_builtin (b := .append) (xs := #[.tmp 52, .tmp 54]) rfl ?_); at_builtin; refine Kd.S_append (Kd.slice 3 (Kd.int .i64)) w.heap.size rfl (.tmp 52) (.tmp 54) 44 24 (.slice none 0 0) 24 rfl Try.underlying44 info24 rfl (by decide) (by omega) u614000 x614000_1 x6_2 [.slice Ao35 x6_2.length co35] (fun _ => True) (fun k_ => some k_ = (.slice Ao35 x6_2.length co35 : Value).ownBlock) rfl rfl ?aP (fun k_ hk_ => ((Kd.R_mono (ok' := fun k_ => ((fun _ => True)) k_ ∧ some k_ ≠ (u614000 : Value).ownBlock) (Kd.R_apart' (HO_6.out) (Kd.S_typed HO_614000.out) (by decide)) (fun k_ hk => ⟨trivial, hk.2⟩))).1 k_ hk_.symm) ?aF ?aO (Below.refl _ _) ?aS ?aL ?_; (case aP => exact Kd.M_row (Kd.R_mono (Kd.R_tight rfl (Kd.R_mono (ok' := fun k_ => ((fun _ => True)) k_ ∧ some k_ ≠ (u614000 : Value).ownBlock) (Kd.R_apart' (HO_6.out) (Kd.S_typed HO_614000.out) (by decide)) (fun k_ hk => ⟨trivial, hk.2⟩))) (fun _ h_ => h_))); (case aF => exact (fun _ _ => trivial)); (case aO => exact (by exact Kd.S_mono HO_614000.out (fun k_ hk => ⟨trivial, fun e_ => hk e_⟩))); (case aS => exact (keep_size HK.out)); (case aL => have := LMc30.out; omega); intro v627 w34 ho hb hg hat; rw [← Ny626.out] at ho; have n0_ := A_ (blk_grown (g := gb606) (o := .cells #[.slice none 0 0] 46 (0, 0)) BK606.out hg (Kd.S_ne HO_614000.out BK606.out (by decide))); have n1_ := A_ (blk_grown (g := gb613) (o := .cells #[u614000] 46 (0, 0)) BK613.out hg (Kd.S_ne HO_614000.out BK613.out (by decide))); have n2_ := A_ (IsS67.grown HI0.out hg (IsS67.own_neS HI0.out HO_614000.out (by decide))); have n3_ := A_ (below_weaken HB.out HL.out hb); have n4_ := A_ (KeepBut.trans HK.out (KeepBut.of_grown hg g) (Kd.S_base2 HO_614000.out)); have n5_ := A_ (ho); clear BK606 BK613 HI0 HB HK HO_614000 HO_6; revert n0_ n1_ n2_ n3_ n4_ n5_; intro BK606 BK613 HI0 HB HK HO628; clear ho hb hg hat; obtain ⟨Ao36, co36, eo36⟩ := Kd.S_slice HO628.out; subst eo36; have hcz37_0 : w34.cell? ⟨gb613, 0, none⟩ = some (u614000) := (blk_cell BK613.out 0).trans rfl; have hfz37_0 := blk_frozen BK613.out 0))
       go_roundg k2
       case measure => have := HK1.out; have := HK2.out; omega
       case rel => exact ⟨(wrap64 (x5_1 + 1)), (x1001_2), (x1002_2), (y626), (.slice Ao36 y626.length co36), (by rfl), H', ⟨by have := HK1.out; have := HK2.out; omega⟩, ⟨by exact Kd.S_mono (Kd.S_far (p := ⟨gb613, 0, none⟩) (Kd.S_types HO628.out BK613.out (by decide)) (fun _ hk => hk.2) (.slice Ao36 y626.length co36)) (fun _ hk => trivial)⟩, ⟨by refine blk_far ?_ NB606_613.out _; exact BK606.out⟩, ⟨by refine blk_put (cs := #[u614000]) ?_ 0 _ rfl; exact BK613.out⟩, ⟨by repeat (first | (with_reducible first | exact HI0.out | apply IsS67.alloc | apply IsS67.drewN | apply IsS67.drew | apply IsS67.set_1 | apply IsS67.set_2 | refine IsS67.far ?_ NB0_606.out _ | refine IsS67.far ?_ NB0_613.out _) | exact HI0.out)⟩, ⟨by repeat (first | (with_reducible first | exact HK.out | apply KeepBut.set_ | apply keep_drewN | apply keep_drew | apply keep_alloc | refine keep_far ?_ GW606.out _ | refine keep_far ?_ GW613.out _) | exact HK.out)⟩, ⟨by repeat (first | (with_reducible first | exact HB.out | apply below_alloc | apply pw_below_drewN | apply below_drew1 | refine below_set ?_ (IsS67.ge HI0.out) | refine below_set ?_ GE606.out | refine below_set ?_ GE613.out) | exact HB.out)⟩⟩
      rw [if_neg c30] at H
      exact absurd H (by simp)
   rw [if_neg c20] at H
   have c20b0 : decide (x5_1 < (wrap64 (1 + t610))) = false := decide_eq_false c20
   clear c20
   replace H := Option.bind_eq_some_iff.mp H
   obtain ⟨⟨t629, t630, t631⟩, A380, H⟩ := H
   dsimp only at H
   have A38 := A_ A380
   clear A380
   by_cases c39 : t629 = true
   ·subst c39
    rw [if_pos rfl] at H
    by_cases c40 : 0 < (x614000_1.length : Int)
    ·rw [if_pos c40] at H
     have c40b0 : decide (0 < (x614000_1.length : Int)) = true := decide_eq_true c40
     have c40b1 : decide (0 < x614000_1.length) = true := decide_eq_true (by omega)
     clear c40
     obtain ⟨y633, hy633⟩ : ∃ y_ : List Int, y_ = (([(-1), 4, 0] : List Int)) := ⟨_, rfl⟩
     replace H : ((spec_l1PickInt.f s0_0 t630 t631 y633).bind fun bt636 => (if (rd_L1 x614000_1 0).length < 17592186044416 then (some ((x614000_1.set (0 : Int).toNat ((rd_L1 x614000_1 0) ++ [bt636.1])), bt636.2.1, bt636.2.2)) else (none))) = some (r1, r2, r3) := by (rw [hy633]; with_reducible exact H)
     have Ny633 := A_ hy633
     clear hy633
     replace H := Option.bind_eq_some_iff.mp H
     obtain ⟨⟨t636, t637, t638⟩, A410, H⟩ := H
     dsimp only at H
     have A41 := A_ A410
     clear A410
     by_cases c42 : (rd_L1 x614000_1 0).length < 17592186044416
     ·rw [if_pos c42] at H
      have LMc42 := A_ c42
      clear c42
      obtain ⟨y639, hy639⟩ : ∃ y_ : List Int, y_ = ((rd_L1 x614000_1 0) ++ [t636]) := ⟨_, rfl⟩
      replace H : (some ((x614000_1.set (0 : Int).toNat y639), t637, t638)) = some (r1, r2, r3) := by (rw [hy639]; with_reducible exact H)
      have Ny639 := A_ hy639
      clear hy639
      obtain ⟨y642, hy642⟩ : ∃ y_ : List (List Int), y_ = (x614000_1.set (0 : Int).toNat y639) := ⟨_, rfl⟩
      replace H : (some (y642, t637, t638)) = some (r1, r2, r3) := by (rw [hy642]; with_reducible exact H)
      have Ny642 := A_ hy642
      clear hy642
      simp only [Option.some.injEq, Prod.mk.injEq] at H
      obtain ⟨rfl, rfl, rfl⟩ := H
      try go_wp2_with (first | ((with_reducible refine gate_callee (f := 77) rfl ?_); refine goesL_ (some 58) rfl rfl Try.func77 (by kernel_rfl) rfl #[.pointer (some ⟨g, 0, none⟩), .int .i64 12] rfl (by (try simp only [mA, mB, mC]); first | done | rfl | (simp only [List.length_drop, List.length_take]; rfl)) ?_; (with_reducible refine (spec_l1Once.calls g s0_0 x1001_1 x1002_1 12 true t630 t631 w0 _ ?side1 ?side2 A38.out).mono ?_); (case side1 => exact HI0.out); (case side2 => exact HB.out); rintro e w44 ⟨rfl, hi, hb, hk⟩; refine ⟨_, rfl, ?_⟩; have n0_ := A_ (Kd.S_mono (Kd.S_keep (IsS67.apartS HI0.out HO_614000.out (by decide)) hk (fun _ h => h.2)) (fun _ h => h.1)); have n1_ := A_ (KeepBut.blk hk BK606.out NB606_0.out (by simp)); have n2_ := A_ (KeepBut.blk hk BK613.out NB613_0.out (by simp)); have n3_ := A_ (KeepBut.trans HK.out hk (.inl rfl)); have n4_ := A_ (hb); have n5_ := A_ (hi); clear HO_614000 BK606 BK613 HK HB HI0; revert n0_ n1_ n2_ n3_ n4_ n5_; intro HO_614000 BK606 BK613 HK HB HI0; clear hb hk; (try clear hi)))
      have n0_ := A_ (Kd.S_drew HO_614000.out)
      have n1_ := A_ (blk_drew BK606.out)
      have n2_ := A_ (blk_drew BK613.out)
      have n3_ := A_ (IsS67.drew HI0.out)
      have n4_ := A_ (keep_drew HK.out)
      have n5_ := A_ (below_drew1 HB.out)
      clear HO_614000
      clear BK606
      clear BK613
      clear HI0
      clear HK
      clear HB
      have HO_614000 := n0_
      have BK606 := n1_
      have BK613 := n2_
      have HI0 := n3_
      have HK := n4_
      have HB := n5_
      clear n0_ n1_ n2_ n3_ n4_ n5_
      obtain ⟨Ao46, co46, eo46⟩ := Kd.S_slice HO_614000.out
      (first | subst eo46 | (injection eo46 with f1_ f2_ f3_; have f4_ := f1_.symm; have f5_ := f3_.symm; clear f1_ f2_ f3_; subst f4_; subst f5_))
      have p632 : 0 ≤ (0 : Int) := (by omega)
      have q632 : 0 < (x614000_1.length : Int) := of_decide_eq_true (by first | (with_reducible assumption) | assumption)
      obtain ⟨ad632, A632_0, c632_0, e632, hx632_0, hl632_0, hi632_0⟩ := at_L1 (Kd.S_reads' HO_614000.out).2.2 0 p632 q632
      cases e632
      obtain ⟨ce632, hce632, hMe632, hcc632⟩ := Kd.S_get HO_614000.out [] 0 p632 (by first | exact q632 | exact of_decide_eq_true (by first | (with_reducible assumption) | assumption) | (have e_ := (Kd.S_reads' HO_614000.out).1; omega))
      obtain ⟨ve632_0, rfl, ge632_0⟩ := hMe632
      have hv632_0 := hcc632 0 _ rfl
      rw [Nat.add_zero, show ((Kd.slice 3 (Kd.int .i64))).sz = 1 from rfl, Nat.mul_one] at hv632_0
      replace hv632_0 := Option.some.inj (hv632_0.symm.trans hx632_0)
      rw [hv632_0] at ge632_0
      have HL632_0 := A_ (show Kd.R (Kd.int .i64) 3 _ _ _ _ (rd_L1 x614000_1 0) from ge632_0)
      clear hv632_0 ge632_0
      have HX632_0 := A_ hx632_0
      clear hcc632 hce632
      have qi632 : (0 < x614000_1.length) = True := eq_true (by omega)
      (try rw [show ((0 : Int)).toNat = 0 from rfl] at hx632_0)
      (try rw [Addr.add_zero'] at hx632_0)
      have HR632_0 := A_ hi632_0
      have HC632_0 := A_ hl632_0
      clear hi632_0 hl632_0
      replace p632 := eq_true p632
      replace q632 := eq_true q632
      refine start_ (n := 13) (S := fun w' => w'.cell? ⟨gb613, 0, none⟩ = some (.slice (some ad632) x614000_1.length co46) ∧ w'.cell? ad632 = some (.slice A632_0 (rd_L1 x614000_1 0).length c632_0)) (ds := [12]) #[false, false, false, false, false, false, false, false, false, false, false, false, false] (by kernel_rfl) rfl rfl ⟨(blk_cell BK613.out 0).trans rfl, hx632_0⟩ (fun hHeld => ?_); refine with_tabW spec_l7Morphism.tab20 spec_l7Morphism.bits20 (fun HT_ HW_ => ?_)
      generalize w44.drew = w45 at HO_614000 BK606 BK613 HI0 HK HB HL632_0 HR632_0 HX632_0 hx632_0 hHeld ⊢
      refine pure_ (i := 0) (N := some 59) (v := ?_) (a' := ?_) #[true, false, false, false, false, false, false, false, false, false, false, false, false] rfl rfl (any_of HT_.out (by kernel_rfl)) (fun _ _ _ h => h) (Or.inl ⟨by rfl, ?_⟩) ?_ ?_
      rotate_left
      ·intro w'
       go_simp
       with_reducible rfl
      rotate_left
      ·simp only [Act.put, mD, mE, mF, i64_w, i32_w]
       rfl
      refine pure_ (i := 2) (N := some 61) (v := ?_) (a' := ?_) #[true, false, true, false, false, false, false, false, false, false, false, false, false] rfl rfl (any_of HT_.out (by kernel_rfl)) (fun _ _ _ h => h) (Or.inl ⟨by rfl, ?_⟩) ?_ ?_
      rotate_left
      ·intro w'
       go_simp
       with_reducible rfl
      rotate_left
      ·simp only [Act.put, mD, mE, mF, i64_w, i32_w]
       rfl
      refine pure_ (i := 6) (N := some 65) (v := ?_) (a' := ?_) #[true, false, true, false, false, false, true, false, false, false, false, false, false] rfl rfl (any_of HT_.out (by kernel_rfl)) (fun _ _ _ h => h) (Or.inl ⟨by rfl, ?_⟩) ?_ ?_
      rotate_left
      ·intro w'
       go_simp
       with_reducible rfl
      rotate_left
      ·simp only [Act.put, mD, mE, mF, i64_w, i32_w]
       rfl
      refine take_ (i := 1) (N := some 60) (v := ?_) (a' := ?_) #[true, true, true, false, false, false, true, false, false, false, false, false, false] rfl rfl (take_ofW HT_.out HW_.out (by kernel_rfl)) (fun _ _ _ h => h) (Or.inl ⟨by rfl, ?_⟩) hHeld ?_ ?_
      rotate_left
      ·rintro w' ⟨s0, s1⟩
       go_simp
       with_reducible rfl
      rotate_left
      ·simp only [Act.put, mD, mE, mF, i64_w, i32_w]
       rfl
      refine take_ (i := 3) (N := some 62) (v := ?_) (a' := ?_) #[true, true, true, true, false, false, true, false, false, false, false, false, false] rfl rfl (take_ofW HT_.out HW_.out (by kernel_rfl)) (fun _ _ _ h => h) (Or.inl ⟨by rfl, ?_⟩) hHeld ?_ ?_
      rotate_left
      ·rintro w' ⟨s0, s1⟩
       go_simp
       with_reducible rfl
      rotate_left
      ·simp only [Act.put, mD, mE, mF, i64_w, i32_w]
       rfl
      refine pure_ (i := 4) (N := some 63) (v := ?_) (a' := ?_) #[true, true, true, true, true, false, true, false, false, false, false, false, false] rfl rfl (any_of HT_.out (by kernel_rfl)) (fun _ _ _ h => h) (Or.inl ⟨by rfl, ?_⟩) ?_ ?_
      rotate_left
      ·intro w'
       go_simp
       with_reducible rfl
      rotate_left
      ·simp only [Act.put, mD, mE, mF, i64_w, i32_w]
       rfl
      refine take_ (i := 5) (N := some 64) (v := ?_) (a' := ?_) #[true, true, true, true, true, true, true, false, false, false, false, false, false] rfl rfl (take_ofW HT_.out HW_.out (by kernel_rfl)) (fun _ _ _ h => h) (Or.inl ⟨by rfl, ?_⟩) hHeld ?_ ?_
      rotate_left
      ·rintro w' ⟨s0, s1⟩
       go_simp
       with_reducible rfl
      rotate_left
      ·simp only [Act.put, mD, mE, mF, i64_w, i32_w]
       rfl
      refine one_ (i := 7) (N := some 66) #[true, true, true, true, true, true, true, true, false, false, false, false, false] rfl rfl (one_of HT_.out (by kernel_rfl)) (by decide) (fun K hK => ?_)
      refine Kd.R_lit_step (Kd.int .i64) _ 3 ?hg (N := 66) ?hd (xs := ([(-1), 4, 0] : List Int)) (inner := [.int .i64 (-1), .int .i64 4, .int .i64 0]) (ok := fun _ => True) (okp := fun _ => True) ?hr ?hp (fun _ hk => hk) trivial (Below.refl _ _) (Nat.le_refl _) (by simp) ?_; (case hd | hg => rfl); (case hr => go_simp; done); (case hp => exact (Reps.one (show Kd.M (Kd.int .i64) _ _ _ (-1) [.int .i64 (-1)] from rfl) (Reps.one (show Kd.M (Kd.int .i64) _ _ _ 4 [.int .i64 4] from rfl) (Reps.one (show Kd.M (Kd.int .i64) _ _ _ 0 [.int .i64 0] from rfl) (Reps.none _ _)))))
      intro v634 w47 ho48 hb hg_ hnew_
      have HS1_ := (hb.cell (World.block_lt_of_cell? _ _ (hHeld.2))).trans (hHeld.2)
      clear hg_ hnew_
      (first | rw [← Ny633.out] at ho48 | (simp only [Int.reduceToNat] at ho48; rw [← Ny633.out] at ho48))
      have n0_ := A_ (Kd.S_elder' HO_614000.out (Kd.R_base ho48) hb)
      have n1_ := A_ (Kd.R_elder' HL632_0.out (Kd.R_base ho48) hb)
      have n2_ := A_ (Kd.R_lower (Kd.R_new' ho48 (Kd.R_lt HL632_0.out)) (keep_size HK.out))
      have n3_ := A_ (blk_below BK606.out hb)
      have n4_ := A_ (blk_below BK613.out hb)
      have n5_ := A_ (IsS67.below HI0.out hb)
      have n6_ := A_ (Kd.C_below (by repeat (first | (with_reducible exact HR632_0.out) | (with_reducible refine Kd.C_alloc ?_ _) | (with_reducible refine Kd.C_drewN ?_ _) | (with_reducible refine Kd.C_drew ?_) | exact HR632_0.out)) hb)
      have n7_ := A_ (pw_cell_below hb HX632_0.out)
      have n8_ := A_ (KeepBut.trans HK.out (KeepBut.of_below hb g none) (.inl rfl))
      have n9_ := A_ (below_step HB.out hb)
      clear HO_614000
      clear HL632_0
      clear BK606
      clear BK613
      clear HI0
      clear HR632_0
      clear HX632_0
      clear HK
      clear HB
      have HO_614000 := n0_
      have HL632_0 := n1_
      have HO635 := n2_
      have BK606 := n3_
      have BK613 := n4_
      have HI0 := n5_
      have HR632_0 := n6_
      have HX632_0 := n7_
      have HK := n8_
      have HB := n9_
      clear n0_ n1_ n2_ n3_ n4_ n5_ n6_ n7_ n8_ n9_
      clear hb ho48
      obtain ⟨Ao49, co49, eo49⟩ := Kd.R_slice HO635.out
      (first | subst eo49 | (injection eo49 with f1_ f2_ f3_; have f4_ := f1_.symm; have f5_ := f3_.symm; clear f1_ f2_ f3_; subst f4_; subst f5_))
      refine hK.out _ _ ⟨(blk_cell BK613.out 0).trans rfl, HS1_⟩ (fun hHeld => ?_)
      clear hK K
      refine norm_ (a' := ?_) ?_ ?_
      rotate_left
      ·show Act.put _ (some 66) _ = _
       simp only [Act.put, mD, mE, mF, i64_w, i32_w]
       rfl
      refine one_ (i := 8) (N := some 67) #[true, true, true, true, true, true, true, true, true, false, false, false, false] rfl rfl (one_of HT_.out (by kernel_rfl)) (by decide) (fun K hK => ?_)
      refine goes_ Try.func75 (by kernel_rfl) rfl #[.pointer (some ⟨g, 0, none⟩), .slice Ao49 y633.length co49] (by rfl) rfl rfl (by (try simp only [mA, mB, mC]); first | done | rfl | (simp only [List.length_drop, List.length_take]; rfl)) ?_
      with_reducible refine (spec_l1PickInt.calls g s0_0 t630 t631 _ _ y633 t636 t637 t638 w0 _ ?side1 ?side2 ?side3 ?side4 ?side5 A41.out).mono ?_
      (case side1 => exact HI0.out)
      (case side2 => exact HB.out)
      (case side3 => repeat (first | exact (Kd.R_reads' HO635.out).2.2 | (with_reducible refine Kd.C_alloc ?_ _) | (with_reducible refine Kd.C_drewN ?_ _) | (with_reducible refine Kd.C_drew ?_)))
      (case side4 => exact (Kd.R_reads' HO635.out).2.1)
      (case side5 => exact far_slice (IsS67.own_ne HI0.out HO635.out (by decide)))
      rintro e w50 ⟨rfl, hi, hb, hk⟩
      have HS1_ := keep_cell hk (hHeld.2) (by first | (rw [add_block]; exact Kd.own_blk (IsS67.own_neS HI0.out HO_614000.out (by decide))) | (show (Addr.add _ _).block ≠ _; rw [add_block]; exact Kd.own_blk (IsS67.own_neS HI0.out HO_614000.out (by decide))) | exact Kd.own_blk (IsS67.own_neS HI0.out HO_614000.out (by decide)))
      refine ⟨_, rfl, ?_⟩
      have n0_ := A_ (Kd.S_mono (Kd.S_keep (IsS67.apartS HI0.out HO_614000.out (by decide)) hk (fun _ h => h.2)) (fun _ h => h.1))
      have n1_ := A_ (KeepBut.blk hk BK606.out NB606_0.out (by simp))
      have n2_ := A_ (KeepBut.blk hk BK613.out NB613_0.out (by simp))
      have n3_ := A_ (Kd.R_mono (Kd.R_keep (IsS67.apart HI0.out HL632_0.out (by decide)) hk (fun _ h => h.2)) (fun _ h => h.1))
      have n4_ := A_ (keep_cell hk HX632_0.out (by first | (rw [add_block]; exact Kd.own_blk (IsS67.own_neS HI0.out HO_614000.out (by decide))) | (show (Addr.add _ _).block ≠ _; rw [add_block]; exact Kd.own_blk (IsS67.own_neS HI0.out HO_614000.out (by decide))) | exact Kd.own_blk (IsS67.own_neS HI0.out HO_614000.out (by decide)) | (dsimp only; exact Kd.own_blk (IsS67.own_neS HI0.out HO_614000.out (by decide)))))
      have n5_ := A_ (Kd.R_mono (Kd.R_keep (IsS67.apart HI0.out HO635.out (by decide)) hk (fun _ h => h.2)) (fun _ h => h.1))
      have n6_ := A_ (KeepBut.trans HK.out hk (.inl rfl))
      have n7_ := A_ (hb)
      have n8_ := A_ (hi)
      clear HO_614000
      clear BK606
      clear BK613
      clear HL632_0
      clear HX632_0
      clear HO635
      clear HK
      clear HB
      clear HI0
      have HO_614000 := n0_
      have BK606 := n1_
      have BK613 := n2_
      have HL632_0 := n3_
      have HX632_0 := n4_
      have HO635 := n5_
      have HK := n6_
      have HB := n7_
      have HI0 := n8_
      clear n0_ n1_ n2_ n3_ n4_ n5_ n6_ n7_ n8_
      (try clear hb)
      (try clear hb2)
      (try clear hk)
      (try clear hi)
      have n_ := A_ (Kd.S_mono (ok' := (fun k_ => some k_ ≠ (.slice Ao49 y633.length co49 : Value).ownBlock)) HO_614000.out (fun k_ hk => hk.2))
      clear HO_614000
      have HO_614000 := n_
      clear n_
      obtain ⟨go51, co51, eo51, gb51, gl51, cl51, HG51⟩ := Kd.S_form HO_614000.out (by have h_ : (0 : Int) < ((x614000_1.length : Int) : Int) := of_decide_eq_true (by first | (with_reducible assumption) | assumption); have h2_ : 0 ≤ (0 : Int) := (by omega); omega)
      (first | cases eo51 | (injection eo51 with ea_ en_ ec_; (first | subst ea_ | (injection ea_ with ea_; subst ea_)); subst ec_; clear en_))
      have GB51 := A_ gb51
      have GG51 := A_ HG51
      clear gb51 gl51 HG51
      (first | simp only [add_plain] at hx632_0 | skip)
      obtain ⟨oki51, ce51, hcl51, hM51, hcc51, _, _, hH51⟩ := Kd.S_elem HO_614000.out [] (0 : Int) (by omega) (by have h_ : (0 : Int) < ((x614000_1.length : Int) : Int) := of_decide_eq_true (by first | (with_reducible assumption) | assumption); first | exact h_ | (have e_ := (Kd.S_reads' HO_614000.out).1; omega) | simpa using h_)
      obtain ⟨ve51_0, rfl, ge51_0⟩ := hM51
      have hv51 := hcc51 0 _ rfl
      have hX51 := HX632_0.out
      (try simp only [add_plain] at hX51)
      (try simp only [Nat.add_zero] at hv51)
      (try rw [show ((Kd.slice 3 (Kd.int .i64))).sz = 1 from rfl, Nat.mul_one] at hv51)
      replace hv51 := Option.some.inj (hv51.symm.trans hX51)
      subst hv51
      clear hX51 hcc51 hcl51
      have UU51 := A_ (show Kd.R (Kd.int .i64) 3 _ w.heap.size oki51 (.slice A632_0 (rd_L1 x614000_1 0).length c632_0) (rd_L1 x614000_1 0) from ge51_0)
      have HH51 := A_ hH51
      have HN51 := A_ (Kd.S_reads' HO_614000.out).1
      clear hH51 ge51_0
      refine hK.out _ _ ⟨(blk_cell BK613.out 0).trans rfl, HS1_⟩ (fun hHeld => ?_)
      clear hK K
      refine norm_ (a' := ?_) ?_ ?_
      rotate_left
      ·show Act.put _ (some 67) _ = _
       simp only [Act.put, mD, mE, mF, i64_w, i32_w]
       rfl
      refine one_ (i := 9) (N := some 68) #[true, true, true, true, true, true, true, true, true, true, false, false, false] rfl rfl (one_of HT_.out (by kernel_rfl)) (by decide) (fun K hK => ?_)
      refine value_ (w1 := ?_) (v := ?_) (by rfl) rfl ?_ ?_
      rotate_left 2
      ·go_simp
       constructor
       ·rfl
       rfl
      refine hK.out _ _ ⟨(blk_cell (blk_alloc BK613.out _) 0).trans rfl, (World.cell?_alloc_lt _ _ _ (World.block_lt_of_cell? _ _ (hHeld.2))).trans (hHeld.2)⟩ (fun hHeld => ?_)
      clear hK K
      refine norm_ (a' := ?_) ?_ ?_
      rotate_left
      ·show Act.put _ (some 68) _ = _
       simp only [Act.put, mD, mE, mF, i64_w, i32_w]
       rfl
      refine one_ (i := 10) (N := some 69) #[true, true, true, true, true, true, true, true, true, true, true, false, false] rfl rfl (one_of HT_.out (by kernel_rfl)) (by decide) (fun K hK => ?_)
      refine Kd.R_append_step (Kd.int .i64) w.heap.size (by rfl) (.tmp 64) (.tmp 68) 24 3 (.int .i64 0) 8 rfl Try.underlying24 info3 rfl (by decide) (by omega) (.slice A632_0 (rd_L1 x614000_1 0).length c632_0) (rd_L1 x614000_1 0) t636 [.int .i64 t636] (fun k_ => oki51 k_ ∨ ((fun k_ => some k_ ≠ (.slice Ao49 y633.length co49 : Value).ownBlock)) k_ ∧ w50.heap.size ≤ k_) (fun _ => False) rfl rfl ?aP (fun _ hk => hk.elim) ?aF ?aO (Below.refl _ _) ?aS ?aL ?_
      (case aP => exact rfl)
      (case aF => exact (fun k_ hk => .inr ⟨Kd.fresh' (Kd.R_lt HO635.out) k_ hk, hk⟩))
      (case aO => exact (by exact Kd.R_mono UU51.out (fun _ hk => .inl hk)))
      (case aS => exact (keep_size HK.out))
      (case aL => have := LMc42.out; omega)
      intro v640 w52 ho hb hg hat
      (first | have HS1_ := cell_grown hg (hHeld.2) (by first | (rw [add_block]; exact (fun e_ => ((HL632_0.out.1 _ e_.symm).1.2) rfl)) | (show some (Addr.add _ _).block ≠ _; rw [add_block]; exact (fun e_ => ((HL632_0.out.1 _ e_.symm).1.2) rfl)) | exact (fun e_ => ((HL632_0.out.1 _ e_.symm).1.2) rfl)) | have HS1_ := cell_grown hg (cell_unalloc (hHeld.2) (by first | (rw [add_block]; exact Kd.S_lt HO_614000.out _ rfl) | (show (Addr.add _ _).block < _; rw [add_block]; exact Kd.S_lt HO_614000.out _ rfl) | exact Kd.S_lt HO_614000.out _ rfl)) (by first | (rw [add_block]; exact (fun e_ => ((HL632_0.out.1 _ e_.symm).1.2) rfl)) | (show some (Addr.add _ _).block ≠ _; rw [add_block]; exact (fun e_ => ((HL632_0.out.1 _ e_.symm).1.2) rfl)) | exact (fun e_ => ((HL632_0.out.1 _ e_.symm).1.2) rfl)))
      rw [← Ny639.out] at ho
      have n0_ := A_ (blk_grown (g := gb606) (o := .cells #[.slice none 0 0] 46 (0, 0)) BK606.out hg (Kd.R_ne HL632_0.out BK606.out (by decide)))
      have n1_ := A_ (blk_grown (g := gb613) (o := .cells #[.slice (some ⟨go51, 0, none⟩) x614000_1.length co46] 46 (0, 0)) BK613.out hg (Kd.R_ne HL632_0.out BK613.out (by decide)))
      have n2_ := A_ (IsS67.grown HI0.out hg (IsS67.own_ne HI0.out HL632_0.out (by decide)))
      have n3_ := A_ (Kd.R_grown2 HO635.out rfl hg (fun k_ e_ => (HL632_0.out.1 k_ e_).2))
      have n4_ := A_ (below_weaken HB.out HL.out hb)
      have n5_ := A_ (KeepBut.trans HK.out (KeepBut.of_grown hg g) (Kd.R_base2 HL632_0.out))
      have n6_ := A_ (Kd.H_grown (Kd.H_widen (by repeat (first | exact HH51.out | refine Kd.H_alloc ?_ _ | refine Kd.H_drewN ?_ _ | refine Kd.H_drew ?_))) hg (fun k_ e_ => .inl (UU51.out.1 k_ e_)))
      have n7_ := A_ (ho)
      clear BK606
      clear BK613
      clear HI0
      clear HO635
      clear HB
      clear HK
      clear HH51
      clear HO_614000
      clear UU51
      clear HL632_0
      have BK606 := n0_
      have BK613 := n1_
      have HI0 := n2_
      have HO635 := n3_
      have HB := n4_
      have HK := n5_
      have HH51 := n6_
      have HO641 := n7_
      clear n0_ n1_ n2_ n3_ n4_ n5_ n6_ n7_
      clear ho hb hg hat
      have p43 : 0 ≤ (0 : Int) := (by omega)
      have q43 : (0 : Int) < ((x614000_1.length : Int) : Int) := of_decide_eq_true (by first | (with_reducible assumption) | assumption)
      replace p43 := eq_true p43
      replace q43 := eq_true q43
      obtain ⟨Ao55, co55, eo55⟩ := Kd.R_slice HO641.out
      (first | subst eo55 | (injection eo55 with f1_ f2_ f3_; have f4_ := f1_.symm; have f5_ := f3_.symm; clear f1_ f2_ f3_; subst f4_; subst f5_))
      obtain ⟨_, _, hraw53, _, _, hcc53, _⟩ := Kd.H_raw HH51.out (by omega) (by have h_ : (0 : Int) < ((x614000_1.length : Int) : Int) := of_decide_eq_true (by first | (with_reducible assumption) | assumption); first | exact h_ | (have e_ := (HN51.out); omega) | simpa using h_)
      obtain ⟨_, hfr53⟩ := Kd.H_at HH51.out (by omega) (by have h_ : (0 : Int) < ((x614000_1.length : Int) : Int) := of_decide_eq_true (by first | (with_reducible assumption) | assumption); first | exact h_ | (have e_ := (HN51.out); omega) | simpa using h_)
      have hx53_0 := hcc53 0 _ rfl
      have hf53_0 := hfr53 0
      (try simp only [Nat.add_zero] at hx53_0 hf53_0)
      (try rw [show ((Kd.slice 3 (Kd.int .i64))).sz = 1 from rfl, Nat.mul_one] at hx53_0)
      (try rw [show ((Kd.slice 3 (Kd.int .i64))).sz = 1 from rfl, Nat.mul_one] at hf53_0)
      (try rw [show ((0 : Int)).toNat = 0 from rfl] at hx53_0)
      (try simp only [Nat.reduceMul, Nat.zero_mul, Nat.zero_add, Nat.reduceAdd] at hx53_0)
      (try rw [show ((0 : Int)).toNat = 0 from rfl] at hf53_0)
      (try simp only [Nat.reduceMul, Nat.zero_mul, Nat.zero_add, Nat.reduceAdd] at hf53_0)
      have HP53 := Kd.S_seg0 HH51.out (by omega) (by have h_ : (0 : Int) < ((x614000_1.length : Int) : Int) := of_decide_eq_true (by first | (with_reducible assumption) | assumption); first | exact h_ | (have e_ := (HN51.out); omega) | simpa using h_) (seg := [.slice Ao55 y639.length co55]) (j := 0) (show 1 ≤ 1 from by decide) (x' := y639) (Kd.M_row HO641.out) (fun _ hk => hk)
      (try simp only [show ((Kd.slice 3 (Kd.int .i64))).sz = 1 from rfl, Nat.mul_one, Nat.add_zero] at HP53)
      clear hcc53 hfr53
      have HN0_go51 := A_ (show g ≠ go51 from by have h_ := IsS67.own_ne HI0.out hraw53 (by decide); intro e_; exact h_ (by rw [e_]; rfl))
      have HNB606_go51 := A_ (show gb606 ≠ go51 from by have h_ := Kd.R_ne hraw53 BK606.out (by decide); intro e_; exact h_ (by rw [e_]; rfl))
      have HNB613_go51 := A_ (show gb613 ≠ go51 from by have h_ := Kd.R_ne hraw53 BK613.out (by decide); intro e_; exact h_ (by rw [e_]; rfl))
      have HS53 := HP53.1
      rw [← Ny642.out] at HS53
      have HQ53 := A_ HS53
      obtain ⟨_, hgg53⟩ := Kd.R_typed hraw53 go51 rfl
      have GG53_ := A_ hgg53
      clear HP53 HS53 hgg53
      refine hK.out _ _ ⟨(blk_cell BK613.out 0).trans rfl, HS1_⟩ (fun hHeld => ?_)
      clear hK K
      refine norm_ (a' := ?_) ?_ ?_
      rotate_left
      ·show Act.put _ (some 69) _ = _
       simp only [Act.put, mD, mE, mF, i64_w, i32_w]
       rfl
      refine pure_ (i := 11) (N := some 70) (v := ?_) (a' := ?_) #[true, true, true, true, true, true, true, true, true, true, true, true, false] rfl rfl (any_of HT_.out (by kernel_rfl)) (fun _ _ _ h => h) (Or.inl ⟨by rfl, ?_⟩) ?_ ?_
      rotate_left
      ·intro w'
       go_simp
       with_reducible rfl
      rotate_left
      ·simp only [Act.put, mD, mE, mF, i64_w, i32_w]
       rfl
      refine last_ (i := 12) (N := none) #[true, true, true, true, true, true, true, true, true, true, true, true, true] rfl rfl (one_of HT_.out (by kernel_rfl)) (by decide) (fun K hK => ?_)
      refine skip_ (w1 := ?_) (by rfl) rfl ?_ ?_
      rotate_left
      ·go_simp
       rfl
      refine hK.out _ _ ?_
      clear hK K
      refine done_ (done_of HT_.out (by kernel_rfl)) ?_
      have n0_ : Aside0 (Kd.R (Kd.int .i64) 3 (w52.setCell ⟨go51, 0, none⟩ (.slice Ao55 y639.length co55)) w.heap.size (fun _ => True) (.slice Ao49 y633.length co49) y633) := ⟨by exact Kd.R_mono (Kd.R_far (p := ⟨go51, 0, none⟩) (Kd.R_types HO635.out GG53_.out (by decide)) (fun _ hk => hk.2) (.slice Ao55 y639.length co55)) (fun _ hk => trivial)⟩
      have n1_ : Aside0 (Kd.S (Kd.slice 3 (Kd.int .i64)) 24 (w52.setCell ⟨go51, 0, none⟩ (.slice Ao55 y639.length co55)) w.heap.size (fun k_ => some k_ ≠ (.slice Ao49 y633.length co49 : Value).ownBlock) (.slice (some ⟨go51, 0, none⟩) x614000_1.length co46) y642) := ⟨HQ53.out⟩
      have n2_ : Aside0 ((w52.setCell ⟨go51, 0, none⟩ (.slice Ao55 y639.length co55)).heap[gb606]? = some (.cells #[.slice none 0 0] 46 (0, 0))) := ⟨by refine blk_far ?_ HNB606_go51.out _; exact BK606.out⟩
      have n3_ : Aside0 ((w52.setCell ⟨go51, 0, none⟩ (.slice Ao55 y639.length co55)).heap[gb613]? = some (.cells #[.slice (some ⟨go51, 0, none⟩) x614000_1.length co46] 46 (0, 0))) := ⟨by refine blk_far ?_ HNB613_go51.out _; exact BK613.out⟩
      have n4_ : Aside0 (IsS67 w0 (w52.setCell ⟨go51, 0, none⟩ (.slice Ao55 y639.length co55)) g s0_0 t637 t638) := ⟨by repeat (first | (with_reducible first | exact HI0.out | apply IsS67.alloc | apply IsS67.drewN | apply IsS67.drew | apply IsS67.set_1 | apply IsS67.set_2 | refine IsS67.far ?_ HN0_go51.out _ | refine IsS67.far ?_ NB0_606.out _ | refine IsS67.far ?_ NB0_613.out _) | exact HI0.out)⟩
      have n5_ : Aside0 (KeepBut w (w52.setCell ⟨go51, 0, none⟩ (.slice Ao55 y639.length co55)) g none) := ⟨by repeat (first | (with_reducible first | exact HK.out | apply KeepBut.set_ | apply keep_drewN | apply keep_drew | apply keep_alloc | refine keep_far ?_ GB51.out _ | refine keep_far ?_ GW606.out _ | refine keep_far ?_ GW613.out _) | exact HK.out)⟩
      have n6_ : Aside0 (Below w0.heap.size w0 (w52.setCell ⟨go51, 0, none⟩ (.slice Ao55 y639.length co55))) := ⟨by repeat (first | (with_reducible first | exact HB.out | apply below_alloc | apply pw_below_drewN | apply below_drew1 | refine below_set ?_ (Nat.le_trans HL.out GB51.out) | refine below_set ?_ (IsS67.ge HI0.out) | refine below_set ?_ GE606.out | refine below_set ?_ GE613.out) | exact HB.out)⟩
      (try clear HO635)
      (try clear HO_614000)
      (try clear BK606)
      (try clear BK613)
      (try clear HI0)
      (try clear HK)
      (try clear HB)
      generalize (w52.setCell ⟨go51, 0, none⟩ (.slice Ao55 y639.length co55)) = w56 at n0_ n1_ n2_ n3_ n4_ n5_ n6_ ⊢
      have HO635 := n0_
      have HO_614000 := n1_
      have BK606 := n2_
      have BK613 := n3_
      have HI0 := n4_
      have HK := n5_
      have HB := n6_
      clear n0_ n1_ n2_ n3_ n4_ n5_ n6_
      have hnb57 := NB613_606.out
      have hnc57 := NB606_613.out
      have hnb58 := NB613_0.out
      have hnc58 := NB0_613.out
      have hcz59_0 : w56.cell? ⟨gb613, 0, none⟩ = some (.slice (some ⟨go51, 0, none⟩) x614000_1.length co46) := (blk_cell BK613.out 0).trans rfl
      have hfz59_0 := blk_frozen BK613.out 0
      have hnb60 := NB606_0.out
      have hnc60 := NB0_606.out
      have hcz61_0 : w56.cell? ⟨gb606, 0, none⟩ = some (.slice none 0 0) := (blk_cell BK606.out 0).trans rfl
      have hfz61_0 := blk_frozen BK606.out 0
      try go_wp2
      refine bodyPost_ret (results_cell_row rfl _ _ gb606 46 #[.slice (some ⟨go51, 0, none⟩) x614000_1.length co46] (0, 0) _ rfl (by refine blk_put (cs := #[.slice none 0 0]) ?_ 0 _ rfl; exact BK606.out) Try.underlying46 rfl (by kernel_rfl)) rfl ?_
      exact ⟨_, by rfl, S_toN (by exact Kd.S_mono (Kd.S_far (p := ⟨gb606, 0, none⟩) (Kd.S_types HO_614000.out BK606.out (by decide)) (fun _ hk => hk.2) (.slice (some ⟨go51, 0, none⟩) x614000_1.length co46)) (fun _ hk => trivial)), by repeat (first | (with_reducible first | exact HI0.out | apply IsS67.alloc | apply IsS67.drewN | apply IsS67.drew | apply IsS67.set_1 | apply IsS67.set_2 | refine IsS67.far ?_ NB0_606.out _ | refine IsS67.far ?_ NB0_613.out _) | exact HI0.out), by repeat (first | (with_reducible first | exact HB.out | apply below_alloc | apply pw_below_drewN | apply below_drew1 | refine below_set ?_ (IsS67.ge HI0.out) | refine below_set ?_ GE606.out | refine below_set ?_ GE613.out) | exact HB.out), by repeat (first | (with_reducible first | exact HK.out | apply KeepBut.set_ | apply keep_drewN | apply keep_drew | apply keep_alloc | refine keep_far ?_ GW606.out _ | refine keep_far ?_ GW613.out _) | exact HK.out)⟩
     rw [if_neg c42] at H
     exact absurd H (by simp)
    rw [if_neg c40] at H
    exact absurd H (by simp)
   replace c39 := Bool.eq_false_iff.mpr c39
   subst c39
   rw [if_neg (show ¬ (false = true) by decide)] at H
   simp only [Option.some.injEq, Prod.mk.injEq] at H
   obtain ⟨rfl, rfl, rfl⟩ := H
   go_wp2_with (first | ((with_reducible refine gate_callee (f := 77) rfl ?_); refine goesL_ (some 58) rfl rfl Try.func77 (by kernel_rfl) rfl #[.pointer (some ⟨g, 0, none⟩), .int .i64 12] rfl (by (try simp only [mA, mB, mC]); first | done | rfl | (simp only [List.length_drop, List.length_take]; rfl)) ?_; (with_reducible refine (spec_l1Once.calls g s0_0 x1001_1 x1002_1 12 false t630 t631 w0 _ ?side1 ?side2 A38.out).mono ?_); (case side1 => exact HI0.out); (case side2 => exact HB.out); rintro e w62 ⟨rfl, hi, hb, hk⟩; refine ⟨_, rfl, ?_⟩; have n0_ := A_ (Kd.S_mono (Kd.S_keep (IsS67.apartS HI0.out HO_614000.out (by decide)) hk (fun _ h => h.2)) (fun _ h => h.1)); have n1_ := A_ (KeepBut.blk hk BK606.out NB606_0.out (by simp)); have n2_ := A_ (KeepBut.blk hk BK613.out NB613_0.out (by simp)); have n3_ := A_ (KeepBut.trans HK.out hk (.inl rfl)); have n4_ := A_ (hb); have n5_ := A_ (hi); clear HO_614000 BK606 BK613 HK HB HI0; revert n0_ n1_ n2_ n3_ n4_ n5_; intro HO_614000 BK606 BK613 HK HB HI0; clear hb hk hi; have hnb63 := NB613_606.out; have hnc63 := NB606_613.out; have hnb64 := NB613_0.out; have hnc64 := NB0_613.out; have hcz65_0 : w62.cell? ⟨gb613, 0, none⟩ = some (u614000) := (blk_cell BK613.out 0).trans rfl; have hfz65_0 := blk_frozen BK613.out 0; obtain ⟨Ao66, co66, eo66⟩ := Kd.S_slice HO_614000.out; subst eo66; have hnb67 := NB606_0.out; have hnc67 := NB0_606.out; have hcz68_0 : w62.cell? ⟨gb606, 0, none⟩ = some (.slice none 0 0) := (blk_cell BK606.out 0).trans rfl; have hfz68_0 := blk_frozen BK606.out 0))
   refine bodyPost_ret (results_cell_row rfl _ _ gb606 46 #[.slice Ao66 x614000_1.length co66] (0, 0) _ rfl (by refine blk_put (cs := #[.slice none 0 0]) ?_ 0 _ rfl; exact BK606.out) Try.underlying46 rfl (by kernel_rfl)) rfl ?_
   exact ⟨_, by rfl, S_toN (by exact Kd.S_mono (Kd.S_far (p := ⟨gb606, 0, none⟩) (Kd.S_types HO_614000.out BK606.out (by decide)) (fun _ hk => hk.2) (.slice Ao66 x614000_1.length co66)) (fun _ hk => trivial)), by repeat (first | (with_reducible first | exact HI0.out | apply IsS67.alloc | apply IsS67.drewN | apply IsS67.drew | apply IsS67.set_1 | apply IsS67.set_2 | refine IsS67.far ?_ NB0_606.out _ | refine IsS67.far ?_ NB0_613.out _) | exact HI0.out), by repeat (first | (with_reducible first | exact HB.out | apply below_alloc | apply pw_below_drewN | apply below_drew1 | refine below_set ?_ (IsS67.ge HI0.out) | refine below_set ?_ GE606.out | refine below_set ?_ GE613.out) | exact HB.out), by repeat (first | (with_reducible first | exact HK.out | apply KeepBut.set_ | apply keep_drewN | apply keep_drew | apply keep_alloc | refine keep_far ?_ GW606.out _ | refine keep_far ?_ GW613.out _) | exact HK.out)⟩

/-! ### spec_l7Word: function 93 -/
def spec_l7Word.l0 : Nat → Int → List Int → Int → List Int → Int → Int → Option (List Int × Int × Int)
 | 0, _, _, _, _, _, _ => none
 | k + 1, x1, x5, x6, x1000, x1001, x1002 => if x6 > 0 then ((spec_l1Below.f x1000 x1001 x1002 x1).bind fun bt705 => (if x5.length < 17592186044416 then (spec_l7Word.l0 k x1 (x5 ++ [bt705.1]) (wrap64 (x6 - 1)) x1000 bt705.2.1 bt705.2.2) else (none))) else (some (x5, x1001, x1002))
def spec_l7Word.f (k : Nat) (s0_0 : List Int) (s0_1 : Int) (s0_2 : Int) (a1 : Int) : Option (List Int × Int × Int) := (spec_l1Below.f s0_0 s0_1 s0_2 12).bind fun bt702 => (spec_l7Word.l0 k a1 (([] : List Int)) bt702.1 s0_0 bt702.2.1 bt702.2.2)
theorem spec_l7Word.mono_l : ∀ k, (∀ y0 y1 y2 y3 y4 y5, LeO (spec_l7Word.l0 k y0 y1 y2 y3 y4 y5) (spec_l7Word.l0 (k + 1) y0 y1 y2 y3 y4 y5))
 | 0 => fun _ _ _ _ _ _ r h => by simp [spec_l7Word.l0] at h
 | k + 1 => by
  have ih0 := spec_l7Word.mono_l k
  ·intro y0 y1 y2 y3 y4 y5
   unfold spec_l7Word.l0
   with_reducible repeat' first | exact ih0 _ _ _ _ _ _ | exact LeO.refl _ | exact LeO.none _ | refine LeO.ite ?_ ?_ | refine LeO.bind ?_ (fun _ => ?_)
theorem spec_l7Word.mono : ∀ a0 a1 a2 a3 k, LeO (spec_l7Word.f k a0 a1 a2 a3) (spec_l7Word.f (k + 1) a0 a1 a2 a3) := by
 intro a0 a1 a2 a3 k
 have ih0 := spec_l7Word.mono_l k
 unfold spec_l7Word.f
 with_reducible repeat' first | exact ih0 _ _ _ _ _ _ | exact LeO.refl _ | exact LeO.none _ | refine LeO.ite ?_ ?_ | refine LeO.bind ?_ (fun _ => ?_)
theorem spec_l7Word.calls (k : Nat) (g : Nat) (s0_0 : List Int) (s0_1 : Int) (s0_2 : Int) (a1 : Int) (r1 : List Int) (r2 : Int) (r3 : Int) (w0 w : World) (hI : IsS67 w0 w g s0_0 s0_1 s0_2) (hB : Below w0.heap.size w0 w) (h : spec_l7Word.f k s0_0 s0_1 s0_2 a1 = some (r1, r2, r3)) :
  Calls Try.prog 93 #[.pointer (some ⟨g, 0, none⟩), .int .i64 a1] w fun e w' => ∃ v0_ : Value, e = .returned (v0_) ∧ Kd.R (Kd.int .i64) 3 w' w.heap.size (fun _ => True) v0_ r1 ∧ IsS67 w0 w' g s0_0 r2 r3 ∧ Below w0.heap.size w0 w' ∧ KeepBut w w' g none := by
 have HI0 := A_ hI
 have HK := A_ (KeepBut.refl w g none)
 have HL := A_ hB.size
 clear hI
 have HW0 := A_ hB.size
 have HB := A_ hB
 clear hB
 unfold spec_l7Word.f at h
 have H := h
 clear h
 obtain ⟨y699, hy699⟩ : ∃ y_ : List Int, y_ = (([] : List Int)) := ⟨_, rfl⟩
 replace H : ((spec_l1Below.f s0_0 s0_1 s0_2 12).bind fun bt702 => (spec_l7Word.l0 k a1 y699 bt702.1 s0_0 bt702.2.1 bt702.2.2)) = some (r1, r2, r3) := by (rw [hy699]; with_reducible exact H)
 have Ny699 := A_ hy699
 clear hy699
 replace H := Option.bind_eq_some_iff.mp H
 obtain ⟨⟨t702, t703, t704⟩, A30, H⟩ := H
 dsimp only at H
 have A3 := A_ A30
 clear A30
 have H' := A_ H
 clear H
 go_enter Try.func93, Try.ntmps93
 go_wp2_with (first | ((with_reducible refine gate_dst (N := 7) rfl ?_); refine Kd.R_lit (Kd.int .i64) _ 3 ?hg (N := 7) ?hd (xs := ([] : List Int)) (inner := []) (ok := fun _ => True) (okp := fun _ => True) ?hr ?hp (fun _ hk => hk) trivial (Below.refl _ _) (Nat.le_refl _) (by simp) ?_; (case hd | hg => rfl); (case hr => go_simp; done); (case hp => exact (Reps.none _ _)); intro v700 w4 ho5 hb hg_ hnew_; clear hg_ hnew_; (first | rw [← Ny699.out] at ho5 | (simp only [Int.reduceToNat] at ho5; rw [← Ny699.out] at ho5)); have n0_ := A_ (Kd.R_lower ho5 (keep_size HK.out)); have n1_ := A_ (IsS67.below HI0.out hb); have n2_ := A_ (KeepBut.trans HK.out (KeepBut.of_below hb g none) (.inl rfl)); have n3_ := A_ (below_step HB.out hb); clear HI0 HK HB; revert n0_ n1_ n2_ n3_; intro HO701 HI0 HK HB; clear hb ho5) | ((with_reducible refine gate_callee (f := 74) rfl ?_); refine goesL_ (some 9) rfl rfl Try.func74 (by kernel_rfl) rfl #[.pointer (some ⟨g, 0, none⟩), .int .i64 12] rfl (by (try simp only [mA, mB, mC]); first | done | rfl | (simp only [List.length_drop, List.length_take]; rfl)) ?_; (with_reducible refine (spec_l1Below.calls g s0_0 s0_1 s0_2 12 t702 t703 t704 w0 _ ?side1 ?side2 A3.out).mono ?_); (case side1 => exact HI0.out); (case side2 => exact HB.out); rintro e w6 ⟨rfl, hi, hb, hk⟩; refine ⟨_, rfl, ?_⟩; have n0_ := A_ (Kd.R_mono (Kd.R_keep (IsS67.apart HI0.out HO701.out (by decide)) hk (fun _ h => h.2)) (fun _ h => h.1)); have n1_ := A_ (KeepBut.trans HK.out hk (.inl rfl)); have n2_ := A_ (hb); have n3_ := A_ (hi); clear HO701 HK HB HI0; revert n0_ n1_ n2_ n3_; intro HO701 HK HB HI0; clear hb hk; (try clear hi)))
 go_loopg [5, 6] k (fun kq v5 v6 w' => ∃ (x5_1 : List Int) (x6_1 : Int) (x1001_1 : Int) (x1002_1 : Int), v6 = .int .i64 x6_1 ∧ Aside0 (spec_l7Word.l0 kq a1 x5_1 x6_1 s0_0 x1001_1 x1002_1 = some (r1, r2, r3)) ∧ Aside0 (kq ≤ k) ∧ Aside0 (Kd.R (Kd.int .i64) 3 w' w.heap.size (fun _ => True) v5 x5_1) ∧ Aside0 (IsS67 w0 w' g s0_0 x1001_1 x1002_1) ∧ Aside0 (KeepBut w w' g none) ∧ Aside0 (Below w0.heap.size w0 w'))
 case atStart => exact ⟨(y699), (t702), (t703), (t704), (by rfl), H', ⟨Nat.le_refl _⟩, ⟨HO701.out⟩, ⟨HI0.out⟩, ⟨HK.out⟩, ⟨HB.out⟩⟩
 case round =>
  clear H'
  obtain ⟨x5_1, x6_1, x1001_1, x1002_1, rfl, HA, HK1, HO_5, HI0, HK, HB⟩ := hrel
  cases gk with
  | zero => exact absurd HA.out (by simp [spec_l7Word.l0])
  | succ k1 =>
   have H := HA.out
   clear HA
   simp only [spec_l7Word.l0] at H
   by_cases c7 : x6_1 > 0
   ·rw [if_pos c7] at H
    have c7b0 : decide (0 < x6_1) = true := decide_eq_true c7
    clear c7
    replace H := Option.bind_eq_some_iff.mp H
    obtain ⟨⟨t705, t706, t707⟩, A80, H⟩ := H
    dsimp only at H
    have A8 := A_ A80
    clear A80
    by_cases c9 : x5_1.length < 17592186044416
    ·rw [if_pos c9] at H
     have LMc9 := A_ c9
     clear c9
     obtain ⟨y708, hy708⟩ : ∃ y_ : List Int, y_ = (x5_1 ++ [t705]) := ⟨_, rfl⟩
     replace H : (spec_l7Word.l0 k1 a1 y708 (wrap64 (x6_1 - 1)) s0_0 t706 t707) = some (r1, r2, r3) := by (rw [hy708]; with_reducible exact H)
     have Ny708 := A_ hy708
     clear hy708
     have H' := A_ H
     clear H
     go_wp2_with (first | ((with_reducible refine gate_callee (f := 74) rfl ?_); refine goesL_ (some 17) rfl rfl Try.func74 (by kernel_rfl) rfl #[.pointer (some ⟨g, 0, none⟩), .int .i64 a1] rfl (by (try simp only [mA, mB, mC]); first | done | rfl | (simp only [List.length_drop, List.length_take]; rfl)) ?_; (with_reducible refine (spec_l1Below.calls g s0_0 x1001_1 x1002_1 a1 t705 t706 t707 w0 _ ?side1 ?side2 A8.out).mono ?_); (case side1 => exact HI0.out); (case side2 => exact HB.out); rintro e w10 ⟨rfl, hi, hb, hk⟩; refine ⟨_, rfl, ?_⟩; have n0_ := A_ (Kd.R_mono (Kd.R_keep (IsS67.apart HI0.out HO_5.out (by decide)) hk (fun _ h => h.2)) (fun _ h => h.1)); have n1_ := A_ (KeepBut.trans HK.out hk (.inl rfl)); have n2_ := A_ (hb); have n3_ := A_ (hi); clear HO_5 HK HB HI0; revert n0_ n1_ n2_ n3_; intro HO_5 HK HB HI0; clear hb hk; (try clear hi)) | ((with_reducible refine gate_builtin (b := .append) (xs := #[.tmp 14, .tmp 18]) rfl ?_); at_builtin; refine Kd.R_append (Kd.int .i64) w.heap.size rfl (.tmp 14) (.tmp 18) 24 3 (.int .i64 0) 8 rfl Try.underlying24 info3 rfl (by decide) (by omega) u5 x5_1 t705 [.int .i64 t705] (fun _ => True) (fun _ => False) rfl rfl ?aP (fun _ hk => hk.elim) ?aF ?aO (Below.refl _ _) ?aS ?aL ?_; (case aP => exact rfl); (case aF => exact (fun _ _ => trivial)); (case aO => exact HO_5.out); (case aS => exact (keep_size HK.out)); (case aL => have := LMc9.out; omega); intro v709 w11 ho hb hg hat; rw [← Ny708.out] at ho; have n0_ := A_ (IsS67.grown HI0.out hg (IsS67.own_ne HI0.out HO_5.out (by decide))); have n1_ := A_ (below_weaken HB.out HL.out hb); have n2_ := A_ (KeepBut.trans HK.out (KeepBut.of_grown hg g) (Kd.R_base2 HO_5.out)); have n3_ := A_ (ho); clear HI0 HB HK HO_5; revert n0_ n1_ n2_ n3_; intro HI0 HB HK HO710; clear ho hb hg hat))
     go_roundg k1
     case measure => have := HK1.out; omega
     case rel => exact ⟨(y708), (wrap64 (x6_1 - 1)), (t706), (t707), (by rfl), H', ⟨by have := HK1.out; omega⟩, ⟨HO710.out⟩, ⟨HI0.out⟩, ⟨HK.out⟩, ⟨HB.out⟩⟩
    rw [if_neg c9] at H
    exact absurd H (by simp)
   rw [if_neg c7] at H
   have c7b0 : decide (0 < x6_1) = false := decide_eq_false c7
   clear c7
   simp only [Option.some.injEq, Prod.mk.injEq] at H
   obtain ⟨rfl, rfl, rfl⟩ := H
   go_wp2
   go_ret
   exact ⟨_, by rfl, HO_5.out, HI0.out, HB.out, HK.out⟩

end Go.Proofs.Ytdcakddfibnllaa.PFnFibonacci
