/- Written by this session's own program (wip/myprint.py): the machine side of one law, some contracts of it typed by hand. -/
import Derived.Test.YtdcakddfibnllaaPFnFibonaccix0
import Derived.Test.YtdcakddfibnllaaPFnFibonaccix7
import Derived.Test.YtdcakddfibnllaaPFnFibonaccix10
import Derived.Test.YtdcakddfibnllaaPFnFibonaccix11
import Derived.Test.YtdcakddfibnllaaPFnFibonaccix14
import Derived.Test.YtdcakddfibnllaaPFnFibonaccix15
namespace Go.Proofs.Ytdcakddfibnllaa.PFnFibonacci
open Go.RowKit Go.Proofs.YtdcakddfibnllaaW.PrintWords Go.Proofs.YtdcakddfibnllaaW.PrintLast Go.Proofs.YtdcakddfibnllaaW.PrintMore
attribute [local go_sem] max2_int min2_int max_two min_two max_three min_three max_four min_four   -- for this text's walks alone
set_option linter.unusedVariables false
set_option maxHeartbeats 8000000
set_option maxRecDepth 100000
set_option linter.unusedSimpArgs false

/-! ### spec_l8Long: function 86 -/
def spec_l8Long.f (k : Nat) (s0_0 : List Int) (s0_1 : Int) (s0_2 : Int) : Option (List Int × Int × Int) := (spec_l1Below.f s0_0 s0_1 s0_2 4).bind fun bt711 => (if bt711.1 = 0 then ((spec_l3Draw.f k s0_0 bt711.2.1 bt711.2.2).bind fun bt714 => ((spec_l1Below.f s0_0 bt714.2.2.2.1 bt714.2.2.2.2 40).bind fun bt724 => ((spec_PrefixOf.f k bt714.1 bt714.2.1 bt714.2.2.1 (wrap64 (10 + bt724.1))).bind fun t727 => (some (t727, bt724.2.1, bt724.2.2))))) else (if bt711.1 = 1 then ((spec_l7Morphism.f k s0_0 bt711.2.1 bt711.2.2).bind fun bt730 => ((spec_l1Below.f s0_0 bt730.2.1 bt730.2.2 40).bind fun bt736 => ((spec_FixedPrefix.f k bt730.1 0 (wrap64 (10 + bt736.1))).bind fun bt739 => (some (bt739.1, bt736.2.1, bt736.2.2))))) else (if bt711.1 = 2 then ((spec_l7Word.f k s0_0 bt711.2.1 bt711.2.2 2).bind fun bt743 => ((some (([] : List Int) : List Int)).bind fun y748 => (if y748.length + bt743.1.length < 17592186044416 then ((some (y748 ++ bt743.1 : List Int)).bind fun y751 => (if y751.length + bt743.1.length < 17592186044416 then ((some (y751 ++ bt743.1 : List Int)).bind fun y754 => (if y754.length + bt743.1.length < 17592186044416 then (some ((y754 ++ bt743.1), bt743.2.1, bt743.2.2)) else (none))) else (none))) else (none)))) else ((spec_l7Word.f k s0_0 bt711.2.1 bt711.2.2 3).bind fun bt760 => (some (bt760.1, bt760.2.1, bt760.2.2))))))
theorem spec_l8Long.mono : ∀ a0 a1 a2 k, LeO (spec_l8Long.f k a0 a1 a2) (spec_l8Long.f (k + 1) a0 a1 a2) := by
 intro a0 a1 a2 k
 unfold spec_l8Long.f
 with_reducible repeat' first | exact spec_FixedPrefix.mono _ _ _ _ | exact spec_PrefixOf.mono _ _ _ _ _ | exact spec_l3Draw.mono _ _ _ _ | exact spec_l7Morphism.mono _ _ _ _ | exact spec_l7Word.mono _ _ _ _ _ | exact LeO.refl _ | exact LeO.none _ | refine LeO.ite ?_ ?_ | refine LeO.bind ?_ (fun _ => ?_)
def spec_l8Long.T7 : Bool × List (List Nat × List Nat) := (true, [([], []), ([], []), ([1], [1]), ([2], [2]), ([0, 3, 2], [0, 3]), ([4], [4]), ([5], [5]), ([5], [5]), ([6, 4, 0, 1, 2, 3, 4, 5, 6], [6]), ([7, 8, 0, 1, 2, 3, 4, 5, 6, 7, 8], [7])])
def spec_l8Long.B7 : List Nat := [0, 0, 2, 6, 15, 31, 63, 63, 127, 511]
theorem spec_l8Long.tab7 : rtab .any (opsOf Try.f86 7) = spec_l8Long.T7 := by kernel_rfl
theorem spec_l8Long.bits7 : waitsOk spec_l8Long.T7.2 spec_l8Long.B7 = true := by kernel_rfl
theorem spec_l8Long.calls (k : Nat) (g : Nat) (s0_0 : List Int) (s0_1 : Int) (s0_2 : Int) (r1 : List Int) (r2 : Int) (r3 : Int) (w0 w : World) (hI : IsS67 w0 w g s0_0 s0_1 s0_2) (hB : Below w0.heap.size w0 w) (h : spec_l8Long.f k s0_0 s0_1 s0_2 = some (r1, r2, r3)) :
  Calls Try.prog 86 #[.pointer (some ⟨g, 0, none⟩)] w fun e w' => ∃ v0_ : Value, e = .returned (v0_) ∧ Kd.R (Kd.int .i64) 3 w' w.heap.size (fun _ => True) v0_ r1 ∧ IsS67 w0 w' g s0_0 r2 r3 ∧ Below w0.heap.size w0 w' ∧ KeepBut w w' g none := by
 have hu72 := Try.underlying72
 have hu46 := Try.underlying46
 have HI0 := A_ hI
 have HK := A_ (KeepBut.refl w g none)
 have HL := A_ hB.size
 clear hI
 have HW0 := A_ hB.size
 have HB := A_ hB
 clear hB
 unfold spec_l8Long.f at h
 have H := h
 clear h
 replace H := Option.bind_eq_some_iff.mp H
 obtain ⟨⟨t711, t712, t713⟩, A20, H⟩ := H
 dsimp only at H
 have A2 := A_ A20
 clear A20
 by_cases c3 : t711 = 0
 ·rw [if_pos c3] at H
  have c3b0 : (t711 == 0) = true := beq_iff_eq.mpr c3
  have c3b1 : (t711 != 0) = false := bne_eq_false_iff_eq.mpr c3
  clear c3
  replace H := Option.bind_eq_some_iff.mp H
  obtain ⟨⟨t714, t715, t718, t721, t722⟩, A40, H⟩ := H
  dsimp only at H
  have A4 := A_ A40
  clear A40
  replace H := Option.bind_eq_some_iff.mp H
  obtain ⟨⟨t724, t725, t726⟩, A50, H⟩ := H
  dsimp only at H
  have A5 := A_ A50
  clear A50
  replace H := Option.bind_eq_some_iff.mp H
  obtain ⟨t727, A60, H⟩ := H
  have A6 := A_ A60
  clear A60
  simp only [Option.some.injEq, Prod.mk.injEq] at H
  obtain ⟨rfl, rfl, rfl⟩ := H
  go_enter Try.func86, Try.ntmps86
  try go_wp2_with (first | ((with_reducible refine gate_callee (f := 74) rfl ?_); refine goesL_ (some 9) rfl rfl Try.func74 (by kernel_rfl) rfl #[.pointer (some ⟨g, 0, none⟩), .int .i64 4] rfl (by (try simp only [mA, mB, mC]); first | done | rfl | (simp only [List.length_drop, List.length_take]; rfl)) ?_; (with_reducible refine (spec_l1Below.calls g s0_0 s0_1 s0_2 4 t711 t712 t713 w0 _ ?side1 ?side2 A2.out).mono ?_); (case side1 => exact HI0.out); (case side2 => exact HB.out); rintro e w7 ⟨rfl, hi, hb, hk⟩; refine ⟨_, rfl, ?_⟩; have n0_ := A_ (KeepBut.trans HK.out hk (.inl rfl)); have n1_ := A_ (hb); have n2_ := A_ (hi); clear HK HB HI0; revert n0_ n1_ n2_; intro HK HB HI0; clear hb hk; (try clear hi)) | ((with_reducible refine gate_callee (f := 90) rfl ?_); refine goesL_ (some 13) rfl rfl Try.func90 (by kernel_rfl) rfl #[.pointer (some ⟨g, 0, none⟩)] rfl (by (try simp only [mA, mB, mC]); first | done | rfl | (simp only [List.length_drop, List.length_take]; rfl)) ?_; (with_reducible refine (spec_l3Draw.calls k g s0_0 t712 t713 t714 t715 t718 t721 t722 w0 _ ?side1 ?side2 A4.out).mono ?_); (case side1 => exact HI0.out); (case side2 => exact HB.out); rintro e w8 ⟨v716, v719, rfl, ho0, ho1, hi, hb, hk⟩; refine ⟨_, rfl, ?_⟩; have n0_ := A_ (Kd.N_lower (Kd.N_mono (ok' := fun k_ => some k_ ≠ (v719 : Value).ownBlock ∧ k_ ≠ g) ho0 (fun k_ hk_ => ⟨hk_.2, (IsS67.fresh HI0.out k_ hk_.1)⟩)) (keep_size HK.out)); have n1_ := A_ (Kd.R_lower (Kd.R_mono (ok' := fun k_ => True) ho1 (fun _ hk_ => trivial)) (keep_size HK.out)); have n2_ := A_ (KeepBut.trans HK.out hk (.inl rfl)); have n3_ := A_ (hb); have n4_ := A_ (hi); clear HK HB HI0; revert n0_ n1_ n2_ n3_ n4_; intro HO717 HO720 HK HB HI0; clear hb hk hi ho0; (try clear ho1)) | ((with_reducible refine gate_dst (N := 3) rfl ?_); refine box_event ?hg (N := 3) ?hd (cs := #[.int .i64 0, .slice none 0 0, .slice none 0 0]) (t := 72) ?hr ?_; (case hd | hg => rfl); (case hr => go_simp; done); intro gb723 hg w9 hbox hb; have n0_ := A_ (Kd.N_below (Kd.N_elderB HO717.out gb723 (Nat.le_of_eq hg.symm)) hb); have n1_ := A_ (Kd.R_below HO720.out hb); have n2_ := A_ (IsS67.below HI0.out hb); have n3_ := A_ (KeepBut.trans HK.out (KeepBut.of_below hb g none) (.inl rfl)); have n4_ := A_ (below_step HB.out hb); have n5_ := A_ (hbox); have n6_ := A_ ((by rw [hg]; exact (keep_size HK.out) : w.heap.size ≤ gb723)); have n7_ := A_ ((Nat.le_trans HW0.out (by rw [hg]; exact (keep_size HK.out) : w.heap.size ≤ gb723) : w0.heap.size ≤ gb723)); have n8_ := A_ ((by rw [hg]; exact Nat.ne_of_lt (IsS67.lt HI0.out) : g ≠ gb723)); have n9_ := A_ ((by rw [hg]; exact Nat.ne_of_gt (IsS67.lt HI0.out) : gb723 ≠ g)); clear HO717 HO720 HI0 HK HB; revert n0_ n1_ n2_ n3_ n4_ n5_ n6_ n7_ n8_ n9_; intro HO717 HO720 HI0 HK HB BK723 GW723 GE723 NB0_723 NB723_0; clear hb hbox hg; have hnb10 := NB723_0.out; have hnc10 := NB0_723.out; have hcz11_0 : w9.cell? ⟨gb723, 0, none⟩ = some (.int .i64 0) := (blk_cell BK723.out 0).trans rfl; have hcz11_1 : w9.cell? ⟨gb723, 1, none⟩ = some (.slice none 0 0) := (blk_cell BK723.out 1).trans rfl; have hcz11_2 : w9.cell? ⟨gb723, 2, none⟩ = some (.slice none 0 0) := (blk_cell BK723.out 2).trans rfl; have hfz11_0 := blk_frozen BK723.out 0; have hfz11_1 := blk_frozen BK723.out 1; have hfz11_2 := blk_frozen BK723.out 2; obtain ⟨Ao12, co12, eo12⟩ := Kd.N_slice HO717.out; subst eo12; obtain ⟨Ao13, co13, eo13⟩ := Kd.R_slice HO720.out; subst eo13))
  have n0_ : Aside0 (Kd.N (Kd.slice 3 (Kd.int .i64)) 24 (((w9.setCell ⟨gb723, 0, none⟩ (.int .i64 t714)).setCell ⟨gb723, 1, none⟩ (.slice Ao12 t715.length co12)).setCell ⟨gb723, 2, none⟩ (.slice Ao13 t718.length co13)) w.heap.size (fun k_ => some k_ ≠ (.slice Ao13 t718.length co13 : Value).ownBlock ∧ k_ ≠ g ∧ k_ ≠ gb723) (.slice Ao12 t715.length co12) t715) := ⟨by exact Kd.N_mono (Kd.N_far (p := ⟨gb723, 2, none⟩) (Kd.N_far (p := ⟨gb723, 1, none⟩) (Kd.N_far (p := ⟨gb723, 0, none⟩) (Kd.N_mono HO717.out (fun k_ hk => (⟨hk, hk.2⟩ : _ ∧ k_ ≠ gb723))) (fun _ hk => hk.2) (.int .i64 t714)) (fun _ hk => hk.2) (.slice Ao12 t715.length co12)) (fun _ hk => hk.2) (.slice Ao13 t718.length co13)) (fun _ hk => ⟨hk.1.1.1, ⟨hk.1.1.2, hk.1.2⟩⟩)⟩
  have n1_ : Aside0 (Kd.R (Kd.int .i64) 3 (((w9.setCell ⟨gb723, 0, none⟩ (.int .i64 t714)).setCell ⟨gb723, 1, none⟩ (.slice Ao12 t715.length co12)).setCell ⟨gb723, 2, none⟩ (.slice Ao13 t718.length co13)) w.heap.size (fun _ => True) (.slice Ao13 t718.length co13) t718) := ⟨by exact Kd.R_mono (Kd.R_far (p := ⟨gb723, 2, none⟩) (Kd.R_far (p := ⟨gb723, 1, none⟩) (Kd.R_far (p := ⟨gb723, 0, none⟩) (Kd.R_types HO720.out BK723.out (by decide)) (fun _ hk => hk.2) (.int .i64 t714)) (fun _ hk => hk.2) (.slice Ao12 t715.length co12)) (fun _ hk => hk.2) (.slice Ao13 t718.length co13)) (fun _ hk => trivial)⟩
  have n2_ : Aside0 ((((w9.setCell ⟨gb723, 0, none⟩ (.int .i64 t714)).setCell ⟨gb723, 1, none⟩ (.slice Ao12 t715.length co12)).setCell ⟨gb723, 2, none⟩ (.slice Ao13 t718.length co13)).heap[gb723]? = some (.cells #[.int .i64 t714, .slice Ao12 t715.length co12, .slice Ao13 t718.length co13] 72 (0, 0))) := ⟨by refine blk_put (cs := #[.int .i64 t714, .slice Ao12 t715.length co12, .slice none 0 0]) ?_ 2 _ rfl; refine blk_put (cs := #[.int .i64 t714, .slice none 0 0, .slice none 0 0]) ?_ 1 _ rfl; refine blk_put (cs := #[.int .i64 0, .slice none 0 0, .slice none 0 0]) ?_ 0 _ rfl; exact BK723.out⟩
  have n3_ : Aside0 (IsS67 w0 (((w9.setCell ⟨gb723, 0, none⟩ (.int .i64 t714)).setCell ⟨gb723, 1, none⟩ (.slice Ao12 t715.length co12)).setCell ⟨gb723, 2, none⟩ (.slice Ao13 t718.length co13)) g s0_0 t721 t722) := ⟨by repeat (first | (with_reducible first | exact HI0.out | apply IsS67.alloc | apply IsS67.drewN | apply IsS67.drew | apply IsS67.set_1 | apply IsS67.set_2 | refine IsS67.far ?_ NB0_723.out _) | exact HI0.out)⟩
  have n4_ : Aside0 (KeepBut w (((w9.setCell ⟨gb723, 0, none⟩ (.int .i64 t714)).setCell ⟨gb723, 1, none⟩ (.slice Ao12 t715.length co12)).setCell ⟨gb723, 2, none⟩ (.slice Ao13 t718.length co13)) g none) := ⟨by repeat (first | (with_reducible first | exact HK.out | apply KeepBut.set_ | apply keep_drewN | apply keep_drew | apply keep_alloc | refine keep_far ?_ GW723.out _) | exact HK.out)⟩
  have n5_ : Aside0 (Below w0.heap.size w0 (((w9.setCell ⟨gb723, 0, none⟩ (.int .i64 t714)).setCell ⟨gb723, 1, none⟩ (.slice Ao12 t715.length co12)).setCell ⟨gb723, 2, none⟩ (.slice Ao13 t718.length co13))) := ⟨by repeat (first | (with_reducible first | exact HB.out | apply below_alloc | apply pw_below_drewN | apply below_drew1 | refine below_set ?_ (IsS67.ge HI0.out) | refine below_set ?_ GE723.out) | exact HB.out)⟩
  (try clear HO717)
  (try clear HO720)
  (try clear BK723)
  (try clear HI0)
  (try clear HK)
  (try clear HB)
  generalize (((w9.setCell ⟨gb723, 0, none⟩ (.int .i64 t714)).setCell ⟨gb723, 1, none⟩ (.slice Ao12 t715.length co12)).setCell ⟨gb723, 2, none⟩ (.slice Ao13 t718.length co13)) = w14 at n0_ n1_ n2_ n3_ n4_ n5_ ⊢
  have HO717 := n0_
  have HO720 := n1_
  have BK723 := n2_
  have HI0 := n3_
  have HK := n4_
  have HB := n5_
  clear n0_ n1_ n2_ n3_ n4_ n5_
  have n0_ := A_ (Kd.N_drew HO717.out)
  have n1_ := A_ (Kd.R_drew HO720.out)
  have n2_ := A_ (blk_drew BK723.out)
  have n3_ := A_ (IsS67.drew HI0.out)
  have n4_ := A_ (keep_drew HK.out)
  have n5_ := A_ (below_drew1 HB.out)
  clear HO717
  clear HO720
  clear BK723
  clear HI0
  clear HK
  clear HB
  have HO717 := n0_
  have HO720 := n1_
  have BK723 := n2_
  have HI0 := n3_
  have HK := n4_
  have HB := n5_
  clear n0_ n1_ n2_ n3_ n4_ n5_
  refine start_ (n := 6) (S := fun w' => w'.cell? ⟨gb723, 0, none⟩ = some (.int .i64 t714) ∧ w'.cell? ⟨gb723, 1, none⟩ = some (.slice Ao12 t715.length co12) ∧ w'.cell? ⟨gb723, 2, none⟩ = some (.slice Ao13 t718.length co13)) (ds := []) #[false, false, false, false, false, false] (by kernel_rfl) rfl rfl ⟨(blk_cell BK723.out 0).trans rfl, (blk_cell BK723.out 1).trans rfl, (blk_cell BK723.out 2).trans rfl⟩ (fun hHeld => ?_)
  generalize w14.drew = w15 at HO717 HO720 BK723 HI0 HK HB hHeld ⊢
  refine pure_ (i := 1) (N := some 15) (v := ?_) (a' := ?_) #[false, true, false, false, false, false] rfl rfl (by kernel_rfl) (fun _ _ _ h => h) (Or.inl ⟨by rfl, ?_⟩) ?_ ?_
  rotate_left
  ·intro w'
   go_simp
   with_reducible rfl
  rotate_left
  ·simp only [Act.put, mD, mE, mF, i64_w, i32_w]
   rfl
  refine take_ (i := 0) (N := some 14) (v := ?_) (a' := ?_) #[true, true, false, false, false, false] rfl rfl (by kernel_rfl) (fun _ _ _ h => h) (Or.inl ⟨by rfl, ?_⟩) hHeld ?_ ?_
  rotate_left
  ·rintro w' ⟨s0, s1, s2⟩
   go_simp
   with_reducible rfl
  rotate_left
  ·simp only [Act.put, mD, mE, mF, i64_w, i32_w]
   rfl
  refine one_ (i := 2) (N := some 16) #[true, true, true, false, false, false] rfl rfl (by kernel_rfl) (by decide) (fun K hK => ?_)
  refine goes_ Try.func74 (by kernel_rfl) rfl #[.pointer (some ⟨g, 0, none⟩), .int .i64 40] (by rfl) rfl rfl (by (try simp only [mA, mB, mC]); first | done | rfl | (simp only [List.length_drop, List.length_take]; rfl)) ?_
  with_reducible refine (spec_l1Below.calls g s0_0 t721 t722 40 t724 t725 t726 w0 _ ?side1 ?side2 A5.out).mono ?_
  (case side1 => exact HI0.out)
  (case side2 => exact HB.out)
  rintro e w16 ⟨rfl, hi, hb, hk⟩
  refine ⟨_, rfl, ?_⟩
  have n0_ := A_ (Kd.N_mono (Kd.N_keep (Kd.N_mono (ok := fun k_ => (some k_ ≠ (.slice Ao13 t718.length co13 : Value).ownBlock ∧ (k_ ≠ g ∧ k_ ≠ gb723))) HO717.out (fun k_ hk_ => (⟨hk_, hk_.2.1⟩ : _ ∧ k_ ≠ g))) hk (fun _ h => h.2)) (fun _ h => h.1))
  have n1_ := A_ (Kd.R_mono (Kd.R_keep (IsS67.apart HI0.out HO720.out (by decide)) hk (fun _ h => h.2)) (fun _ h => h.1))
  have n2_ := A_ (KeepBut.blk hk BK723.out NB723_0.out (by simp))
  have n3_ := A_ (KeepBut.trans HK.out hk (.inl rfl))
  have n4_ := A_ (hb)
  have n5_ := A_ (hi)
  clear HO717
  clear HO720
  clear BK723
  clear HK
  clear HB
  clear HI0
  have HO717 := n0_
  have HO720 := n1_
  have BK723 := n2_
  have HK := n3_
  have HB := n4_
  have HI0 := n5_
  clear n0_ n1_ n2_ n3_ n4_ n5_
  (try clear hb)
  (try clear hb2)
  (try clear hk)
  (try clear hi)
  refine hK.out _ _ ⟨(blk_cell BK723.out 0).trans rfl, (blk_cell BK723.out 1).trans rfl, (blk_cell BK723.out 2).trans rfl⟩ (fun hHeld => ?_)
  clear hK K
  refine norm_ (a' := ?_) ?_ ?_
  rotate_left
  ·show Act.put _ (some 16) _ = _
   simp only [Act.put, mD, mE, mF, i64_w, i32_w]
   rfl
  refine pure_ (i := 3) (N := some 17) (v := ?_) (a' := ?_) #[true, true, true, true, false, false] rfl rfl (by kernel_rfl) (fun _ _ _ h => h) (Or.inl ⟨by rfl, ?_⟩) ?_ ?_
  rotate_left
  ·intro w'
   go_simp
   with_reducible rfl
  rotate_left
  ·simp only [Act.put, mD, mE, mF, i64_w, i32_w]
   rfl
  refine one_ (i := 4) (N := some 18) #[true, true, true, true, true, false] rfl rfl (by kernel_rfl) (by decide) (fun K hK => ?_)
  refine goes_ Try.func91 (by kernel_rfl) rfl #[.agg #[.int .i64 t714, .slice Ao12 t715.length co12, .slice Ao13 t718.length co13], .int .i64 (wrap64 (10 + t724))] (by rfl) rfl rfl (by (try simp only [mA, mB, mC]); first | done | rfl | (simp only [List.length_drop, List.length_take]; rfl)) ?_
  with_reducible refine (spec_PrefixOf.calls k t714 _ _ t715 _ _ t718 (wrap64 (10 + t724)) t727 _ ?side1 ?side2 ?side3 ?side4 A6.out).mono ?_
  (case side1 => repeat (first | exact (Kd.N_reads' HO717.out).2.2 | (with_reducible refine Kd.C_alloc ?_ _) | (with_reducible refine Kd.C_drewN ?_ _) | (with_reducible refine Kd.C_drew ?_)))
  (case side2 => exact (Kd.N_reads' HO717.out).2.1)
  (case side3 => repeat (first | exact (Kd.R_reads' HO720.out).2.2 | (with_reducible refine Kd.C_alloc ?_ _) | (with_reducible refine Kd.C_drewN ?_ _) | (with_reducible refine Kd.C_drew ?_)))
  (case side4 => exact (Kd.R_reads' HO720.out).2.1)
  rintro e w17 ⟨v728, rfl, ho0, hb⟩
  refine ⟨_, rfl, ?_⟩
  have n0_ := A_ (Kd.N_elder' HO717.out (Kd.R_base ho0) hb)
  have n1_ := A_ (Kd.R_elder' HO720.out (Kd.R_base ho0) hb)
  have n2_ := A_ (Kd.R_lower (Kd.R_new' ho0 (Kd.R_lt HO720.out)) (keep_size HK.out))
  have n3_ := A_ (IsS67.below HI0.out hb)
  have n4_ := A_ (blk_below BK723.out hb)
  have n5_ := A_ (KeepBut.trans HK.out (KeepBut.of_below hb g none) (.inl rfl))
  have n6_ := A_ (below_step HB.out hb)
  clear HO717
  clear HO720
  clear HI0
  clear BK723
  clear HK
  clear HB
  have HO717 := n0_
  have HO720 := n1_
  have HO729 := n2_
  have HI0 := n3_
  have BK723 := n4_
  have HK := n5_
  have HB := n6_
  clear n0_ n1_ n2_ n3_ n4_ n5_ n6_
  (try clear hb)
  (try clear hb2)
  (try clear hk)
  (try clear hi)
  (try clear ho0)
  refine hK.out _ _ ⟨(blk_cell BK723.out 0).trans rfl, (blk_cell BK723.out 1).trans rfl, (blk_cell BK723.out 2).trans rfl⟩ (fun hHeld => ?_)
  clear hK K
  refine norm_ (a' := ?_) ?_ ?_
  rotate_left
  ·show Act.put _ (some 18) _ = _
   simp only [Act.put, mD, mE, mF, i64_w, i32_w]
   rfl
  refine pure_ (i := 5) (N := some 2) (v := ?_) (a' := ?_) #[true, true, true, true, true, true] rfl rfl (by kernel_rfl) (fun _ _ _ h => h) (Or.inl ⟨by rfl, ?_⟩) ?_ ?_
  rotate_left
  ·intro w'
   go_simp
   with_reducible rfl
  rotate_left
  ·simp only [Act.put, mD, mE, mF, i64_w, i32_w]
   rfl
  refine done_ (by kernel_rfl) ?_
  try go_wp2
  go_ret
  exact ⟨_, by rfl, by exact Kd.R_mono HO729.out (fun _ hk => trivial), HI0.out, HB.out, HK.out⟩
 rw [if_neg c3] at H
 have c3b0 : (t711 == 0) = false := beq_eq_false_iff_ne.mpr c3
 have c3b1 : (t711 != 0) = true := bne_iff_ne.mpr c3
 by_cases c18 : t711 = 1
 ·rw [if_pos c18] at H
  have c18b0 : (t711 == 1) = true := beq_iff_eq.mpr c18
  have c18b1 : (t711 != 1) = false := bne_eq_false_iff_eq.mpr c18
  clear c18
  replace H := Option.bind_eq_some_iff.mp H
  obtain ⟨⟨t730, t733, t734⟩, A190, H⟩ := H
  dsimp only at H
  have A19 := A_ A190
  clear A190
  replace H := Option.bind_eq_some_iff.mp H
  obtain ⟨⟨t736, t737, t738⟩, A200, H⟩ := H
  dsimp only at H
  have A20 := A_ A200
  clear A200
  replace H := Option.bind_eq_some_iff.mp H
  obtain ⟨⟨t739, t742⟩, A210, H⟩ := H
  dsimp only at H
  have A21 := A_ A210
  clear A210
  simp only [Option.some.injEq, Prod.mk.injEq] at H
  obtain ⟨rfl, rfl, rfl⟩ := H
  go_enter Try.func86, Try.ntmps86
  try go_wp2_with (first | ((with_reducible refine gate_callee (f := 74) rfl ?_); refine goesL_ (some 9) rfl rfl Try.func74 (by kernel_rfl) rfl #[.pointer (some ⟨g, 0, none⟩), .int .i64 4] rfl (by (try simp only [mA, mB, mC]); first | done | rfl | (simp only [List.length_drop, List.length_take]; rfl)) ?_; (with_reducible refine (spec_l1Below.calls g s0_0 s0_1 s0_2 4 t711 t712 t713 w0 _ ?side1 ?side2 A2.out).mono ?_); (case side1 => exact HI0.out); (case side2 => exact HB.out); rintro e w22 ⟨rfl, hi, hb, hk⟩; refine ⟨_, rfl, ?_⟩; have n0_ := A_ (KeepBut.trans HK.out hk (.inl rfl)); have n1_ := A_ (hb); have n2_ := A_ (hi); clear HK HB HI0; revert n0_ n1_ n2_; intro HK HB HI0; clear hb hk; (try clear hi)) | ((with_reducible refine gate_callee (f := 92) rfl ?_); refine goesL_ (some 22) rfl rfl Try.func92 (by kernel_rfl) rfl #[.pointer (some ⟨g, 0, none⟩)] rfl (by (try simp only [mA, mB, mC]); first | done | rfl | (simp only [List.length_drop, List.length_take]; rfl)) ?_; (with_reducible refine (spec_l7Morphism.calls k g s0_0 t712 t713 t730 t733 t734 w0 _ ?side1 ?side2 A19.out).mono ?_); (case side1 => exact HI0.out); (case side2 => exact HB.out); rintro e w23 ⟨v731, rfl, ho0, hi, hb, hk⟩; refine ⟨_, rfl, ?_⟩; have n0_ := A_ (Kd.N_lower (Kd.N_mono (ok' := fun k_ => k_ ≠ g) ho0 (fun k_ hk_ => (IsS67.fresh HI0.out k_ hk_))) (keep_size HK.out)); have n1_ := A_ (KeepBut.trans HK.out hk (.inl rfl)); have n2_ := A_ (hb); have n3_ := A_ (hi); clear HK HB HI0; revert n0_ n1_ n2_ n3_; intro HO732 HK HB HI0; clear hb hk hi; (try clear ho0)) | ((with_reducible refine gate_dst (N := 4) rfl ?_); refine box_event ?hg (N := 4) ?hd (cs := #[.slice none 0 0]) (t := 46) ?hr ?_; (case hd | hg => rfl); (case hr => go_simp; done); intro gb735 hg w24 hbox hb; have n0_ := A_ (Kd.N_below (Kd.N_elderB HO732.out gb735 (Nat.le_of_eq hg.symm)) hb); have n1_ := A_ (IsS67.below HI0.out hb); have n2_ := A_ (KeepBut.trans HK.out (KeepBut.of_below hb g none) (.inl rfl)); have n3_ := A_ (below_step HB.out hb); have n4_ := A_ (hbox); have n5_ := A_ ((by rw [hg]; exact (keep_size HK.out) : w.heap.size ≤ gb735)); have n6_ := A_ ((Nat.le_trans HW0.out (by rw [hg]; exact (keep_size HK.out) : w.heap.size ≤ gb735) : w0.heap.size ≤ gb735)); have n7_ := A_ ((by rw [hg]; exact Nat.ne_of_lt (IsS67.lt HI0.out) : g ≠ gb735)); have n8_ := A_ ((by rw [hg]; exact Nat.ne_of_gt (IsS67.lt HI0.out) : gb735 ≠ g)); clear HO732 HI0 HK HB; revert n0_ n1_ n2_ n3_ n4_ n5_ n6_ n7_ n8_; intro HO732 HI0 HK HB BK735 GW735 GE735 NB0_735 NB735_0; clear hb hbox hg; obtain ⟨Ao25, co25, eo25⟩ := Kd.N_slice HO732.out; subst eo25; have hnb26 := NB735_0.out; have hnc26 := NB0_735.out; have hcz27_0 : w24.cell? ⟨gb735, 0, none⟩ = some (.slice none 0 0) := (blk_cell BK735.out 0).trans rfl; have hfz27_0 := blk_frozen BK735.out 0))
  have n0_ : Aside0 (Kd.N (Kd.slice 3 (Kd.int .i64)) 24 (w24.setCell ⟨gb735, 0, none⟩ (.slice Ao25 t730.length co25)) w.heap.size (fun k_ => k_ ≠ g ∧ k_ ≠ gb735) (.slice Ao25 t730.length co25) t730) := ⟨by exact Kd.N_mono (Kd.N_far (p := ⟨gb735, 0, none⟩) (Kd.N_mono HO732.out (fun k_ hk => (⟨hk, hk.2⟩ : _ ∧ k_ ≠ gb735))) (fun _ hk => hk.2) (.slice Ao25 t730.length co25)) (fun _ hk => ⟨hk.1.1, hk.1.2⟩)⟩
  have n1_ : Aside0 ((w24.setCell ⟨gb735, 0, none⟩ (.slice Ao25 t730.length co25)).heap[gb735]? = some (.cells #[.slice Ao25 t730.length co25] 46 (0, 0))) := ⟨by refine blk_put (cs := #[.slice none 0 0]) ?_ 0 _ rfl; exact BK735.out⟩
  have n2_ : Aside0 (IsS67 w0 (w24.setCell ⟨gb735, 0, none⟩ (.slice Ao25 t730.length co25)) g s0_0 t733 t734) := ⟨by repeat (first | (with_reducible first | exact HI0.out | apply IsS67.alloc | apply IsS67.drewN | apply IsS67.drew | apply IsS67.set_1 | apply IsS67.set_2 | refine IsS67.far ?_ NB0_735.out _) | exact HI0.out)⟩
  have n3_ : Aside0 (KeepBut w (w24.setCell ⟨gb735, 0, none⟩ (.slice Ao25 t730.length co25)) g none) := ⟨by repeat (first | (with_reducible first | exact HK.out | apply KeepBut.set_ | apply keep_drewN | apply keep_drew | apply keep_alloc | refine keep_far ?_ GW735.out _) | exact HK.out)⟩
  have n4_ : Aside0 (Below w0.heap.size w0 (w24.setCell ⟨gb735, 0, none⟩ (.slice Ao25 t730.length co25))) := ⟨by repeat (first | (with_reducible first | exact HB.out | apply below_alloc | apply pw_below_drewN | apply below_drew1 | refine below_set ?_ (IsS67.ge HI0.out) | refine below_set ?_ GE735.out) | exact HB.out)⟩
  (try clear HO732)
  (try clear BK735)
  (try clear HI0)
  (try clear HK)
  (try clear HB)
  generalize (w24.setCell ⟨gb735, 0, none⟩ (.slice Ao25 t730.length co25)) = w28 at n0_ n1_ n2_ n3_ n4_ ⊢
  have HO732 := n0_
  have BK735 := n1_
  have HI0 := n2_
  have HK := n3_
  have HB := n4_
  clear n0_ n1_ n2_ n3_ n4_
  have n0_ := A_ (Kd.N_drew HO732.out)
  have n1_ := A_ (blk_drew BK735.out)
  have n2_ := A_ (IsS67.drew HI0.out)
  have n3_ := A_ (keep_drew HK.out)
  have n4_ := A_ (below_drew1 HB.out)
  clear HO732
  clear BK735
  clear HI0
  clear HK
  clear HB
  have HO732 := n0_
  have BK735 := n1_
  have HI0 := n2_
  have HK := n3_
  have HB := n4_
  clear n0_ n1_ n2_ n3_ n4_
  refine start_ (n := 10) (S := fun w' => w'.cell? ⟨gb735, 0, none⟩ = some (.slice Ao25 t730.length co25)) (ds := []) #[false, false, false, false, false, false, false, false, false, false] (by kernel_rfl) rfl rfl ((blk_cell BK735.out 0).trans rfl) (fun hHeld => ?_); refine with_tabW spec_l8Long.tab7 spec_l8Long.bits7 (fun HT_ HW_ => ?_)
  generalize w28.drew = w29 at HO732 BK735 HI0 HK HB hHeld ⊢
  refine pure_ (i := 1) (N := some 25) (v := ?_) (a' := ?_) #[false, true, false, false, false, false, false, false, false, false] rfl rfl (any_of HT_.out (by kernel_rfl)) (fun _ _ _ h => h) (Or.inl ⟨by rfl, ?_⟩) ?_ ?_
  rotate_left
  ·intro w'
   go_simp
   with_reducible rfl
  rotate_left
  ·simp only [Act.put, mD, mE, mF, i64_w, i32_w]
   rfl
  refine take_ (i := 0) (N := some 24) (v := ?_) (a' := ?_) #[true, true, false, false, false, false, false, false, false, false] rfl rfl (take_ofW HT_.out HW_.out (by kernel_rfl)) (fun _ _ _ h => h) (Or.inl ⟨by rfl, ?_⟩) hHeld ?_ ?_
  rotate_left
  ·intro w' s0
   go_simp
   with_reducible rfl
  rotate_left
  ·simp only [Act.put, mD, mE, mF, i64_w, i32_w]
   rfl
  refine one_ (i := 2) (N := some 26) #[true, true, true, false, false, false, false, false, false, false] rfl rfl (one_of HT_.out (by kernel_rfl)) (by decide) (fun K hK => ?_)
  refine goes_ Try.func74 (by kernel_rfl) rfl #[.pointer (some ⟨g, 0, none⟩), .int .i64 40] (by rfl) rfl rfl (by (try simp only [mA, mB, mC]); first | done | rfl | (simp only [List.length_drop, List.length_take]; rfl)) ?_
  with_reducible refine (spec_l1Below.calls g s0_0 t733 t734 40 t736 t737 t738 w0 _ ?side1 ?side2 A20.out).mono ?_
  (case side1 => exact HI0.out)
  (case side2 => exact HB.out)
  rintro e w30 ⟨rfl, hi, hb, hk⟩
  refine ⟨_, rfl, ?_⟩
  have n0_ := A_ (Kd.N_mono (Kd.N_keep (Kd.N_mono (ok := fun k_ => (k_ ≠ g ∧ k_ ≠ gb735)) HO732.out (fun k_ hk_ => (⟨hk_, hk_.1⟩ : _ ∧ k_ ≠ g))) hk (fun _ h => h.2)) (fun _ h => h.1))
  have n1_ := A_ (KeepBut.blk hk BK735.out NB735_0.out (by simp))
  have n2_ := A_ (KeepBut.trans HK.out hk (.inl rfl))
  have n3_ := A_ (hb)
  have n4_ := A_ (hi)
  clear HO732
  clear BK735
  clear HK
  clear HB
  clear HI0
  have HO732 := n0_
  have BK735 := n1_
  have HK := n2_
  have HB := n3_
  have HI0 := n4_
  clear n0_ n1_ n2_ n3_ n4_
  (try clear hb)
  (try clear hb2)
  (try clear hk)
  (try clear hi)
  refine hK.out _ _ ((blk_cell BK735.out 0).trans rfl) (fun hHeld => ?_)
  clear hK K
  refine norm_ (a' := ?_) ?_ ?_
  rotate_left
  ·show Act.put _ (some 26) _ = _
   simp only [Act.put, mD, mE, mF, i64_w, i32_w]
   rfl
  refine pure_ (i := 3) (N := some 27) (v := ?_) (a' := ?_) #[true, true, true, true, false, false, false, false, false, false] rfl rfl (any_of HT_.out (by kernel_rfl)) (fun _ _ _ h => h) (Or.inl ⟨by rfl, ?_⟩) ?_ ?_
  rotate_left
  ·intro w'
   go_simp
   with_reducible rfl
  rotate_left
  ·simp only [Act.put, mD, mE, mF, i64_w, i32_w]
   rfl
  refine one_ (i := 4) (N := some 28) #[true, true, true, true, true, false, false, false, false, false] rfl rfl (one_of HT_.out (by kernel_rfl)) (by decide) (fun K hK => ?_)
  refine goes_ Try.func53 (by kernel_rfl) rfl #[.agg #[.slice Ao25 t730.length co25], .int .i64 0, .int .i64 (wrap64 (10 + t736))] (by rfl) rfl rfl (by (try simp only [mA, mB, mC]); first | done | rfl | (simp only [List.length_drop, List.length_take]; rfl)) ?_
  with_reducible refine (spec_FixedPrefix.calls k _ _ t730 0 (wrap64 (10 + t736)) t739 t742 _ ?side1 ?side2 A21.out).mono ?_
  (case side1 => repeat (first | exact (Kd.N_reads' HO732.out).2.2 | (with_reducible refine Kd.C_alloc ?_ _) | (with_reducible refine Kd.C_drewN ?_ _) | (with_reducible refine Kd.C_drew ?_)))
  (case side2 => exact (Kd.N_reads' HO732.out).2.1)
  rintro e w31 ⟨v740, rfl, ho0, hb⟩
  refine ⟨_, rfl, ?_⟩
  have n0_ := A_ (Kd.N_elder' HO732.out (Kd.R_base ho0) hb)
  have n1_ := A_ (Kd.R_lower ho0 (keep_size HK.out))
  have n2_ := A_ (IsS67.below HI0.out hb)
  have n3_ := A_ (blk_below BK735.out hb)
  have n4_ := A_ (KeepBut.trans HK.out (KeepBut.of_below hb g none) (.inl rfl))
  have n5_ := A_ (below_step HB.out hb)
  clear HO732
  clear HI0
  clear BK735
  clear HK
  clear HB
  have HO732 := n0_
  have HO741 := n1_
  have HI0 := n2_
  have BK735 := n3_
  have HK := n4_
  have HB := n5_
  clear n0_ n1_ n2_ n3_ n4_ n5_
  (try clear hb)
  (try clear hb2)
  (try clear hk)
  (try clear hi)
  (try clear ho0)
  refine hK.out _ _ ((blk_cell BK735.out 0).trans rfl) (fun hHeld => ?_)
  clear hK K
  refine norm_ (a' := ?_) ?_ ?_
  rotate_left
  ·show Act.put _ (some 28) _ = _
   simp only [Act.put, mD, mE, mF, i64_w, i32_w]
   rfl
  refine pure_ (i := 5) (N := some 23) (v := ?_) (a' := ?_) #[true, true, true, true, true, true, false, false, false, false] rfl rfl (any_of HT_.out (by kernel_rfl)) (fun _ _ _ h => h) (Or.inl ⟨by rfl, ?_⟩) ?_ ?_
  rotate_left
  ·intro w'
   go_simp
   with_reducible rfl
  rotate_left
  ·simp only [Act.put, mD, mE, mF, i64_w, i32_w]
   rfl
  refine pure_ (i := 6) (N := some 29) (v := ?_) (a' := ?_) #[true, true, true, true, true, true, true, false, false, false] rfl rfl (any_of HT_.out (by kernel_rfl)) (fun _ _ _ h => h) (Or.inl ⟨by rfl, ?_⟩) ?_ ?_
  rotate_left
  ·intro w'
   go_simp
   with_reducible rfl
  rotate_left
  ·simp only [Act.put, mD, mE, mF, i64_w, i32_w]
   rfl
  refine pure_ (i := 7) (N := some 30) (v := ?_) (a' := ?_) #[true, true, true, true, true, true, true, true, false, false] rfl rfl (any_of HT_.out (by kernel_rfl)) (fun _ _ _ h => h) (Or.inl ⟨by rfl, ?_⟩) ?_ ?_
  rotate_left
  ·intro w'
   go_simp
   with_reducible rfl
  rotate_left
  ·simp only [Act.put, mD, mE, mF, i64_w, i32_w]
   rfl
  refine pure_ (i := 8) (N := some 5) (v := ?_) (a' := ?_) #[true, true, true, true, true, true, true, true, true, false] rfl rfl (any_of HT_.out (by kernel_rfl)) (fun _ _ _ h => h) (Or.inl ⟨by rfl, ?_⟩) ?_ ?_
  rotate_left
  ·intro w'
   go_simp
   with_reducible rfl
  rotate_left
  ·simp only [Act.put, mD, mE, mF, i64_w, i32_w]
   rfl
  refine pure_ (i := 9) (N := some 6) (v := ?_) (a' := ?_) #[true, true, true, true, true, true, true, true, true, true] rfl rfl (any_of HT_.out (by kernel_rfl)) (fun _ _ _ h => h) (Or.inl ⟨by rfl, ?_⟩) ?_ ?_
  rotate_left
  ·intro w'
   go_simp
   with_reducible rfl
  rotate_left
  ·simp only [Act.put, mD, mE, mF, i64_w, i32_w]
   rfl
  refine done_ (done_of HT_.out (by kernel_rfl)) ?_
  try go_wp2
  go_ret
  exact ⟨_, by rfl, HO741.out, HI0.out, HB.out, HK.out⟩
 rw [if_neg c18] at H
 have c18b0 : (t711 == 1) = false := beq_eq_false_iff_ne.mpr c18
 have c18b1 : (t711 != 1) = true := bne_iff_ne.mpr c18
 by_cases c32 : t711 = 2
 ·rw [if_pos c32] at H
  have c32b0 : (t711 == 2) = true := beq_iff_eq.mpr c32
  have c32b1 : (t711 != 2) = false := bne_eq_false_iff_eq.mpr c32
  clear c32
  replace H := Option.bind_eq_some_iff.mp H
  obtain ⟨⟨t743, t746, t747⟩, A330, H⟩ := H
  dsimp only at H
  have A33 := A_ A330
  clear A330
  obtain ⟨y748, hy748⟩ : ∃ y_ : List Int, y_ = (([] : List Int)) := ⟨_, rfl⟩
  replace H : (if y748.length + t743.length < 17592186044416 then ((some (y748 ++ t743 : List Int)).bind fun y751 => (if y751.length + t743.length < 17592186044416 then ((some (y751 ++ t743 : List Int)).bind fun y754 => (if y754.length + t743.length < 17592186044416 then (some ((y754 ++ t743), t746, t747)) else (none))) else (none))) else (none)) = some (r1, r2, r3) := by (have H2_ := (Option.bind_some _ _).symm.trans H; rw [hy748]; with_reducible exact H2_)
  have Ny748 := A_ hy748
  clear hy748
  by_cases c34 : y748.length + t743.length < 17592186044416
  ·rw [if_pos c34] at H
   have LMc34 := A_ c34
   clear c34
   obtain ⟨y751, hy751⟩ : ∃ y_ : List Int, y_ = (y748 ++ t743) := ⟨_, rfl⟩
   replace H : (if y751.length + t743.length < 17592186044416 then ((some (y751 ++ t743 : List Int)).bind fun y754 => (if y754.length + t743.length < 17592186044416 then (some ((y754 ++ t743), t746, t747)) else (none))) else (none)) = some (r1, r2, r3) := by (have H2_ := (Option.bind_some _ _).symm.trans H; rw [hy751]; with_reducible exact H2_)
   have Ny751 := A_ hy751
   clear hy751
   by_cases c35 : y751.length + t743.length < 17592186044416
   ·rw [if_pos c35] at H
    have LMc35 := A_ c35
    clear c35
    obtain ⟨y754, hy754⟩ : ∃ y_ : List Int, y_ = (y751 ++ t743) := ⟨_, rfl⟩
    replace H : (if y754.length + t743.length < 17592186044416 then (some ((y754 ++ t743), t746, t747)) else (none)) = some (r1, r2, r3) := by (have H2_ := (Option.bind_some _ _).symm.trans H; rw [hy754]; with_reducible exact H2_)
    have Ny754 := A_ hy754
    clear hy754
    by_cases c36 : y754.length + t743.length < 17592186044416
    ·rw [if_pos c36] at H
     have LMc36 := A_ c36
     clear c36
     obtain ⟨y757, hy757⟩ : ∃ y_ : List Int, y_ = (y754 ++ t743) := ⟨_, rfl⟩
     replace H : (some (y757, t746, t747)) = some (r1, r2, r3) := by (rw [hy757]; with_reducible exact H)
     have Ny757 := A_ hy757
     clear hy757
     simp only [Option.some.injEq, Prod.mk.injEq] at H
     obtain ⟨rfl, rfl, rfl⟩ := H
     go_enter Try.func86, Try.ntmps86
     go_wp2_with (first | ((with_reducible refine gate_callee (f := 74) rfl ?_); refine goesL_ (some 9) rfl rfl Try.func74 (by kernel_rfl) rfl #[.pointer (some ⟨g, 0, none⟩), .int .i64 4] rfl (by (try simp only [mA, mB, mC]); first | done | rfl | (simp only [List.length_drop, List.length_take]; rfl)) ?_; (with_reducible refine (spec_l1Below.calls g s0_0 s0_1 s0_2 4 t711 t712 t713 w0 _ ?side1 ?side2 A2.out).mono ?_); (case side1 => exact HI0.out); (case side2 => exact HB.out); rintro e w37 ⟨rfl, hi, hb, hk⟩; refine ⟨_, rfl, ?_⟩; have n0_ := A_ (KeepBut.trans HK.out hk (.inl rfl)); have n1_ := A_ (hb); have n2_ := A_ (hi); clear HK HB HI0; revert n0_ n1_ n2_; intro HK HB HI0; clear hb hk; (try clear hi)) | ((with_reducible refine gate_callee (f := 93) rfl ?_); refine goesL_ (some 35) rfl rfl Try.func93 (by kernel_rfl) rfl #[.pointer (some ⟨g, 0, none⟩), .int .i64 2] rfl (by (try simp only [mA, mB, mC]); first | done | rfl | (simp only [List.length_drop, List.length_take]; rfl)) ?_; (with_reducible refine (spec_l7Word.calls k g s0_0 t712 t713 2 t743 t746 t747 w0 _ ?side1 ?side2 A33.out).mono ?_); (case side1 => exact HI0.out); (case side2 => exact HB.out); rintro e w38 ⟨v744, rfl, ho0, hi, hb, hk⟩; refine ⟨_, rfl, ?_⟩; have n0_ := A_ (Kd.R_lower ho0 (keep_size HK.out)); have n1_ := A_ (KeepBut.trans HK.out hk (.inl rfl)); have n2_ := A_ (hb); have n3_ := A_ (hi); clear HK HB HI0; revert n0_ n1_ n2_ n3_; intro HO745 HK HB HI0; clear hb hk hi; (try clear ho0)) | ((with_reducible refine gate_dst (N := 36) rfl ?_); refine Kd.R_lit (Kd.int .i64) _ 3 ?hg (N := 36) ?hd (xs := ([] : List Int)) (inner := []) (ok := fun _ => True) (okp := fun _ => True) ?hr ?hp (fun _ hk => hk) trivial (Below.refl _ _) (Nat.le_refl _) (by simp) ?_; (case hd | hg => rfl); (case hr => go_simp; done); (case hp => exact (Reps.none _ _)); intro v749 w39 ho40 hb hg_ hnew_; clear hg_ hnew_; (first | rw [← Ny748.out] at ho40 | (simp only [Int.reduceToNat] at ho40; rw [← Ny748.out] at ho40)); have n0_ := A_ (Kd.R_elder' HO745.out (Kd.R_base ho40) hb); have n1_ := A_ (Kd.R_lower (Kd.R_new' ho40 (Kd.R_lt HO745.out)) (keep_size HK.out)); have n2_ := A_ (IsS67.below HI0.out hb); have n3_ := A_ (KeepBut.trans HK.out (KeepBut.of_below hb g none) (.inl rfl)); have n4_ := A_ (below_step HB.out hb); clear HO745 HI0 HK HB; revert n0_ n1_ n2_ n3_ n4_; intro HO745 HO750 HI0 HK HB; clear hb ho40; obtain ⟨Ao42, co42, eo42⟩ := Kd.R_slice HO745.out; subst eo42) | ((with_reducible refine gate_builtin (b := .append) (xs := #[.tmp 36, .tmp 37]) rfl ?_); at_builtin; refine Kd.R_append_rows (Kd.int .i64) w.heap.size rfl (.tmp 36) (.tmp 37) 24 3 (.int .i64 0) 8 rfl Try.underlying24 info3 rfl (by decide) (by omega) v749 y748 t743 _ _ _ (fun k_ => some k_ ≠ (.slice Ao42 t743.length co42 : Value).ownBlock) (fun _ => False) rfl rfl ?aO ?aR (fun _ _ h => h) (fun _ h => h.elim) ?aF (Below.refl _ _) ?aS ?aL ?_; (case aR => repeat (first | exact (Kd.R_reads' HO745.out).2.2 | (with_reducible refine Kd.C_alloc ?_ _) | (with_reducible refine Kd.C_drewN ?_ _) | (with_reducible refine Kd.C_drew ?_))); (case aF => exact (fun k_ hk => Kd.fresh' (Kd.R_lt HO745.out) k_ hk)); (case aO => exact (by exact Kd.R_mono HO750.out (fun _ hk => hk.2))); (case aS => exact (keep_size HK.out)); (case aL => have := LMc34.out; omega); intro v752 w41 ho hb hg hat; rw [← Ny751.out] at ho; have n0_ := A_ (IsS67.grown HI0.out hg (IsS67.own_ne HI0.out HO750.out (by decide))); have n1_ := A_ (Kd.R_after (ok := (fun _ => True)) HO745.out hg hat); have n2_ := A_ (below_weaken HB.out HL.out hb); have n3_ := A_ (KeepBut.trans HK.out (KeepBut.of_grown hg g) (Kd.R_base2 HO750.out)); have n4_ := A_ (ho); clear HI0 HO745 HB HK HO750; revert n0_ n1_ n2_ n3_ n4_; intro HI0 HO745 HB HK HO753; clear ho hb hg hat) | ((with_reducible refine gate_builtin (b := .append) (xs := #[.tmp 38, .tmp 39]) rfl ?_); at_builtin; refine Kd.R_append_rows (Kd.int .i64) w.heap.size rfl (.tmp 38) (.tmp 39) 24 3 (.int .i64 0) 8 rfl Try.underlying24 info3 rfl (by decide) (by omega) v752 y751 t743 _ _ _ (fun k_ => some k_ ≠ (.slice Ao42 t743.length co42 : Value).ownBlock) (fun _ => False) rfl rfl ?aO ?aR (fun _ _ h => h) (fun _ h => h.elim) ?aF (Below.refl _ _) ?aS ?aL ?_; (case aR => repeat (first | exact (Kd.R_reads' HO745.out).2.2 | (with_reducible refine Kd.C_alloc ?_ _) | (with_reducible refine Kd.C_drewN ?_ _) | (with_reducible refine Kd.C_drew ?_))); (case aF => exact (fun k_ hk => Kd.fresh' (Kd.R_lt HO745.out) k_ hk)); (case aO => exact HO753.out); (case aS => exact (keep_size HK.out)); (case aL => have := LMc35.out; omega); intro v755 w43 ho hb hg hat; rw [← Ny754.out] at ho; have n0_ := A_ (IsS67.grown HI0.out hg (IsS67.own_ne HI0.out HO753.out (by decide))); have n1_ := A_ (Kd.R_after (ok := (fun _ => True)) HO745.out hg hat); have n2_ := A_ (below_weaken HB.out HL.out hb); have n3_ := A_ (KeepBut.trans HK.out (KeepBut.of_grown hg g) (Kd.R_base2 HO753.out)); have n4_ := A_ (ho); clear HI0 HO745 HB HK HO753; revert n0_ n1_ n2_ n3_ n4_; intro HI0 HO745 HB HK HO756; clear ho hb hg hat) | ((with_reducible refine gate_builtin (b := .append) (xs := #[.tmp 40, .tmp 41]) rfl ?_); at_builtin; refine Kd.R_append_rows (Kd.int .i64) w.heap.size rfl (.tmp 40) (.tmp 41) 24 3 (.int .i64 0) 8 rfl Try.underlying24 info3 rfl (by decide) (by omega) v755 y754 t743 _ _ _ (fun k_ => some k_ ≠ (.slice Ao42 t743.length co42 : Value).ownBlock) (fun _ => False) rfl rfl ?aO ?aR (fun _ _ h => h) (fun _ h => h.elim) ?aF (Below.refl _ _) ?aS ?aL ?_; (case aR => repeat (first | exact (Kd.R_reads' HO745.out).2.2 | (with_reducible refine Kd.C_alloc ?_ _) | (with_reducible refine Kd.C_drewN ?_ _) | (with_reducible refine Kd.C_drew ?_))); (case aF => exact (fun k_ hk => Kd.fresh' (Kd.R_lt HO745.out) k_ hk)); (case aO => exact HO756.out); (case aS => exact (keep_size HK.out)); (case aL => have := LMc36.out; omega); intro v758 w44 ho hb hg hat; rw [← Ny757.out] at ho; have n0_ := A_ (IsS67.grown HI0.out hg (IsS67.own_ne HI0.out HO756.out (by decide))); have n1_ := A_ (Kd.R_after (ok := (fun _ => True)) HO745.out hg hat); have n2_ := A_ (below_weaken HB.out HL.out hb); have n3_ := A_ (KeepBut.trans HK.out (KeepBut.of_grown hg g) (Kd.R_base2 HO756.out)); have n4_ := A_ (ho); clear HI0 HO745 HB HK HO756; revert n0_ n1_ n2_ n3_ n4_; intro HI0 HO745 HB HK HO759; clear ho hb hg hat))
     go_ret
     exact ⟨_, by rfl, by exact Kd.R_mono HO759.out (fun _ hk => trivial), HI0.out, HB.out, HK.out⟩
    rw [if_neg c36] at H
    exact absurd H (by simp)
   rw [if_neg c35] at H
   exact absurd H (by simp)
  rw [if_neg c34] at H
  exact absurd H (by simp)
 rw [if_neg c32] at H
 have c32b0 : (t711 == 2) = false := beq_eq_false_iff_ne.mpr c32
 have c32b1 : (t711 != 2) = true := bne_iff_ne.mpr c32
 replace H := Option.bind_eq_some_iff.mp H
 obtain ⟨⟨t760, t763, t764⟩, A450, H⟩ := H
 dsimp only at H
 have A45 := A_ A450
 clear A450
 simp only [Option.some.injEq, Prod.mk.injEq] at H
 obtain ⟨rfl, rfl, rfl⟩ := H
 go_enter Try.func86, Try.ntmps86
 go_wp2_with (first | ((with_reducible refine gate_callee (f := 74) rfl ?_); refine goesL_ (some 9) rfl rfl Try.func74 (by kernel_rfl) rfl #[.pointer (some ⟨g, 0, none⟩), .int .i64 4] rfl (by (try simp only [mA, mB, mC]); first | done | rfl | (simp only [List.length_drop, List.length_take]; rfl)) ?_; (with_reducible refine (spec_l1Below.calls g s0_0 s0_1 s0_2 4 t711 t712 t713 w0 _ ?side1 ?side2 A2.out).mono ?_); (case side1 => exact HI0.out); (case side2 => exact HB.out); rintro e w46 ⟨rfl, hi, hb, hk⟩; refine ⟨_, rfl, ?_⟩; have n0_ := A_ (KeepBut.trans HK.out hk (.inl rfl)); have n1_ := A_ (hb); have n2_ := A_ (hi); clear HK HB HI0; revert n0_ n1_ n2_; intro HK HB HI0; clear hb hk; (try clear hi)) | ((with_reducible refine gate_callee (f := 93) rfl ?_); refine goesL_ (some 44) rfl rfl Try.func93 (by kernel_rfl) rfl #[.pointer (some ⟨g, 0, none⟩), .int .i64 3] rfl (by (try simp only [mA, mB, mC]); first | done | rfl | (simp only [List.length_drop, List.length_take]; rfl)) ?_; (with_reducible refine (spec_l7Word.calls k g s0_0 t712 t713 3 t760 t763 t764 w0 _ ?side1 ?side2 A45.out).mono ?_); (case side1 => exact HI0.out); (case side2 => exact HB.out); rintro e w47 ⟨v761, rfl, ho0, hi, hb, hk⟩; refine ⟨_, rfl, ?_⟩; have n0_ := A_ (Kd.R_lower ho0 (keep_size HK.out)); have n1_ := A_ (KeepBut.trans HK.out hk (.inl rfl)); have n2_ := A_ (hb); have n3_ := A_ (hi); clear HK HB HI0; revert n0_ n1_ n2_ n3_; intro HO762 HK HB HI0; clear hb hk hi; (try clear ho0)))
 go_ret
 exact ⟨_, by rfl, HO762.out, HI0.out, HB.out, HK.out⟩

/-! ### spec_l8Any: function 78 -/
def spec_l8Any.f (k : Nat) (s0_0 : List Int) (s0_1 : Int) (s0_2 : Int) : Option (List Int × Int × Int) := (spec_l8Long.f k s0_0 s0_1 s0_2).bind fun bt765 => ((spec_l1Once.f s0_0 bt765.2.1 bt765.2.2 16).bind fun bt770 => (if bt770.1 = true then ((spec_l1PickInt.f s0_0 bt770.2.1 bt770.2.2 (([(-1), 16] : List Int))).bind fun bt776 => (if bt765.1.length < 17592186044416 then (some ((bt765.1 ++ [bt776.1]), bt776.2.1, bt776.2.2)) else (none))) else (some (bt765.1, bt770.2.1, bt770.2.2))))
theorem spec_l8Any.mono : ∀ a0 a1 a2 k, LeO (spec_l8Any.f k a0 a1 a2) (spec_l8Any.f (k + 1) a0 a1 a2) := by
 intro a0 a1 a2 k
 unfold spec_l8Any.f
 with_reducible repeat' first | exact spec_l8Long.mono _ _ _ _ | exact LeO.refl _ | exact LeO.none _ | refine LeO.ite ?_ ?_ | refine LeO.bind ?_ (fun _ => ?_)
theorem spec_l8Any.calls (k : Nat) (g : Nat) (s0_0 : List Int) (s0_1 : Int) (s0_2 : Int) (r1 : List Int) (r2 : Int) (r3 : Int) (w0 w : World) (hI : IsS67 w0 w g s0_0 s0_1 s0_2) (hB : Below w0.heap.size w0 w) (h : spec_l8Any.f k s0_0 s0_1 s0_2 = some (r1, r2, r3)) :
  Calls Try.prog 78 #[.pointer (some ⟨g, 0, none⟩)] w fun e w' => ∃ v0_ : Value, e = .returned (v0_) ∧ Kd.R (Kd.int .i64) 3 w' w.heap.size (fun _ => True) v0_ r1 ∧ IsS67 w0 w' g s0_0 r2 r3 ∧ Below w0.heap.size w0 w' ∧ KeepBut w w' g none := by
 have HI0 := A_ hI
 have HK := A_ (KeepBut.refl w g none)
 have HL := A_ hB.size
 clear hI
 have HW0 := A_ hB.size
 have HB := A_ hB
 clear hB
 unfold spec_l8Any.f at h
 have H := h
 clear h
 replace H := Option.bind_eq_some_iff.mp H
 obtain ⟨⟨t765, t768, t769⟩, A20, H⟩ := H
 dsimp only at H
 have A2 := A_ A20
 clear A20
 replace H := Option.bind_eq_some_iff.mp H
 obtain ⟨⟨t770, t771, t772⟩, A30, H⟩ := H
 dsimp only at H
 have A3 := A_ A30
 clear A30
 by_cases c4 : t770 = true
 ·subst c4
  rw [if_pos rfl] at H
  obtain ⟨y773, hy773⟩ : ∃ y_ : List Int, y_ = (([(-1), 16] : List Int)) := ⟨_, rfl⟩
  replace H : ((spec_l1PickInt.f s0_0 t771 t772 y773).bind fun bt776 => (if t765.length < 17592186044416 then (some ((t765 ++ [bt776.1]), bt776.2.1, bt776.2.2)) else (none))) = some (r1, r2, r3) := by (rw [hy773]; with_reducible exact H)
  have Ny773 := A_ hy773
  clear hy773
  replace H := Option.bind_eq_some_iff.mp H
  obtain ⟨⟨t776, t777, t778⟩, A50, H⟩ := H
  dsimp only at H
  have A5 := A_ A50
  clear A50
  by_cases c6 : t765.length < 17592186044416
  ·rw [if_pos c6] at H
   have LMc6 := A_ c6
   clear c6
   obtain ⟨y779, hy779⟩ : ∃ y_ : List Int, y_ = (t765 ++ [t776]) := ⟨_, rfl⟩
   replace H : (some (y779, t777, t778)) = some (r1, r2, r3) := by (rw [hy779]; with_reducible exact H)
   have Ny779 := A_ hy779
   clear hy779
   simp only [Option.some.injEq, Prod.mk.injEq] at H
   obtain ⟨rfl, rfl, rfl⟩ := H
   go_enter Try.func78, Try.ntmps78
   go_wp2_with (first | ((with_reducible refine gate_callee (f := 86) rfl ?_); refine goesL_ (some 5) rfl rfl Try.func86 (by kernel_rfl) rfl #[.pointer (some ⟨g, 0, none⟩)] rfl (by (try simp only [mA, mB, mC]); first | done | rfl | (simp only [List.length_drop, List.length_take]; rfl)) ?_; (with_reducible refine (spec_l8Long.calls k g s0_0 s0_1 s0_2 t765 t768 t769 w0 _ ?side1 ?side2 A2.out).mono ?_); (case side1 => exact HI0.out); (case side2 => exact HB.out); rintro e w7 ⟨v766, rfl, ho0, hi, hb, hk⟩; refine ⟨_, rfl, ?_⟩; have n0_ := A_ (Kd.R_lower ho0 (keep_size HK.out)); have n1_ := A_ (KeepBut.trans HK.out hk (.inl rfl)); have n2_ := A_ (hb); have n3_ := A_ (hi); clear HK HB HI0; revert n0_ n1_ n2_ n3_; intro HO767 HK HB HI0; clear hb hk hi; (try clear ho0)) | ((with_reducible refine gate_callee (f := 77) rfl ?_); refine goesL_ (some 7) rfl rfl Try.func77 (by kernel_rfl) rfl #[.pointer (some ⟨g, 0, none⟩), .int .i64 16] rfl (by (try simp only [mA, mB, mC]); first | done | rfl | (simp only [List.length_drop, List.length_take]; rfl)) ?_; (with_reducible refine (spec_l1Once.calls g s0_0 t768 t769 16 true t771 t772 w0 _ ?side1 ?side2 A3.out).mono ?_); (case side1 => exact HI0.out); (case side2 => exact HB.out); rintro e w8 ⟨rfl, hi, hb, hk⟩; refine ⟨_, rfl, ?_⟩; have n0_ := A_ (Kd.R_mono (Kd.R_keep (IsS67.apart HI0.out HO767.out (by decide)) hk (fun _ h => h.2)) (fun _ h => h.1)); have n1_ := A_ (KeepBut.trans HK.out hk (.inl rfl)); have n2_ := A_ (hb); have n3_ := A_ (hi); clear HO767 HK HB HI0; revert n0_ n1_ n2_ n3_; intro HO767 HK HB HI0; clear hb hk; (try clear hi)) | ((with_reducible refine gate_dst (N := 10) rfl ?_); refine Kd.R_lit (Kd.int .i64) _ 3 ?hg (N := 10) ?hd (xs := ([(-1), 16] : List Int)) (inner := [.int .i64 (-1), .int .i64 16]) (ok := fun _ => True) (okp := fun _ => True) ?hr ?hp (fun _ hk => hk) trivial (Below.refl _ _) (Nat.le_refl _) (by simp) ?_; (case hd | hg => rfl); (case hr => go_simp; done); (case hp => exact (Reps.one (show Kd.M (Kd.int .i64) _ _ _ (-1) [.int .i64 (-1)] from rfl) (Reps.one (show Kd.M (Kd.int .i64) _ _ _ 16 [.int .i64 16] from rfl) (Reps.none _ _)))); intro v774 w9 ho10 hb hg_ hnew_; clear hg_ hnew_; (first | rw [← Ny773.out] at ho10 | (simp only [Int.reduceToNat] at ho10; rw [← Ny773.out] at ho10)); have n0_ := A_ (Kd.R_elder' HO767.out (Kd.R_base ho10) hb); have n1_ := A_ (Kd.R_lower (Kd.R_new' ho10 (Kd.R_lt HO767.out)) (keep_size HK.out)); have n2_ := A_ (IsS67.below HI0.out hb); have n3_ := A_ (KeepBut.trans HK.out (KeepBut.of_below hb g none) (.inl rfl)); have n4_ := A_ (below_step HB.out hb); clear HO767 HI0 HK HB; revert n0_ n1_ n2_ n3_ n4_; intro HO767 HO775 HI0 HK HB; clear hb ho10; obtain ⟨Ao11, co11, eo11⟩ := Kd.R_slice HO775.out; subst eo11) | ((with_reducible refine gate_callee (f := 75) rfl ?_); refine goesL_ (some 11) rfl rfl Try.func75 (by kernel_rfl) rfl #[.pointer (some ⟨g, 0, none⟩), .slice Ao11 y773.length co11] rfl (by (try simp only [mA, mB, mC]); first | done | rfl | (simp only [List.length_drop, List.length_take]; rfl)) ?_; (with_reducible refine (spec_l1PickInt.calls g s0_0 t771 t772 _ _ y773 t776 t777 t778 w0 _ ?side1 ?side2 ?side3 ?side4 ?side5 A5.out).mono ?_); (case side1 => exact HI0.out); (case side2 => exact HB.out); (case side3 => repeat (first | exact (Kd.R_reads' HO775.out).2.2 | (with_reducible refine Kd.C_alloc ?_ _) | (with_reducible refine Kd.C_drewN ?_ _) | (with_reducible refine Kd.C_drew ?_))); (case side4 => exact (Kd.R_reads' HO775.out).2.1); (case side5 => exact far_slice (IsS67.own_ne HI0.out HO775.out (by decide))); rintro e w12 ⟨rfl, hi, hb, hk⟩; refine ⟨_, rfl, ?_⟩; have n0_ := A_ (Kd.R_mono (Kd.R_keep (IsS67.apart HI0.out HO767.out (by decide)) hk (fun _ h => h.2)) (fun _ h => h.1)); have n1_ := A_ (Kd.R_mono (Kd.R_keep (IsS67.apart HI0.out HO775.out (by decide)) hk (fun _ h => h.2)) (fun _ h => h.1)); have n2_ := A_ (KeepBut.trans HK.out hk (.inl rfl)); have n3_ := A_ (hb); have n4_ := A_ (hi); clear HO767 HO775 HK HB HI0; revert n0_ n1_ n2_ n3_ n4_; intro HO767 HO775 HK HB HI0; clear hb hk; (try clear hi)) | ((with_reducible refine gate_builtin (b := .append) (xs := #[.tmp 8, .tmp 12]) rfl ?_); at_builtin; refine Kd.R_append (Kd.int .i64) w.heap.size rfl (.tmp 8) (.tmp 12) 24 3 (.int .i64 0) 8 rfl Try.underlying24 info3 rfl (by decide) (by omega) v766 t765 t776 [.int .i64 t776] (fun k_ => some k_ ≠ (.slice Ao11 y773.length co11 : Value).ownBlock) (fun _ => False) rfl rfl ?aP (fun _ hk => hk.elim) ?aF ?aO (Below.refl _ _) ?aS ?aL ?_; (case aP => exact rfl); (case aF => exact (fun k_ hk => Kd.fresh' (Kd.R_lt HO775.out) k_ hk)); (case aO => exact (by exact Kd.R_mono HO767.out (fun _ hk => hk.2))); (case aS => exact (keep_size HK.out)); (case aL => have := LMc6.out; omega); intro v780 w13 ho hb hg hat; rw [← Ny779.out] at ho; have n0_ := A_ (IsS67.grown HI0.out hg (IsS67.own_ne HI0.out HO767.out (by decide))); have n1_ := A_ (Kd.R_after (ok := (fun _ => True)) HO775.out hg hat); have n2_ := A_ (below_weaken HB.out HL.out hb); have n3_ := A_ (KeepBut.trans HK.out (KeepBut.of_grown hg g) (Kd.R_base2 HO767.out)); have n4_ := A_ (ho); clear HI0 HO775 HB HK HO767; revert n0_ n1_ n2_ n3_ n4_; intro HI0 HO775 HB HK HO781; clear ho hb hg hat))
   go_ret
   exact ⟨_, by rfl, by exact Kd.R_mono HO781.out (fun _ hk => trivial), HI0.out, HB.out, HK.out⟩
  rw [if_neg c6] at H
  exact absurd H (by simp)
 replace c4 := Bool.eq_false_iff.mpr c4
 subst c4
 rw [if_neg (show ¬ (false = true) by decide)] at H
 simp only [Option.some.injEq, Prod.mk.injEq] at H
 obtain ⟨rfl, rfl, rfl⟩ := H
 go_enter Try.func78, Try.ntmps78
 go_wp2_with (first | ((with_reducible refine gate_callee (f := 86) rfl ?_); refine goesL_ (some 5) rfl rfl Try.func86 (by kernel_rfl) rfl #[.pointer (some ⟨g, 0, none⟩)] rfl (by (try simp only [mA, mB, mC]); first | done | rfl | (simp only [List.length_drop, List.length_take]; rfl)) ?_; (with_reducible refine (spec_l8Long.calls k g s0_0 s0_1 s0_2 t765 t768 t769 w0 _ ?side1 ?side2 A2.out).mono ?_); (case side1 => exact HI0.out); (case side2 => exact HB.out); rintro e w14 ⟨v766, rfl, ho0, hi, hb, hk⟩; refine ⟨_, rfl, ?_⟩; have n0_ := A_ (Kd.R_lower ho0 (keep_size HK.out)); have n1_ := A_ (KeepBut.trans HK.out hk (.inl rfl)); have n2_ := A_ (hb); have n3_ := A_ (hi); clear HK HB HI0; revert n0_ n1_ n2_ n3_; intro HO767 HK HB HI0; clear hb hk hi; (try clear ho0)) | ((with_reducible refine gate_callee (f := 77) rfl ?_); refine goesL_ (some 7) rfl rfl Try.func77 (by kernel_rfl) rfl #[.pointer (some ⟨g, 0, none⟩), .int .i64 16] rfl (by (try simp only [mA, mB, mC]); first | done | rfl | (simp only [List.length_drop, List.length_take]; rfl)) ?_; (with_reducible refine (spec_l1Once.calls g s0_0 t768 t769 16 false t771 t772 w0 _ ?side1 ?side2 A3.out).mono ?_); (case side1 => exact HI0.out); (case side2 => exact HB.out); rintro e w15 ⟨rfl, hi, hb, hk⟩; refine ⟨_, rfl, ?_⟩; have n0_ := A_ (Kd.R_mono (Kd.R_keep (IsS67.apart HI0.out HO767.out (by decide)) hk (fun _ h => h.2)) (fun _ h => h.1)); have n1_ := A_ (KeepBut.trans HK.out hk (.inl rfl)); have n2_ := A_ (hb); have n3_ := A_ (hi); clear HO767 HK HB HI0; revert n0_ n1_ n2_ n3_; intro HO767 HK HB HI0; clear hb hk; (try clear hi)))
 go_ret
 exact ⟨_, by rfl, HO767.out, HI0.out, HB.out, HK.out⟩

/-! ### spec_DrawCountLetters: function 56 -/
def spec_DrawCountLetters.f (k : Nat) (l0 : List Int) : Option (List Int × Int) := (spec_l1New.f k l0).bind fun bt782 => ((spec_l8Any.f k bt782.1 bt782.2.1 bt782.2.2).bind fun bt786 => ((spec_l1Below.f bt782.1 bt786.2.1 bt786.2.2 4).bind fun bt791 => (some (bt786.1, bt791.1))))
theorem spec_DrawCountLetters.mono : ∀ a0 k, LeO (spec_DrawCountLetters.f k a0) (spec_DrawCountLetters.f (k + 1) a0) := by
 intro a0 k
 unfold spec_DrawCountLetters.f
 with_reducible repeat' first | exact spec_l1New.mono _ _ | exact spec_l8Any.mono _ _ _ _ | exact LeO.refl _ | exact LeO.none _ | refine LeO.ite ?_ ?_ | refine LeO.bind ?_ (fun _ => ?_)
theorem spec_DrawCountLetters.calls (k : Nat) (A0 : Option Addr) (c0 : Nat) (l0 : List Int) (r1 : List Int) (r2 : Int) (w : World) (hr0 : Kd.C (Kd.int .u8) w A0 l0.length l0) (hc0 : l0.length ≤ c0) (h : spec_DrawCountLetters.f k l0 = some (r1, r2)) :
  Calls Try.prog 56 #[.slice A0 l0.length c0] w fun e w' => ∃ v0_ : Value, e = .returned (.tuple #[v0_, .int .i64 r2]) ∧ Kd.R (Kd.int .i64) 3 w' w.heap.size (fun _ => True) v0_ r1 ∧ Below w.heap.size w w' := by
 have HR0 := A_ hr0
 have HC0 := A_ hc0
 clear hr0 hc0
 have HB := A_ (Below.refl w.heap.size w)
 unfold spec_DrawCountLetters.f at h
 have H := h
 clear h
 replace H := Option.bind_eq_some_iff.mp H
 obtain ⟨⟨t782, t783, t784⟩, A20, H⟩ := H
 dsimp only at H
 have A2 := A_ A20
 clear A20
 replace H := Option.bind_eq_some_iff.mp H
 obtain ⟨⟨t786, t789, t790⟩, A30, H⟩ := H
 dsimp only at H
 have A3 := A_ A30
 clear A30
 replace H := Option.bind_eq_some_iff.mp H
 obtain ⟨⟨t791, t792, t793⟩, A40, H⟩ := H
 dsimp only at H
 have A4 := A_ A40
 clear A40
 simp only [Option.some.injEq, Prod.mk.injEq] at H
 obtain ⟨rfl, rfl⟩ := H
 go_enter Try.func56, Try.ntmps56
 go_wp2_with (first | ((with_reducible refine gate_callee (f := 66) rfl ?_); refine goesL_ (some 7) rfl rfl Try.func66 (by kernel_rfl) rfl #[.slice A0 l0.length c0] rfl (by (try simp only [mA, mB, mC]); first | done | rfl | (simp only [List.length_drop, List.length_take]; rfl)) ?_; (with_reducible refine (spec_l1New.calls k _ _ l0 t782 t783 t784 w _ ?side1 ?side2 ?side3 A2.out).mono ?_); (case side1 => exact HB.out); (case side2 => exact HR0.out); (case side3 => exact HC0.out); rintro e w5 ⟨g785, rfl, hi, hb, hb2⟩; refine ⟨_, rfl, ?_⟩; have n0_ := A_ (hb); have n1_ := A_ (hi); clear HB; revert n0_ n1_; intro HB HI785; clear hb hb2; (try clear hi)) | ((with_reducible refine gate_callee (f := 78) rfl ?_); refine goesL_ (some 9) rfl rfl Try.func78 (by kernel_rfl) rfl #[.pointer (some ⟨g785, 0, none⟩)] rfl (by (try simp only [mA, mB, mC]); first | done | rfl | (simp only [List.length_drop, List.length_take]; rfl)) ?_; (with_reducible refine (spec_l8Any.calls k g785 t782 t783 t784 t786 t789 t790 w _ ?side1 ?side2 A3.out).mono ?_); (case side1 => exact HI785.out); (case side2 => exact HB.out); rintro e w6 ⟨v787, rfl, ho0, hi, hb, hk⟩; refine ⟨_, rfl, ?_⟩; have n0_ := A_ (Kd.R_lower ho0 (below_size HB.out)); have n1_ := A_ (hb); have n2_ := A_ (hi); clear HB HI785; revert n0_ n1_ n2_; intro HO788 HB HI785; clear hb hk hi; (try clear ho0)) | ((with_reducible refine gate_callee (f := 74) rfl ?_); refine goesL_ (some 12) rfl rfl Try.func74 (by kernel_rfl) rfl #[.pointer (some ⟨g785, 0, none⟩), .int .i64 4] rfl (by (try simp only [mA, mB, mC]); first | done | rfl | (simp only [List.length_drop, List.length_take]; rfl)) ?_; (with_reducible refine (spec_l1Below.calls g785 t782 t789 t790 4 t791 t792 t793 w _ ?side1 ?side2 A4.out).mono ?_); (case side1 => exact HI785.out); (case side2 => exact HB.out); rintro e w7 ⟨rfl, hi, hb, hk⟩; refine ⟨_, rfl, ?_⟩; have n0_ := A_ (Kd.R_mono (Kd.R_keep (IsS67.apart HI785.out HO788.out (by decide)) hk (fun _ h => h.2)) (fun _ h => h.1)); have n1_ := A_ (hb); have n2_ := A_ (hi); clear HO788 HB HI785; revert n0_ n1_ n2_; intro HO788 HB HI785; clear hb hk; (try clear hi)))
 go_ret2
 exact ⟨_, by rfl, HO788.out, HB.out⟩

/-! ### spec_l21Number: function 65 -/
def spec_l21Number.f (s0_0 : List Int) (s0_1 : Int) (s0_2 : Int) : Option (Int × Int × Int) := (spec_l1Once.f s0_0 s0_1 s0_2 10).bind fun bt794 => (if bt794.1 = true then ((spec_l1PickInt.f s0_0 bt794.2.1 bt794.2.2 (([(-1), 267914295, 267914296, 165580141, 165580140, 9223372036854775807] : List Int))).bind fun bt800 => (some (bt800.1, bt800.2.1, bt800.2.2))) else ((spec_l1Below.f s0_0 bt794.2.1 bt794.2.2 200).bind fun bt803 => (some (bt803.1, bt803.2.1, bt803.2.2))))
theorem spec_l21Number.calls (g : Nat) (s0_0 : List Int) (s0_1 : Int) (s0_2 : Int) (r1 : Int) (r2 : Int) (r3 : Int) (w0 w : World) (hI : IsS67 w0 w g s0_0 s0_1 s0_2) (hB : Below w0.heap.size w0 w) (h : spec_l21Number.f s0_0 s0_1 s0_2 = some (r1, r2, r3)) :
  Calls Try.prog 65 #[.pointer (some ⟨g, 0, none⟩)] w fun e w' => e = .returned (.int .i64 r1) ∧ IsS67 w0 w' g s0_0 r2 r3 ∧ Below w0.heap.size w0 w' ∧ KeepBut w w' g none := by
 have HI0 := A_ hI
 have HK := A_ (KeepBut.refl w g none)
 have HL := A_ hB.size
 clear hI
 have HW0 := A_ hB.size
 have HB := A_ hB
 clear hB
 unfold spec_l21Number.f at h
 have H := h
 clear h
 replace H := Option.bind_eq_some_iff.mp H
 obtain ⟨⟨t794, t795, t796⟩, A20, H⟩ := H
 dsimp only at H
 have A2 := A_ A20
 clear A20
 by_cases c3 : t794 = true
 ·subst c3
  rw [if_pos rfl] at H
  obtain ⟨y797, hy797⟩ : ∃ y_ : List Int, y_ = (([(-1), 267914295, 267914296, 165580141, 165580140, 9223372036854775807] : List Int)) := ⟨_, rfl⟩
  replace H : ((spec_l1PickInt.f s0_0 t795 t796 y797).bind fun bt800 => (some (bt800.1, bt800.2.1, bt800.2.2))) = some (r1, r2, r3) := by (rw [hy797]; with_reducible exact H)
  have Ny797 := A_ hy797
  clear hy797
  replace H := Option.bind_eq_some_iff.mp H
  obtain ⟨⟨t800, t801, t802⟩, A40, H⟩ := H
  dsimp only at H
  have A4 := A_ A40
  clear A40
  simp only [Option.some.injEq, Prod.mk.injEq] at H
  obtain ⟨rfl, rfl, rfl⟩ := H
  go_enter Try.func65, Try.ntmps65
  go_wp2_with (first | ((with_reducible refine gate_callee (f := 77) rfl ?_); refine goesL_ (some 4) rfl rfl Try.func77 (by kernel_rfl) rfl #[.pointer (some ⟨g, 0, none⟩), .int .i64 10] rfl (by (try simp only [mA, mB, mC]); first | done | rfl | (simp only [List.length_drop, List.length_take]; rfl)) ?_; (with_reducible refine (spec_l1Once.calls g s0_0 s0_1 s0_2 10 true t795 t796 w0 _ ?side1 ?side2 A2.out).mono ?_); (case side1 => exact HI0.out); (case side2 => exact HB.out); rintro e w5 ⟨rfl, hi, hb, hk⟩; refine ⟨_, rfl, ?_⟩; have n0_ := A_ (KeepBut.trans HK.out hk (.inl rfl)); have n1_ := A_ (hb); have n2_ := A_ (hi); clear HK HB HI0; revert n0_ n1_ n2_; intro HK HB HI0; clear hb hk; (try clear hi)) | ((with_reducible refine gate_dst (N := 6) rfl ?_); refine Kd.R_lit (Kd.int .i64) _ 3 ?hg (N := 6) ?hd (xs := ([(-1), 267914295, 267914296, 165580141, 165580140, 9223372036854775807] : List Int)) (inner := [.int .i64 (-1), .int .i64 267914295, .int .i64 267914296, .int .i64 165580141, .int .i64 165580140, .int .i64 9223372036854775807]) (ok := fun _ => True) (okp := fun _ => True) ?hr ?hp (fun _ hk => hk) trivial (Below.refl _ _) (Nat.le_refl _) (by simp) ?_; (case hd | hg => rfl); (case hr => go_simp; done); (case hp => exact (Reps.one (show Kd.M (Kd.int .i64) _ _ _ (-1) [.int .i64 (-1)] from rfl) (Reps.one (show Kd.M (Kd.int .i64) _ _ _ 267914295 [.int .i64 267914295] from rfl) (Reps.one (show Kd.M (Kd.int .i64) _ _ _ 267914296 [.int .i64 267914296] from rfl) (Reps.one (show Kd.M (Kd.int .i64) _ _ _ 165580141 [.int .i64 165580141] from rfl) (Reps.one (show Kd.M (Kd.int .i64) _ _ _ 165580140 [.int .i64 165580140] from rfl) (Reps.one (show Kd.M (Kd.int .i64) _ _ _ 9223372036854775807 [.int .i64 9223372036854775807] from rfl) (Reps.none _ _)))))))); intro v798 w6 ho7 hb hg_ hnew_; clear hg_ hnew_; (first | rw [← Ny797.out] at ho7 | (simp only [Int.reduceToNat] at ho7; rw [← Ny797.out] at ho7)); have n0_ := A_ (Kd.R_lower ho7 (keep_size HK.out)); have n1_ := A_ (IsS67.below HI0.out hb); have n2_ := A_ (KeepBut.trans HK.out (KeepBut.of_below hb g none) (.inl rfl)); have n3_ := A_ (below_step HB.out hb); clear HI0 HK HB; revert n0_ n1_ n2_ n3_; intro HO799 HI0 HK HB; clear hb ho7; obtain ⟨Ao8, co8, eo8⟩ := Kd.R_slice HO799.out; subst eo8) | ((with_reducible refine gate_callee (f := 75) rfl ?_); refine goesL_ (some 7) rfl rfl Try.func75 (by kernel_rfl) rfl #[.pointer (some ⟨g, 0, none⟩), .slice Ao8 y797.length co8] rfl (by (try simp only [mA, mB, mC]); first | done | rfl | (simp only [List.length_drop, List.length_take]; rfl)) ?_; (with_reducible refine (spec_l1PickInt.calls g s0_0 t795 t796 _ _ y797 t800 t801 t802 w0 _ ?side1 ?side2 ?side3 ?side4 ?side5 A4.out).mono ?_); (case side1 => exact HI0.out); (case side2 => exact HB.out); (case side3 => repeat (first | exact (Kd.R_reads' HO799.out).2.2 | (with_reducible refine Kd.C_alloc ?_ _) | (with_reducible refine Kd.C_drewN ?_ _) | (with_reducible refine Kd.C_drew ?_))); (case side4 => exact (Kd.R_reads' HO799.out).2.1); (case side5 => exact far_slice (IsS67.own_ne HI0.out HO799.out (by decide))); rintro e w9 ⟨rfl, hi, hb, hk⟩; refine ⟨_, rfl, ?_⟩; have n0_ := A_ (Kd.R_mono (Kd.R_keep (IsS67.apart HI0.out HO799.out (by decide)) hk (fun _ h => h.2)) (fun _ h => h.1)); have n1_ := A_ (KeepBut.trans HK.out hk (.inl rfl)); have n2_ := A_ (hb); have n3_ := A_ (hi); clear HO799 HK HB HI0; revert n0_ n1_ n2_ n3_; intro HO799 HK HB HI0; clear hb hk; (try clear hi)))
  go_ret
  exact ⟨by rfl, HI0.out, HB.out, HK.out⟩
 replace c3 := Bool.eq_false_iff.mpr c3
 subst c3
 rw [if_neg (show ¬ (false = true) by decide)] at H
 replace H := Option.bind_eq_some_iff.mp H
 obtain ⟨⟨t803, t804, t805⟩, A100, H⟩ := H
 dsimp only at H
 have A10 := A_ A100
 clear A100
 simp only [Option.some.injEq, Prod.mk.injEq] at H
 obtain ⟨rfl, rfl, rfl⟩ := H
 go_enter Try.func65, Try.ntmps65
 go_wp2_with (first | ((with_reducible refine gate_callee (f := 77) rfl ?_); refine goesL_ (some 4) rfl rfl Try.func77 (by kernel_rfl) rfl #[.pointer (some ⟨g, 0, none⟩), .int .i64 10] rfl (by (try simp only [mA, mB, mC]); first | done | rfl | (simp only [List.length_drop, List.length_take]; rfl)) ?_; (with_reducible refine (spec_l1Once.calls g s0_0 s0_1 s0_2 10 false t795 t796 w0 _ ?side1 ?side2 A2.out).mono ?_); (case side1 => exact HI0.out); (case side2 => exact HB.out); rintro e w11 ⟨rfl, hi, hb, hk⟩; refine ⟨_, rfl, ?_⟩; have n0_ := A_ (KeepBut.trans HK.out hk (.inl rfl)); have n1_ := A_ (hb); have n2_ := A_ (hi); clear HK HB HI0; revert n0_ n1_ n2_; intro HK HB HI0; clear hb hk; (try clear hi)) | ((with_reducible refine gate_callee (f := 74) rfl ?_); refine goesL_ (some 9) rfl rfl Try.func74 (by kernel_rfl) rfl #[.pointer (some ⟨g, 0, none⟩), .int .i64 200] rfl (by (try simp only [mA, mB, mC]); first | done | rfl | (simp only [List.length_drop, List.length_take]; rfl)) ?_; (with_reducible refine (spec_l1Below.calls g s0_0 t795 t796 200 t803 t804 t805 w0 _ ?side1 ?side2 A10.out).mono ?_); (case side1 => exact HI0.out); (case side2 => exact HB.out); rintro e w12 ⟨rfl, hi, hb, hk⟩; refine ⟨_, rfl, ?_⟩; have n0_ := A_ (KeepBut.trans HK.out hk (.inl rfl)); have n1_ := A_ (hb); have n2_ := A_ (hi); clear HK HB HI0; revert n0_ n1_ n2_; intro HK HB HI0; clear hb hk; (try clear hi)))
 go_ret
 exact ⟨by rfl, HI0.out, HB.out, HK.out⟩

/-! ### spec_DrawFibonacciLetter: function 57 -/
def spec_DrawFibonacciLetter.f (k : Nat) (l0 : List Int) : Option (Int) := (spec_l1New.f k l0).bind fun bt806 => ((spec_l21Number.f bt806.1 bt806.2.1 bt806.2.2).bind fun bt810 => (some bt810.1))
theorem spec_DrawFibonacciLetter.mono : ∀ a0 k, LeO (spec_DrawFibonacciLetter.f k a0) (spec_DrawFibonacciLetter.f (k + 1) a0) := by
 intro a0 k
 unfold spec_DrawFibonacciLetter.f
 with_reducible repeat' first | exact spec_l1New.mono _ _ | exact LeO.refl _ | exact LeO.none _ | refine LeO.ite ?_ ?_ | refine LeO.bind ?_ (fun _ => ?_)
theorem spec_DrawFibonacciLetter.calls (k : Nat) (A0 : Option Addr) (c0 : Nat) (l0 : List Int) (r : Int) (w : World) (hr0 : Kd.C (Kd.int .u8) w A0 l0.length l0) (hc0 : l0.length ≤ c0) (h : spec_DrawFibonacciLetter.f k l0 = some r) :
  Calls Try.prog 57 #[.slice A0 l0.length c0] w fun e w' => e = .returned (.int .i64 r) ∧ Below w.heap.size w w' := by
 have HR0 := A_ hr0
 have HC0 := A_ hc0
 clear hr0 hc0
 have HB := A_ (Below.refl w.heap.size w)
 unfold spec_DrawFibonacciLetter.f at h
 have H := h
 clear h
 replace H := Option.bind_eq_some_iff.mp H
 obtain ⟨⟨t806, t807, t808⟩, A20, H⟩ := H
 dsimp only at H
 have A2 := A_ A20
 clear A20
 replace H := Option.bind_eq_some_iff.mp H
 obtain ⟨⟨t810, t811, t812⟩, A30, H⟩ := H
 dsimp only at H
 have A3 := A_ A30
 clear A30
 obtain rfl := Option.some.inj H
 go_enter Try.func57, Try.ntmps57
 go_wp2_with (first | ((with_reducible refine gate_callee (f := 66) rfl ?_); refine goesL_ (some 4) rfl rfl Try.func66 (by kernel_rfl) rfl #[.slice A0 l0.length c0] rfl (by (try simp only [mA, mB, mC]); first | done | rfl | (simp only [List.length_drop, List.length_take]; rfl)) ?_; (with_reducible refine (spec_l1New.calls k _ _ l0 t806 t807 t808 w _ ?side1 ?side2 ?side3 A2.out).mono ?_); (case side1 => exact HB.out); (case side2 => exact HR0.out); (case side3 => exact HC0.out); rintro e w4 ⟨g809, rfl, hi, hb, hb2⟩; refine ⟨_, rfl, ?_⟩; have n0_ := A_ (hb); have n1_ := A_ (hi); clear HB; revert n0_ n1_; intro HB HI809; clear hb hb2; (try clear hi)) | ((with_reducible refine gate_callee (f := 65) rfl ?_); refine goesL_ (some 5) rfl rfl Try.func65 (by kernel_rfl) rfl #[.pointer (some ⟨g809, 0, none⟩)] rfl (by (try simp only [mA, mB, mC]); first | done | rfl | (simp only [List.length_drop, List.length_take]; rfl)) ?_; (with_reducible refine (spec_l21Number.calls g809 t806 t807 t808 t810 t811 t812 w _ ?side1 ?side2 A3.out).mono ?_); (case side1 => exact HI809.out); (case side2 => exact HB.out); rintro e w5 ⟨rfl, hi, hb, hk⟩; refine ⟨_, rfl, ?_⟩; have n0_ := A_ (hb); have n1_ := A_ (hi); clear HB HI809; revert n0_ n1_; intro HB HI809; clear hb hk; (try clear hi)))
 go_ret
 exact ⟨by rfl, HB.out⟩

/-! ### spec_DrawLowerWythoff: function 58 -/
def spec_DrawLowerWythoff.f (k : Nat) (l0 : List Int) : Option (Int) := (spec_l1New.f k l0).bind fun bt813 => ((spec_l1Below.f bt813.1 bt813.2.1 bt813.2.2 104).bind fun bt817 => (some (wrap64 (bt817.1 - 1))))
theorem spec_DrawLowerWythoff.mono : ∀ a0 k, LeO (spec_DrawLowerWythoff.f k a0) (spec_DrawLowerWythoff.f (k + 1) a0) := by
 intro a0 k
 unfold spec_DrawLowerWythoff.f
 with_reducible repeat' first | exact spec_l1New.mono _ _ | exact LeO.refl _ | exact LeO.none _ | refine LeO.ite ?_ ?_ | refine LeO.bind ?_ (fun _ => ?_)
theorem spec_DrawLowerWythoff.calls (k : Nat) (A0 : Option Addr) (c0 : Nat) (l0 : List Int) (r : Int) (w : World) (hr0 : Kd.C (Kd.int .u8) w A0 l0.length l0) (hc0 : l0.length ≤ c0) (h : spec_DrawLowerWythoff.f k l0 = some r) :
  Calls Try.prog 58 #[.slice A0 l0.length c0] w fun e w' => e = .returned (.int .i64 r) ∧ Below w.heap.size w w' := by
 have HR0 := A_ hr0
 have HC0 := A_ hc0
 clear hr0 hc0
 have HB := A_ (Below.refl w.heap.size w)
 unfold spec_DrawLowerWythoff.f at h
 have H := h
 clear h
 replace H := Option.bind_eq_some_iff.mp H
 obtain ⟨⟨t813, t814, t815⟩, A20, H⟩ := H
 dsimp only at H
 have A2 := A_ A20
 clear A20
 replace H := Option.bind_eq_some_iff.mp H
 obtain ⟨⟨t817, t818, t819⟩, A30, H⟩ := H
 dsimp only at H
 have A3 := A_ A30
 clear A30
 obtain rfl := Option.some.inj H
 go_enter Try.func58, Try.ntmps58
 go_wp2_with (first | ((with_reducible refine gate_callee (f := 66) rfl ?_); refine goesL_ (some 4) rfl rfl Try.func66 (by kernel_rfl) rfl #[.slice A0 l0.length c0] rfl (by (try simp only [mA, mB, mC]); first | done | rfl | (simp only [List.length_drop, List.length_take]; rfl)) ?_; (with_reducible refine (spec_l1New.calls k _ _ l0 t813 t814 t815 w _ ?side1 ?side2 ?side3 A2.out).mono ?_); (case side1 => exact HB.out); (case side2 => exact HR0.out); (case side3 => exact HC0.out); rintro e w4 ⟨g816, rfl, hi, hb, hb2⟩; refine ⟨_, rfl, ?_⟩; have n0_ := A_ (hb); have n1_ := A_ (hi); clear HB; revert n0_ n1_; intro HB HI816; clear hb hb2; (try clear hi)) | ((with_reducible refine gate_callee (f := 74) rfl ?_); refine goesL_ (some 5) rfl rfl Try.func74 (by kernel_rfl) rfl #[.pointer (some ⟨g816, 0, none⟩), .int .i64 104] rfl (by (try simp only [mA, mB, mC]); first | done | rfl | (simp only [List.length_drop, List.length_take]; rfl)) ?_; (with_reducible refine (spec_l1Below.calls g816 t813 t814 t815 104 t817 t818 t819 w _ ?side1 ?side2 A3.out).mono ?_); (case side1 => exact HI816.out); (case side2 => exact HB.out); rintro e w5 ⟨rfl, hi, hb, hk⟩; refine ⟨_, rfl, ?_⟩; have n0_ := A_ (hb); have n1_ := A_ (hi); clear HB HI816; revert n0_ n1_; intro HB HI816; clear hb hk; (try clear hi)))
 go_ret
 exact ⟨by rfl, HB.out⟩

/-! ### impl_oneIf: function 79 -/
def impl_oneIf.f (a0 : Bool) : Option (Int) := if a0 = true then (some 1) else (some 0)
theorem impl_oneIf.calls (a0 : Bool) (r : Int) (w : World) (h : impl_oneIf.f a0 = some r) :
  Calls Try.prog 79 #[.bool a0] w fun e w' => e = .returned (.int .i64 r) ∧ Drawn0 w w' := by
 unfold impl_oneIf.f at h
 have H := h
 clear h
 by_cases c2 : a0 = true
 ·subst c2
  rw [if_pos rfl] at H
  obtain rfl := Option.some.inj H
  go_enter Try.func79, Try.ntmps79
  go_wp2
  go_ret
  exact ⟨by rfl, by repeat (first | exact Drawn0.refl _ | apply Drawn0.step)⟩
 replace c2 := Bool.eq_false_iff.mpr c2
 subst c2
 rw [if_neg (show ¬ (false = true) by decide)] at H
 obtain rfl := Option.some.inj H
 go_enter Try.func79, Try.ntmps79
 go_wp2
 go_ret
 exact ⟨by rfl, by repeat (first | exact Drawn0.refl _ | apply Drawn0.step)⟩

/-! ### impl_CountLetters: function 59 -/
def impl_CountLetters.l0 : Nat → Int → Int → List Int → Int → Int → Option (Int)
 | 0, _, _, _, _, _ => none
 | k + 1, x1, x5, x8, x9, x10 => if x10 < x9 then (if 0 ≤ x10 then (if x10 < (x8.length : Int) then ((impl_oneIf.f ((rd x8 x10) == x1)).bind fun t821 => (impl_CountLetters.l0 k x1 (wrap64 (x5 + t821)) x8 x9 (wrap64 (x10 + 1)))) else (none)) else (none)) else (some x5)
def impl_CountLetters.f (k : Nat) (l0 : List Int) (a1 : Int) : Option (Int) := impl_CountLetters.l0 k a1 0 l0 (l0.length : Int) 0
theorem impl_CountLetters.mono_l : ∀ k, (∀ y0 y1 y2 y3 y4, LeO (impl_CountLetters.l0 k y0 y1 y2 y3 y4) (impl_CountLetters.l0 (k + 1) y0 y1 y2 y3 y4))
 | 0 => fun _ _ _ _ _ r h => by simp [impl_CountLetters.l0] at h
 | k + 1 => by
  have ih0 := impl_CountLetters.mono_l k
  ·intro y0 y1 y2 y3 y4
   unfold impl_CountLetters.l0
   with_reducible repeat' first | exact ih0 _ _ _ _ _ | exact LeO.refl _ | exact LeO.none _ | refine LeO.ite ?_ ?_ | refine LeO.bind ?_ (fun _ => ?_)
theorem impl_CountLetters.mono : ∀ a0 a1 k, LeO (impl_CountLetters.f k a0 a1) (impl_CountLetters.f (k + 1) a0 a1) := by
 intro a0 a1 k
 have ih0 := impl_CountLetters.mono_l k
 unfold impl_CountLetters.f
 with_reducible repeat' first | exact ih0 _ _ _ _ _ | exact LeO.refl _ | exact LeO.none _ | refine LeO.ite ?_ ?_ | refine LeO.bind ?_ (fun _ => ?_)
theorem impl_CountLetters.calls (k : Nat) (A0 : Option Addr) (c0 : Nat) (l0 : List Int) (a1 : Int) (r : Int) (w : World) (hr0 : Kd.C (Kd.int .i64) w A0 l0.length l0) (hc0 : l0.length ≤ c0) (h : impl_CountLetters.f k l0 a1 = some r) :
  Calls Try.prog 59 #[.slice A0 l0.length c0, .int .i64 a1] w fun e w' => e = .returned (.int .i64 r) ∧ Drawn0 w w' := by
 have HR0 := A_ hr0
 have HC0 := A_ hc0
 clear hr0 hc0
 unfold impl_CountLetters.f at h
 have H := h
 clear h
 have H' := A_ H
 clear H
 go_enter Try.func59, Try.ntmps59
 go_wp2
 go_loopg [5, 10] k (fun kq v5 v10 w' => ∃ (x5_1 : Int) (x10_1 : Int), v5 = .int .i64 x5_1 ∧ v10 = .int .i64 x10_1 ∧ Aside0 (impl_CountLetters.l0 kq a1 x5_1 l0 (l0.length : Int) x10_1 = some r) ∧ Aside0 (kq ≤ k) ∧ Drawn0 w w')
 case atStart => exact ⟨(0), (0), (by rfl), (by rfl), H', ⟨Nat.le_refl _⟩, by repeat (first | exact Drawn0.refl _ | apply Drawn0.step)⟩
 case round =>
  clear H'
  obtain ⟨x5_1, x10_1, rfl, rfl, HA, HK1, ⟨m1, rfl⟩⟩ := hrel
  cases gk with
  | zero => exact absurd HA.out (by simp [impl_CountLetters.l0])
  | succ k1 =>
   have H := HA.out
   clear HA
   simp only [impl_CountLetters.l0] at H
   by_cases c3 : x10_1 < (l0.length : Int)
   ·rw [if_pos c3] at H
    have c3b0 : decide (x10_1 < (l0.length : Int)) = true := decide_eq_true c3
    clear c3
    by_cases c4 : 0 ≤ x10_1
    ·rw [if_pos c4] at H
     have c4b0 : decide (0 ≤ x10_1) = true := decide_eq_true c4
     clear c4
     by_cases c5 : x10_1 < (l0.length : Int)
     ·rw [if_pos c5] at H
      have c5b0 : decide (x10_1 < (l0.length : Int)) = true := decide_eq_true c5
      clear c5
      replace H := Option.bind_eq_some_iff.mp H
      obtain ⟨t821, A60, H⟩ := H
      have A6 := A_ A60
      clear A60
      have H' := A_ H
      clear H
      have p820 : 0 ≤ (x10_1 : Int) := of_decide_eq_true (by first | (with_reducible assumption) | assumption)
      have q820 : x10_1 < (l0.length : Int) := of_decide_eq_true (by first | (with_reducible assumption) | assumption)
      obtain ⟨ad820, e820, hx820_0⟩ := Kd.at_int HR0.out x10_1 p820 q820
      cases e820
      replace p820 := eq_true p820
      replace q820 := eq_true q820
      go_wp2_with (first | ((with_reducible refine gate_callee (f := 79) rfl ?_); refine goesL_ (some 18) rfl rfl Try.func79 (by kernel_rfl) rfl #[.bool ((rd l0 x10_1) == a1)] rfl (by (try simp only [mA, mB, mC]); first | done | rfl | (simp only [List.length_drop, List.length_take]; rfl)) ?_; (with_reducible refine (impl_oneIf.calls ((rd l0 x10_1) == a1) t821 _ A6.out).mono ?_); rintro e w' ⟨rfl, ⟨nd, rfl⟩⟩; refine ⟨_, rfl, ?_⟩))
      go_roundg k1
      case measure => have := HK1.out; omega
      case rel => exact ⟨(wrap64 (x5_1 + t821)), (wrap64 (x10_1 + 1)), (by rfl), (by rfl), H', ⟨by have := HK1.out; omega⟩, by repeat (first | exact Drawn0.refl _ | apply Drawn0.step)⟩
     rw [if_neg c5] at H
     exact absurd H (by simp)
    rw [if_neg c4] at H
    exact absurd H (by simp)
   rw [if_neg c3] at H
   have c3b0 : decide (x10_1 < (l0.length : Int)) = false := decide_eq_false c3
   clear c3
   obtain rfl := Option.some.inj H
   go_wp2
   go_ret
   exact ⟨by rfl, by repeat (first | exact Drawn0.refl _ | apply Drawn0.step)⟩

end Go.Proofs.Ytdcakddfibnllaa.PFnFibonacci
