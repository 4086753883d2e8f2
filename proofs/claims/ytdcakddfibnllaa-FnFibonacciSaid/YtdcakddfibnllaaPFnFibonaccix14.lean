/- Written by this session's own program (wip/myprint.py): the machine side of one law, some contracts of it typed by hand. -/
import Derived.Test.YtdcakddfibnllaaPFnFibonaccix0
import Derived.Test.YtdcakddfibnllaaPFnFibonaccix12
import Derived.Test.YtdcakddfibnllaaPFnFibonaccix13
namespace Go.Proofs.Ytdcakddfibnllaa.PFnFibonacci
open Go.RowKit Go.Proofs.YtdcakddfibnllaaW.PrintWords Go.Proofs.YtdcakddfibnllaaW.PrintLast Go.Proofs.YtdcakddfibnllaaW.PrintMore
attribute [local go_sem] max2_int min2_int max_two min_two max_three min_three max_four min_four   -- for this text's walks alone
set_option linter.unusedVariables false
set_option maxHeartbeats 8000000
set_option maxRecDepth 100000
set_option linter.unusedSimpArgs false

/-! ### spec_TermAt: function 102 -/
def spec_TermAt.j0 : Nat → Int → Bool → Int → List (List Int) → List Int → Option (Int)
 | 0, _, _, _, _, _ => none
 | k + 1, x1, x18, x590000, x590001, x590002 => if x18 = true then (some (-1)) else ((spec_DigitsOf.f k x1 x590000).bind fun t592 => ((spec_StateAfter.f k x590000 x590001 x590002 t592).bind fun t595 => (if 0 ≤ t595 then (if t595 < (x590002.length : Int) then (some (rd x590002 t595)) else (none)) else (none))))
def spec_TermAt.f (k : Nat) (a0_0 : Int) (l0_1 : List (List Int)) (l0_2 : List Int) (a1 : Int) : Option (Int) := if a1 < 0 then (spec_TermAt.j0 k a1 true a0_0 l0_1 l0_2) else ((spec_IsSequence.f k a0_0 l0_1 l0_2).bind fun t590 => (if t590 = true then ((spec_PowerOf.f k a0_0 16).bind fun t591 => (spec_TermAt.j0 k a1 (decide (a1 ≥ t591)) a0_0 l0_1 l0_2)) else (spec_TermAt.j0 k a1 true a0_0 l0_1 l0_2)))
theorem spec_TermAt.mono_l : ∀ k, (∀ y0 y1 y2 y3 y4, LeO (spec_TermAt.j0 k y0 y1 y2 y3 y4) (spec_TermAt.j0 (k + 1) y0 y1 y2 y3 y4))
 | 0 => fun _ _ _ _ _ r h => by simp [spec_TermAt.j0] at h
 | k + 1 => by
  have ih0 := spec_TermAt.mono_l k
  ·intro y0 y1 y2 y3 y4
   unfold spec_TermAt.j0
   with_reducible repeat' first | exact ih0 _ _ _ _ _ | exact spec_DigitsOf.mono _ _ _ | exact spec_IsSequence.mono _ _ _ _ | exact spec_PowerOf.mono _ _ _ | exact spec_StateAfter.mono _ _ _ _ _ | exact LeO.refl _ | exact LeO.none _ | refine LeO.ite ?_ ?_ | refine LeO.bind ?_ (fun _ => ?_)
theorem spec_TermAt.mono : ∀ a0 a1 a2 a3 k, LeO (spec_TermAt.f k a0 a1 a2 a3) (spec_TermAt.f (k + 1) a0 a1 a2 a3) := by
 intro a0 a1 a2 a3 k
 have ih0 := spec_TermAt.mono_l k
 unfold spec_TermAt.f
 with_reducible repeat' first | exact ih0 _ _ _ _ _ | exact spec_DigitsOf.mono _ _ _ | exact spec_IsSequence.mono _ _ _ _ | exact spec_PowerOf.mono _ _ _ | exact spec_StateAfter.mono _ _ _ _ _ | exact LeO.refl _ | exact LeO.none _ | refine LeO.ite ?_ ?_ | refine LeO.bind ?_ (fun _ => ?_)
def spec_TermAt.T3 : Bool × List (List Nat × List Nat) := (true, [([], []), ([0], [0]), ([], []), ([], []), ([], []), ([4], [4]), ([3, 5], [3, 5]), ([2, 6, 6], [2, 6]), ([1, 7], [1, 7]), ([8], [8]), ([9, 7, 0, 1, 2, 3, 4, 5, 6, 7, 8, 9], [9])])
def spec_TermAt.B3 : List Nat := [0, 1, 0, 0, 0, 16, 56, 124, 255, 511, 1023]
theorem spec_TermAt.tab3 : rtab .any (opsOf Try.f102 3) = spec_TermAt.T3 := by kernel_rfl
theorem spec_TermAt.bits3 : waitsOk spec_TermAt.T3.2 spec_TermAt.B3 = true := by kernel_rfl
theorem spec_TermAt.calls (k : Nat) (a0_0 : Int) (A0_1 : Option Addr) (c0_1 : Nat) (l0_1 : List (List Int)) (A0_2 : Option Addr) (c0_2 : Nat) (l0_2 : List Int) (a1 : Int) (r : Int) (w : World) (hr0_1 : Kd.C (Kd.slice 3 (Kd.int .i64)) w A0_1 l0_1.length l0_1) (hc0_1 : l0_1.length ≤ c0_1) (hr0_2 : Kd.C (Kd.int .i64) w A0_2 l0_2.length l0_2) (hc0_2 : l0_2.length ≤ c0_2) (h : spec_TermAt.f k a0_0 l0_1 l0_2 a1 = some r) :
  Calls Try.prog 102 #[.agg #[.int .i64 a0_0, .slice A0_1 l0_1.length c0_1, .slice A0_2 l0_2.length c0_2], .int .i64 a1] w fun e w' => e = .returned (.int .i64 r) ∧ Below w.heap.size w w' := by
 have hu72 := Try.underlying72
 have HR0_1 := A_ hr0_1
 have HC0_1 := A_ hc0_1
 clear hr0_1 hc0_1
 have HR0_2 := A_ hr0_2
 have HC0_2 := A_ hc0_2
 clear hr0_2 hc0_2
 have HB := A_ (Below.refl w.heap.size w)
 unfold spec_TermAt.f at h
 have H := h
 clear h
 have HC3 := A_ H
 clear H
 go_enter Try.func102, Try.ntmps102
 go_upto_region 1 with (first | ((with_reducible refine gate_dst (N := 2) rfl ?_); refine box_event ?hg (N := 2) ?hd (cs := #[.int .i64 a0_0, .slice A0_1 l0_1.length c0_1, .slice A0_2 l0_2.length c0_2]) (t := 72) ?hr ?_; (case hd | hg => rfl); (case hr => go_simp; done); intro gb589 hg w4 hbox hb; have n0_ := A_ (below_step HB.out hb); have n1_ := A_ (hbox); have n2_ := A_ ((by rw [hg]; exact (below_size HB.out) : w.heap.size ≤ gb589)); have n3_ := A_ ((by rw [hg]; exact (below_size HB.out) : w.heap.size ≤ gb589)); clear HB; revert n0_ n1_ n2_ n3_; intro HB BK589 GW589 GE589; clear hb hbox hg))
 (try simp only [Act.put, mD, mE, mF])
 go_cut [18] (fun v18 wc => ∃ (kq : Nat) (x18_2 : Bool), v18 = .bool x18_2 ∧ Aside0 (spec_TermAt.j0 kq a1 x18_2 a0_0 l0_1 l0_2 = some r) ∧ Aside0 (kq ≤ k) ∧ Aside0 (wc.heap[gb589]? = some (.cells #[.int .i64 a0_0, (.slice A0_1 l0_1.length c0_1), (.slice A0_2 l0_2.length c0_2)] 72 (0, 0))) ∧ Aside0 (Below w.heap.size w wc))
 case first =>
  have H := HC3.out
  clear HC3
  by_cases c5 : a1 < 0
  ·rw [if_pos c5] at H
   have c5b0 : decide (a1 < 0) = true := decide_eq_true c5
   clear c5
   (first | rw [c5b0] | (simp only [i64_w, i32_w]; rw [c5b0]) | skip)
   have H' := A_ H
   clear H
   go_wp2
   go_meet
   case rel => exact ⟨_, (true), (by rfl), H', ⟨by first | omega | exact Nat.le_refl _⟩, ⟨BK589.out⟩, ⟨HB.out⟩⟩
  rw [if_neg c5] at H
  have c5b0 : decide (a1 < 0) = false := decide_eq_false c5
  clear c5
  (first | rw [c5b0] | (simp only [i64_w, i32_w]; rw [c5b0]) | skip)
  replace H := Option.bind_eq_some_iff.mp H
  obtain ⟨t590, A60, H⟩ := H
  have A6 := A_ A60
  clear A60
  by_cases c7 : t590 = true
  ·subst c7
   rw [if_pos rfl] at H
   replace H := Option.bind_eq_some_iff.mp H
   obtain ⟨t591, A80, H⟩ := H
   have A8 := A_ A80
   clear A80
   have H' := A_ H
   clear H
   have hcz9_0 : w4.cell? ⟨gb589, 0, none⟩ = some (.int .i64 a0_0) := (blk_cell BK589.out 0).trans rfl
   have hcz9_1 : w4.cell? ⟨gb589, 1, none⟩ = some (.slice A0_1 l0_1.length c0_1) := (blk_cell BK589.out 1).trans rfl
   have hcz9_2 : w4.cell? ⟨gb589, 2, none⟩ = some (.slice A0_2 l0_2.length c0_2) := (blk_cell BK589.out 2).trans rfl
   have hfz9_0 := blk_frozen BK589.out 0
   have hfz9_1 := blk_frozen BK589.out 1
   have hfz9_2 := blk_frozen BK589.out 2
   go_wp2_with (first | (go_at_call 101; (with_reducible refine (spec_IsSequence.calls k a0_0 _ _ l0_1 _ _ l0_2 true _ ?side1 ?side2 ?side3 ?side4 A6.out).mono ?_); (case side1 => repeat (first | exact (Kd.C_below HR0_1.out HB.out) | (with_reducible refine Kd.C_alloc ?_ _) | (with_reducible refine Kd.C_drewN ?_ _) | (with_reducible refine Kd.C_drew ?_))); (case side2 => exact HC0_1.out); (case side3 => repeat (first | exact (Kd.C_below HR0_2.out HB.out) | (with_reducible refine Kd.C_alloc ?_ _) | (with_reducible refine Kd.C_drewN ?_ _) | (with_reducible refine Kd.C_drew ?_))); (case side4 => exact HC0_2.out); rintro e w10 ⟨rfl, hb⟩; have n0_ := A_ (blk_below BK589.out hb); have n1_ := A_ (below_step HB.out hb); clear BK589 HB; revert n0_ n1_; intro BK589 HB; clear hb; have hcz11_0 : w10.cell? ⟨gb589, 0, none⟩ = some (.int .i64 a0_0) := (blk_cell BK589.out 0).trans rfl; have hcz11_1 : w10.cell? ⟨gb589, 1, none⟩ = some (.slice A0_1 l0_1.length c0_1) := (blk_cell BK589.out 1).trans rfl; have hcz11_2 : w10.cell? ⟨gb589, 2, none⟩ = some (.slice A0_2 l0_2.length c0_2) := (blk_cell BK589.out 2).trans rfl; have hfz11_0 := blk_frozen BK589.out 0; have hfz11_1 := blk_frozen BK589.out 1; have hfz11_2 := blk_frozen BK589.out 2) | (go_at_call 106; (with_reducible refine (spec_PowerOf.calls k a0_0 16 t591 _ A8.out).mono ?_); rintro e w' ⟨rfl, ⟨nd, rfl⟩⟩))
   go_meet
   case rel => exact ⟨_, (decide (a1 ≥ t591)), (by rfl), H', ⟨by first | omega | exact Nat.le_refl _⟩, ⟨by (with_reducible repeat (first | refine blk_drewN ?_ _ | refine blk_drew ?_ | refine blk_alloc ?_ _)); exact BK589.out⟩, ⟨by repeat (first | (with_reducible first | exact HB.out | apply below_alloc | apply pw_below_drewN | apply below_drew1 | refine below_set ?_ GE589.out) | exact HB.out)⟩⟩
  replace c7 := Bool.eq_false_iff.mpr c7
  subst c7
  rw [if_neg (show ¬ (false = true) by decide)] at H
  have H' := A_ H
  clear H
  have hcz12_0 : w4.cell? ⟨gb589, 0, none⟩ = some (.int .i64 a0_0) := (blk_cell BK589.out 0).trans rfl
  have hcz12_1 : w4.cell? ⟨gb589, 1, none⟩ = some (.slice A0_1 l0_1.length c0_1) := (blk_cell BK589.out 1).trans rfl
  have hcz12_2 : w4.cell? ⟨gb589, 2, none⟩ = some (.slice A0_2 l0_2.length c0_2) := (blk_cell BK589.out 2).trans rfl
  have hfz12_0 := blk_frozen BK589.out 0
  have hfz12_1 := blk_frozen BK589.out 1
  have hfz12_2 := blk_frozen BK589.out 2
  go_wp2_with (first | (go_at_call 101; (with_reducible refine (spec_IsSequence.calls k a0_0 _ _ l0_1 _ _ l0_2 false _ ?side1 ?side2 ?side3 ?side4 A6.out).mono ?_); (case side1 => repeat (first | exact (Kd.C_below HR0_1.out HB.out) | (with_reducible refine Kd.C_alloc ?_ _) | (with_reducible refine Kd.C_drewN ?_ _) | (with_reducible refine Kd.C_drew ?_))); (case side2 => exact HC0_1.out); (case side3 => repeat (first | exact (Kd.C_below HR0_2.out HB.out) | (with_reducible refine Kd.C_alloc ?_ _) | (with_reducible refine Kd.C_drewN ?_ _) | (with_reducible refine Kd.C_drew ?_))); (case side4 => exact HC0_2.out); rintro e w13 ⟨rfl, hb⟩; have n0_ := A_ (blk_below BK589.out hb); have n1_ := A_ (below_step HB.out hb); clear BK589 HB; revert n0_ n1_; intro BK589 HB; clear hb; (try clear hi)))
  go_meet
  case rel => exact ⟨_, (true), (by rfl), H', ⟨by first | omega | exact Nat.le_refl _⟩, ⟨BK589.out⟩, ⟨HB.out⟩⟩
 case rest =>
  clear HC3
  obtain ⟨kq, x18_2, rfl, HA, HJ2, BK589, HB⟩ := hcut
  cases kq with
  | zero => exact absurd HA.out (by simp [spec_TermAt.j0])
  | succ kj2 =>
   have H := HA.out
   clear HA
   simp only [spec_TermAt.j0] at H
   by_cases c14 : x18_2 = true
   ·subst c14
    rw [if_pos rfl] at H
    obtain rfl := Option.some.inj H
    go_wp2
    go_ret
    exact ⟨by rfl, HB.out⟩
   replace c14 := Bool.eq_false_iff.mpr c14
   subst c14
   rw [if_neg (show ¬ (false = true) by decide)] at H
   replace H := Option.bind_eq_some_iff.mp H
   obtain ⟨t592, A150, H⟩ := H
   have A15 := A_ A150
   clear A150
   replace H := Option.bind_eq_some_iff.mp H
   obtain ⟨t595, A160, H⟩ := H
   have A16 := A_ A160
   clear A160
   by_cases c17 : 0 ≤ t595
   ·rw [if_pos c17] at H
    have c17b0 : decide (0 ≤ t595) = true := decide_eq_true c17
    clear c17
    by_cases c18 : t595 < (l0_2.length : Int)
    ·rw [if_pos c18] at H
     have c18b0 : decide (t595 < (l0_2.length : Int)) = true := decide_eq_true c18
     clear c18
     obtain rfl := Option.some.inj H
     try go_wp2
     have n0_ := A_ (blk_drew BK589.out)
     have n1_ := A_ (below_drew1 HB.out)
     clear BK589
     clear HB
     have BK589 := n0_
     have HB := n1_
     clear n0_ n1_
     have p596 : 0 ≤ (t595 : Int) := of_decide_eq_true (by first | (with_reducible assumption) | assumption)
     have q596 : t595 < (l0_2.length : Int) := of_decide_eq_true (by first | (with_reducible assumption) | assumption)
     obtain ⟨ad596, e596, hx596_0⟩ := Kd.at_int HR0_2.out t595 p596 q596
     have hw596_0 := hx596_0
     cases e596
     replace hx596_0 := (HB.out.cell (World.block_lt_of_cell? w _ hx596_0)).trans hx596_0
     replace p596 := eq_true p596
     replace q596 := eq_true q596
     refine start_ (n := 11) (S := fun w' => w'.cell? ⟨gb589, 0, none⟩ = some (.int .i64 a0_0) ∧ w'.cell? ⟨gb589, 1, none⟩ = some (.slice A0_1 l0_1.length c0_1) ∧ w'.cell? ⟨gb589, 2, none⟩ = some (.slice (some ad596) l0_2.length c0_2) ∧ w'.cell? (ad596.add (t595).toNat) = some (.int .i64 (rd l0_2 t595))) (ds := []) #[false, false, false, false, false, false, false, false, false, false, false] (by kernel_rfl) rfl rfl ⟨(blk_cell BK589.out 0).trans rfl, (blk_cell BK589.out 1).trans rfl, (blk_cell BK589.out 2).trans rfl, ((HB.out.cell (World.block_lt_of_cell? w _ hw596_0)).trans hw596_0)⟩ (fun hHeld => ?_); refine with_tabW spec_TermAt.tab3 spec_TermAt.bits3 (fun HT_ HW_ => ?_)
     generalize wc.drew = w19 at BK589 HB hx596_0 hHeld ⊢
     refine pure_ (i := 0) (N := some 19) (v := ?_) (a' := ?_) #[true, false, false, false, false, false, false, false, false, false, false] rfl rfl (any_of HT_.out (by kernel_rfl)) (fun _ _ _ h => h) (Or.inl ⟨by rfl, ?_⟩) ?_ ?_
     rotate_left
     ·intro w'
      go_simp
      with_reducible rfl
     rotate_left
     ·simp only [Act.put, mD, mE, mF, i64_w, i32_w]
      rfl
     refine pure_ (i := 3) (N := some 22) (v := ?_) (a' := ?_) #[true, false, false, true, false, false, false, false, false, false, false] rfl rfl (any_of HT_.out (by kernel_rfl)) (fun _ _ _ h => h) (Or.inl ⟨by rfl, ?_⟩) ?_ ?_
     rotate_left
     ·intro w'
      go_simp
      with_reducible rfl
     rotate_left
     ·simp only [Act.put, mD, mE, mF, i64_w, i32_w]
      rfl
     refine pure_ (i := 4) (N := some 23) (v := ?_) (a' := ?_) #[true, false, false, true, true, false, false, false, false, false, false] rfl rfl (any_of HT_.out (by kernel_rfl)) (fun _ _ _ h => h) (Or.inl ⟨by rfl, ?_⟩) ?_ ?_
     rotate_left
     ·intro w'
      go_simp
      with_reducible rfl
     rotate_left
     ·simp only [Act.put, mD, mE, mF, i64_w, i32_w]
      rfl
     refine take_ (i := 1) (N := some 20) (v := ?_) (a' := ?_) #[true, true, false, true, true, false, false, false, false, false, false] rfl rfl (take_ofW HT_.out HW_.out (by kernel_rfl)) (fun _ _ _ h => h) (Or.inl ⟨by rfl, ?_⟩) hHeld ?_ ?_
     rotate_left
     ·rintro w' ⟨s0, s1, s2, s3⟩
      go_simp
      with_reducible rfl
     rotate_left
     ·simp only [Act.put, mD, mE, mF, i64_w, i32_w]
      rfl
     refine take_ (i := 2) (N := some 21) (v := ?_) (a' := ?_) #[true, true, true, true, true, false, false, false, false, false, false] rfl rfl (take_ofW HT_.out HW_.out (by kernel_rfl)) (fun _ _ _ h => h) (Or.inl ⟨by rfl, ?_⟩) hHeld ?_ ?_
     rotate_left
     ·rintro w' ⟨s0, s1, s2, s3⟩
      go_simp
      with_reducible rfl
     rotate_left
     ·simp only [Act.put, mD, mE, mF, i64_w, i32_w]
      rfl
     refine take_ (i := 5) (N := some 24) (v := ?_) (a' := ?_) #[true, true, true, true, true, true, false, false, false, false, false] rfl rfl (take_ofW HT_.out HW_.out (by kernel_rfl)) (fun _ _ _ h => h) (Or.inl ⟨by rfl, ?_⟩) hHeld ?_ ?_
     rotate_left
     ·rintro w' ⟨s0, s1, s2, s3⟩
      go_simp
      with_reducible rfl
     rotate_left
     ·simp only [Act.put, mD, mE, mF, i64_w, i32_w]
      rfl
     refine one_ (i := 6) (N := some 25) #[true, true, true, true, true, true, true, false, false, false, false] rfl rfl (one_of HT_.out (by kernel_rfl)) (by decide) (fun K hK => ?_)
     refine goes_ Try.func108 (by kernel_rfl) rfl #[.int .i64 a1, .int .i64 a0_0] (by rfl) rfl rfl (by (try simp only [mA, mB, mC]); first | done | rfl | (simp only [List.length_drop, List.length_take]; rfl)) ?_
     with_reducible refine (spec_DigitsOf.calls kj2 a1 a0_0 t592 _ A15.out).mono ?_
     rintro e w20 ⟨v593, rfl, ho0, hb⟩
     refine ⟨_, rfl, ?_⟩
     have n0_ := A_ (Kd.R_lower ho0 (below_size HB.out))
     have n1_ := A_ (blk_below BK589.out hb)
     have n2_ := A_ (below_step HB.out hb)
     clear BK589
     clear HB
     have HO594 := n0_
     have BK589 := n1_
     have HB := n2_
     clear n0_ n1_ n2_
     (try clear hb)
     (try clear hb2)
     (try clear hk)
     (try clear hi)
     (try clear ho0)
     obtain ⟨Ao21, co21, eo21⟩ := Kd.R_slice HO594.out
     (first | subst eo21 | (injection eo21 with f1_ f2_ f3_; have f4_ := f1_.symm; have f5_ := f3_.symm; clear f1_ f2_ f3_; subst f4_; subst f5_))
     refine hK.out _ _ ⟨(blk_cell BK589.out 0).trans rfl, (blk_cell BK589.out 1).trans rfl, (blk_cell BK589.out 2).trans rfl, ((HB.out.cell (World.block_lt_of_cell? w _ hw596_0)).trans hw596_0)⟩ (fun hHeld => ?_)
     clear hK K
     refine norm_ (a' := ?_) ?_ ?_
     rotate_left
     ·show Act.put _ (some 25) _ = _
      simp only [Act.put, mD, mE, mF, i64_w, i32_w]
      rfl
     refine one_ (i := 7) (N := some 26) #[true, true, true, true, true, true, true, true, false, false, false] rfl rfl (one_of HT_.out (by kernel_rfl)) (by decide) (fun K hK => ?_)
     refine goes_ Try.func107 (by kernel_rfl) rfl #[.agg #[.int .i64 a0_0, .slice A0_1 l0_1.length c0_1, .slice (some ad596) l0_2.length c0_2], .slice Ao21 t592.length co21] (by rfl) rfl rfl (by (try simp only [mA, mB, mC]); first | done | rfl | (simp only [List.length_drop, List.length_take]; rfl)) ?_
     with_reducible refine (spec_StateAfter.calls kj2 a0_0 _ _ l0_1 _ _ l0_2 _ _ t592 t595 _ ?side1 ?side2 ?side3 ?side4 ?side5 ?side6 A16.out).mono ?_
     (case side1 => repeat (first | exact (Kd.C_below HR0_1.out HB.out) | (with_reducible refine Kd.C_alloc ?_ _) | (with_reducible refine Kd.C_drewN ?_ _) | (with_reducible refine Kd.C_drew ?_)))
     (case side2 => exact HC0_1.out)
     (case side3 => repeat (first | exact (Kd.C_below HR0_2.out HB.out) | (with_reducible refine Kd.C_alloc ?_ _) | (with_reducible refine Kd.C_drewN ?_ _) | (with_reducible refine Kd.C_drew ?_)))
     (case side4 => exact HC0_2.out)
     (case side5 => repeat (first | exact (Kd.R_reads' HO594.out).2.2 | (with_reducible refine Kd.C_alloc ?_ _) | (with_reducible refine Kd.C_drewN ?_ _) | (with_reducible refine Kd.C_drew ?_)))
     (case side6 => exact (Kd.R_reads' HO594.out).2.1)
     rintro e w22 ⟨rfl, hb⟩
     refine ⟨_, rfl, ?_⟩
     have n0_ := A_ (Kd.R_below HO594.out hb)
     have n1_ := A_ (blk_below BK589.out hb)
     have n2_ := A_ (below_step HB.out hb)
     clear HO594
     clear BK589
     clear HB
     have HO594 := n0_
     have BK589 := n1_
     have HB := n2_
     clear n0_ n1_ n2_
     (try clear hb)
     (try clear hb2)
     (try clear hk)
     (try clear hi)
     refine hK.out _ _ ⟨(blk_cell BK589.out 0).trans rfl, (blk_cell BK589.out 1).trans rfl, (blk_cell BK589.out 2).trans rfl, ((HB.out.cell (World.block_lt_of_cell? w _ hw596_0)).trans hw596_0)⟩ (fun hHeld => ?_)
     clear hK K
     refine norm_ (a' := ?_) ?_ ?_
     rotate_left
     ·show Act.put _ (some 26) _ = _
      simp only [Act.put, mD, mE, mF, i64_w, i32_w]
      rfl
     refine pure_ (i := 8) (N := some 27) (v := ?_) (a' := ?_) #[true, true, true, true, true, true, true, true, true, false, false] rfl rfl (any_of HT_.out (by kernel_rfl)) (fun _ _ _ h => h) (Or.inl ⟨by rfl, ?_⟩) ?_ ?_
     rotate_left
     ·intro w'
      go_simp
      with_reducible rfl
     rotate_left
     ·simp only [Act.put, mD, mE, mF, i64_w, i32_w]
      rfl
     refine take_ (i := 9) (N := some 28) (v := ?_) (a' := ?_) #[true, true, true, true, true, true, true, true, true, true, false] rfl rfl (take_ofW HT_.out HW_.out (by kernel_rfl)) (fun _ _ _ h => h) (Or.inl ⟨by rfl, ?_⟩) hHeld ?_ ?_
     rotate_left
     ·rintro w' ⟨s0, s1, s2, s3⟩
      go_simp
      with_reducible rfl
     rotate_left
     ·simp only [Act.put, mD, mE, mF, i64_w, i32_w]
      rfl
     refine pure_ (i := 10) (N := some 4) (v := ?_) (a' := ?_) #[true, true, true, true, true, true, true, true, true, true, true] rfl rfl (any_of HT_.out (by kernel_rfl)) (fun _ _ _ h => h) (Or.inl ⟨by rfl, ?_⟩) ?_ ?_
     rotate_left
     ·intro w'
      go_simp
      with_reducible rfl
     rotate_left
     ·simp only [Act.put, mD, mE, mF, i64_w, i32_w]
      rfl
     refine done_ (done_of HT_.out (by kernel_rfl)) ?_
     try go_wp2
     go_ret
     exact ⟨by rfl, HB.out⟩
    rw [if_neg c18] at H
    exact absurd H (by simp)
   rw [if_neg c17] at H
   exact absurd H (by simp)

/-! ### spec_PrefixOf: function 91 -/
def spec_PrefixOf.l0 : Nat → Int → List Int → Int → Int → List (List Int) → List Int → Option (List Int)
 | 0, _, _, _, _, _, _ => none
 | k + 1, x1, x5, x6, x598000, x598001, x598002 => if x6 < x1 then (if x1 ≤ 256 then ((spec_IsSequence.f k x598000 x598001 x598002).bind fun t601 => (if t601 = true then ((spec_TermAt.f k x598000 x598001 x598002 x6).bind fun t602 => (if x5.length < 17592186044416 then (spec_PrefixOf.l0 k x1 (x5 ++ [t602]) (wrap64 (x6 + 1)) x598000 x598001 x598002) else (none))) else (some x5))) else (some x5)) else (some x5)
def spec_PrefixOf.f (k : Nat) (a0_0 : Int) (l0_1 : List (List Int)) (l0_2 : List Int) (a1 : Int) : Option (List Int) := spec_PrefixOf.l0 k a1 (([] : List Int)) 0 a0_0 l0_1 l0_2
theorem spec_PrefixOf.mono_l : ∀ k, (∀ y0 y1 y2 y3 y4 y5, LeO (spec_PrefixOf.l0 k y0 y1 y2 y3 y4 y5) (spec_PrefixOf.l0 (k + 1) y0 y1 y2 y3 y4 y5))
 | 0 => fun _ _ _ _ _ _ r h => by simp [spec_PrefixOf.l0] at h
 | k + 1 => by
  have ih0 := spec_PrefixOf.mono_l k
  ·intro y0 y1 y2 y3 y4 y5
   unfold spec_PrefixOf.l0
   with_reducible repeat' first | exact ih0 _ _ _ _ _ _ | exact spec_IsSequence.mono _ _ _ _ | exact spec_TermAt.mono _ _ _ _ _ | exact LeO.refl _ | exact LeO.none _ | refine LeO.ite ?_ ?_ | refine LeO.bind ?_ (fun _ => ?_)
theorem spec_PrefixOf.mono : ∀ a0 a1 a2 a3 k, LeO (spec_PrefixOf.f k a0 a1 a2 a3) (spec_PrefixOf.f (k + 1) a0 a1 a2 a3) := by
 intro a0 a1 a2 a3 k
 have ih0 := spec_PrefixOf.mono_l k
 unfold spec_PrefixOf.f
 with_reducible repeat' first | exact ih0 _ _ _ _ _ _ | exact spec_IsSequence.mono _ _ _ _ | exact spec_TermAt.mono _ _ _ _ _ | exact LeO.refl _ | exact LeO.none _ | refine LeO.ite ?_ ?_ | refine LeO.bind ?_ (fun _ => ?_)
theorem spec_PrefixOf.calls (k : Nat) (a0_0 : Int) (A0_1 : Option Addr) (c0_1 : Nat) (l0_1 : List (List Int)) (A0_2 : Option Addr) (c0_2 : Nat) (l0_2 : List Int) (a1 : Int) (r : List Int) (w : World) (hr0_1 : Kd.C (Kd.slice 3 (Kd.int .i64)) w A0_1 l0_1.length l0_1) (hc0_1 : l0_1.length ≤ c0_1) (hr0_2 : Kd.C (Kd.int .i64) w A0_2 l0_2.length l0_2) (hc0_2 : l0_2.length ≤ c0_2) (h : spec_PrefixOf.f k a0_0 l0_1 l0_2 a1 = some r) :
  Calls Try.prog 91 #[.agg #[.int .i64 a0_0, .slice A0_1 l0_1.length c0_1, .slice A0_2 l0_2.length c0_2], .int .i64 a1] w fun e w' => ∃ v0_ : Value, e = .returned (v0_) ∧ Kd.R (Kd.int .i64) 3 w' w.heap.size (fun _ => True) v0_ r ∧ Below w.heap.size w w' := by
 have hu72 := Try.underlying72
 have HR0_1 := A_ hr0_1
 have HC0_1 := A_ hc0_1
 clear hr0_1 hc0_1
 have HR0_2 := A_ hr0_2
 have HC0_2 := A_ hc0_2
 clear hr0_2 hc0_2
 have HB := A_ (Below.refl w.heap.size w)
 unfold spec_PrefixOf.f at h
 have H := h
 clear h
 obtain ⟨y598, hy598⟩ : ∃ y_ : List Int, y_ = (([] : List Int)) := ⟨_, rfl⟩
 replace H : (spec_PrefixOf.l0 k a1 y598 0 a0_0 l0_1 l0_2) = some r := by (rw [hy598]; with_reducible exact H)
 have Ny598 := A_ hy598
 clear hy598
 have H' := A_ H
 clear H
 go_enter Try.func91, Try.ntmps91
 go_wp2_with (first | ((with_reducible refine gate_dst (N := 2) rfl ?_); refine box_event ?hg (N := 2) ?hd (cs := #[.int .i64 a0_0, .slice A0_1 l0_1.length c0_1, .slice A0_2 l0_2.length c0_2]) (t := 72) ?hr ?_; (case hd | hg => rfl); (case hr => go_simp; done); intro gb597 hg w3 hbox hb; have n0_ := A_ (below_step HB.out hb); have n1_ := A_ (hbox); have n2_ := A_ ((by rw [hg]; exact (below_size HB.out) : w.heap.size ≤ gb597)); have n3_ := A_ ((by rw [hg]; exact (below_size HB.out) : w.heap.size ≤ gb597)); clear HB; revert n0_ n1_ n2_ n3_; intro HB BK597 GW597 GE597; clear hb hbox hg) | ((with_reducible refine gate_dst (N := 7) rfl ?_); refine Kd.R_lit (Kd.int .i64) _ 3 ?hg (N := 7) ?hd (xs := ([] : List Int)) (inner := []) (ok := fun _ => True) (okp := fun _ => True) ?hr ?hp (fun _ hk => hk) trivial (Below.refl _ _) (Nat.le_refl _) (by simp) ?_; (case hd | hg => rfl); (case hr => go_simp; done); (case hp => exact (Reps.none _ _)); intro v599 w4 ho5 hb hg_ hnew_; clear hg_ hnew_; (first | rw [← Ny598.out] at ho5 | (simp only [Int.reduceToNat] at ho5; rw [← Ny598.out] at ho5)); have n0_ := A_ (Kd.R_lower ho5 (below_size HB.out)); have n1_ := A_ (blk_below BK597.out hb); have n2_ := A_ (below_step HB.out hb); clear BK597 HB; revert n0_ n1_ n2_; intro HO600 BK597 HB; clear hb ho5))
 go_loopg [5, 6] k (fun kq v5 v6 w' => ∃ (x5_1 : List Int) (x6_1 : Int), v6 = .int .i64 x6_1 ∧ Aside0 (spec_PrefixOf.l0 kq a1 x5_1 x6_1 a0_0 l0_1 l0_2 = some r) ∧ Aside0 (kq ≤ k) ∧ Aside0 (Kd.R (Kd.int .i64) 3 w' w.heap.size (fun _ => True) v5 x5_1) ∧ Aside0 (w'.heap[gb597]? = some (.cells #[.int .i64 a0_0, (.slice A0_1 l0_1.length c0_1), (.slice A0_2 l0_2.length c0_2)] 72 (0, 0))) ∧ Aside0 (Below w.heap.size w w'))
 case atStart => exact ⟨(y598), (0), (by rfl), H', ⟨Nat.le_refl _⟩, ⟨HO600.out⟩, ⟨BK597.out⟩, ⟨HB.out⟩⟩
 case round =>
  clear H'
  obtain ⟨x5_1, x6_1, rfl, HA, HK1, HO_5, BK597, HB⟩ := hrel
  cases gk with
  | zero => exact absurd HA.out (by simp [spec_PrefixOf.l0])
  | succ k1 =>
   have H := HA.out
   clear HA
   simp only [spec_PrefixOf.l0] at H
   by_cases c6 : x6_1 < a1
   ·rw [if_pos c6] at H
    have c6b0 : decide (x6_1 < a1) = true := decide_eq_true c6
    clear c6
    by_cases c7 : a1 ≤ 256
    ·rw [if_pos c7] at H
     have c7b0 : decide (a1 ≤ 256) = true := decide_eq_true c7
     clear c7
     replace H := Option.bind_eq_some_iff.mp H
     obtain ⟨t601, A80, H⟩ := H
     have A8 := A_ A80
     clear A80
     by_cases c9 : t601 = true
     ·subst c9
      rw [if_pos rfl] at H
      replace H := Option.bind_eq_some_iff.mp H
      obtain ⟨t602, A100, H⟩ := H
      have A10 := A_ A100
      clear A100
      by_cases c11 : x5_1.length < 17592186044416
      ·rw [if_pos c11] at H
       have LMc11 := A_ c11
       clear c11
       obtain ⟨y603, hy603⟩ : ∃ y_ : List Int, y_ = (x5_1 ++ [t602]) := ⟨_, rfl⟩
       replace H : (spec_PrefixOf.l0 k1 a1 y603 (wrap64 (x6_1 + 1)) a0_0 l0_1 l0_2) = some r := by (rw [hy603]; with_reducible exact H)
       have Ny603 := A_ hy603
       clear hy603
       have H' := A_ H
       clear H
       have hcz12_0 : wr.cell? ⟨gb597, 0, none⟩ = some (.int .i64 a0_0) := (blk_cell BK597.out 0).trans rfl
       have hcz12_1 : wr.cell? ⟨gb597, 1, none⟩ = some (.slice A0_1 l0_1.length c0_1) := (blk_cell BK597.out 1).trans rfl
       have hcz12_2 : wr.cell? ⟨gb597, 2, none⟩ = some (.slice A0_2 l0_2.length c0_2) := (blk_cell BK597.out 2).trans rfl
       have hfz12_0 := blk_frozen BK597.out 0
       have hfz12_1 := blk_frozen BK597.out 1
       have hfz12_2 := blk_frozen BK597.out 2
       go_wp2_with (first | (go_at_call 101; (with_reducible refine (spec_IsSequence.calls k1 a0_0 _ _ l0_1 _ _ l0_2 true _ ?side1 ?side2 ?side3 ?side4 A8.out).mono ?_); (case side1 => repeat (first | exact (Kd.C_below HR0_1.out HB.out) | (with_reducible refine Kd.C_alloc ?_ _) | (with_reducible refine Kd.C_drewN ?_ _) | (with_reducible refine Kd.C_drew ?_))); (case side2 => exact HC0_1.out); (case side3 => repeat (first | exact (Kd.C_below HR0_2.out HB.out) | (with_reducible refine Kd.C_alloc ?_ _) | (with_reducible refine Kd.C_drewN ?_ _) | (with_reducible refine Kd.C_drew ?_))); (case side4 => exact HC0_2.out); rintro e w13 ⟨rfl, hb⟩; have n0_ := A_ (Kd.R_below HO_5.out hb); have n1_ := A_ (blk_below BK597.out hb); have n2_ := A_ (below_step HB.out hb); clear HO_5 BK597 HB; revert n0_ n1_ n2_; intro HO_5 BK597 HB; clear hb; have hcz14_0 : w13.cell? ⟨gb597, 0, none⟩ = some (.int .i64 a0_0) := (blk_cell BK597.out 0).trans rfl; have hcz14_1 : w13.cell? ⟨gb597, 1, none⟩ = some (.slice A0_1 l0_1.length c0_1) := (blk_cell BK597.out 1).trans rfl; have hcz14_2 : w13.cell? ⟨gb597, 2, none⟩ = some (.slice A0_2 l0_2.length c0_2) := (blk_cell BK597.out 2).trans rfl; have hfz14_0 := blk_frozen BK597.out 0; have hfz14_1 := blk_frozen BK597.out 1; have hfz14_2 := blk_frozen BK597.out 2) | ((with_reducible refine gate_callee (f := 102) rfl ?_); refine goesL_ (some 24) rfl rfl Try.func102 (by kernel_rfl) rfl #[.agg #[.int .i64 a0_0, .slice A0_1 l0_1.length c0_1, .slice A0_2 l0_2.length c0_2], .int .i64 x6_1] rfl (by (try simp only [mA, mB, mC]); first | done | rfl | (simp only [List.length_drop, List.length_take]; rfl)) ?_; (with_reducible refine (spec_TermAt.calls k1 a0_0 _ _ l0_1 _ _ l0_2 x6_1 t602 _ ?side1 ?side2 ?side3 ?side4 A10.out).mono ?_); (case side1 => repeat (first | exact (Kd.C_below HR0_1.out HB.out) | (with_reducible refine Kd.C_alloc ?_ _) | (with_reducible refine Kd.C_drewN ?_ _) | (with_reducible refine Kd.C_drew ?_))); (case side2 => exact HC0_1.out); (case side3 => repeat (first | exact (Kd.C_below HR0_2.out HB.out) | (with_reducible refine Kd.C_alloc ?_ _) | (with_reducible refine Kd.C_drewN ?_ _) | (with_reducible refine Kd.C_drew ?_))); (case side4 => exact HC0_2.out); rintro e w15 ⟨rfl, hb⟩; refine ⟨_, rfl, ?_⟩; have n0_ := A_ (Kd.R_below HO_5.out hb); have n1_ := A_ (blk_below BK597.out hb); have n2_ := A_ (below_step HB.out hb); clear HO_5 BK597 HB; revert n0_ n1_ n2_; intro HO_5 BK597 HB; clear hb; (try clear hi)) | ((with_reducible refine gate_builtin (b := .append) (xs := #[.tmp 21, .tmp 25]) rfl ?_); at_builtin; refine Kd.R_append (Kd.int .i64) (w0 := w) w.heap.size rfl (.tmp 21) (.tmp 25) 24 3 (.int .i64 0) 8 rfl Try.underlying24 info3 rfl (by decide) (by omega) u5 x5_1 t602 [.int .i64 t602] (fun _ => True) (fun _ => False) rfl rfl ?aP (fun _ hk => hk.elim) ?aF ?aO ?aB ?aS ?aL ?_; (case aP => exact rfl); (case aB => exact HB.out); (case aF => exact (fun _ _ => trivial)); (case aO => exact HO_5.out); (case aS => exact (below_size HB.out)); (case aL => have := LMc11.out; omega); intro v604 w16 ho hb hg hat; rw [← Ny603.out] at ho; have n0_ := A_ (blk_grown (g := gb597) (o := .cells #[.int .i64 a0_0, .slice A0_1 l0_1.length c0_1, .slice A0_2 l0_2.length c0_2] 72 (0, 0)) BK597.out hg (Kd.R_ne HO_5.out BK597.out (by decide))); have n1_ := A_ (hb); have n2_ := A_ (ho); clear BK597 HB HO_5; revert n0_ n1_ n2_; intro BK597 HB HO605; clear ho hb hg hat))
       go_roundg k1
       case measure => have := HK1.out; omega
       case rel => exact ⟨(y603), (wrap64 (x6_1 + 1)), (by rfl), H', ⟨by have := HK1.out; omega⟩, ⟨HO605.out⟩, ⟨BK597.out⟩, ⟨HB.out⟩⟩
      rw [if_neg c11] at H
      exact absurd H (by simp)
     replace c9 := Bool.eq_false_iff.mpr c9
     subst c9
     rw [if_neg (show ¬ (false = true) by decide)] at H
     obtain rfl := Option.some.inj H
     have hcz17_0 : wr.cell? ⟨gb597, 0, none⟩ = some (.int .i64 a0_0) := (blk_cell BK597.out 0).trans rfl
     have hcz17_1 : wr.cell? ⟨gb597, 1, none⟩ = some (.slice A0_1 l0_1.length c0_1) := (blk_cell BK597.out 1).trans rfl
     have hcz17_2 : wr.cell? ⟨gb597, 2, none⟩ = some (.slice A0_2 l0_2.length c0_2) := (blk_cell BK597.out 2).trans rfl
     have hfz17_0 := blk_frozen BK597.out 0
     have hfz17_1 := blk_frozen BK597.out 1
     have hfz17_2 := blk_frozen BK597.out 2
     go_wp2_with (first | (go_at_call 101; (with_reducible refine (spec_IsSequence.calls k1 a0_0 _ _ l0_1 _ _ l0_2 false _ ?side1 ?side2 ?side3 ?side4 A8.out).mono ?_); (case side1 => repeat (first | exact (Kd.C_below HR0_1.out HB.out) | (with_reducible refine Kd.C_alloc ?_ _) | (with_reducible refine Kd.C_drewN ?_ _) | (with_reducible refine Kd.C_drew ?_))); (case side2 => exact HC0_1.out); (case side3 => repeat (first | exact (Kd.C_below HR0_2.out HB.out) | (with_reducible refine Kd.C_alloc ?_ _) | (with_reducible refine Kd.C_drewN ?_ _) | (with_reducible refine Kd.C_drew ?_))); (case side4 => exact HC0_2.out); rintro e w18 ⟨rfl, hb⟩; have n0_ := A_ (Kd.R_below HO_5.out hb); have n1_ := A_ (blk_below BK597.out hb); have n2_ := A_ (below_step HB.out hb); clear HO_5 BK597 HB; revert n0_ n1_ n2_; intro HO_5 BK597 HB; clear hb; (try clear hi)))
     go_ret
     exact ⟨_, by rfl, HO_5.out, HB.out⟩
    rw [if_neg c7] at H
    have c7b0 : decide (a1 ≤ 256) = false := decide_eq_false c7
    clear c7
    obtain rfl := Option.some.inj H
    go_wp2
    go_ret
    exact ⟨_, by rfl, HO_5.out, HB.out⟩
   rw [if_neg c6] at H
   have c6b0 : decide (x6_1 < a1) = false := decide_eq_false c6
   clear c6
   obtain rfl := Option.some.inj H
   go_wp2
   go_ret
   exact ⟨_, by rfl, HO_5.out, HB.out⟩

end Go.Proofs.Ytdcakddfibnllaa.PFnFibonacci
