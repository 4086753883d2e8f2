/- Written by this session's own program (wip/myprint.py): the machine side of one law, some contracts of it typed by hand. -/
import Derived.Test.YtdcakddfibnllaaPFnFibonaccix0
import Derived.Test.YtdcakddfibnllaaPFnFibonaccix1
import Derived.Test.YtdcakddfibnllaaPFnFibonaccix2
import Derived.Test.YtdcakddfibnllaaPFnFibonaccix3
import Derived.Test.YtdcakddfibnllaaPFnFibonaccix5
import Derived.Test.YtdcakddfibnllaaPFnFibonaccix6
import Derived.Test.YtdcakddfibnllaaPFnFibonaccix7
import Derived.Test.YtdcakddfibnllaaPFnFibonaccix10
import Derived.Test.YtdcakddfibnllaaPFnFibonaccix16
import Derived.Test.YtdcakddfibnllaaPFnFibonaccix17
namespace Go.Proofs.Ytdcakddfibnllaa.PFnFibonacci
open Go.RowKit Go.Proofs.YtdcakddfibnllaaW.PrintWords Go.Proofs.YtdcakddfibnllaaW.PrintLast Go.Proofs.YtdcakddfibnllaaW.PrintMore
attribute [local go_sem] max2_int min2_int max_two min_two max_three min_three max_four min_four   -- for this text's walks alone
set_option linter.unusedVariables false
set_option maxHeartbeats 8000000
set_option maxRecDepth 100000
set_option linter.unusedSimpArgs false

/-! ### laws_FnFibonacci: function 11 -/
theorem laws_FnFibonacci.calls (k : Nat) (A0 : Option Addr) (c0 : Nat) (l0 : List Int) (r : Bool) (w : World) (hr0 : Kd.C (Kd.int .u8) w A0 l0.length l0) (hc0 : l0.length ≤ c0) (h : laws_FnFibonacci.f k l0 = some r) :
  Calls Try.prog 11 #[.slice A0 l0.length c0] w fun e w' => e = .returned (.bool r) ∧ Below w.heap.size w w' := by
 have hu46 := Try.underlying46
 have HR0 := A_ hr0
 have HC0 := A_ hc0
 clear hr0 hc0
 have HB := A_ (Below.refl w.heap.size w)
 unfold laws_FnFibonacci.f at h
 have H := h
 clear h
 replace H := Option.bind_eq_some_iff.mp H
 obtain ⟨t823, A20, H⟩ := H
 have A2 := A_ A20
 clear A20
 by_cases c3 : t823 = true
 ·subst c3
  rw [if_pos rfl] at H
  as_aux_lemma =>
   obtain rfl := Option.some.inj H
   go_enter Try.func11, Try.ntmps11
   go_wp2_with (first | ((with_reducible refine gate_callee (f := 30) rfl ?_); refine goesL_ (some 22) rfl rfl Try.func30 (by kernel_rfl) rfl #[.slice A0 l0.length c0] rfl (by (try simp only [mA, mB, mC]); first | done | rfl | (simp only [List.length_drop, List.length_take]; rfl)) ?_; (with_reducible refine (laws_big.calls _ _ l0 true _ ?side1 ?side2 A2.out).mono ?_); (case side1 => repeat (first | exact HR0.out | (with_reducible refine Kd.C_alloc ?_ _) | (with_reducible refine Kd.C_drewN ?_ _) | (with_reducible refine Kd.C_drew ?_))); (case side2 => exact HC0.out); rintro e w' ⟨rfl, ⟨nd, rfl⟩⟩; refine ⟨_, rfl, ?_⟩))
   go_ret
   exact ⟨by rfl, by repeat (first | (with_reducible first | exact HB.out | apply below_alloc | apply pw_below_drewN | apply below_drew1) | exact HB.out)⟩
 replace c3 := Bool.eq_false_iff.mpr c3
 subst c3
 rw [if_neg (show ¬ (false = true) by decide)] at H
 replace H := Option.bind_eq_some_iff.mp H
 obtain ⟨t824, A40, H⟩ := H
 have A4 := A_ A40
 clear A40
 replace H := Option.bind_eq_some_iff.mp H
 obtain ⟨t825, A50, H⟩ := H
 have A5 := A_ A50
 clear A50
 replace H := Option.bind_eq_some_iff.mp H
 obtain ⟨t828, A60, H⟩ := H
 have A6 := A_ A60
 clear A60
 replace H := Option.bind_eq_some_iff.mp H
 obtain ⟨⟨t829, t830⟩, A70, H⟩ := H
 dsimp only at H
 have A7 := A_ A70
 clear A70
 replace H := Option.bind_eq_some_iff.mp H
 obtain ⟨⟨t833, t834⟩, A80, H⟩ := H
 dsimp only at H
 have A8 := A_ A80
 clear A80
 have HC9 := A_ H
 clear H
 go_enter Try.func11, Try.ntmps11
 go_upto_region 8 with (first | ((with_reducible refine gate_callee (f := 30) rfl ?_); refine goesL_ (some 22) rfl rfl Try.func30 (by kernel_rfl) rfl #[.slice A0 l0.length c0] rfl (by (try simp only [mA, mB, mC]); first | done | rfl | (simp only [List.length_drop, List.length_take]; rfl)) ?_; (with_reducible refine (laws_big.calls _ _ l0 false _ ?side1 ?side2 A2.out).mono ?_); (case side1 => repeat (first | exact HR0.out | (with_reducible refine Kd.C_alloc ?_ _) | (with_reducible refine Kd.C_drewN ?_ _) | (with_reducible refine Kd.C_drew ?_))); (case side2 => exact HC0.out); rintro e w' ⟨rfl, ⟨nd, rfl⟩⟩; refine ⟨_, rfl, ?_⟩) | ((with_reducible refine gate_callee (f := 49) rfl ?_); refine goesL_ (some 24) rfl rfl Try.func49 (by kernel_rfl) rfl #[.slice A0 l0.length c0] rfl (by (try simp only [mA, mB, mC]); first | done | rfl | (simp only [List.length_drop, List.length_take]; rfl)) ?_; (with_reducible refine (spec_DrawFibonacciPrefix.calls k _ _ l0 t824 _ ?side1 ?side2 A4.out).mono ?_); (case side1 => repeat (first | exact HR0.out | (with_reducible refine Kd.C_alloc ?_ _) | (with_reducible refine Kd.C_drewN ?_ _) | (with_reducible refine Kd.C_drew ?_))); (case side2 => exact HC0.out); rintro e w10 ⟨rfl, hb⟩; refine ⟨_, rfl, ?_⟩; have n0_ := A_ (below_step (by repeat (first | (with_reducible first | exact HB.out | apply below_alloc | apply pw_below_drewN | apply below_drew1) | exact HB.out)) hb); clear HB; revert n0_; intro HB; clear hb; (try clear hi)) | ((with_reducible refine gate_callee (f := 19) rfl ?_); refine goesL_ (some 26) rfl rfl Try.func19 (by kernel_rfl) rfl #[.int .i64 t824] rfl (by (try simp only [mA, mB, mC]); first | done | rfl | (simp only [List.length_drop, List.length_take]; rfl)) ?_; (with_reducible refine (impl_FibonacciPrefix.calls k t824 t825 _ A5.out).mono ?_); rintro e w11 ⟨v826, rfl, ho0, hb⟩; refine ⟨_, rfl, ?_⟩; have n0_ := A_ (Kd.R_lower ho0 (below_size HB.out)); have n1_ := A_ (below_step HB.out hb); clear HB; revert n0_ n1_; intro HO827 HB; clear hb; (try clear ho0)) | ((with_reducible refine gate_callee (f := 50) rfl ?_); refine goesL_ (some 28) rfl rfl Try.func50 (by kernel_rfl) rfl #[.slice A0 l0.length c0] rfl (by (try simp only [mA, mB, mC]); first | done | rfl | (simp only [List.length_drop, List.length_take]; rfl)) ?_; (with_reducible refine (spec_DrawFibonacciWord.calls k _ _ l0 t828 _ ?side1 ?side2 A6.out).mono ?_); (case side1 => repeat (first | exact (Kd.C_below HR0.out HB.out) | (with_reducible refine Kd.C_alloc ?_ _) | (with_reducible refine Kd.C_drewN ?_ _) | (with_reducible refine Kd.C_drew ?_))); (case side2 => exact HC0.out); rintro e w12 ⟨rfl, hb⟩; refine ⟨_, rfl, ?_⟩; have n0_ := A_ (Kd.R_below HO827.out hb); have n1_ := A_ (below_step HB.out hb); clear HO827 HB; revert n0_ n1_; intro HO827 HB; clear hb; (try clear hi)) | ((with_reducible refine gate_callee (f := 51) rfl ?_); refine goesL_ (some 31) rfl rfl Try.func51 (by kernel_rfl) rfl #[.int .i64 t828] rfl (by (try simp only [mA, mB, mC]); first | done | rfl | (simp only [List.length_drop, List.length_take]; rfl)) ?_; (with_reducible refine (impl_FibonacciWord.calls k t828 t829 t830 _ A7.out).mono ?_); rintro e w13 ⟨v831, rfl, ho0, hb⟩; refine ⟨_, rfl, ?_⟩; have n0_ := A_ (Kd.R_elder' HO827.out (Kd.R_base ho0) hb); have n1_ := A_ (Kd.R_lower (Kd.R_new' ho0 (Kd.R_lt HO827.out)) (below_size HB.out)); have n2_ := A_ (below_step HB.out hb); clear HO827 HB; revert n0_ n1_ n2_; intro HO827 HO832 HB; clear hb; (try clear ho0)) | ((with_reducible refine gate_callee (f := 52) rfl ?_); refine goesL_ (some 36) rfl rfl Try.func52 (by kernel_rfl) rfl #[.int .i64 t828] rfl (by (try simp only [mA, mB, mC]); first | done | rfl | (simp only [List.length_drop, List.length_take]; rfl)) ?_; (with_reducible refine (spec_FibonacciWord.calls k t828 t833 t834 _ A8.out).mono ?_); rintro e w14 ⟨v835, rfl, ho0, hb⟩; refine ⟨_, rfl, ?_⟩; have n0_ := A_ (Kd.R_elder' HO827.out (Kd.R_base ho0) hb); have n1_ := A_ (Kd.R_elder' HO832.out (Kd.R_base ho0) hb); have n2_ := A_ (Kd.R_lower (Kd.R_new' (Kd.R_new' ho0 (Kd.R_lt HO827.out)) (Kd.R_lt HO832.out)) (below_size HB.out)); have n3_ := A_ (below_step HB.out hb); clear HO827 HO832 HB; revert n0_ n1_ n2_ n3_; intro HO827 HO832 HO836 HB; clear hb; (try clear ho0)))
 (try simp only [Act.put, mD, mE, mF])
 go_cut [65] (fun v65 wc => ∃ (kq : Nat) (x65_8 : Bool), v65 = .bool x65_8 ∧ Aside0 (laws_FnFibonacci.j0 kq l0 x65_8 = some r) ∧ Aside0 (kq ≤ k) ∧ Aside0 (Below w.heap.size w wc))
 case first => as_aux_lemma =>
  have H := HC9.out
  clear HC9
  replace H := Option.bind_eq_some_iff.mp H
  obtain ⟨t837, A150, H⟩ := H
  have A15 := A_ A150
  clear A150
  replace H := Option.bind_eq_some_iff.mp H
  obtain ⟨t840, A160, H⟩ := H
  have A16 := A_ A160
  clear A160
  by_cases c17 : t840 = true
  ·subst c17
   rw [if_pos rfl] at H
   by_cases c18 : (t830 != t834) = true
   ·rw [if_pos c18] at H
    have c18b0 : (t830 != t834) = true := c18
    (try (have c18b1 : decide (t830 = t834) = false := by simpa using c18))
    (try (have c18b2 : (t830 == t834) = false := by simpa using c18))
    (try (have c18b3 : ¬ (t830 = t834) := by simpa using c18))
    clear c18
    (first | rw [c18b0] | (simp only [i64_w, i32_w]; rw [c18b0]) | skip)
    as_aux_lemma =>
     have H' := A_ H
     clear H
     go_wp2_with (first | ((with_reducible refine gate_callee (f := 18) rfl ?_); refine goesL_ (some 41) rfl rfl Try.func18 (by kernel_rfl) rfl #[.int .i64 t824] rfl (by (try simp only [mA, mB, mC]); first | done | rfl | (simp only [List.length_drop, List.length_take]; rfl)) ?_; (with_reducible refine (spec_FibonacciPrefix.calls k t824 t837 _ A15.out).mono ?_); rintro e w19 ⟨v838, rfl, ho0, hb⟩; refine ⟨_, rfl, ?_⟩; have n0_ := A_ (Kd.R_elder' HO827.out (Kd.R_base ho0) hb); have n1_ := A_ (Kd.R_elder' HO832.out (Kd.R_base ho0) hb); have n2_ := A_ (Kd.R_elder' HO836.out (Kd.R_base ho0) hb); have n3_ := A_ (Kd.R_lower (Kd.R_new' (Kd.R_new' (Kd.R_new' ho0 (Kd.R_lt HO827.out)) (Kd.R_lt HO832.out)) (Kd.R_lt HO836.out)) (below_size HB.out)); have n4_ := A_ (below_step HB.out hb); clear HO827 HO832 HO836 HB; revert n0_ n1_ n2_ n3_ n4_; intro HO827 HO832 HO836 HO839 HB; clear hb ho0; obtain ⟨Ao20, co20, eo20⟩ := Kd.R_slice HO827.out; subst eo20; obtain ⟨Ao21, co21, eo21⟩ := Kd.R_slice HO839.out; subst eo21) | ((with_reducible refine gate_callee (f := 33) rfl ?_); refine goesL_ (some 42) rfl rfl Try.func33 (by kernel_rfl) rfl #[.slice Ao20 t825.length co20, .slice Ao21 t837.length co21] rfl (by (try simp only [mA, mB, mC]); first | done | rfl | (simp only [List.length_drop, List.length_take]; rfl)) ?_; (with_reducible refine (laws_sameInts.calls k _ _ t825 _ _ t837 true _ ?side1 ?side2 ?side3 ?side4 A16.out).mono ?_); (case side1 => repeat (first | exact (Kd.R_reads' HO827.out).2.2 | (with_reducible refine Kd.C_alloc ?_ _) | (with_reducible refine Kd.C_drewN ?_ _) | (with_reducible refine Kd.C_drew ?_))); (case side2 => exact (Kd.R_reads' HO827.out).2.1); (case side3 => repeat (first | exact (Kd.R_reads' HO839.out).2.2 | (with_reducible refine Kd.C_alloc ?_ _) | (with_reducible refine Kd.C_drewN ?_ _) | (with_reducible refine Kd.C_drew ?_))); (case side4 => exact (Kd.R_reads' HO839.out).2.1); rintro e w' ⟨rfl, ⟨nd, rfl⟩⟩; refine ⟨_, rfl, ?_⟩))
     go_meet
     case rel => exact ⟨_, (true), (by rfl), H', ⟨by first | omega | exact Nat.le_refl _⟩, ⟨by repeat (first | (with_reducible first | exact HB.out | apply below_alloc | apply pw_below_drewN | apply below_drew1) | exact HB.out)⟩⟩
   rw [if_neg c18] at H
   have c18b0 : (t830 != t834) = false := by simpa using c18
   (try (have c18b1 : decide (t830 = t834) = true := by simpa using c18))
   (try (have c18b2 : (t830 == t834) = true := by simpa using c18))
   clear c18
   (first | rw [c18b0] | (simp only [i64_w, i32_w]; rw [c18b0]) | skip)
   replace H := Option.bind_eq_some_iff.mp H
   obtain ⟨t841, A220, H⟩ := H
   have A22 := A_ A220
   clear A220
   by_cases c23 : t841 = true
   ·subst c23
    rw [if_pos rfl] at H
    by_cases c24 : t830 = true
    ·subst c24
     rw [if_pos rfl] at H
     replace H := Option.bind_eq_some_iff.mp H
     obtain ⟨t842, A250, H⟩ := H
     have A25 := A_ A250
     clear A250
     replace H := Option.bind_eq_some_iff.mp H
     obtain ⟨t845, A260, H⟩ := H
     have A26 := A_ A260
     clear A260
     as_aux_lemma =>
      have H' := A_ H
      clear H
      go_wp2_with (first | ((with_reducible refine gate_callee (f := 18) rfl ?_); refine goesL_ (some 41) rfl rfl Try.func18 (by kernel_rfl) rfl #[.int .i64 t824] rfl (by (try simp only [mA, mB, mC]); first | done | rfl | (simp only [List.length_drop, List.length_take]; rfl)) ?_; (with_reducible refine (spec_FibonacciPrefix.calls k t824 t837 _ A15.out).mono ?_); rintro e w27 ⟨v838, rfl, ho0, hb⟩; refine ⟨_, rfl, ?_⟩; have n0_ := A_ (Kd.R_elder' HO827.out (Kd.R_base ho0) hb); have n1_ := A_ (Kd.R_elder' HO832.out (Kd.R_base ho0) hb); have n2_ := A_ (Kd.R_elder' HO836.out (Kd.R_base ho0) hb); have n3_ := A_ (Kd.R_lower (Kd.R_new' (Kd.R_new' (Kd.R_new' ho0 (Kd.R_lt HO827.out)) (Kd.R_lt HO832.out)) (Kd.R_lt HO836.out)) (below_size HB.out)); have n4_ := A_ (below_step HB.out hb); clear HO827 HO832 HO836 HB; revert n0_ n1_ n2_ n3_ n4_; intro HO827 HO832 HO836 HO839 HB; clear hb ho0; obtain ⟨Ao28, co28, eo28⟩ := Kd.R_slice HO827.out; subst eo28; obtain ⟨Ao29, co29, eo29⟩ := Kd.R_slice HO839.out; subst eo29) | ((with_reducible refine gate_callee (f := 33) rfl ?_); refine goesL_ (some 42) rfl rfl Try.func33 (by kernel_rfl) rfl #[.slice Ao28 t825.length co28, .slice Ao29 t837.length co29] rfl (by (try simp only [mA, mB, mC]); first | done | rfl | (simp only [List.length_drop, List.length_take]; rfl)) ?_; (with_reducible refine (laws_sameInts.calls k _ _ t825 _ _ t837 true _ ?side1 ?side2 ?side3 ?side4 A16.out).mono ?_); (case side1 => repeat (first | exact (Kd.R_reads' HO827.out).2.2 | (with_reducible refine Kd.C_alloc ?_ _) | (with_reducible refine Kd.C_drewN ?_ _) | (with_reducible refine Kd.C_drew ?_))); (case side2 => exact (Kd.R_reads' HO827.out).2.1); (case side3 => repeat (first | exact (Kd.R_reads' HO839.out).2.2 | (with_reducible refine Kd.C_alloc ?_ _) | (with_reducible refine Kd.C_drewN ?_ _) | (with_reducible refine Kd.C_drew ?_))); (case side4 => exact (Kd.R_reads' HO839.out).2.1); rintro e w' ⟨rfl, ⟨nd, rfl⟩⟩; refine ⟨_, rfl, ?_⟩; obtain ⟨Ao30, co30, eo30⟩ := Kd.R_slice HO832.out; subst eo30; obtain ⟨Ao31, co31, eo31⟩ := Kd.R_slice HO836.out; subst eo31) | (go_at_call 33; (with_reducible refine (laws_sameInts.calls k _ _ t829 _ _ t833 true _ ?side1 ?side2 ?side3 ?side4 A22.out).mono ?_); (case side1 => repeat (first | exact (Kd.R_reads' HO832.out).2.2 | (with_reducible refine Kd.C_alloc ?_ _) | (with_reducible refine Kd.C_drewN ?_ _) | (with_reducible refine Kd.C_drew ?_))); (case side2 => exact (Kd.R_reads' HO832.out).2.1); (case side3 => repeat (first | exact (Kd.R_reads' HO836.out).2.2 | (with_reducible refine Kd.C_alloc ?_ _) | (with_reducible refine Kd.C_drewN ?_ _) | (with_reducible refine Kd.C_drew ?_))); (case side4 => exact (Kd.R_reads' HO836.out).2.1); rintro e w' ⟨rfl, ⟨nd, rfl⟩⟩) | (go_at_call 18; (with_reducible refine (spec_FibonacciPrefix.calls k (t833.length : Int) t842 _ A25.out).mono ?_); rintro e w32 ⟨v843, rfl, ho0, hb⟩; have n0_ := A_ (Kd.R_elder' (by (with_reducible repeat (first | apply Kd.R_alloc | apply Kd.R_drewN | apply Kd.R_drew)); exact HO827.out) (Kd.R_base ho0) hb); have n1_ := A_ (Kd.R_elder' (by (with_reducible repeat (first | apply Kd.R_alloc | apply Kd.R_drewN | apply Kd.R_drew)); exact HO832.out) (Kd.R_base ho0) hb); have n2_ := A_ (Kd.R_elder' (by (with_reducible repeat (first | apply Kd.R_alloc | apply Kd.R_drewN | apply Kd.R_drew)); exact HO836.out) (Kd.R_base ho0) hb); have n3_ := A_ (Kd.R_elder' (by (with_reducible repeat (first | apply Kd.R_alloc | apply Kd.R_drewN | apply Kd.R_drew)); exact HO839.out) (Kd.R_base ho0) hb); have n4_ := A_ (Kd.R_lower (Kd.R_new' (Kd.R_new' (Kd.R_new' (Kd.R_new' ho0 (Kd.R_lt (by (with_reducible repeat (first | apply Kd.R_alloc | apply Kd.R_drewN | apply Kd.R_drew)); exact HO827.out))) (Kd.R_lt (by (with_reducible repeat (first | apply Kd.R_alloc | apply Kd.R_drewN | apply Kd.R_drew)); exact HO832.out))) (Kd.R_lt (by (with_reducible repeat (first | apply Kd.R_alloc | apply Kd.R_drewN | apply Kd.R_drew)); exact HO836.out))) (Kd.R_lt (by (with_reducible repeat (first | apply Kd.R_alloc | apply Kd.R_drewN | apply Kd.R_drew)); exact HO839.out))) (below_size (by repeat (first | (with_reducible first | exact HB.out | apply below_alloc | apply pw_below_drewN | apply below_drew1) | exact HB.out)))); have n5_ := A_ (below_step (by repeat (first | (with_reducible first | exact HB.out | apply below_alloc | apply pw_below_drewN | apply below_drew1) | exact HB.out)) hb); clear HO827 HO832 HO836 HO839 HB; revert n0_ n1_ n2_ n3_ n4_ n5_; intro HO827 HO832 HO836 HO839 HO844 HB; clear hb ho0; obtain ⟨Ao33, co33, eo33⟩ := Kd.R_slice HO844.out; subst eo33) | (go_at_call 33; (with_reducible refine (laws_sameInts.calls k _ _ t842 _ _ t833 t845 _ ?side1 ?side2 ?side3 ?side4 A26.out).mono ?_); (case side1 => repeat (first | exact (Kd.R_reads' HO844.out).2.2 | (with_reducible refine Kd.C_alloc ?_ _) | (with_reducible refine Kd.C_drewN ?_ _) | (with_reducible refine Kd.C_drew ?_))); (case side2 => exact (Kd.R_reads' HO844.out).2.1); (case side3 => repeat (first | exact (Kd.R_reads' HO836.out).2.2 | (with_reducible refine Kd.C_alloc ?_ _) | (with_reducible refine Kd.C_drewN ?_ _) | (with_reducible refine Kd.C_drew ?_))); (case side4 => exact (Kd.R_reads' HO836.out).2.1); rintro e w' ⟨rfl, ⟨nd, rfl⟩⟩))
      go_meet
      case rel => exact ⟨_, (!t845), (by rfl), H', ⟨by first | omega | exact Nat.le_refl _⟩, ⟨by repeat (first | (with_reducible first | exact HB.out | apply below_alloc | apply pw_below_drewN | apply below_drew1) | exact HB.out)⟩⟩
    replace c24 := Bool.eq_false_iff.mpr c24
    subst c24
    rw [if_neg (show ¬ (false = true) by decide)] at H
    as_aux_lemma =>
     have H' := A_ H
     clear H
     go_wp2_with (first | ((with_reducible refine gate_callee (f := 18) rfl ?_); refine goesL_ (some 41) rfl rfl Try.func18 (by kernel_rfl) rfl #[.int .i64 t824] rfl (by (try simp only [mA, mB, mC]); first | done | rfl | (simp only [List.length_drop, List.length_take]; rfl)) ?_; (with_reducible refine (spec_FibonacciPrefix.calls k t824 t837 _ A15.out).mono ?_); rintro e w34 ⟨v838, rfl, ho0, hb⟩; refine ⟨_, rfl, ?_⟩; have n0_ := A_ (Kd.R_elder' HO827.out (Kd.R_base ho0) hb); have n1_ := A_ (Kd.R_elder' HO832.out (Kd.R_base ho0) hb); have n2_ := A_ (Kd.R_elder' HO836.out (Kd.R_base ho0) hb); have n3_ := A_ (Kd.R_lower (Kd.R_new' (Kd.R_new' (Kd.R_new' ho0 (Kd.R_lt HO827.out)) (Kd.R_lt HO832.out)) (Kd.R_lt HO836.out)) (below_size HB.out)); have n4_ := A_ (below_step HB.out hb); clear HO827 HO832 HO836 HB; revert n0_ n1_ n2_ n3_ n4_; intro HO827 HO832 HO836 HO839 HB; clear hb ho0; obtain ⟨Ao35, co35, eo35⟩ := Kd.R_slice HO827.out; subst eo35; obtain ⟨Ao36, co36, eo36⟩ := Kd.R_slice HO839.out; subst eo36) | ((with_reducible refine gate_callee (f := 33) rfl ?_); refine goesL_ (some 42) rfl rfl Try.func33 (by kernel_rfl) rfl #[.slice Ao35 t825.length co35, .slice Ao36 t837.length co36] rfl (by (try simp only [mA, mB, mC]); first | done | rfl | (simp only [List.length_drop, List.length_take]; rfl)) ?_; (with_reducible refine (laws_sameInts.calls k _ _ t825 _ _ t837 true _ ?side1 ?side2 ?side3 ?side4 A16.out).mono ?_); (case side1 => repeat (first | exact (Kd.R_reads' HO827.out).2.2 | (with_reducible refine Kd.C_alloc ?_ _) | (with_reducible refine Kd.C_drewN ?_ _) | (with_reducible refine Kd.C_drew ?_))); (case side2 => exact (Kd.R_reads' HO827.out).2.1); (case side3 => repeat (first | exact (Kd.R_reads' HO839.out).2.2 | (with_reducible refine Kd.C_alloc ?_ _) | (with_reducible refine Kd.C_drewN ?_ _) | (with_reducible refine Kd.C_drew ?_))); (case side4 => exact (Kd.R_reads' HO839.out).2.1); rintro e w' ⟨rfl, ⟨nd, rfl⟩⟩; refine ⟨_, rfl, ?_⟩; obtain ⟨Ao37, co37, eo37⟩ := Kd.R_slice HO832.out; subst eo37; obtain ⟨Ao38, co38, eo38⟩ := Kd.R_slice HO836.out; subst eo38) | (go_at_call 33; (with_reducible refine (laws_sameInts.calls k _ _ t829 _ _ t833 true _ ?side1 ?side2 ?side3 ?side4 A22.out).mono ?_); (case side1 => repeat (first | exact (Kd.R_reads' HO832.out).2.2 | (with_reducible refine Kd.C_alloc ?_ _) | (with_reducible refine Kd.C_drewN ?_ _) | (with_reducible refine Kd.C_drew ?_))); (case side2 => exact (Kd.R_reads' HO832.out).2.1); (case side3 => repeat (first | exact (Kd.R_reads' HO836.out).2.2 | (with_reducible refine Kd.C_alloc ?_ _) | (with_reducible refine Kd.C_drewN ?_ _) | (with_reducible refine Kd.C_drew ?_))); (case side4 => exact (Kd.R_reads' HO836.out).2.1); rintro e w' ⟨rfl, ⟨nd, rfl⟩⟩))
     go_meet
     case rel => exact ⟨_, (false), (by rfl), H', ⟨by first | omega | exact Nat.le_refl _⟩, ⟨by repeat (first | (with_reducible first | exact HB.out | apply below_alloc | apply pw_below_drewN | apply below_drew1) | exact HB.out)⟩⟩
   replace c23 := Bool.eq_false_iff.mpr c23
   subst c23
   rw [if_neg (show ¬ (false = true) by decide)] at H
   as_aux_lemma =>
    have H' := A_ H
    clear H
    go_wp2_with (first | ((with_reducible refine gate_callee (f := 18) rfl ?_); refine goesL_ (some 41) rfl rfl Try.func18 (by kernel_rfl) rfl #[.int .i64 t824] rfl (by (try simp only [mA, mB, mC]); first | done | rfl | (simp only [List.length_drop, List.length_take]; rfl)) ?_; (with_reducible refine (spec_FibonacciPrefix.calls k t824 t837 _ A15.out).mono ?_); rintro e w39 ⟨v838, rfl, ho0, hb⟩; refine ⟨_, rfl, ?_⟩; have n0_ := A_ (Kd.R_elder' HO827.out (Kd.R_base ho0) hb); have n1_ := A_ (Kd.R_elder' HO832.out (Kd.R_base ho0) hb); have n2_ := A_ (Kd.R_elder' HO836.out (Kd.R_base ho0) hb); have n3_ := A_ (Kd.R_lower (Kd.R_new' (Kd.R_new' (Kd.R_new' ho0 (Kd.R_lt HO827.out)) (Kd.R_lt HO832.out)) (Kd.R_lt HO836.out)) (below_size HB.out)); have n4_ := A_ (below_step HB.out hb); clear HO827 HO832 HO836 HB; revert n0_ n1_ n2_ n3_ n4_; intro HO827 HO832 HO836 HO839 HB; clear hb ho0; obtain ⟨Ao40, co40, eo40⟩ := Kd.R_slice HO827.out; subst eo40; obtain ⟨Ao41, co41, eo41⟩ := Kd.R_slice HO839.out; subst eo41) | ((with_reducible refine gate_callee (f := 33) rfl ?_); refine goesL_ (some 42) rfl rfl Try.func33 (by kernel_rfl) rfl #[.slice Ao40 t825.length co40, .slice Ao41 t837.length co41] rfl (by (try simp only [mA, mB, mC]); first | done | rfl | (simp only [List.length_drop, List.length_take]; rfl)) ?_; (with_reducible refine (laws_sameInts.calls k _ _ t825 _ _ t837 true _ ?side1 ?side2 ?side3 ?side4 A16.out).mono ?_); (case side1 => repeat (first | exact (Kd.R_reads' HO827.out).2.2 | (with_reducible refine Kd.C_alloc ?_ _) | (with_reducible refine Kd.C_drewN ?_ _) | (with_reducible refine Kd.C_drew ?_))); (case side2 => exact (Kd.R_reads' HO827.out).2.1); (case side3 => repeat (first | exact (Kd.R_reads' HO839.out).2.2 | (with_reducible refine Kd.C_alloc ?_ _) | (with_reducible refine Kd.C_drewN ?_ _) | (with_reducible refine Kd.C_drew ?_))); (case side4 => exact (Kd.R_reads' HO839.out).2.1); rintro e w' ⟨rfl, ⟨nd, rfl⟩⟩; refine ⟨_, rfl, ?_⟩; obtain ⟨Ao42, co42, eo42⟩ := Kd.R_slice HO832.out; subst eo42; obtain ⟨Ao43, co43, eo43⟩ := Kd.R_slice HO836.out; subst eo43) | (go_at_call 33; (with_reducible refine (laws_sameInts.calls k _ _ t829 _ _ t833 false _ ?side1 ?side2 ?side3 ?side4 A22.out).mono ?_); (case side1 => repeat (first | exact (Kd.R_reads' HO832.out).2.2 | (with_reducible refine Kd.C_alloc ?_ _) | (with_reducible refine Kd.C_drewN ?_ _) | (with_reducible refine Kd.C_drew ?_))); (case side2 => exact (Kd.R_reads' HO832.out).2.1); (case side3 => repeat (first | exact (Kd.R_reads' HO836.out).2.2 | (with_reducible refine Kd.C_alloc ?_ _) | (with_reducible refine Kd.C_drewN ?_ _) | (with_reducible refine Kd.C_drew ?_))); (case side4 => exact (Kd.R_reads' HO836.out).2.1); rintro e w' ⟨rfl, ⟨nd, rfl⟩⟩))
    go_meet
    case rel => exact ⟨_, (true), (by rfl), H', ⟨by first | omega | exact Nat.le_refl _⟩, ⟨by repeat (first | (with_reducible first | exact HB.out | apply below_alloc | apply pw_below_drewN | apply below_drew1) | exact HB.out)⟩⟩
  replace c17 := Bool.eq_false_iff.mpr c17
  subst c17
  rw [if_neg (show ¬ (false = true) by decide)] at H
  as_aux_lemma =>
   have H' := A_ H
   clear H
   go_wp2_with (first | ((with_reducible refine gate_callee (f := 18) rfl ?_); refine goesL_ (some 41) rfl rfl Try.func18 (by kernel_rfl) rfl #[.int .i64 t824] rfl (by (try simp only [mA, mB, mC]); first | done | rfl | (simp only [List.length_drop, List.length_take]; rfl)) ?_; (with_reducible refine (spec_FibonacciPrefix.calls k t824 t837 _ A15.out).mono ?_); rintro e w44 ⟨v838, rfl, ho0, hb⟩; refine ⟨_, rfl, ?_⟩; have n0_ := A_ (Kd.R_elder' HO827.out (Kd.R_base ho0) hb); have n1_ := A_ (Kd.R_elder' HO832.out (Kd.R_base ho0) hb); have n2_ := A_ (Kd.R_elder' HO836.out (Kd.R_base ho0) hb); have n3_ := A_ (Kd.R_lower (Kd.R_new' (Kd.R_new' (Kd.R_new' ho0 (Kd.R_lt HO827.out)) (Kd.R_lt HO832.out)) (Kd.R_lt HO836.out)) (below_size HB.out)); have n4_ := A_ (below_step HB.out hb); clear HO827 HO832 HO836 HB; revert n0_ n1_ n2_ n3_ n4_; intro HO827 HO832 HO836 HO839 HB; clear hb ho0; obtain ⟨Ao45, co45, eo45⟩ := Kd.R_slice HO827.out; subst eo45; obtain ⟨Ao46, co46, eo46⟩ := Kd.R_slice HO839.out; subst eo46) | ((with_reducible refine gate_callee (f := 33) rfl ?_); refine goesL_ (some 42) rfl rfl Try.func33 (by kernel_rfl) rfl #[.slice Ao45 t825.length co45, .slice Ao46 t837.length co46] rfl (by (try simp only [mA, mB, mC]); first | done | rfl | (simp only [List.length_drop, List.length_take]; rfl)) ?_; (with_reducible refine (laws_sameInts.calls k _ _ t825 _ _ t837 false _ ?side1 ?side2 ?side3 ?side4 A16.out).mono ?_); (case side1 => repeat (first | exact (Kd.R_reads' HO827.out).2.2 | (with_reducible refine Kd.C_alloc ?_ _) | (with_reducible refine Kd.C_drewN ?_ _) | (with_reducible refine Kd.C_drew ?_))); (case side2 => exact (Kd.R_reads' HO827.out).2.1); (case side3 => repeat (first | exact (Kd.R_reads' HO839.out).2.2 | (with_reducible refine Kd.C_alloc ?_ _) | (with_reducible refine Kd.C_drewN ?_ _) | (with_reducible refine Kd.C_drew ?_))); (case side4 => exact (Kd.R_reads' HO839.out).2.1); rintro e w' ⟨rfl, ⟨nd, rfl⟩⟩; refine ⟨_, rfl, ?_⟩))
   go_meet
   case rel => exact ⟨_, (true), (by rfl), H', ⟨by first | omega | exact Nat.le_refl _⟩, ⟨by repeat (first | (with_reducible first | exact HB.out | apply below_alloc | apply pw_below_drewN | apply below_drew1) | exact HB.out)⟩⟩
 case rest => as_aux_lemma =>
  clear HC9
  obtain ⟨kq, x65_8, rfl, HA, HJ8, HB⟩ := hcut
  cases kq with
  | zero => exact absurd HA.out (by simp [laws_FnFibonacci.j0])
  | succ kj8 =>
   have H := HA.out
   clear HA
   simp only [laws_FnFibonacci.j0] at H
   by_cases c47 : x65_8 = true
   ·subst c47
    rw [if_pos rfl] at H
    as_aux_lemma =>
     obtain rfl := Option.some.inj H
     go_wp2
     go_ret
     exact ⟨by rfl, HB.out⟩
   replace c47 := Bool.eq_false_iff.mpr c47
   subst c47
   rw [if_neg (show ¬ (false = true) by decide)] at H
   obtain ⟨y846, hy846⟩ : ∃ y_ : List Int, y_ = (([0, 1] : List Int)) := ⟨_, rfl⟩
   replace H : ((spec_FixedPrefix.f kj8 (([y846, (([0] : List Int))] : List (List Int))) 0 60).bind fun bt855 => (if bt855.2 = true then ((impl_FibonacciPrefix.f kj8 60).bind fun t859 => ((laws_sameInts.f kj8 t859 bt855.1).bind fun t862 => (laws_FnFibonacci.j1 kj8 l0 (!t862)))) else (laws_FnFibonacci.j1 kj8 l0 true))) = some r := by (rw [hy846]; with_reducible exact H)
   have Ny846 := A_ hy846
   clear hy846
   obtain ⟨y849, hy849⟩ : ∃ y_ : List Int, y_ = (([0] : List Int)) := ⟨_, rfl⟩
   replace H : ((spec_FixedPrefix.f kj8 (([y846, y849] : List (List Int))) 0 60).bind fun bt855 => (if bt855.2 = true then ((impl_FibonacciPrefix.f kj8 60).bind fun t859 => ((laws_sameInts.f kj8 t859 bt855.1).bind fun t862 => (laws_FnFibonacci.j1 kj8 l0 (!t862)))) else (laws_FnFibonacci.j1 kj8 l0 true))) = some r := by (rw [hy849]; with_reducible exact H)
   have Ny849 := A_ hy849
   clear hy849
   obtain ⟨y852, hy852⟩ : ∃ y_ : List (List Int), y_ = (([y846, y849] : List (List Int))) := ⟨_, rfl⟩
   replace H : ((spec_FixedPrefix.f kj8 y852 0 60).bind fun bt855 => (if bt855.2 = true then ((impl_FibonacciPrefix.f kj8 60).bind fun t859 => ((laws_sameInts.f kj8 t859 bt855.1).bind fun t862 => (laws_FnFibonacci.j1 kj8 l0 (!t862)))) else (laws_FnFibonacci.j1 kj8 l0 true))) = some r := by (rw [hy852]; with_reducible exact H)
   have Ny852 := A_ hy852
   clear hy852
   replace H := Option.bind_eq_some_iff.mp H
   obtain ⟨⟨t855, t858⟩, A480, H⟩ := H
   dsimp only at H
   have A48 := A_ A480
   clear A480
   have HC49 := A_ H
   clear H
   go_upto_region 11 with (first | ((with_reducible refine gate_dst (N := 67) rfl ?_); (try (refine gate_guard (by rfl) ?_; dsimp only)); refine Kd.R_lit (Kd.int .i64) _ 3 ?hg (N := 67) ?hd (xs := ([0, 1] : List Int)) (inner := [.int .i64 0, .int .i64 1]) (ok := fun _ => True) (okp := fun _ => True) ?hr ?hp (fun _ hk => hk) trivial (Below.refl _ _) (Nat.le_refl _) (by simp) ?_; (case hd | hg => rfl); (case hr => go_simp; done); (case hp => exact (Reps.one (show Kd.M (Kd.int .i64) _ _ _ 0 [.int .i64 0] from rfl) (Reps.one (show Kd.M (Kd.int .i64) _ _ _ 1 [.int .i64 1] from rfl) (Reps.none _ _)))); intro v847 w50 ho51 hb hg_ hnew_; clear hg_ hnew_; (first | rw [← Ny846.out] at ho51 | (simp only [Int.reduceToNat] at ho51; rw [← Ny846.out] at ho51)); have n0_ := A_ (Kd.R_lower ho51 (below_size HB.out)); have n1_ := A_ (below_step HB.out hb); clear HB; revert n0_ n1_; intro HO848 HB; clear hb ho51) | ((with_reducible refine gate_dst (N := 68) rfl ?_); (try (refine gate_guard (by rfl) ?_; dsimp only)); refine Kd.R_lit (Kd.int .i64) _ 3 ?hg (N := 68) ?hd (xs := ([0] : List Int)) (inner := [.int .i64 0]) (ok := fun _ => True) (okp := fun _ => True) ?hr ?hp (fun _ hk => hk) trivial (Below.refl _ _) (Nat.le_refl _) (by simp) ?_; (case hd | hg => rfl); (case hr => go_simp; done); (case hp => exact (Reps.one (show Kd.M (Kd.int .i64) _ _ _ 0 [.int .i64 0] from rfl) (Reps.none _ _))); intro v850 w52 ho53 hb hg_ hnew_; clear hg_ hnew_; (first | rw [← Ny849.out] at ho53 | (simp only [Int.reduceToNat] at ho53; rw [← Ny849.out] at ho53)); have n0_ := A_ (Kd.R_elder' HO848.out (Kd.R_base ho53) hb); have n1_ := A_ (Kd.R_lower (Kd.R_new' ho53 (Kd.R_lt HO848.out)) (below_size HB.out)); have n2_ := A_ (below_step HB.out hb); clear HO848 HB; revert n0_ n1_ n2_; intro HO848 HO851 HB; clear hb ho53; obtain ⟨Ao54, co54, eo54⟩ := Kd.R_slice HO848.out; subst eo54; obtain ⟨Ao55, co55, eo55⟩ := Kd.R_slice HO851.out; subst eo55) | ((with_reducible refine gate_dst (N := 69) rfl ?_); (try (refine gate_guard (by rfl) ?_; dsimp only)); refine Kd.N_lit (Kd.slice 3 (Kd.int .i64)) _ 24 ?hg (N' := 69) ?hd (xs := ([y846, y849] : List (List Int))) (inner := [.slice Ao54 y846.length co54, .slice Ao55 y849.length co55]) (ok := (fun _ => True)) (okp := (fun _ => True)) ?hr ?hp (fun _ hk => hk) ((show ∀ k_, w52.heap.size ≤ k_ → (fun _ => True) k_ from fun k_ hk => trivial) _ (Nat.le_refl _)) (Below.refl _ _) (Nat.le_refl _) (by simp) ?_; (case hd | hg => rfl); (case hr => go_simp; done); (case hp => exact (Reps.one (show Kd.FK (Kd.slice 3 (Kd.int .i64)) _ _ y846 [.slice Ao54 y846.length co54] from (Kd.FK_slice_mk (Kd.R_reads' (Kd.R_mono (ok' := (fun _ => True)) (HO848.out) (fun k_ hk => trivial))).2.1 (Kd.R_F (Kd.R_mono (ok' := (fun _ => True)) (HO848.out) (fun k_ hk => trivial))))) (Reps.one (show Kd.FK (Kd.slice 3 (Kd.int .i64)) _ _ y849 [.slice Ao55 y849.length co55] from (Kd.FK_slice_mk (Kd.R_reads' (Kd.R_mono (ok' := (fun _ => True)) (HO851.out) (fun k_ hk => trivial))).2.1 (Kd.R_F (Kd.R_mono (ok' := (fun _ => True)) (HO851.out) (fun k_ hk => trivial))))) (Reps.none _ _)))); intro v853 w56 ho57 hb hg_ hnew_; clear hg_ hnew_; (first | rw [← Ny852.out] at ho57 | (simp only [Int.reduceToNat] at ho57; rw [← Ny852.out] at ho57)); have n0_ := A_ (Kd.N_lower ho57 (below_size HB.out)); have n1_ := A_ (below_step HB.out hb); clear HB HO848 HO851; revert n0_ n1_; intro HO854 HB; clear hb ho57; obtain ⟨Ao58, co58, eo58⟩ := Kd.N_slice HO854.out; subst eo58) | ((with_reducible refine gate_callee (f := 53) rfl ?_); refine goesL_ (some 71) rfl rfl Try.func53 (by kernel_rfl) rfl #[.agg #[.slice Ao58 y852.length co58], .int .i64 0, .int .i64 60] rfl (by (try simp only [mA, mB, mC]); first | done | rfl | (simp only [List.length_drop, List.length_take]; rfl)) ?_; (with_reducible refine (spec_FixedPrefix.calls kj8 _ _ y852 0 60 t855 t858 _ ?side1 ?side2 A48.out).mono ?_); (case side1 => repeat (first | exact (Kd.N_reads' HO854.out).2.2 | (with_reducible refine Kd.C_alloc ?_ _) | (with_reducible refine Kd.C_drewN ?_ _) | (with_reducible refine Kd.C_drew ?_))); (case side2 => exact (Kd.N_reads' HO854.out).2.1); rintro e w59 ⟨v856, rfl, ho0, hb⟩; refine ⟨_, rfl, ?_⟩; have n0_ := A_ (Kd.N_elder' HO854.out (Kd.R_base ho0) hb); have n1_ := A_ (Kd.R_lower ho0 (below_size HB.out)); have n2_ := A_ (below_step HB.out hb); clear HO854 HB; revert n0_ n1_ n2_; intro HO854 HO857 HB; clear hb; (try clear ho0)))
   (try simp only [Act.put, mD, mE, mF])
   go_cut [81] (fun v81 wc => ∃ (kq : Nat) (x81_48 : Bool), v81 = .bool x81_48 ∧ Aside0 (laws_FnFibonacci.j1 kq l0 x81_48 = some r) ∧ Aside0 (kq ≤ kj8) ∧ Aside0 (Below w.heap.size w wc))
   case first => as_aux_lemma =>
    have H := HC49.out
    clear HC49
    by_cases c60 : t858 = true
    ·subst c60
     rw [if_pos rfl] at H
     replace H := Option.bind_eq_some_iff.mp H
     obtain ⟨t859, A610, H⟩ := H
     have A61 := A_ A610
     clear A610
     replace H := Option.bind_eq_some_iff.mp H
     obtain ⟨t862, A620, H⟩ := H
     have A62 := A_ A620
     clear A620
     as_aux_lemma =>
      have H' := A_ H
      clear H
      go_wp2_with (first | (go_at_call 19; (with_reducible refine (impl_FibonacciPrefix.calls kj8 60 t859 _ A61.out).mono ?_); rintro e w63 ⟨v860, rfl, ho0, hb⟩; have n0_ := A_ (Kd.N_elder' HO854.out (Kd.R_base ho0) hb); have n1_ := A_ (Kd.R_elder' HO857.out (Kd.R_base ho0) hb); have n2_ := A_ (Kd.R_lower (Kd.R_new' ho0 (Kd.R_lt HO857.out)) (below_size HB.out)); have n3_ := A_ (below_step HB.out hb); clear HO854 HO857 HB; revert n0_ n1_ n2_ n3_; intro HO854 HO857 HO861 HB; clear hb ho0; obtain ⟨Ao64, co64, eo64⟩ := Kd.R_slice HO861.out; subst eo64; obtain ⟨Ao65, co65, eo65⟩ := Kd.R_slice HO857.out; subst eo65) | (go_at_call 33; (with_reducible refine (laws_sameInts.calls kj8 _ _ t859 _ _ t855 t862 _ ?side1 ?side2 ?side3 ?side4 A62.out).mono ?_); (case side1 => repeat (first | exact (Kd.R_reads' HO861.out).2.2 | (with_reducible refine Kd.C_alloc ?_ _) | (with_reducible refine Kd.C_drewN ?_ _) | (with_reducible refine Kd.C_drew ?_))); (case side2 => exact (Kd.R_reads' HO861.out).2.1); (case side3 => repeat (first | exact (Kd.R_reads' HO857.out).2.2 | (with_reducible refine Kd.C_alloc ?_ _) | (with_reducible refine Kd.C_drewN ?_ _) | (with_reducible refine Kd.C_drew ?_))); (case side4 => exact (Kd.R_reads' HO857.out).2.1); rintro e w' ⟨rfl, ⟨nd, rfl⟩⟩))
      go_meet
      case rel => exact ⟨_, (!t862), (by rfl), H', ⟨by have := HJ8.out; first | omega | exact Nat.le_refl _⟩, ⟨by repeat (first | (with_reducible first | exact HB.out | apply below_alloc | apply pw_below_drewN | apply below_drew1) | exact HB.out)⟩⟩
    replace c60 := Bool.eq_false_iff.mpr c60
    subst c60
    rw [if_neg (show ¬ (false = true) by decide)] at H
    as_aux_lemma =>
     have H' := A_ H
     clear H
     go_wp2
     go_meet
     case rel => exact ⟨_, (true), (by rfl), H', ⟨by have := HJ8.out; first | omega | exact Nat.le_refl _⟩, ⟨HB.out⟩⟩
   case rest => as_aux_lemma =>
    clear HC49
    obtain ⟨kq, x81_48, rfl, HA, HJ48, HB⟩ := hcut
    cases kq with
    | zero => exact absurd HA.out (by simp [laws_FnFibonacci.j1])
    | succ kj48 =>
     have H := HA.out
     clear HA
     simp only [laws_FnFibonacci.j1] at H
     by_cases c66 : x81_48 = true
     ·subst c66
      rw [if_pos rfl] at H
      as_aux_lemma =>
       obtain rfl := Option.some.inj H
       go_wp2
       go_ret
       exact ⟨by rfl, HB.out⟩
     replace c66 := Bool.eq_false_iff.mpr c66
     subst c66
     rw [if_neg (show ¬ (false = true) by decide)] at H
     replace H := Option.bind_eq_some_iff.mp H
     obtain ⟨t863, A670, H⟩ := H
     have A67 := A_ A670
     clear A670
     replace H := Option.bind_eq_some_iff.mp H
     obtain ⟨t864, A680, H⟩ := H
     have A68 := A_ A680
     clear A680
     replace H := Option.bind_eq_some_iff.mp H
     obtain ⟨t865, A690, H⟩ := H
     have A69 := A_ A690
     clear A690
     have HC70 := A_ H
     clear H
     go_upto_region 16 with (first | ((with_reducible refine gate_callee (f := 54) rfl ?_); refine goesL_ (some 83) rfl rfl Try.func54 (by kernel_rfl) rfl #[.slice A0 l0.length c0, .int .i64 3] rfl (by (try simp only [mA, mB, mC]); first | done | rfl | (simp only [List.length_drop, List.length_take]; rfl)) ?_; (with_reducible refine (laws_at.calls _ _ l0 3 t863 _ ?side1 ?side2 A67.out).mono ?_); (case side1 => repeat (first | exact (Kd.C_below HR0.out HB.out) | (with_reducible refine Kd.C_alloc ?_ _) | (with_reducible refine Kd.C_drewN ?_ _) | (with_reducible refine Kd.C_drew ?_))); (case side2 => exact HC0.out); rintro e w' ⟨rfl, ⟨nd, rfl⟩⟩; refine ⟨_, rfl, ?_⟩) | ((with_reducible refine gate_callee (f := 15) rfl ?_); refine goesL_ (some 87) rfl rfl Try.func15 (by kernel_rfl) rfl #[.int .i64 (wrap64 (1 + (Int.tmod t863 100)))] rfl (by (try simp only [mA, mB, mC]); first | done | rfl | (simp only [List.length_drop, List.length_take]; rfl)) ?_; (with_reducible refine (impl_LowerWythoff.calls kj48 (wrap64 (1 + (Int.tmod t863 100))) t864 _ A68.out).mono ?_); rintro e w71 ⟨rfl, hb⟩; refine ⟨_, rfl, ?_⟩; have n0_ := A_ (below_step (by repeat (first | (with_reducible first | exact HB.out | apply below_alloc | apply pw_below_drewN | apply below_drew1) | exact HB.out)) hb); clear HB; revert n0_; intro HB; clear hb; (try clear hi)) | ((with_reducible refine gate_callee (f := 17) rfl ?_); refine goesL_ (some 89) rfl rfl Try.func17 (by kernel_rfl) rfl #[.int .i64 (wrap64 (1 + (Int.tmod t863 100)))] rfl (by (try simp only [mA, mB, mC]); first | done | rfl | (simp only [List.length_drop, List.length_take]; rfl)) ?_; (with_reducible refine (impl_UpperWythoff.calls kj48 (wrap64 (1 + (Int.tmod t863 100))) t865 _ A69.out).mono ?_); rintro e w72 ⟨rfl, hb⟩; refine ⟨_, rfl, ?_⟩; have n0_ := A_ (below_step HB.out hb); clear HB; revert n0_; intro HB; clear hb; (try clear hi)))
     (try simp only [Act.put, mD, mE, mF])
     go_cut [117] (fun v117 wc => ∃ (kq : Nat) (x117_69 : Bool), v117 = .bool x117_69 ∧ Aside0 (laws_FnFibonacci.j2 kq l0 t864 t865 x117_69 = some r) ∧ Aside0 (kq ≤ kj48) ∧ Aside0 (Below w.heap.size w wc))
     case first => as_aux_lemma =>
      have H := HC70.out
      clear HC70
      replace H := Option.bind_eq_some_iff.mp H
      obtain ⟨t866, A730, H⟩ := H
      have A73 := A_ A730
      clear A730
      by_cases c74 : t864 = t866
      ·rw [if_pos c74] at H
       have c74b0 : (t864 == t866) = true := beq_iff_eq.mpr c74
       have c74b1 : (t864 != t866) = false := bne_eq_false_iff_eq.mpr c74
       clear c74
       (first | rw [c74b0] | (simp only [i64_w, i32_w]; rw [c74b0]) | skip)
       by_cases c75 : t865 = (wrap64 (t864 + (wrap64 (1 + (Int.tmod t863 100)))))
       ·rw [if_pos c75] at H
        have c75b0 : (t865 == (wrap64 (t864 + (wrap64 (1 + (Int.tmod t863 100)))))) = true := beq_iff_eq.mpr c75
        have c75b1 : (t865 != (wrap64 (t864 + (wrap64 (1 + (Int.tmod t863 100)))))) = false := bne_eq_false_iff_eq.mpr c75
        clear c75
        replace H := Option.bind_eq_some_iff.mp H
        obtain ⟨t867, A760, H⟩ := H
        have A76 := A_ A760
        clear A760
        by_cases c77 : t867 = 0
        ·rw [if_pos c77] at H
         have c77b0 : (t867 == 0) = true := beq_iff_eq.mpr c77
         have c77b1 : (t867 != 0) = false := bne_eq_false_iff_eq.mpr c77
         clear c77
         by_cases c78 : (wrap64 (1 + (Int.tmod t863 100))) > 1
         ·rw [if_pos c78] at H
          have c78b0 : decide (1 < (wrap64 (1 + (Int.tmod t863 100)))) = true := decide_eq_true c78
          clear c78
          replace H := Option.bind_eq_some_iff.mp H
          obtain ⟨t868, A790, H⟩ := H
          have A79 := A_ A790
          clear A790
          as_aux_lemma =>
           have H' := A_ H
           clear H
           go_wp2_with (first | ((with_reducible refine gate_callee (f := 14) rfl ?_); refine goesL_ (some 92) rfl rfl Try.func14 (by kernel_rfl) rfl #[.int .i64 (wrap64 (1 + (Int.tmod t863 100)))] rfl (by (try simp only [mA, mB, mC]); first | done | rfl | (simp only [List.length_drop, List.length_take]; rfl)) ?_; (with_reducible refine (spec_LowerWythoff.calls kj48 (wrap64 (1 + (Int.tmod t863 100))) t866 _ A73.out).mono ?_); rintro e w80 ⟨rfl, hb⟩; refine ⟨_, rfl, ?_⟩; have n0_ := A_ (below_step HB.out hb); clear HB; revert n0_; intro HB; clear hb; (try clear hi)) | (go_at_call 13; (with_reducible refine (impl_FibonacciLetter.calls kj48 (wrap64 (t864 - 1)) t867 _ A76.out).mono ?_); rintro e w81 ⟨rfl, hb⟩; have n0_ := A_ (below_step HB.out hb); clear HB; revert n0_; intro HB; clear hb; (try clear hi)) | (go_at_call 14; (with_reducible refine (spec_LowerWythoff.calls kj48 (wrap64 ((wrap64 (1 + (Int.tmod t863 100))) - 1)) t868 _ A79.out).mono ?_); rintro e w82 ⟨rfl, hb⟩; have n0_ := A_ (below_step HB.out hb); clear HB; revert n0_; intro HB; clear hb; (try clear hi)))
           go_meet
           case rel => exact ⟨_, (decide (t864 ≤ t868)), (by rfl), H', ⟨by have := HJ8.out; have := HJ48.out; first | omega | exact Nat.le_refl _⟩, ⟨HB.out⟩⟩
         rw [if_neg c78] at H
         have c78b0 : decide (1 < (wrap64 (1 + (Int.tmod t863 100)))) = false := decide_eq_false c78
         clear c78
         as_aux_lemma =>
          have H' := A_ H
          clear H
          go_wp2_with (first | ((with_reducible refine gate_callee (f := 14) rfl ?_); refine goesL_ (some 92) rfl rfl Try.func14 (by kernel_rfl) rfl #[.int .i64 (wrap64 (1 + (Int.tmod t863 100)))] rfl (by (try simp only [mA, mB, mC]); first | done | rfl | (simp only [List.length_drop, List.length_take]; rfl)) ?_; (with_reducible refine (spec_LowerWythoff.calls kj48 (wrap64 (1 + (Int.tmod t863 100))) t866 _ A73.out).mono ?_); rintro e w83 ⟨rfl, hb⟩; refine ⟨_, rfl, ?_⟩; have n0_ := A_ (below_step HB.out hb); clear HB; revert n0_; intro HB; clear hb; (try clear hi)) | (go_at_call 13; (with_reducible refine (impl_FibonacciLetter.calls kj48 (wrap64 (t864 - 1)) t867 _ A76.out).mono ?_); rintro e w84 ⟨rfl, hb⟩; have n0_ := A_ (below_step HB.out hb); clear HB; revert n0_; intro HB; clear hb; (try clear hi)))
          go_meet
          case rel => exact ⟨_, (false), (by rfl), H', ⟨by have := HJ8.out; have := HJ48.out; first | omega | exact Nat.le_refl _⟩, ⟨HB.out⟩⟩
        rw [if_neg c77] at H
        have c77b0 : (t867 == 0) = false := beq_eq_false_iff_ne.mpr c77
        have c77b1 : (t867 != 0) = true := bne_iff_ne.mpr c77
        as_aux_lemma =>
         have H' := A_ H
         clear H
         go_wp2_with (first | ((with_reducible refine gate_callee (f := 14) rfl ?_); refine goesL_ (some 92) rfl rfl Try.func14 (by kernel_rfl) rfl #[.int .i64 (wrap64 (1 + (Int.tmod t863 100)))] rfl (by (try simp only [mA, mB, mC]); first | done | rfl | (simp only [List.length_drop, List.length_take]; rfl)) ?_; (with_reducible refine (spec_LowerWythoff.calls kj48 (wrap64 (1 + (Int.tmod t863 100))) t866 _ A73.out).mono ?_); rintro e w85 ⟨rfl, hb⟩; refine ⟨_, rfl, ?_⟩; have n0_ := A_ (below_step HB.out hb); clear HB; revert n0_; intro HB; clear hb; (try clear hi)) | (go_at_call 13; (with_reducible refine (impl_FibonacciLetter.calls kj48 (wrap64 (t864 - 1)) t867 _ A76.out).mono ?_); rintro e w86 ⟨rfl, hb⟩; have n0_ := A_ (below_step HB.out hb); clear HB; revert n0_; intro HB; clear hb; (try clear hi)))
         go_meet
         case rel => exact ⟨_, (true), (by rfl), H', ⟨by have := HJ8.out; have := HJ48.out; first | omega | exact Nat.le_refl _⟩, ⟨HB.out⟩⟩
       rw [if_neg c75] at H
       have c75b0 : (t865 == (wrap64 (t864 + (wrap64 (1 + (Int.tmod t863 100)))))) = false := beq_eq_false_iff_ne.mpr c75
       have c75b1 : (t865 != (wrap64 (t864 + (wrap64 (1 + (Int.tmod t863 100)))))) = true := bne_iff_ne.mpr c75
       as_aux_lemma =>
        have H' := A_ H
        clear H
        go_wp2_with (first | ((with_reducible refine gate_callee (f := 14) rfl ?_); refine goesL_ (some 92) rfl rfl Try.func14 (by kernel_rfl) rfl #[.int .i64 (wrap64 (1 + (Int.tmod t863 100)))] rfl (by (try simp only [mA, mB, mC]); first | done | rfl | (simp only [List.length_drop, List.length_take]; rfl)) ?_; (with_reducible refine (spec_LowerWythoff.calls kj48 (wrap64 (1 + (Int.tmod t863 100))) t866 _ A73.out).mono ?_); rintro e w87 ⟨rfl, hb⟩; refine ⟨_, rfl, ?_⟩; have n0_ := A_ (below_step HB.out hb); clear HB; revert n0_; intro HB; clear hb; (try clear hi)))
        go_meet
        case rel => exact ⟨_, (true), (by rfl), H', ⟨by have := HJ8.out; have := HJ48.out; first | omega | exact Nat.le_refl _⟩, ⟨HB.out⟩⟩
      rw [if_neg c74] at H
      have c74b0 : (t864 == t866) = false := beq_eq_false_iff_ne.mpr c74
      have c74b1 : (t864 != t866) = true := bne_iff_ne.mpr c74
      (first | rw [c74b0] | (simp only [i64_w, i32_w]; rw [c74b0]) | skip)
      as_aux_lemma =>
       have H' := A_ H
       clear H
       go_wp2_with (first | ((with_reducible refine gate_callee (f := 14) rfl ?_); refine goesL_ (some 92) rfl rfl Try.func14 (by kernel_rfl) rfl #[.int .i64 (wrap64 (1 + (Int.tmod t863 100)))] rfl (by (try simp only [mA, mB, mC]); first | done | rfl | (simp only [List.length_drop, List.length_take]; rfl)) ?_; (with_reducible refine (spec_LowerWythoff.calls kj48 (wrap64 (1 + (Int.tmod t863 100))) t866 _ A73.out).mono ?_); rintro e w88 ⟨rfl, hb⟩; refine ⟨_, rfl, ?_⟩; have n0_ := A_ (below_step HB.out hb); clear HB; revert n0_; intro HB; clear hb; (try clear hi)))
       go_meet
       case rel => exact ⟨_, (true), (by rfl), H', ⟨by have := HJ8.out; have := HJ48.out; first | omega | exact Nat.le_refl _⟩, ⟨HB.out⟩⟩
     case rest => as_aux_lemma =>
      clear HC70
      obtain ⟨kq, x117_69, rfl, HA, HJ69, HB⟩ := hcut
      cases kq with
      | zero => exact absurd HA.out (by simp [laws_FnFibonacci.j2])
      | succ kj69 =>
       have H := HA.out
       clear HA
       simp only [laws_FnFibonacci.j2] at H
       by_cases c89 : x117_69 = true
       ·subst c89
        rw [if_pos rfl] at H
        as_aux_lemma =>
         obtain rfl := Option.some.inj H
         go_wp2
         go_ret
         exact ⟨by rfl, HB.out⟩
       replace c89 := Bool.eq_false_iff.mpr c89
       subst c89
       rw [if_neg (show ¬ (false = true) by decide)] at H
       have HC90 := A_ H
       clear H
       go_upto_region 18 with (fail)
       go_cut [143] (fun v143 wc => ∃ (kq : Nat) (x143_89 : Bool), v143 = .bool x143_89 ∧ Aside0 (laws_FnFibonacci.j3 kq l0 x143_89 = some r) ∧ Aside0 (kq ≤ kj69) ∧ Aside0 (Below w.heap.size w wc))
       case first => as_aux_lemma =>
        have H := HC90.out
        clear HC90
        by_cases c91 : t865 ≤ 200
        ·rw [if_pos c91] at H
         have c91b0 : decide (t865 ≤ 200) = true := decide_eq_true c91
         clear c91
         (first | rw [c91b0] | (simp only [i64_w, i32_w]; rw [c91b0]) | skip)
         replace H := Option.bind_eq_some_iff.mp H
         obtain ⟨t869, A920, H⟩ := H
         have A92 := A_ A920
         clear A920
         by_cases c93 : t869 = true
         ·subst c93
          rw [if_pos rfl] at H
          replace H := Option.bind_eq_some_iff.mp H
          obtain ⟨t870, A940, H⟩ := H
          have A94 := A_ A940
          clear A940
          by_cases c95 : t870 = true
          ·subst c95
           rw [if_pos rfl] at H
           replace H := Option.bind_eq_some_iff.mp H
           obtain ⟨t871, A960, H⟩ := H
           have A96 := A_ A960
           clear A960
           by_cases c97 : t871 = true
           ·subst c97
            rw [if_pos rfl] at H
            as_aux_lemma =>
             have H' := A_ H
             clear H
             go_wp2_with (first | (go_at_call 24; (with_reducible refine (impl_IsColdPair.calls kj69 t864 t865 true _ A92.out).mono ?_); rintro e w98 ⟨rfl, hb⟩; have n0_ := A_ (below_step HB.out hb); clear HB; revert n0_; intro HB; clear hb; (try clear hi)) | (go_at_call 24; (with_reducible refine (impl_IsColdPair.calls kj69 t865 t864 true _ A94.out).mono ?_); rintro e w99 ⟨rfl, hb⟩; have n0_ := A_ (below_step HB.out hb); clear HB; revert n0_; intro HB; clear hb; (try clear hi)) | (go_at_call 24; (with_reducible refine (impl_IsColdPair.calls kj69 t864 (wrap64 (t865 + 1)) true _ A96.out).mono ?_); rintro e w100 ⟨rfl, hb⟩; have n0_ := A_ (below_step HB.out hb); clear HB; revert n0_; intro HB; clear hb; (try clear hi)))
             go_meet
             case rel => exact ⟨_, (true), (by rfl), H', ⟨by have := HJ8.out; have := HJ48.out; have := HJ69.out; first | omega | exact Nat.le_refl _⟩, ⟨HB.out⟩⟩
           replace c97 := Bool.eq_false_iff.mpr c97
           subst c97
           rw [if_neg (show ¬ (false = true) by decide)] at H
           replace H := Option.bind_eq_some_iff.mp H
           obtain ⟨t872, A1010, H⟩ := H
           have A101 := A_ A1010
           clear A1010
           as_aux_lemma =>
            have H' := A_ H
            clear H
            go_wp2_with (first | (go_at_call 24; (with_reducible refine (impl_IsColdPair.calls kj69 t864 t865 true _ A92.out).mono ?_); rintro e w102 ⟨rfl, hb⟩; have n0_ := A_ (below_step HB.out hb); clear HB; revert n0_; intro HB; clear hb; (try clear hi)) | (go_at_call 24; (with_reducible refine (impl_IsColdPair.calls kj69 t865 t864 true _ A94.out).mono ?_); rintro e w103 ⟨rfl, hb⟩; have n0_ := A_ (below_step HB.out hb); clear HB; revert n0_; intro HB; clear hb; (try clear hi)) | (go_at_call 24; (with_reducible refine (impl_IsColdPair.calls kj69 t864 (wrap64 (t865 + 1)) false _ A96.out).mono ?_); rintro e w104 ⟨rfl, hb⟩; have n0_ := A_ (below_step HB.out hb); clear HB; revert n0_; intro HB; clear hb; (try clear hi)) | (go_at_call 13; (with_reducible refine (impl_FibonacciLetter.calls kj69 (wrap64 (t865 - 1)) t872 _ A101.out).mono ?_); rintro e w105 ⟨rfl, hb⟩; have n0_ := A_ (below_step HB.out hb); clear HB; revert n0_; intro HB; clear hb; (try clear hi)))
            go_meet
            case rel => exact ⟨_, ((t872 != 1)), (by rfl), H', ⟨by have := HJ8.out; have := HJ48.out; have := HJ69.out; first | omega | exact Nat.le_refl _⟩, ⟨HB.out⟩⟩
          replace c95 := Bool.eq_false_iff.mpr c95
          subst c95
          rw [if_neg (show ¬ (false = true) by decide)] at H
          as_aux_lemma =>
           have H' := A_ H
           clear H
           go_wp2_with (first | (go_at_call 24; (with_reducible refine (impl_IsColdPair.calls kj69 t864 t865 true _ A92.out).mono ?_); rintro e w106 ⟨rfl, hb⟩; have n0_ := A_ (below_step HB.out hb); clear HB; revert n0_; intro HB; clear hb; (try clear hi)) | (go_at_call 24; (with_reducible refine (impl_IsColdPair.calls kj69 t865 t864 false _ A94.out).mono ?_); rintro e w107 ⟨rfl, hb⟩; have n0_ := A_ (below_step HB.out hb); clear HB; revert n0_; intro HB; clear hb; (try clear hi)))
           go_meet
           case rel => exact ⟨_, (true), (by rfl), H', ⟨by have := HJ8.out; have := HJ48.out; have := HJ69.out; first | omega | exact Nat.le_refl _⟩, ⟨HB.out⟩⟩
         replace c93 := Bool.eq_false_iff.mpr c93
         subst c93
         rw [if_neg (show ¬ (false = true) by decide)] at H
         as_aux_lemma =>
          have H' := A_ H
          clear H
          go_wp2_with (first | (go_at_call 24; (with_reducible refine (impl_IsColdPair.calls kj69 t864 t865 false _ A92.out).mono ?_); rintro e w108 ⟨rfl, hb⟩; have n0_ := A_ (below_step HB.out hb); clear HB; revert n0_; intro HB; clear hb; (try clear hi)))
          go_meet
          case rel => exact ⟨_, (true), (by rfl), H', ⟨by have := HJ8.out; have := HJ48.out; have := HJ69.out; first | omega | exact Nat.le_refl _⟩, ⟨HB.out⟩⟩
        rw [if_neg c91] at H
        have c91b0 : decide (t865 ≤ 200) = false := decide_eq_false c91
        clear c91
        (first | rw [c91b0] | (simp only [i64_w, i32_w]; rw [c91b0]) | skip)
        as_aux_lemma =>
         have H' := A_ H
         clear H
         go_wp2
         go_meet
         case rel => exact ⟨_, (false), (by rfl), H', ⟨by have := HJ8.out; have := HJ48.out; have := HJ69.out; first | omega | exact Nat.le_refl _⟩, ⟨HB.out⟩⟩
       case rest => as_aux_lemma =>
        clear HC90
        obtain ⟨kq, x143_89, rfl, HA, HJ89, HB⟩ := hcut
        cases kq with
        | zero => exact absurd HA.out (by simp [laws_FnFibonacci.j3])
        | succ kj89 =>
         have H := HA.out
         clear HA
         simp only [laws_FnFibonacci.j3] at H
         by_cases c109 : x143_89 = true
         ·subst c109
          rw [if_pos rfl] at H
          as_aux_lemma =>
           obtain rfl := Option.some.inj H
           go_wp2
           go_ret
           exact ⟨by rfl, HB.out⟩
         replace c109 := Bool.eq_false_iff.mpr c109
         subst c109
         rw [if_neg (show ¬ (false = true) by decide)] at H
         replace H := Option.bind_eq_some_iff.mp H
         obtain ⟨⟨t873, t874⟩, A1100, H⟩ := H
         dsimp only at H
         have A110 := A_ A1100
         clear A1100
         replace H := Option.bind_eq_some_iff.mp H
         obtain ⟨⟨t875, t876⟩, A1110, H⟩ := H
         dsimp only at H
         have A111 := A_ A1110
         clear A1110
         replace H := Option.bind_eq_some_iff.mp H
         obtain ⟨t879, A1120, H⟩ := H
         have A112 := A_ A1120
         clear A1120
         replace H := Option.bind_eq_some_iff.mp H
         obtain ⟨t880, A1130, H⟩ := H
         have A113 := A_ A1130
         clear A1130
         replace H := Option.bind_eq_some_iff.mp H
         obtain ⟨t881, A1140, H⟩ := H
         have A114 := A_ A1140
         clear A1140
         replace H := Option.bind_eq_some_iff.mp H
         obtain ⟨t882, A1150, H⟩ := H
         have A115 := A_ A1150
         clear A1150
         by_cases c116 : (t881 == t882) = true
         ·rw [if_pos c116] at H
          have c116b0 : (t881 == t882) = true := c116
          (try (have c116b1 : decide (t881 = t882) = true := by simpa using c116))
          (try (have c116b2 : (t881 == t882) = true := by simpa using c116))
          clear c116
          replace H := Option.bind_eq_some_iff.mp H
          obtain ⟨t883, A1170, H⟩ := H
          have A117 := A_ A1170
          clear A1170
          replace H := Option.bind_eq_some_iff.mp H
          obtain ⟨t884, A1180, H⟩ := H
          have A118 := A_ A1180
          clear A1180
          by_cases c119 : t883 = t884
          ·rw [if_pos c119] at H
           have c119b0 : (t883 == t884) = true := beq_iff_eq.mpr c119
           have c119b1 : (t883 != t884) = false := bne_eq_false_iff_eq.mpr c119
           clear c119
           replace H := Option.bind_eq_some_iff.mp H
           obtain ⟨t885, A1200, H⟩ := H
           have A120 := A_ A1200
           clear A1200
           replace H := Option.bind_eq_some_iff.mp H
           obtain ⟨t886, A1210, H⟩ := H
           have A121 := A_ A1210
           clear A1210
           by_cases c122 : t885 = t886
           ·rw [if_pos c122] at H
            have c122b0 : (t885 == t886) = true := beq_iff_eq.mpr c122
            have c122b1 : (t885 != t886) = false := bne_eq_false_iff_eq.mpr c122
            clear c122
            replace H := Option.bind_eq_some_iff.mp H
            obtain ⟨t887, A1230, H⟩ := H
            have A123 := A_ A1230
            clear A1230
            replace H := Option.bind_eq_some_iff.mp H
            obtain ⟨t888, A1240, H⟩ := H
            have A124 := A_ A1240
            clear A1240
            by_cases c125 : t887 = t888
            ·rw [if_pos c125] at H
             have c125b0 : (t887 == t888) = true := beq_iff_eq.mpr c125
             have c125b1 : (t887 != t888) = false := bne_eq_false_iff_eq.mpr c125
             clear c125
             replace H := Option.bind_eq_some_iff.mp H
             obtain ⟨t889, A1260, H⟩ := H
             have A126 := A_ A1260
             clear A1260
             replace H := Option.bind_eq_some_iff.mp H
             obtain ⟨t890, A1270, H⟩ := H
             have A127 := A_ A1270
             clear A1270
             as_aux_lemma =>
              obtain rfl := Option.some.inj H
              go_wp2_with (first | ((with_reducible refine gate_callee (f := 55) rfl ?_); refine goesL_ (some 146) rfl rfl Try.func55 (by kernel_rfl) rfl #[.slice A0 l0.length c0] rfl (by (try simp only [mA, mB, mC]); first | done | rfl | (simp only [List.length_drop, List.length_take]; rfl)) ?_; (with_reducible refine (spec_DrawIsColdPair.calls kj89 _ _ l0 t873 t874 _ ?side1 ?side2 A110.out).mono ?_); (case side1 => repeat (first | exact (Kd.C_below HR0.out HB.out) | (with_reducible refine Kd.C_alloc ?_ _) | (with_reducible refine Kd.C_drewN ?_ _) | (with_reducible refine Kd.C_drew ?_))); (case side2 => exact HC0.out); rintro e w128 ⟨rfl, hb⟩; refine ⟨_, rfl, ?_⟩; have n0_ := A_ (below_step HB.out hb); clear HB; revert n0_; intro HB; clear hb; (try clear hi)) | ((with_reducible refine gate_callee (f := 56) rfl ?_); refine goesL_ (some 151) rfl rfl Try.func56 (by kernel_rfl) rfl #[.slice A0 l0.length c0] rfl (by (try simp only [mA, mB, mC]); first | done | rfl | (simp only [List.length_drop, List.length_take]; rfl)) ?_; (with_reducible refine (spec_DrawCountLetters.calls kj89 _ _ l0 t875 t876 _ ?side1 ?side2 A111.out).mono ?_); (case side1 => repeat (first | exact (Kd.C_below HR0.out HB.out) | (with_reducible refine Kd.C_alloc ?_ _) | (with_reducible refine Kd.C_drewN ?_ _) | (with_reducible refine Kd.C_drew ?_))); (case side2 => exact HC0.out); rintro e w129 ⟨v877, rfl, ho0, hb⟩; refine ⟨_, rfl, ?_⟩; have n0_ := A_ (Kd.R_lower ho0 (below_size HB.out)); have n1_ := A_ (below_step HB.out hb); clear HB; revert n0_ n1_; intro HO878 HB; clear hb; (try clear ho0)) | ((with_reducible refine gate_callee (f := 57) rfl ?_); refine goesL_ (some 155) rfl rfl Try.func57 (by kernel_rfl) rfl #[.slice A0 l0.length c0] rfl (by (try simp only [mA, mB, mC]); first | done | rfl | (simp only [List.length_drop, List.length_take]; rfl)) ?_; (with_reducible refine (spec_DrawFibonacciLetter.calls kj89 _ _ l0 t879 _ ?side1 ?side2 A112.out).mono ?_); (case side1 => repeat (first | exact (Kd.C_below HR0.out HB.out) | (with_reducible refine Kd.C_alloc ?_ _) | (with_reducible refine Kd.C_drewN ?_ _) | (with_reducible refine Kd.C_drew ?_))); (case side2 => exact HC0.out); rintro e w130 ⟨rfl, hb⟩; refine ⟨_, rfl, ?_⟩; have n0_ := A_ (Kd.R_below HO878.out hb); have n1_ := A_ (below_step HB.out hb); clear HO878 HB; revert n0_ n1_; intro HO878 HB; clear hb; (try clear hi)) | ((with_reducible refine gate_callee (f := 58) rfl ?_); refine goesL_ (some 157) rfl rfl Try.func58 (by kernel_rfl) rfl #[.slice A0 l0.length c0] rfl (by (try simp only [mA, mB, mC]); first | done | rfl | (simp only [List.length_drop, List.length_take]; rfl)) ?_; (with_reducible refine (spec_DrawLowerWythoff.calls kj89 _ _ l0 t880 _ ?side1 ?side2 A113.out).mono ?_); (case side1 => repeat (first | exact (Kd.C_below HR0.out HB.out) | (with_reducible refine Kd.C_alloc ?_ _) | (with_reducible refine Kd.C_drewN ?_ _) | (with_reducible refine Kd.C_drew ?_))); (case side2 => exact HC0.out); rintro e w131 ⟨rfl, hb⟩; refine ⟨_, rfl, ?_⟩; have n0_ := A_ (Kd.R_below HO878.out hb); have n1_ := A_ (below_step HB.out hb); clear HO878 HB; revert n0_ n1_; intro HO878 HB; clear hb; (try clear hi)) | ((with_reducible refine gate_callee (f := 24) rfl ?_); refine goesL_ (some 160) rfl rfl Try.func24 (by kernel_rfl) rfl #[.int .i64 t873, .int .i64 t874] rfl (by (try simp only [mA, mB, mC]); first | done | rfl | (simp only [List.length_drop, List.length_take]; rfl)) ?_; (with_reducible refine (impl_IsColdPair.calls kj89 t873 t874 t881 _ A114.out).mono ?_); rintro e w132 ⟨rfl, hb⟩; refine ⟨_, rfl, ?_⟩; have n0_ := A_ (Kd.R_below HO878.out hb); have n1_ := A_ (below_step HB.out hb); clear HO878 HB; revert n0_ n1_; intro HO878 HB; clear hb; (try clear hi)) | ((with_reducible refine gate_callee (f := 23) rfl ?_); refine goesL_ (some 163) rfl rfl Try.func23 (by kernel_rfl) rfl #[.int .i64 t873, .int .i64 t874] rfl (by (try simp only [mA, mB, mC]); first | done | rfl | (simp only [List.length_drop, List.length_take]; rfl)) ?_; (with_reducible refine (spec_IsColdPair.calls kj89 t873 t874 t882 _ A115.out).mono ?_); rintro e w133 ⟨rfl, hb⟩; refine ⟨_, rfl, ?_⟩; have n0_ := A_ (Kd.R_below HO878.out hb); have n1_ := A_ (below_step HB.out hb); clear HO878 HB; revert n0_ n1_; intro HO878 HB; clear hb; obtain ⟨Ao134, co134, eo134⟩ := Kd.R_slice HO878.out; subst eo134) | (go_at_call 59; (with_reducible refine (impl_CountLetters.calls kj89 _ _ t875 t876 t883 _ ?side1 ?side2 A117.out).mono ?_); (case side1 => repeat (first | exact (Kd.R_reads' HO878.out).2.2 | (with_reducible refine Kd.C_alloc ?_ _) | (with_reducible refine Kd.C_drewN ?_ _) | (with_reducible refine Kd.C_drew ?_))); (case side2 => exact (Kd.R_reads' HO878.out).2.1); rintro e w' ⟨rfl, ⟨nd, rfl⟩⟩) | (go_at_call 60; (with_reducible refine (spec_CountLetters.calls kj89 _ _ t875 t876 t884 _ ?side1 ?side2 A118.out).mono ?_); (case side1 => repeat (first | exact (Kd.R_reads' HO878.out).2.2 | (with_reducible refine Kd.C_alloc ?_ _) | (with_reducible refine Kd.C_drewN ?_ _) | (with_reducible refine Kd.C_drew ?_))); (case side2 => exact (Kd.R_reads' HO878.out).2.1); rintro e w' ⟨rfl, ⟨nd, rfl⟩⟩) | (go_at_call 13; (with_reducible refine (impl_FibonacciLetter.calls kj89 t879 t885 _ A120.out).mono ?_); rintro e w135 ⟨rfl, hb⟩; have n0_ := A_ (Kd.R_below (by (with_reducible repeat (first | apply Kd.R_alloc | apply Kd.R_drewN | apply Kd.R_drew)); exact HO878.out) hb); have n1_ := A_ (below_step (by repeat (first | (with_reducible first | exact HB.out | apply below_alloc | apply pw_below_drewN | apply below_drew1) | exact HB.out)) hb); clear HO878 HB; revert n0_ n1_; intro HO878 HB; clear hb; (try clear hi)) | (go_at_call 12; (with_reducible refine (spec_FibonacciLetter.calls kj89 t879 t886 _ A121.out).mono ?_); rintro e w136 ⟨rfl, hb⟩; have n0_ := A_ (Kd.R_below HO878.out hb); have n1_ := A_ (below_step HB.out hb); clear HO878 HB; revert n0_ n1_; intro HO878 HB; clear hb; (try clear hi)) | (go_at_call 15; (with_reducible refine (impl_LowerWythoff.calls kj89 t880 t887 _ A123.out).mono ?_); rintro e w137 ⟨rfl, hb⟩; have n0_ := A_ (Kd.R_below HO878.out hb); have n1_ := A_ (below_step HB.out hb); clear HO878 HB; revert n0_ n1_; intro HO878 HB; clear hb; (try clear hi)) | (go_at_call 14; (with_reducible refine (spec_LowerWythoff.calls kj89 t880 t888 _ A124.out).mono ?_); rintro e w138 ⟨rfl, hb⟩; have n0_ := A_ (Kd.R_below HO878.out hb); have n1_ := A_ (below_step HB.out hb); clear HO878 HB; revert n0_ n1_; intro HO878 HB; clear hb; (try clear hi)) | (go_at_call 17; (with_reducible refine (impl_UpperWythoff.calls kj89 t880 t889 _ A126.out).mono ?_); rintro e w139 ⟨rfl, hb⟩; have n0_ := A_ (Kd.R_below HO878.out hb); have n1_ := A_ (below_step HB.out hb); clear HO878 HB; revert n0_ n1_; intro HO878 HB; clear hb; (try clear hi)) | (go_at_call 16; (with_reducible refine (spec_UpperWythoff.calls kj89 t880 t890 _ A127.out).mono ?_); rintro e w140 ⟨rfl, hb⟩; have n0_ := A_ (Kd.R_below HO878.out hb); have n1_ := A_ (below_step HB.out hb); clear HO878 HB; revert n0_ n1_; intro HO878 HB; clear hb; (try clear hi)))
              go_ret
              exact ⟨by rfl, HB.out⟩
            rw [if_neg c125] at H
            have c125b0 : (t887 == t888) = false := beq_eq_false_iff_ne.mpr c125
            have c125b1 : (t887 != t888) = true := bne_iff_ne.mpr c125
            as_aux_lemma =>
             obtain rfl := Option.some.inj H
             go_wp2_with (first | ((with_reducible refine gate_callee (f := 55) rfl ?_); refine goesL_ (some 146) rfl rfl Try.func55 (by kernel_rfl) rfl #[.slice A0 l0.length c0] rfl (by (try simp only [mA, mB, mC]); first | done | rfl | (simp only [List.length_drop, List.length_take]; rfl)) ?_; (with_reducible refine (spec_DrawIsColdPair.calls kj89 _ _ l0 t873 t874 _ ?side1 ?side2 A110.out).mono ?_); (case side1 => repeat (first | exact (Kd.C_below HR0.out HB.out) | (with_reducible refine Kd.C_alloc ?_ _) | (with_reducible refine Kd.C_drewN ?_ _) | (with_reducible refine Kd.C_drew ?_))); (case side2 => exact HC0.out); rintro e w141 ⟨rfl, hb⟩; refine ⟨_, rfl, ?_⟩; have n0_ := A_ (below_step HB.out hb); clear HB; revert n0_; intro HB; clear hb; (try clear hi)) | ((with_reducible refine gate_callee (f := 56) rfl ?_); refine goesL_ (some 151) rfl rfl Try.func56 (by kernel_rfl) rfl #[.slice A0 l0.length c0] rfl (by (try simp only [mA, mB, mC]); first | done | rfl | (simp only [List.length_drop, List.length_take]; rfl)) ?_; (with_reducible refine (spec_DrawCountLetters.calls kj89 _ _ l0 t875 t876 _ ?side1 ?side2 A111.out).mono ?_); (case side1 => repeat (first | exact (Kd.C_below HR0.out HB.out) | (with_reducible refine Kd.C_alloc ?_ _) | (with_reducible refine Kd.C_drewN ?_ _) | (with_reducible refine Kd.C_drew ?_))); (case side2 => exact HC0.out); rintro e w142 ⟨v877, rfl, ho0, hb⟩; refine ⟨_, rfl, ?_⟩; have n0_ := A_ (Kd.R_lower ho0 (below_size HB.out)); have n1_ := A_ (below_step HB.out hb); clear HB; revert n0_ n1_; intro HO878 HB; clear hb; (try clear ho0)) | ((with_reducible refine gate_callee (f := 57) rfl ?_); refine goesL_ (some 155) rfl rfl Try.func57 (by kernel_rfl) rfl #[.slice A0 l0.length c0] rfl (by (try simp only [mA, mB, mC]); first | done | rfl | (simp only [List.length_drop, List.length_take]; rfl)) ?_; (with_reducible refine (spec_DrawFibonacciLetter.calls kj89 _ _ l0 t879 _ ?side1 ?side2 A112.out).mono ?_); (case side1 => repeat (first | exact (Kd.C_below HR0.out HB.out) | (with_reducible refine Kd.C_alloc ?_ _) | (with_reducible refine Kd.C_drewN ?_ _) | (with_reducible refine Kd.C_drew ?_))); (case side2 => exact HC0.out); rintro e w143 ⟨rfl, hb⟩; refine ⟨_, rfl, ?_⟩; have n0_ := A_ (Kd.R_below HO878.out hb); have n1_ := A_ (below_step HB.out hb); clear HO878 HB; revert n0_ n1_; intro HO878 HB; clear hb; (try clear hi)) | ((with_reducible refine gate_callee (f := 58) rfl ?_); refine goesL_ (some 157) rfl rfl Try.func58 (by kernel_rfl) rfl #[.slice A0 l0.length c0] rfl (by (try simp only [mA, mB, mC]); first | done | rfl | (simp only [List.length_drop, List.length_take]; rfl)) ?_; (with_reducible refine (spec_DrawLowerWythoff.calls kj89 _ _ l0 t880 _ ?side1 ?side2 A113.out).mono ?_); (case side1 => repeat (first | exact (Kd.C_below HR0.out HB.out) | (with_reducible refine Kd.C_alloc ?_ _) | (with_reducible refine Kd.C_drewN ?_ _) | (with_reducible refine Kd.C_drew ?_))); (case side2 => exact HC0.out); rintro e w144 ⟨rfl, hb⟩; refine ⟨_, rfl, ?_⟩; have n0_ := A_ (Kd.R_below HO878.out hb); have n1_ := A_ (below_step HB.out hb); clear HO878 HB; revert n0_ n1_; intro HO878 HB; clear hb; (try clear hi)) | ((with_reducible refine gate_callee (f := 24) rfl ?_); refine goesL_ (some 160) rfl rfl Try.func24 (by kernel_rfl) rfl #[.int .i64 t873, .int .i64 t874] rfl (by (try simp only [mA, mB, mC]); first | done | rfl | (simp only [List.length_drop, List.length_take]; rfl)) ?_; (with_reducible refine (impl_IsColdPair.calls kj89 t873 t874 t881 _ A114.out).mono ?_); rintro e w145 ⟨rfl, hb⟩; refine ⟨_, rfl, ?_⟩; have n0_ := A_ (Kd.R_below HO878.out hb); have n1_ := A_ (below_step HB.out hb); clear HO878 HB; revert n0_ n1_; intro HO878 HB; clear hb; (try clear hi)) | ((with_reducible refine gate_callee (f := 23) rfl ?_); refine goesL_ (some 163) rfl rfl Try.func23 (by kernel_rfl) rfl #[.int .i64 t873, .int .i64 t874] rfl (by (try simp only [mA, mB, mC]); first | done | rfl | (simp only [List.length_drop, List.length_take]; rfl)) ?_; (with_reducible refine (spec_IsColdPair.calls kj89 t873 t874 t882 _ A115.out).mono ?_); rintro e w146 ⟨rfl, hb⟩; refine ⟨_, rfl, ?_⟩; have n0_ := A_ (Kd.R_below HO878.out hb); have n1_ := A_ (below_step HB.out hb); clear HO878 HB; revert n0_ n1_; intro HO878 HB; clear hb; obtain ⟨Ao147, co147, eo147⟩ := Kd.R_slice HO878.out; subst eo147) | (go_at_call 59; (with_reducible refine (impl_CountLetters.calls kj89 _ _ t875 t876 t883 _ ?side1 ?side2 A117.out).mono ?_); (case side1 => repeat (first | exact (Kd.R_reads' HO878.out).2.2 | (with_reducible refine Kd.C_alloc ?_ _) | (with_reducible refine Kd.C_drewN ?_ _) | (with_reducible refine Kd.C_drew ?_))); (case side2 => exact (Kd.R_reads' HO878.out).2.1); rintro e w' ⟨rfl, ⟨nd, rfl⟩⟩) | (go_at_call 60; (with_reducible refine (spec_CountLetters.calls kj89 _ _ t875 t876 t884 _ ?side1 ?side2 A118.out).mono ?_); (case side1 => repeat (first | exact (Kd.R_reads' HO878.out).2.2 | (with_reducible refine Kd.C_alloc ?_ _) | (with_reducible refine Kd.C_drewN ?_ _) | (with_reducible refine Kd.C_drew ?_))); (case side2 => exact (Kd.R_reads' HO878.out).2.1); rintro e w' ⟨rfl, ⟨nd, rfl⟩⟩) | (go_at_call 13; (with_reducible refine (impl_FibonacciLetter.calls kj89 t879 t885 _ A120.out).mono ?_); rintro e w148 ⟨rfl, hb⟩; have n0_ := A_ (Kd.R_below (by (with_reducible repeat (first | apply Kd.R_alloc | apply Kd.R_drewN | apply Kd.R_drew)); exact HO878.out) hb); have n1_ := A_ (below_step (by repeat (first | (with_reducible first | exact HB.out | apply below_alloc | apply pw_below_drewN | apply below_drew1) | exact HB.out)) hb); clear HO878 HB; revert n0_ n1_; intro HO878 HB; clear hb; (try clear hi)) | (go_at_call 12; (with_reducible refine (spec_FibonacciLetter.calls kj89 t879 t886 _ A121.out).mono ?_); rintro e w149 ⟨rfl, hb⟩; have n0_ := A_ (Kd.R_below HO878.out hb); have n1_ := A_ (below_step HB.out hb); clear HO878 HB; revert n0_ n1_; intro HO878 HB; clear hb; (try clear hi)) | (go_at_call 15; (with_reducible refine (impl_LowerWythoff.calls kj89 t880 t887 _ A123.out).mono ?_); rintro e w150 ⟨rfl, hb⟩; have n0_ := A_ (Kd.R_below HO878.out hb); have n1_ := A_ (below_step HB.out hb); clear HO878 HB; revert n0_ n1_; intro HO878 HB; clear hb; (try clear hi)) | (go_at_call 14; (with_reducible refine (spec_LowerWythoff.calls kj89 t880 t888 _ A124.out).mono ?_); rintro e w151 ⟨rfl, hb⟩; have n0_ := A_ (Kd.R_below HO878.out hb); have n1_ := A_ (below_step HB.out hb); clear HO878 HB; revert n0_ n1_; intro HO878 HB; clear hb; (try clear hi)))
             go_ret
             exact ⟨by rfl, HB.out⟩
           rw [if_neg c122] at H
           have c122b0 : (t885 == t886) = false := beq_eq_false_iff_ne.mpr c122
           have c122b1 : (t885 != t886) = true := bne_iff_ne.mpr c122
           as_aux_lemma =>
            obtain rfl := Option.some.inj H
            go_wp2_with (first | ((with_reducible refine gate_callee (f := 55) rfl ?_); refine goesL_ (some 146) rfl rfl Try.func55 (by kernel_rfl) rfl #[.slice A0 l0.length c0] rfl (by (try simp only [mA, mB, mC]); first | done | rfl | (simp only [List.length_drop, List.length_take]; rfl)) ?_; (with_reducible refine (spec_DrawIsColdPair.calls kj89 _ _ l0 t873 t874 _ ?side1 ?side2 A110.out).mono ?_); (case side1 => repeat (first | exact (Kd.C_below HR0.out HB.out) | (with_reducible refine Kd.C_alloc ?_ _) | (with_reducible refine Kd.C_drewN ?_ _) | (with_reducible refine Kd.C_drew ?_))); (case side2 => exact HC0.out); rintro e w152 ⟨rfl, hb⟩; refine ⟨_, rfl, ?_⟩; have n0_ := A_ (below_step HB.out hb); clear HB; revert n0_; intro HB; clear hb; (try clear hi)) | ((with_reducible refine gate_callee (f := 56) rfl ?_); refine goesL_ (some 151) rfl rfl Try.func56 (by kernel_rfl) rfl #[.slice A0 l0.length c0] rfl (by (try simp only [mA, mB, mC]); first | done | rfl | (simp only [List.length_drop, List.length_take]; rfl)) ?_; (with_reducible refine (spec_DrawCountLetters.calls kj89 _ _ l0 t875 t876 _ ?side1 ?side2 A111.out).mono ?_); (case side1 => repeat (first | exact (Kd.C_below HR0.out HB.out) | (with_reducible refine Kd.C_alloc ?_ _) | (with_reducible refine Kd.C_drewN ?_ _) | (with_reducible refine Kd.C_drew ?_))); (case side2 => exact HC0.out); rintro e w153 ⟨v877, rfl, ho0, hb⟩; refine ⟨_, rfl, ?_⟩; have n0_ := A_ (Kd.R_lower ho0 (below_size HB.out)); have n1_ := A_ (below_step HB.out hb); clear HB; revert n0_ n1_; intro HO878 HB; clear hb; (try clear ho0)) | ((with_reducible refine gate_callee (f := 57) rfl ?_); refine goesL_ (some 155) rfl rfl Try.func57 (by kernel_rfl) rfl #[.slice A0 l0.length c0] rfl (by (try simp only [mA, mB, mC]); first | done | rfl | (simp only [List.length_drop, List.length_take]; rfl)) ?_; (with_reducible refine (spec_DrawFibonacciLetter.calls kj89 _ _ l0 t879 _ ?side1 ?side2 A112.out).mono ?_); (case side1 => repeat (first | exact (Kd.C_below HR0.out HB.out) | (with_reducible refine Kd.C_alloc ?_ _) | (with_reducible refine Kd.C_drewN ?_ _) | (with_reducible refine Kd.C_drew ?_))); (case side2 => exact HC0.out); rintro e w154 ⟨rfl, hb⟩; refine ⟨_, rfl, ?_⟩; have n0_ := A_ (Kd.R_below HO878.out hb); have n1_ := A_ (below_step HB.out hb); clear HO878 HB; revert n0_ n1_; intro HO878 HB; clear hb; (try clear hi)) | ((with_reducible refine gate_callee (f := 58) rfl ?_); refine goesL_ (some 157) rfl rfl Try.func58 (by kernel_rfl) rfl #[.slice A0 l0.length c0] rfl (by (try simp only [mA, mB, mC]); first | done | rfl | (simp only [List.length_drop, List.length_take]; rfl)) ?_; (with_reducible refine (spec_DrawLowerWythoff.calls kj89 _ _ l0 t880 _ ?side1 ?side2 A113.out).mono ?_); (case side1 => repeat (first | exact (Kd.C_below HR0.out HB.out) | (with_reducible refine Kd.C_alloc ?_ _) | (with_reducible refine Kd.C_drewN ?_ _) | (with_reducible refine Kd.C_drew ?_))); (case side2 => exact HC0.out); rintro e w155 ⟨rfl, hb⟩; refine ⟨_, rfl, ?_⟩; have n0_ := A_ (Kd.R_below HO878.out hb); have n1_ := A_ (below_step HB.out hb); clear HO878 HB; revert n0_ n1_; intro HO878 HB; clear hb; (try clear hi)) | ((with_reducible refine gate_callee (f := 24) rfl ?_); refine goesL_ (some 160) rfl rfl Try.func24 (by kernel_rfl) rfl #[.int .i64 t873, .int .i64 t874] rfl (by (try simp only [mA, mB, mC]); first | done | rfl | (simp only [List.length_drop, List.length_take]; rfl)) ?_; (with_reducible refine (impl_IsColdPair.calls kj89 t873 t874 t881 _ A114.out).mono ?_); rintro e w156 ⟨rfl, hb⟩; refine ⟨_, rfl, ?_⟩; have n0_ := A_ (Kd.R_below HO878.out hb); have n1_ := A_ (below_step HB.out hb); clear HO878 HB; revert n0_ n1_; intro HO878 HB; clear hb; (try clear hi)) | ((with_reducible refine gate_callee (f := 23) rfl ?_); refine goesL_ (some 163) rfl rfl Try.func23 (by kernel_rfl) rfl #[.int .i64 t873, .int .i64 t874] rfl (by (try simp only [mA, mB, mC]); first | done | rfl | (simp only [List.length_drop, List.length_take]; rfl)) ?_; (with_reducible refine (spec_IsColdPair.calls kj89 t873 t874 t882 _ A115.out).mono ?_); rintro e w157 ⟨rfl, hb⟩; refine ⟨_, rfl, ?_⟩; have n0_ := A_ (Kd.R_below HO878.out hb); have n1_ := A_ (below_step HB.out hb); clear HO878 HB; revert n0_ n1_; intro HO878 HB; clear hb; obtain ⟨Ao158, co158, eo158⟩ := Kd.R_slice HO878.out; subst eo158) | (go_at_call 59; (with_reducible refine (impl_CountLetters.calls kj89 _ _ t875 t876 t883 _ ?side1 ?side2 A117.out).mono ?_); (case side1 => repeat (first | exact (Kd.R_reads' HO878.out).2.2 | (with_reducible refine Kd.C_alloc ?_ _) | (with_reducible refine Kd.C_drewN ?_ _) | (with_reducible refine Kd.C_drew ?_))); (case side2 => exact (Kd.R_reads' HO878.out).2.1); rintro e w' ⟨rfl, ⟨nd, rfl⟩⟩) | (go_at_call 60; (with_reducible refine (spec_CountLetters.calls kj89 _ _ t875 t876 t884 _ ?side1 ?side2 A118.out).mono ?_); (case side1 => repeat (first | exact (Kd.R_reads' HO878.out).2.2 | (with_reducible refine Kd.C_alloc ?_ _) | (with_reducible refine Kd.C_drewN ?_ _) | (with_reducible refine Kd.C_drew ?_))); (case side2 => exact (Kd.R_reads' HO878.out).2.1); rintro e w' ⟨rfl, ⟨nd, rfl⟩⟩) | (go_at_call 13; (with_reducible refine (impl_FibonacciLetter.calls kj89 t879 t885 _ A120.out).mono ?_); rintro e w159 ⟨rfl, hb⟩; have n0_ := A_ (Kd.R_below (by (with_reducible repeat (first | apply Kd.R_alloc | apply Kd.R_drewN | apply Kd.R_drew)); exact HO878.out) hb); have n1_ := A_ (below_step (by repeat (first | (with_reducible first | exact HB.out | apply below_alloc | apply pw_below_drewN | apply below_drew1) | exact HB.out)) hb); clear HO878 HB; revert n0_ n1_; intro HO878 HB; clear hb; (try clear hi)) | (go_at_call 12; (with_reducible refine (spec_FibonacciLetter.calls kj89 t879 t886 _ A121.out).mono ?_); rintro e w160 ⟨rfl, hb⟩; have n0_ := A_ (Kd.R_below HO878.out hb); have n1_ := A_ (below_step HB.out hb); clear HO878 HB; revert n0_ n1_; intro HO878 HB; clear hb; (try clear hi)))
            go_ret
            exact ⟨by rfl, HB.out⟩
          rw [if_neg c119] at H
          have c119b0 : (t883 == t884) = false := beq_eq_false_iff_ne.mpr c119
          have c119b1 : (t883 != t884) = true := bne_iff_ne.mpr c119
          as_aux_lemma =>
           obtain rfl := Option.some.inj H
           go_wp2_with (first | ((with_reducible refine gate_callee (f := 55) rfl ?_); refine goesL_ (some 146) rfl rfl Try.func55 (by kernel_rfl) rfl #[.slice A0 l0.length c0] rfl (by (try simp only [mA, mB, mC]); first | done | rfl | (simp only [List.length_drop, List.length_take]; rfl)) ?_; (with_reducible refine (spec_DrawIsColdPair.calls kj89 _ _ l0 t873 t874 _ ?side1 ?side2 A110.out).mono ?_); (case side1 => repeat (first | exact (Kd.C_below HR0.out HB.out) | (with_reducible refine Kd.C_alloc ?_ _) | (with_reducible refine Kd.C_drewN ?_ _) | (with_reducible refine Kd.C_drew ?_))); (case side2 => exact HC0.out); rintro e w161 ⟨rfl, hb⟩; refine ⟨_, rfl, ?_⟩; have n0_ := A_ (below_step HB.out hb); clear HB; revert n0_; intro HB; clear hb; (try clear hi)) | ((with_reducible refine gate_callee (f := 56) rfl ?_); refine goesL_ (some 151) rfl rfl Try.func56 (by kernel_rfl) rfl #[.slice A0 l0.length c0] rfl (by (try simp only [mA, mB, mC]); first | done | rfl | (simp only [List.length_drop, List.length_take]; rfl)) ?_; (with_reducible refine (spec_DrawCountLetters.calls kj89 _ _ l0 t875 t876 _ ?side1 ?side2 A111.out).mono ?_); (case side1 => repeat (first | exact (Kd.C_below HR0.out HB.out) | (with_reducible refine Kd.C_alloc ?_ _) | (with_reducible refine Kd.C_drewN ?_ _) | (with_reducible refine Kd.C_drew ?_))); (case side2 => exact HC0.out); rintro e w162 ⟨v877, rfl, ho0, hb⟩; refine ⟨_, rfl, ?_⟩; have n0_ := A_ (Kd.R_lower ho0 (below_size HB.out)); have n1_ := A_ (below_step HB.out hb); clear HB; revert n0_ n1_; intro HO878 HB; clear hb; (try clear ho0)) | ((with_reducible refine gate_callee (f := 57) rfl ?_); refine goesL_ (some 155) rfl rfl Try.func57 (by kernel_rfl) rfl #[.slice A0 l0.length c0] rfl (by (try simp only [mA, mB, mC]); first | done | rfl | (simp only [List.length_drop, List.length_take]; rfl)) ?_; (with_reducible refine (spec_DrawFibonacciLetter.calls kj89 _ _ l0 t879 _ ?side1 ?side2 A112.out).mono ?_); (case side1 => repeat (first | exact (Kd.C_below HR0.out HB.out) | (with_reducible refine Kd.C_alloc ?_ _) | (with_reducible refine Kd.C_drewN ?_ _) | (with_reducible refine Kd.C_drew ?_))); (case side2 => exact HC0.out); rintro e w163 ⟨rfl, hb⟩; refine ⟨_, rfl, ?_⟩; have n0_ := A_ (Kd.R_below HO878.out hb); have n1_ := A_ (below_step HB.out hb); clear HO878 HB; revert n0_ n1_; intro HO878 HB; clear hb; (try clear hi)) | ((with_reducible refine gate_callee (f := 58) rfl ?_); refine goesL_ (some 157) rfl rfl Try.func58 (by kernel_rfl) rfl #[.slice A0 l0.length c0] rfl (by (try simp only [mA, mB, mC]); first | done | rfl | (simp only [List.length_drop, List.length_take]; rfl)) ?_; (with_reducible refine (spec_DrawLowerWythoff.calls kj89 _ _ l0 t880 _ ?side1 ?side2 A113.out).mono ?_); (case side1 => repeat (first | exact (Kd.C_below HR0.out HB.out) | (with_reducible refine Kd.C_alloc ?_ _) | (with_reducible refine Kd.C_drewN ?_ _) | (with_reducible refine Kd.C_drew ?_))); (case side2 => exact HC0.out); rintro e w164 ⟨rfl, hb⟩; refine ⟨_, rfl, ?_⟩; have n0_ := A_ (Kd.R_below HO878.out hb); have n1_ := A_ (below_step HB.out hb); clear HO878 HB; revert n0_ n1_; intro HO878 HB; clear hb; (try clear hi)) | ((with_reducible refine gate_callee (f := 24) rfl ?_); refine goesL_ (some 160) rfl rfl Try.func24 (by kernel_rfl) rfl #[.int .i64 t873, .int .i64 t874] rfl (by (try simp only [mA, mB, mC]); first | done | rfl | (simp only [List.length_drop, List.length_take]; rfl)) ?_; (with_reducible refine (impl_IsColdPair.calls kj89 t873 t874 t881 _ A114.out).mono ?_); rintro e w165 ⟨rfl, hb⟩; refine ⟨_, rfl, ?_⟩; have n0_ := A_ (Kd.R_below HO878.out hb); have n1_ := A_ (below_step HB.out hb); clear HO878 HB; revert n0_ n1_; intro HO878 HB; clear hb; (try clear hi)) | ((with_reducible refine gate_callee (f := 23) rfl ?_); refine goesL_ (some 163) rfl rfl Try.func23 (by kernel_rfl) rfl #[.int .i64 t873, .int .i64 t874] rfl (by (try simp only [mA, mB, mC]); first | done | rfl | (simp only [List.length_drop, List.length_take]; rfl)) ?_; (with_reducible refine (spec_IsColdPair.calls kj89 t873 t874 t882 _ A115.out).mono ?_); rintro e w166 ⟨rfl, hb⟩; refine ⟨_, rfl, ?_⟩; have n0_ := A_ (Kd.R_below HO878.out hb); have n1_ := A_ (below_step HB.out hb); clear HO878 HB; revert n0_ n1_; intro HO878 HB; clear hb; obtain ⟨Ao167, co167, eo167⟩ := Kd.R_slice HO878.out; subst eo167) | (go_at_call 59; (with_reducible refine (impl_CountLetters.calls kj89 _ _ t875 t876 t883 _ ?side1 ?side2 A117.out).mono ?_); (case side1 => repeat (first | exact (Kd.R_reads' HO878.out).2.2 | (with_reducible refine Kd.C_alloc ?_ _) | (with_reducible refine Kd.C_drewN ?_ _) | (with_reducible refine Kd.C_drew ?_))); (case side2 => exact (Kd.R_reads' HO878.out).2.1); rintro e w' ⟨rfl, ⟨nd, rfl⟩⟩) | (go_at_call 60; (with_reducible refine (spec_CountLetters.calls kj89 _ _ t875 t876 t884 _ ?side1 ?side2 A118.out).mono ?_); (case side1 => repeat (first | exact (Kd.R_reads' HO878.out).2.2 | (with_reducible refine Kd.C_alloc ?_ _) | (with_reducible refine Kd.C_drewN ?_ _) | (with_reducible refine Kd.C_drew ?_))); (case side2 => exact (Kd.R_reads' HO878.out).2.1); rintro e w' ⟨rfl, ⟨nd, rfl⟩⟩))
           go_ret
           exact ⟨by rfl, by repeat (first | (with_reducible first | exact HB.out | apply below_alloc | apply pw_below_drewN | apply below_drew1) | exact HB.out)⟩
         rw [if_neg c116] at H
         have c116b0 : (t881 == t882) = false := by simpa using c116
         (try (have c116b1 : decide (t881 = t882) = false := by simpa using c116))
         (try (have c116b2 : (t881 == t882) = false := by simpa using c116))
         (try (have c116b3 : ¬ (t881 = t882) := by simpa using c116))
         clear c116
         as_aux_lemma =>
          obtain rfl := Option.some.inj H
          go_wp2_with (first | ((with_reducible refine gate_callee (f := 55) rfl ?_); refine goesL_ (some 146) rfl rfl Try.func55 (by kernel_rfl) rfl #[.slice A0 l0.length c0] rfl (by (try simp only [mA, mB, mC]); first | done | rfl | (simp only [List.length_drop, List.length_take]; rfl)) ?_; (with_reducible refine (spec_DrawIsColdPair.calls kj89 _ _ l0 t873 t874 _ ?side1 ?side2 A110.out).mono ?_); (case side1 => repeat (first | exact (Kd.C_below HR0.out HB.out) | (with_reducible refine Kd.C_alloc ?_ _) | (with_reducible refine Kd.C_drewN ?_ _) | (with_reducible refine Kd.C_drew ?_))); (case side2 => exact HC0.out); rintro e w168 ⟨rfl, hb⟩; refine ⟨_, rfl, ?_⟩; have n0_ := A_ (below_step HB.out hb); clear HB; revert n0_; intro HB; clear hb; (try clear hi)) | ((with_reducible refine gate_callee (f := 56) rfl ?_); refine goesL_ (some 151) rfl rfl Try.func56 (by kernel_rfl) rfl #[.slice A0 l0.length c0] rfl (by (try simp only [mA, mB, mC]); first | done | rfl | (simp only [List.length_drop, List.length_take]; rfl)) ?_; (with_reducible refine (spec_DrawCountLetters.calls kj89 _ _ l0 t875 t876 _ ?side1 ?side2 A111.out).mono ?_); (case side1 => repeat (first | exact (Kd.C_below HR0.out HB.out) | (with_reducible refine Kd.C_alloc ?_ _) | (with_reducible refine Kd.C_drewN ?_ _) | (with_reducible refine Kd.C_drew ?_))); (case side2 => exact HC0.out); rintro e w169 ⟨v877, rfl, ho0, hb⟩; refine ⟨_, rfl, ?_⟩; have n0_ := A_ (Kd.R_lower ho0 (below_size HB.out)); have n1_ := A_ (below_step HB.out hb); clear HB; revert n0_ n1_; intro HO878 HB; clear hb; (try clear ho0)) | ((with_reducible refine gate_callee (f := 57) rfl ?_); refine goesL_ (some 155) rfl rfl Try.func57 (by kernel_rfl) rfl #[.slice A0 l0.length c0] rfl (by (try simp only [mA, mB, mC]); first | done | rfl | (simp only [List.length_drop, List.length_take]; rfl)) ?_; (with_reducible refine (spec_DrawFibonacciLetter.calls kj89 _ _ l0 t879 _ ?side1 ?side2 A112.out).mono ?_); (case side1 => repeat (first | exact (Kd.C_below HR0.out HB.out) | (with_reducible refine Kd.C_alloc ?_ _) | (with_reducible refine Kd.C_drewN ?_ _) | (with_reducible refine Kd.C_drew ?_))); (case side2 => exact HC0.out); rintro e w170 ⟨rfl, hb⟩; refine ⟨_, rfl, ?_⟩; have n0_ := A_ (Kd.R_below HO878.out hb); have n1_ := A_ (below_step HB.out hb); clear HO878 HB; revert n0_ n1_; intro HO878 HB; clear hb; (try clear hi)) | ((with_reducible refine gate_callee (f := 58) rfl ?_); refine goesL_ (some 157) rfl rfl Try.func58 (by kernel_rfl) rfl #[.slice A0 l0.length c0] rfl (by (try simp only [mA, mB, mC]); first | done | rfl | (simp only [List.length_drop, List.length_take]; rfl)) ?_; (with_reducible refine (spec_DrawLowerWythoff.calls kj89 _ _ l0 t880 _ ?side1 ?side2 A113.out).mono ?_); (case side1 => repeat (first | exact (Kd.C_below HR0.out HB.out) | (with_reducible refine Kd.C_alloc ?_ _) | (with_reducible refine Kd.C_drewN ?_ _) | (with_reducible refine Kd.C_drew ?_))); (case side2 => exact HC0.out); rintro e w171 ⟨rfl, hb⟩; refine ⟨_, rfl, ?_⟩; have n0_ := A_ (Kd.R_below HO878.out hb); have n1_ := A_ (below_step HB.out hb); clear HO878 HB; revert n0_ n1_; intro HO878 HB; clear hb; (try clear hi)) | ((with_reducible refine gate_callee (f := 24) rfl ?_); refine goesL_ (some 160) rfl rfl Try.func24 (by kernel_rfl) rfl #[.int .i64 t873, .int .i64 t874] rfl (by (try simp only [mA, mB, mC]); first | done | rfl | (simp only [List.length_drop, List.length_take]; rfl)) ?_; (with_reducible refine (impl_IsColdPair.calls kj89 t873 t874 t881 _ A114.out).mono ?_); rintro e w172 ⟨rfl, hb⟩; refine ⟨_, rfl, ?_⟩; have n0_ := A_ (Kd.R_below HO878.out hb); have n1_ := A_ (below_step HB.out hb); clear HO878 HB; revert n0_ n1_; intro HO878 HB; clear hb; (try clear hi)) | ((with_reducible refine gate_callee (f := 23) rfl ?_); refine goesL_ (some 163) rfl rfl Try.func23 (by kernel_rfl) rfl #[.int .i64 t873, .int .i64 t874] rfl (by (try simp only [mA, mB, mC]); first | done | rfl | (simp only [List.length_drop, List.length_take]; rfl)) ?_; (with_reducible refine (spec_IsColdPair.calls kj89 t873 t874 t882 _ A115.out).mono ?_); rintro e w173 ⟨rfl, hb⟩; refine ⟨_, rfl, ?_⟩; have n0_ := A_ (Kd.R_below HO878.out hb); have n1_ := A_ (below_step HB.out hb); clear HO878 HB; revert n0_ n1_; intro HO878 HB; clear hb; (try clear hi)))
          go_ret
          exact ⟨by rfl, HB.out⟩

def laws_FnFibonacci.Pure : Prop := ∀ (l0 : List Int), l0.length ≤ maxLen → l0.length * 1 ≤ 140737488351232 → (∀ x ∈ l0, (Lit.int .u8 x).wf = true) → ∃ k, laws_FnFibonacci.f k l0 = some true
theorem laws_FnFibonacci.walk (P : laws_FnFibonacci.Pure) (a0 : Option Addr) (len0 cap0 : Nat) (z0 : List Int) (w : World) (w0 : (a0 = none ∧ len0 = 0 ∧ cap0 = 0 ∧ z0 = []) ∨ ∃ x, a0 = some x ∧ len0 ≤ cap0 ∧ cap0 ≤ maxLen ∧ z0.length = cap0 ∧ (∀ i, i < z0.length → w.cell? (x.add i) = some (.int .u8 (z0.getD i 0))) ∧ ∀ n ∈ z0, (Lit.int .u8 n).wf = true) (y0 : len0 * 1 ≤ 140737488351232) :
  Calls Try.prog 11 #[.slice a0 len0 cap0] w fun e w' => e = .returned (.bool true) ∧ Below w.heap.size w w' := by
 obtain ⟨l0, rfl, hr0, hm0, hw0, hc0⟩ := ReadsInt.ofRowC w0
 obtain ⟨k, h⟩ := P l0 hm0 y0 hw0
 refine (laws_FnFibonacci.calls k _ _ l0 true w (Kd.C_of_reads (d := (0 : Int)) (h1 := fun _ => rfl) hr0) hc0 h).mono ?_
 rintro e w' ⟨rfl, hd⟩
 exact ⟨rfl, hd⟩

end Go.Proofs.Ytdcakddfibnllaa.PFnFibonacci
