/- Walks of the functions that the law reaches. -/
import Derived.Test.YtmjlmjhccpedmaaGreatPFnBalancex4
import Derived.Test.YtmjlmjhccpedmaaGreatPFnBalancex5
namespace Go.Proofs.YtmjlmjhccpedmaaGreat.PFnBalance
open Go.RowKit Go.Proofs.YtmjlmjhccpedmaaGreatW.PrintWords Go.Proofs.YtmjlmjhccpedmaaGreatW.PrintLast Go.Proofs.YtmjlmjhccpedmaaGreatW.PrintMore
attribute [local go_sem] max2_int min2_int max_two min_two max_three min_three max_four min_four
set_option linter.unusedVariables false
set_option maxHeartbeats 8000000
set_option maxRecDepth 100000
set_option linter.unusedSimpArgs false

mutual
def laws_FnBalance.j0 : Nat → List Int → List Int → Bool → List Int → List Int → Bool → Option (Bool)
 | 0, _, _, _, _, _, _ => none
 | k + 1, x0, x3, x6, x7, x8, x58 => if x58 = true then (some false) else (if x6 = true then ((spec_CountLetters.f k x7 1).bind fun t999 => ((spec_CountLetters.f k x8 1).bind fun t1000 => (if (x7.length : Int) = (x8.length : Int) then (if (wrap64 ((wrap64 (t999 - t1000)) * (wrap64 (t999 - t1000)))) < 4 then (some false) else ((spec_IsFactor.f k x3 x7).bind fun t1001 => (if t1001 = true then ((spec_IsFactor.f k x3 x8).bind fun t1002 => (if t1002 = true then (laws_FnBalance.j1 k x0) else (some false))) else (some false)))) else (some false)))) else (laws_FnBalance.j1 k x0))
def laws_FnBalance.j1 : Nat → List Int → Option (Bool)
 | 0, _ => none
 | k + 1, x0 => (spec_DrawCountBalanced.f k x0).bind fun t1003 => ((impl_CountBalanced.f k t1003).bind fun t1004 => ((spec_CountBalanced.f k t1003).bind fun t1005 => (if t1004 = t1005 then (if t1004 ≥ 0 then (laws_FnBalance.l0 k x0 t1003 t1004 1 1) else (laws_FnBalance.j4 k x0)) else (some false))))
def laws_FnBalance.j4 : Nat → List Int → Option (Bool)
 | 0, _ => none
 | k + 1, x0 => (laws_at.f x0 2).bind fun t1007 => ((spec_FibonacciPrefix.f k (Int.tmod t1007 60)).bind fun t1008 => ((impl_IsRich.f k t1008).bind fun t1011 => (if t1011 = true then ((impl_IsBalanced.f k t1008).bind fun t1012 => (laws_FnBalance.j5 k x0 (!t1012))) else (laws_FnBalance.j5 k x0 true))))
def laws_FnBalance.j5 : Nat → List Int → Bool → Option (Bool)
 | 0, _, _ => none
 | k + 1, x0, x136 => if x136 = true then (some false) else ((spec_DrawIsSturmianPrefix.f k x0).bind fun bt1013 => ((spec_DrawRichnessOf.f k x0).bind fun t1017 => ((impl_IsSturmianPrefix.f k bt1013.1 bt1013.2).bind fun t1020 => ((spec_IsSturmianPrefix.f k bt1013.1 bt1013.2).bind fun t1021 => (if (t1020 == t1021) = true then ((impl_RichnessOf.f k t1017).bind fun t1022 => ((spec_RichnessOf.f k t1017).bind fun t1023 => (if t1022 = t1023 then ((impl_IsRich.f k t1017).bind fun t1024 => ((spec_IsRich.f k t1017).bind fun t1025 => (some (t1024 == t1025)))) else (some false)))) else (some false))))))
def laws_FnBalance.l0 : Nat → List Int → Int → Int → Int → Int → Option (Bool)
 | 0, _, _, _, _, _ => none
 | k + 1, x0, x11, x12, x13, x14 => if x14 ≤ x11 then (laws_FnBalance.l1 k x0 x11 x12 x13 x14 0 1) else (if x13 = x12 then (laws_FnBalance.j4 k x0) else (some false))
def laws_FnBalance.l1 : Nat → List Int → Int → Int → Int → Int → Int → Int → Option (Bool)
 | 0, _, _, _, _, _, _, _ => none
 | k + 1, x0, x11, x12, x13, x14, x15, x16 => if x16 ≤ x14 then ((laws_gcd.f k x14 x16).bind fun t1006 => (if t1006 = 1 then (laws_FnBalance.l1 k x0 x11 x12 x13 x14 (wrap64 (x15 + 1)) (wrap64 (x16 + 1))) else (laws_FnBalance.l1 k x0 x11 x12 x13 x14 x15 (wrap64 (x16 + 1))))) else (laws_FnBalance.l0 k x0 x11 x12 (wrap64 (x13 + (wrap64 ((wrap64 ((wrap64 (x11 - x14)) + 1)) * x15)))) (wrap64 (x14 + 1)))
end
def laws_FnBalance.f (k : Nat) (l0 : List Int) : Option (Bool) := (laws_big.f l0).bind fun t977 => (if t977 = true then (some true) else ((spec_DrawUnbalancedPair.f k l0).bind fun t978 => ((impl_UnbalancedPair.f k t978).bind fun bt981 => ((spec_UnbalancedPair.f k t978).bind fun bt988 => (if (bt981.2.2 != bt988.2.2) = true then (laws_FnBalance.j0 k l0 t978 bt981.2.2 bt988.1 bt988.2.1 true) else ((laws_sameInts.f k bt981.1 bt988.1).bind fun t995 => (if t995 = true then ((laws_sameInts.f k bt981.2.1 bt988.2.1).bind fun t996 => (if t996 = true then ((impl_IsBalanced.f k t978).bind fun t997 => ((spec_IsBalanced.f k t978).bind fun t998 => (laws_FnBalance.j0 k l0 t978 bt981.2.2 bt988.1 bt988.2.1 (t997 != t998)))) else (laws_FnBalance.j0 k l0 t978 bt981.2.2 bt988.1 bt988.2.1 true))) else (laws_FnBalance.j0 k l0 t978 bt981.2.2 bt988.1 bt988.2.1 true))))))))
theorem laws_FnBalance.calls (k : Nat) (A0 : Option Addr) (c0 : Nat) (l0 : List Int) (r : Bool) (w : World) (hr0 : Kd.C (Kd.int .u8) w A0 l0.length l0) (hc0 : l0.length ≤ c0) (h : laws_FnBalance.f k l0 = some r) :
  Calls Tryz.prog 3 #[.slice A0 l0.length c0] w fun e w' => e = .returned (.bool r) ∧ Below w.heap.size w w' := by
 have HR0 := A_ hr0; have HC0 := A_ hc0; clear hr0 hc0; have HB := A_ (Below.refl w.heap.size w); unfold laws_FnBalance.f at h; have H := h; clear h; replace H := bA_ H; obtain ⟨t977, A2, H⟩ := H
 by_cases c3 : t977 = true
 ·subst c3; rw [if_pos rfl] at H; obtain rfl := Option.some.inj H; go_enter Tryz.func3, Tryz.ntmps3
  go_wp2_with (first | ((with_reducible refine gc_ 4 rfl ?_); refine cD_ E4 22 rfl rfl rfl (laws_big.calls _ _ l0 true _ (by repeat (first | exact HR0.out | (with_reducible refine Kd.C_alloc ?_ _) | (with_reducible refine Kd.C_drewN ?_ _) | (with_reducible refine Kd.C_drew ?_))) HC0.out A2.out) (by simp only [mA, mB, mC]; rfl) fun nd => ?_))
  go_ret
  exact ⟨by rfl, by repeat (first | (with_reducible first | exact HB.out | apply below_alloc | apply pw_below_drewN | apply below_drew1) | exact HB.out)⟩
 replace c3 := Bool.eq_false_iff.mpr c3; subst c3; rw [if_neg nf_] at H; replace H := bA_ H; obtain ⟨t978, A4, H⟩ := H; replace H := bA_ H; obtain ⟨⟨t981, t982, t983⟩, A5, H⟩ := H; dsimp only at H; replace H := bA_ H; obtain ⟨⟨t988, t989, t990⟩, A6, H⟩ := H; dsimp only at H; have HC7 := A_ H; clear H; go_enter Tryz.func3, Tryz.ntmps3
 go_upto_region 6 with (first | ((with_reducible refine gc_ 4 rfl ?_); refine cD_ E4 22 rfl rfl rfl (laws_big.calls _ _ l0 false _ (by repeat (first | exact HR0.out | (with_reducible refine Kd.C_alloc ?_ _) | (with_reducible refine Kd.C_drewN ?_ _) | (with_reducible refine Kd.C_drew ?_))) HC0.out A2.out) (by simp only [mA, mB, mC]; rfl) fun nd => ?_) | ((with_reducible refine gc_ 5 rfl ?_); refine cL_ E5 24 rfl rfl rfl (spec_DrawUnbalancedPair.calls k _ _ l0 t978 _ (by repeat (first | exact HR0.out | (with_reducible refine Kd.C_alloc ?_ _) | (with_reducible refine Kd.C_drewN ?_ _) | (with_reducible refine Kd.C_drew ?_))) HC0.out A4.out) (by simp only [mA, mB, mC]; rfl) ?_; rintro e w8 ⟨v979, rfl, ho0, hb⟩; refine ⟨_, rfl, ?_⟩; have HO980 := A_ (Kd.R_lower ho0 (below_size (by repeat (first | (with_reducible first | exact HB.out | apply below_alloc | apply pw_below_drewN | apply below_drew1) | exact HB.out)))); replace HB := A_ (below_step (by repeat (first | (with_reducible first | exact HB.out | apply below_alloc | apply pw_below_drewN | apply below_drew1) | exact HB.out)) hb); clear hb ho0; obtain ⟨Ao9, co9, eo9⟩ := Kd.R_slice HO980.out; subst eo9) | ((with_reducible refine gc_ 6 rfl ?_); refine cL_ E6 27 rfl rfl rfl (impl_UnbalancedPair.calls k _ _ t978 t981 t982 t983 _ ((Kd.R_reads' HO980.out).2.2) ((Kd.R_reads' HO980.out).2.1) A5.out) (by simp only [mA, mB, mC]; rfl) ?_; rintro e w10 ⟨v984, v986, rfl, ho0, ho1, hb⟩; refine ⟨_, rfl, ?_⟩; have HO985 := A_ (Kd.R_lower (Kd.R_new' ho0 (Kd.R_lt HO980.out)) (below_size HB.out)); have HO987 := A_ (Kd.R_lower (Kd.R_new' ho1 (Kd.R_lt HO980.out)) (below_size HB.out)); replace HO980 := A_ (Kd.R_mono (Kd.R_told (Kd.R_told (Kd.R_old HO980.out hb) (Kd.R_base ho0)) (Kd.R_base ho1)) (fun _ h_ => h_.1)); replace HB := bs_ HB hb; clear hb ho0; (try clear ho1)) | ((with_reducible refine gc_ 7 rfl ?_); refine cL_ E7 33 rfl rfl rfl (spec_UnbalancedPair.calls k _ _ t978 t988 t989 t990 _ ((Kd.R_reads' HO980.out).2.2) ((Kd.R_reads' HO980.out).2.1) A6.out) (by simp only [mA, mB, mC]; rfl) ?_; rintro e w11 ⟨v991, v993, rfl, ho0, ho1, hb⟩; refine ⟨_, rfl, ?_⟩; have HO992 := A_ (Kd.R_lower (Kd.R_new' (Kd.R_new' (Kd.R_new' ho0 (Kd.R_lt HO980.out)) (Kd.R_lt HO985.out)) (Kd.R_lt HO987.out)) (below_size HB.out)); have HO994 := A_ (Kd.R_lower (Kd.R_new' (Kd.R_new' (Kd.R_new' ho1 (Kd.R_lt HO980.out)) (Kd.R_lt HO985.out)) (Kd.R_lt HO987.out)) (below_size HB.out)); replace HO980 := A_ (Kd.R_mono (Kd.R_told (Kd.R_told (Kd.R_old HO980.out hb) (Kd.R_base ho0)) (Kd.R_base ho1)) (fun _ h_ => h_.1)); replace HO985 := A_ (Kd.R_mono (Kd.R_told (Kd.R_told (Kd.R_old HO985.out hb) (Kd.R_base ho0)) (Kd.R_base ho1)) (fun _ h_ => h_.1)); replace HO987 := A_ (Kd.R_mono (Kd.R_told (Kd.R_told (Kd.R_old HO987.out hb) (Kd.R_base ho0)) (Kd.R_base ho1)) (fun _ h_ => h_.1)); replace HB := bs_ HB hb; clear hb ho0; (try clear ho1)))
 (try simp only [Act.put, mD, mE, mF])
 go_cut [58] (fun v58 wc => ∃ (kq : Nat) (x58_6 : Bool), v58 = .bool x58_6 ∧ Aside0 (laws_FnBalance.j0 kq l0 t978 t983 t988 t989 x58_6 = some r) ∧ Aside0 (kq ≤ k) ∧ Aside0 (Kd.R (Kd.int .i64) 3 wc w.heap.size (fun k_ => some k_ ≠ (v991 : Value).ownBlock ∧ some k_ ≠ (v993 : Value).ownBlock) (.slice Ao9 t978.length co9) t978) ∧ Aside0 (Kd.R (Kd.int .i64) 3 wc w.heap.size (fun k_ => some k_ ≠ ((.slice Ao9 t978.length co9) : Value).ownBlock ∧ some k_ ≠ (v993 : Value).ownBlock) v991 t988) ∧ Aside0 (Kd.R (Kd.int .i64) 3 wc w.heap.size (fun k_ => some k_ ≠ ((.slice Ao9 t978.length co9) : Value).ownBlock ∧ some k_ ≠ (v991 : Value).ownBlock) v993 t989) ∧ Aside0 (Below w.heap.size w wc))
 case first =>
  have H := HC7.out; clear HC7
  by_cases c12 : (t983 != t990) = true
  ·rw [if_pos c12] at H
   (try (have c12b1 : decide (t983 = t990) = false := by simpa using c12))
   (try (have c12b2 : (t983 == t990) = false := by simpa using c12))
   (try (have c12b3 : ¬ (t983 = t990) := by simpa using c12))
   clear c12
   (skip)
   have H' := A_ H
   clear H
   go_wp2
   go_meet
   case rel => exact ⟨_, (true), (by rfl), H', ⟨by omega⟩, ⟨by exact Kd.R_mono HO980.out (fun _ hk => ⟨hk.1.2, hk.2⟩)⟩, ⟨by exact Kd.R_mono HO992.out (fun _ hk => ⟨hk.1.1.2, hk.1.1.1⟩)⟩, ⟨by exact Kd.R_mono HO994.out (fun _ hk => ⟨hk.1.1.2, hk.1.1.1⟩)⟩, ⟨HB.out⟩⟩
  rw [if_neg c12] at H
  (try (have c12b1 : decide (t983 = t990) = true := by simpa using c12))
  (try (have c12b2 : (t983 == t990) = true := by simpa using c12))
  clear c12
  (skip)
  replace H := bA_ H; obtain ⟨t995, A13, H⟩ := H
  by_cases c14 : t995 = true
  ·subst c14; rw [if_pos rfl] at H; replace H := bA_ H; obtain ⟨t996, A15, H⟩ := H
   by_cases c16 : t996 = true
   ·subst c16; rw [if_pos rfl] at H; replace H := bA_ H; obtain ⟨t997, A17, H⟩ := H; replace H := bA_ H; obtain ⟨t998, A18, H⟩ := H
    have H' := A_ H
    clear H; obtain ⟨Ao19, co19, eo19⟩ := Kd.R_slice HO985.out; subst eo19; obtain ⟨Ao20, co20, eo20⟩ := Kd.R_slice HO992.out; subst eo20
    go_wp2_with (first | (go_at_call 8; (with_reducible refine (laws_sameInts.calls k _ _ t981 _ _ t988 true _ ?side1 ?side2 ?side3 ?side4 A13.out).mono ?_); (case side1 => exact (Kd.R_reads' HO985.out).2.2); (case side2 => exact (Kd.R_reads' HO985.out).2.1); (case side3 => exact (Kd.R_reads' HO992.out).2.2); (case side4 => exact (Kd.R_reads' HO992.out).2.1); rintro e w' ⟨rfl, ⟨nd, rfl⟩⟩; obtain ⟨Ao21, co21, eo21⟩ := Kd.R_slice HO987.out; subst eo21; obtain ⟨Ao22, co22, eo22⟩ := Kd.R_slice HO994.out; subst eo22) | (go_at_call 8; (with_reducible refine (laws_sameInts.calls k _ _ t982 _ _ t989 true _ ?side1 ?side2 ?side3 ?side4 A15.out).mono ?_); (case side1 => exact (Kd.R_reads' HO987.out).2.2); (case side2 => exact (Kd.R_reads' HO987.out).2.1); (case side3 => exact (Kd.R_reads' HO994.out).2.2); (case side4 => exact (Kd.R_reads' HO994.out).2.1); rintro e w' ⟨rfl, ⟨nd, rfl⟩⟩) | (go_at_call 9; (with_reducible refine (impl_IsBalanced.calls k _ _ t978 t997 _ ?side1 ?side2 A17.out).mono ?_); (case side1 => exact (Kd.R_reads' HO980.out).2.2); (case side2 => exact (Kd.R_reads' HO980.out).2.1); rintro e w23 ⟨rfl, hb⟩; replace HO980 := A_ (Kd.R_below (by (with_reducible repeat (first | apply Kd.R_alloc | apply Kd.R_drewN | apply Kd.R_drew)); exact HO980.out) hb); replace HO985 := A_ (Kd.R_below (by (with_reducible repeat (first | apply Kd.R_alloc | apply Kd.R_drewN | apply Kd.R_drew)); exact HO985.out) hb); replace HO987 := A_ (Kd.R_below (by (with_reducible repeat (first | apply Kd.R_alloc | apply Kd.R_drewN | apply Kd.R_drew)); exact HO987.out) hb); replace HO992 := A_ (Kd.R_below (by (with_reducible repeat (first | apply Kd.R_alloc | apply Kd.R_drewN | apply Kd.R_drew)); exact HO992.out) hb); replace HO994 := A_ (Kd.R_below (by (with_reducible repeat (first | apply Kd.R_alloc | apply Kd.R_drewN | apply Kd.R_drew)); exact HO994.out) hb); replace HB := A_ (below_step (by repeat (first | (with_reducible first | exact HB.out | apply below_alloc | apply pw_below_drewN | apply below_drew1) | exact HB.out)) hb); clear hb; (try clear hi)) | (go_at_call 10; (with_reducible refine (spec_IsBalanced.calls k _ _ t978 t998 _ ?side1 ?side2 A18.out).mono ?_); (case side1 => exact (Kd.R_reads' HO980.out).2.2); (case side2 => exact (Kd.R_reads' HO980.out).2.1); rintro e w24 ⟨rfl, hb⟩; replace HO980 := A_ (Kd.R_below HO980.out hb); replace HO985 := A_ (Kd.R_below HO985.out hb); replace HO987 := A_ (Kd.R_below HO987.out hb); replace HO992 := A_ (Kd.R_below HO992.out hb); replace HO994 := A_ (Kd.R_below HO994.out hb); replace HB := bs_ HB hb; clear hb; (try clear hi)))
    go_meet
    case rel => exact ⟨_, ((t997 != t998)), (by rfl), H', ⟨by omega⟩, ⟨by exact Kd.R_mono HO980.out (fun _ hk => ⟨hk.1.2, hk.2⟩)⟩, ⟨by exact Kd.R_mono HO992.out (fun _ hk => ⟨hk.1.1.2, hk.1.1.1⟩)⟩, ⟨by exact Kd.R_mono HO994.out (fun _ hk => ⟨hk.1.1.2, hk.1.1.1⟩)⟩, ⟨HB.out⟩⟩
   replace c16 := Bool.eq_false_iff.mpr c16; subst c16; rw [if_neg nf_] at H
   have H' := A_ H
   clear H; obtain ⟨Ao25, co25, eo25⟩ := Kd.R_slice HO985.out; subst eo25; obtain ⟨Ao26, co26, eo26⟩ := Kd.R_slice HO992.out; subst eo26
   go_wp2_with (first | (go_at_call 8; (with_reducible refine (laws_sameInts.calls k _ _ t981 _ _ t988 true _ ?side1 ?side2 ?side3 ?side4 A13.out).mono ?_); (case side1 => exact (Kd.R_reads' HO985.out).2.2); (case side2 => exact (Kd.R_reads' HO985.out).2.1); (case side3 => exact (Kd.R_reads' HO992.out).2.2); (case side4 => exact (Kd.R_reads' HO992.out).2.1); rintro e w' ⟨rfl, ⟨nd, rfl⟩⟩; obtain ⟨Ao27, co27, eo27⟩ := Kd.R_slice HO987.out; subst eo27; obtain ⟨Ao28, co28, eo28⟩ := Kd.R_slice HO994.out; subst eo28) | (go_at_call 8; (with_reducible refine (laws_sameInts.calls k _ _ t982 _ _ t989 false _ ?side1 ?side2 ?side3 ?side4 A15.out).mono ?_); (case side1 => exact (Kd.R_reads' HO987.out).2.2); (case side2 => exact (Kd.R_reads' HO987.out).2.1); (case side3 => exact (Kd.R_reads' HO994.out).2.2); (case side4 => exact (Kd.R_reads' HO994.out).2.1); rintro e w' ⟨rfl, ⟨nd, rfl⟩⟩))
   go_meet
   case rel => exact ⟨_, (true), (by rfl), H', ⟨by omega⟩, ⟨by (with_reducible repeat (first | apply Kd.R_alloc | apply Kd.R_drewN | apply Kd.R_drew)); exact Kd.R_mono HO980.out (fun _ hk => ⟨hk.1.2, hk.2⟩)⟩, ⟨by (with_reducible repeat (first | apply Kd.R_alloc | apply Kd.R_drewN | apply Kd.R_drew)); exact Kd.R_mono HO992.out (fun _ hk => ⟨hk.1.1.2, hk.1.1.1⟩)⟩, ⟨by (with_reducible repeat (first | apply Kd.R_alloc | apply Kd.R_drewN | apply Kd.R_drew)); exact Kd.R_mono HO994.out (fun _ hk => ⟨hk.1.1.2, hk.1.1.1⟩)⟩, ⟨by repeat (first | (with_reducible first | exact HB.out | apply below_alloc | apply pw_below_drewN | apply below_drew1) | exact HB.out)⟩⟩
  replace c14 := Bool.eq_false_iff.mpr c14; subst c14; rw [if_neg nf_] at H
  have H' := A_ H
  clear H; obtain ⟨Ao29, co29, eo29⟩ := Kd.R_slice HO985.out; subst eo29; obtain ⟨Ao30, co30, eo30⟩ := Kd.R_slice HO992.out; subst eo30
  go_wp2_with (first | (go_at_call 8; (with_reducible refine (laws_sameInts.calls k _ _ t981 _ _ t988 false _ ?side1 ?side2 ?side3 ?side4 A13.out).mono ?_); (case side1 => exact (Kd.R_reads' HO985.out).2.2); (case side2 => exact (Kd.R_reads' HO985.out).2.1); (case side3 => exact (Kd.R_reads' HO992.out).2.2); (case side4 => exact (Kd.R_reads' HO992.out).2.1); rintro e w' ⟨rfl, ⟨nd, rfl⟩⟩))
  go_meet
  case rel => exact ⟨_, (true), (by rfl), H', ⟨by omega⟩, ⟨by (with_reducible repeat (first | apply Kd.R_alloc | apply Kd.R_drewN | apply Kd.R_drew)); exact Kd.R_mono HO980.out (fun _ hk => ⟨hk.1.2, hk.2⟩)⟩, ⟨by (with_reducible repeat (first | apply Kd.R_alloc | apply Kd.R_drewN | apply Kd.R_drew)); exact Kd.R_mono HO992.out (fun _ hk => ⟨hk.1.1.2, hk.1.1.1⟩)⟩, ⟨by (with_reducible repeat (first | apply Kd.R_alloc | apply Kd.R_drewN | apply Kd.R_drew)); exact Kd.R_mono HO994.out (fun _ hk => ⟨hk.1.1.2, hk.1.1.1⟩)⟩, ⟨by repeat (first | (with_reducible first | exact HB.out | apply below_alloc | apply pw_below_drewN | apply below_drew1) | exact HB.out)⟩⟩
 case rest =>
  clear HC7; obtain ⟨kq, x58_6, rfl, HA, HJ6, HO_3, HO_7, HO_8, HB⟩ := hcut
  cases kq with
  | zero => exact absurd HA.out (by simp [laws_FnBalance.j0])
  | succ kj6 =>
   have H := HA.out; clear HA; simp only [laws_FnBalance.j0] at H
   by_cases c31 : x58_6 = true
   ·subst c31; rw [if_pos rfl] at H; obtain rfl := Option.some.inj H
    go_wp2
    go_ret
    exact ⟨by rfl, HB.out⟩
   replace c31 := Bool.eq_false_iff.mpr c31; subst c31; rw [if_neg nf_] at H; have HC32 := A_ H; clear H
   go_upto_if 59 with (fail)
   go_cut [] (fun wc => ∃ (kq : Nat), Aside0 (laws_FnBalance.j1 kq l0 = some r) ∧ Aside0 (kq ≤ kj6) ∧ Aside0 (Below w.heap.size w wc))
   case first =>
    have H := HC32.out; clear HC32
    by_cases c33 : t983 = true
    ·subst c33; rw [if_pos rfl] at H; replace H := bA_ H; obtain ⟨t999, A34, H⟩ := H; replace H := bA_ H; obtain ⟨t1000, A35, H⟩ := H
     by_cases c36 : (t988.length : Int) = (t989.length : Int)
     ·rw [if_pos c36] at H
      have c36b0 : ((t988.length : Int) == (t989.length : Int)) = true := beq_iff_eq.mpr c36
      have c36b1 : ((t988.length : Int) != (t989.length : Int)) = false := bne_eq_false_iff_eq.mpr c36
      have c36b2 : (t988.length == t989.length) = true := by first | simpa using c36 | (simp at c36 ⊢; omega)
      clear c36
      (skip)
      by_cases c37 : (wrap64 ((wrap64 (t999 - t1000)) * (wrap64 (t999 - t1000)))) < 4
      ·rw [if_pos c37] at H; have c37b0 := decide_eq_true c37; clear c37; obtain rfl := Option.some.inj H; obtain ⟨Ao38, co38, eo38⟩ := Kd.R_slice HO_7.out; subst eo38
       go_wp2_with (first | ((with_reducible refine gc_ 11 rfl ?_); refine cD_ E11 61 rfl rfl rfl (spec_CountLetters.calls kj6 _ _ t988 1 t999 _ ((Kd.R_reads' HO_7.out).2.2) ((Kd.R_reads' HO_7.out).2.1) A34.out) (by (try simp only [mA, mB, mC]); first | done | rfl | (simp only [List.length_drop, List.length_take]; rfl)) fun nd => ?_; obtain ⟨Ao39, co39, eo39⟩ := Kd.R_slice HO_8.out; subst eo39) | ((with_reducible refine gc_ 11 rfl ?_); refine cD_ E11 63 rfl rfl rfl (spec_CountLetters.calls kj6 _ _ t989 1 t1000 _ ((Kd.R_reads' HO_8.out).2.2) ((Kd.R_reads' HO_8.out).2.1) A35.out) (by simp only [mA, mB, mC]; rfl) fun nd => ?_))
       go_ret
       exact ⟨by rfl, by repeat (first | (with_reducible first | exact HB.out | apply below_alloc | apply pw_below_drewN | apply below_drew1) | exact HB.out)⟩
      rw [if_neg c37] at H; have c37b0 := decide_eq_false c37; clear c37; replace H := bA_ H; obtain ⟨t1001, A40, H⟩ := H
      by_cases c41 : t1001 = true
      ·subst c41; rw [if_pos rfl] at H; replace H := bA_ H; obtain ⟨t1002, A42, H⟩ := H
       by_cases c43 : t1002 = true
       ·subst c43; rw [if_pos rfl] at H
        have H' := A_ H
        clear H; obtain ⟨Ao44, co44, eo44⟩ := Kd.R_slice HO_7.out; subst eo44
        go_wp2_with (first | ((with_reducible refine gc_ 11 rfl ?_); refine cD_ E11 61 rfl rfl rfl (spec_CountLetters.calls kj6 _ _ t988 1 t999 _ ((Kd.R_reads' HO_7.out).2.2) ((Kd.R_reads' HO_7.out).2.1) A34.out) (by (try simp only [mA, mB, mC]); first | done | rfl | (simp only [List.length_drop, List.length_take]; rfl)) fun nd => ?_; obtain ⟨Ao45, co45, eo45⟩ := Kd.R_slice HO_8.out; subst eo45) | ((with_reducible refine gc_ 11 rfl ?_); refine cD_ E11 63 rfl rfl rfl (spec_CountLetters.calls kj6 _ _ t989 1 t1000 _ ((Kd.R_reads' HO_8.out).2.2) ((Kd.R_reads' HO_8.out).2.1) A35.out) (by simp only [mA, mB, mC]; rfl) fun nd => ?_) | (go_at_call 12; (with_reducible refine (spec_IsFactor.calls kj6 _ _ t978 _ _ t988 true _ ?side1 ?side2 ?side3 ?side4 A40.out).mono ?_); (case side1 => exact (Kd.R_reads' HO_3.out).2.2); (case side2 => exact (Kd.R_reads' HO_3.out).2.1); (case side3 => exact (Kd.R_reads' HO_7.out).2.2); (case side4 => exact (Kd.R_reads' HO_7.out).2.1); rintro e w46 ⟨rfl, hb⟩; replace HO_3 := A_ (Kd.R_below (by (with_reducible repeat (first | apply Kd.R_alloc | apply Kd.R_drewN | apply Kd.R_drew)); exact HO_3.out) hb); replace HO_7 := A_ (Kd.R_below (by (with_reducible repeat (first | apply Kd.R_alloc | apply Kd.R_drewN | apply Kd.R_drew)); exact HO_7.out) hb); replace HO_8 := A_ (Kd.R_below (by (with_reducible repeat (first | apply Kd.R_alloc | apply Kd.R_drewN | apply Kd.R_drew)); exact HO_8.out) hb); replace HB := A_ (below_step (by repeat (first | (with_reducible first | exact HB.out | apply below_alloc | apply pw_below_drewN | apply below_drew1) | exact HB.out)) hb); clear hb; (try clear hi)) | (go_at_call 12; (with_reducible refine (spec_IsFactor.calls kj6 _ _ t978 _ _ t989 true _ ?side1 ?side2 ?side3 ?side4 A42.out).mono ?_); (case side1 => exact (Kd.R_reads' HO_3.out).2.2); (case side2 => exact (Kd.R_reads' HO_3.out).2.1); (case side3 => exact (Kd.R_reads' HO_8.out).2.2); (case side4 => exact (Kd.R_reads' HO_8.out).2.1); rintro e w47 ⟨rfl, hb⟩; replace HO_3 := A_ (Kd.R_below HO_3.out hb); replace HO_7 := A_ (Kd.R_below HO_7.out hb); replace HO_8 := A_ (Kd.R_below HO_8.out hb); replace HB := bs_ HB hb; clear hb; (try clear hi)))
        go_meet
        case rel => exact ⟨_, H', ⟨by have := HJ6.out; omega⟩, ⟨HB.out⟩⟩
       replace c43 := Bool.eq_false_iff.mpr c43; subst c43; rw [if_neg nf_] at H; obtain rfl := Option.some.inj H; obtain ⟨Ao48, co48, eo48⟩ := Kd.R_slice HO_7.out; subst eo48
       go_wp2_with (first | ((with_reducible refine gc_ 11 rfl ?_); refine cD_ E11 61 rfl rfl rfl (spec_CountLetters.calls kj6 _ _ t988 1 t999 _ ((Kd.R_reads' HO_7.out).2.2) ((Kd.R_reads' HO_7.out).2.1) A34.out) (by (try simp only [mA, mB, mC]); first | done | rfl | (simp only [List.length_drop, List.length_take]; rfl)) fun nd => ?_; obtain ⟨Ao49, co49, eo49⟩ := Kd.R_slice HO_8.out; subst eo49) | ((with_reducible refine gc_ 11 rfl ?_); refine cD_ E11 63 rfl rfl rfl (spec_CountLetters.calls kj6 _ _ t989 1 t1000 _ ((Kd.R_reads' HO_8.out).2.2) ((Kd.R_reads' HO_8.out).2.1) A35.out) (by simp only [mA, mB, mC]; rfl) fun nd => ?_) | (go_at_call 12; (with_reducible refine (spec_IsFactor.calls kj6 _ _ t978 _ _ t988 true _ ?side1 ?side2 ?side3 ?side4 A40.out).mono ?_); (case side1 => exact (Kd.R_reads' HO_3.out).2.2); (case side2 => exact (Kd.R_reads' HO_3.out).2.1); (case side3 => exact (Kd.R_reads' HO_7.out).2.2); (case side4 => exact (Kd.R_reads' HO_7.out).2.1); rintro e w50 ⟨rfl, hb⟩; replace HO_3 := A_ (Kd.R_below (by (with_reducible repeat (first | apply Kd.R_alloc | apply Kd.R_drewN | apply Kd.R_drew)); exact HO_3.out) hb); replace HO_7 := A_ (Kd.R_below (by (with_reducible repeat (first | apply Kd.R_alloc | apply Kd.R_drewN | apply Kd.R_drew)); exact HO_7.out) hb); replace HO_8 := A_ (Kd.R_below (by (with_reducible repeat (first | apply Kd.R_alloc | apply Kd.R_drewN | apply Kd.R_drew)); exact HO_8.out) hb); replace HB := A_ (below_step (by repeat (first | (with_reducible first | exact HB.out | apply below_alloc | apply pw_below_drewN | apply below_drew1) | exact HB.out)) hb); clear hb; (try clear hi)) | (go_at_call 12; (with_reducible refine (spec_IsFactor.calls kj6 _ _ t978 _ _ t989 false _ ?side1 ?side2 ?side3 ?side4 A42.out).mono ?_); (case side1 => exact (Kd.R_reads' HO_3.out).2.2); (case side2 => exact (Kd.R_reads' HO_3.out).2.1); (case side3 => exact (Kd.R_reads' HO_8.out).2.2); (case side4 => exact (Kd.R_reads' HO_8.out).2.1); rintro e w51 ⟨rfl, hb⟩; replace HO_3 := A_ (Kd.R_below HO_3.out hb); replace HO_7 := A_ (Kd.R_below HO_7.out hb); replace HO_8 := A_ (Kd.R_below HO_8.out hb); replace HB := bs_ HB hb; clear hb; (try clear hi)))
       go_ret
       exact ⟨by rfl, HB.out⟩
      replace c41 := Bool.eq_false_iff.mpr c41; subst c41; rw [if_neg nf_] at H; obtain rfl := Option.some.inj H; obtain ⟨Ao52, co52, eo52⟩ := Kd.R_slice HO_7.out; subst eo52
      go_wp2_with (first | ((with_reducible refine gc_ 11 rfl ?_); refine cD_ E11 61 rfl rfl rfl (spec_CountLetters.calls kj6 _ _ t988 1 t999 _ ((Kd.R_reads' HO_7.out).2.2) ((Kd.R_reads' HO_7.out).2.1) A34.out) (by (try simp only [mA, mB, mC]); first | done | rfl | (simp only [List.length_drop, List.length_take]; rfl)) fun nd => ?_; obtain ⟨Ao53, co53, eo53⟩ := Kd.R_slice HO_8.out; subst eo53) | ((with_reducible refine gc_ 11 rfl ?_); refine cD_ E11 63 rfl rfl rfl (spec_CountLetters.calls kj6 _ _ t989 1 t1000 _ ((Kd.R_reads' HO_8.out).2.2) ((Kd.R_reads' HO_8.out).2.1) A35.out) (by simp only [mA, mB, mC]; rfl) fun nd => ?_) | (go_at_call 12; (with_reducible refine (spec_IsFactor.calls kj6 _ _ t978 _ _ t988 false _ ?side1 ?side2 ?side3 ?side4 A40.out).mono ?_); (case side1 => exact (Kd.R_reads' HO_3.out).2.2); (case side2 => exact (Kd.R_reads' HO_3.out).2.1); (case side3 => exact (Kd.R_reads' HO_7.out).2.2); (case side4 => exact (Kd.R_reads' HO_7.out).2.1); rintro e w54 ⟨rfl, hb⟩; replace HO_3 := A_ (Kd.R_below (by (with_reducible repeat (first | apply Kd.R_alloc | apply Kd.R_drewN | apply Kd.R_drew)); exact HO_3.out) hb); replace HO_7 := A_ (Kd.R_below (by (with_reducible repeat (first | apply Kd.R_alloc | apply Kd.R_drewN | apply Kd.R_drew)); exact HO_7.out) hb); replace HO_8 := A_ (Kd.R_below (by (with_reducible repeat (first | apply Kd.R_alloc | apply Kd.R_drewN | apply Kd.R_drew)); exact HO_8.out) hb); replace HB := A_ (below_step (by repeat (first | (with_reducible first | exact HB.out | apply below_alloc | apply pw_below_drewN | apply below_drew1) | exact HB.out)) hb); clear hb; (try clear hi)))
      go_ret
      exact ⟨by rfl, HB.out⟩
     rw [if_neg c36] at H
     have c36b1 : ((t988.length : Int) != (t989.length : Int)) = true := bne_iff_ne.mpr c36
     (skip)
     obtain rfl := Option.some.inj H; obtain ⟨Ao55, co55, eo55⟩ := Kd.R_slice HO_7.out; subst eo55
     go_wp2_with (first | ((with_reducible refine gc_ 11 rfl ?_); refine cD_ E11 61 rfl rfl rfl (spec_CountLetters.calls kj6 _ _ t988 1 t999 _ ((Kd.R_reads' HO_7.out).2.2) ((Kd.R_reads' HO_7.out).2.1) A34.out) (by (try simp only [mA, mB, mC]); first | done | rfl | (simp only [List.length_drop, List.length_take]; rfl)) fun nd => ?_; obtain ⟨Ao56, co56, eo56⟩ := Kd.R_slice HO_8.out; subst eo56) | ((with_reducible refine gc_ 11 rfl ?_); refine cD_ E11 63 rfl rfl rfl (spec_CountLetters.calls kj6 _ _ t989 1 t1000 _ ((Kd.R_reads' HO_8.out).2.2) ((Kd.R_reads' HO_8.out).2.1) A35.out) (by simp only [mA, mB, mC]; rfl) fun nd => ?_))
     go_ret
     exact ⟨by rfl, by repeat (first | (with_reducible first | exact HB.out | apply below_alloc | apply pw_below_drewN | apply below_drew1) | exact HB.out)⟩
    replace c33 := Bool.eq_false_iff.mpr c33; subst c33; rw [if_neg nf_] at H
    have H' := A_ H
    clear H
    go_wp2
    go_meet
    case rel => exact ⟨_, H', ⟨by have := HJ6.out; omega⟩, ⟨HB.out⟩⟩
   case rest =>
    clear HC32; obtain ⟨kq, HA, HJ31, HB⟩ := hcut
    cases kq with
    | zero => exact absurd HA.out (by simp [laws_FnBalance.j1])
    | succ kj31 =>
     have H := HA.out; clear HA; simp only [laws_FnBalance.j1] at H; replace H := bA_ H; obtain ⟨t1003, A57, H⟩ := H; replace H := bA_ H; obtain ⟨t1004, A58, H⟩ := H; replace H := bA_ H; obtain ⟨t1005, A59, H⟩ := H
     by_cases c60 : t1004 = t1005
     ·rw [if_pos c60] at H
      have c60b1 : (t1004 != t1005) = false := bne_eq_false_iff_eq.mpr c60
      clear c60; have HC61 := A_ H; clear H
      go_upto_if 97 with (first | ((with_reducible refine gc_ 13 rfl ?_); refine cL_ E13 89 rfl rfl rfl (spec_DrawCountBalanced.calls kj31 _ _ l0 t1003 _ (Kd.C_below HR0.out HB.out) HC0.out A57.out) (by simp only [mA, mB, mC]; rfl) ?_; rintro e w62 ⟨rfl, hb⟩; refine ⟨_, rfl, ?_⟩; replace HB := bs_ HB hb; clear hb; (try clear hi)) | ((with_reducible refine gc_ 14 rfl ?_); refine cL_ E14 91 rfl rfl rfl (impl_CountBalanced.calls kj31 t1003 t1004 _ A58.out) (by simp only [mA, mB, mC]; rfl) ?_; rintro e w63 ⟨rfl, hb⟩; refine ⟨_, rfl, ?_⟩; replace HB := bs_ HB hb; clear hb; (try clear hi)) | ((with_reducible refine gc_ 15 rfl ?_); refine cL_ E15 94 rfl rfl rfl (spec_CountBalanced.calls kj31 t1003 t1005 _ A59.out) (by simp only [mA, mB, mC]; rfl) ?_; rintro e w64 ⟨rfl, hb⟩; refine ⟨_, rfl, ?_⟩; replace HB := bs_ HB hb; clear hb; (try clear hi)))
      (try simp only [Act.put, mD, mE, mF])
      go_cut [] (fun wc => ∃ (kq : Nat), Aside0 (laws_FnBalance.j4 kq l0 = some r) ∧ Aside0 (kq ≤ kj31) ∧ Aside0 (Below w.heap.size w wc))
      case first =>
       have H := HC61.out; clear HC61
       by_cases c65 : t1004 ≥ 0
       ·rw [if_pos c65] at H
        have c65b0 : decide (0 ≤ t1004) = true := decide_eq_true c65
        clear c65
        (rw [c65b0])
        have H' := A_ H
        clear H
        go_wp2
        go_loopg [13, 14] kj31 (fun kq v13 v14 w' => ∃ (x13_3 : Int) (x14_3 : Int), v13 = .int .i64 x13_3 ∧ v14 = .int .i64 x14_3 ∧ Aside0 (laws_FnBalance.l0 kq l0 t1003 t1004 x13_3 x14_3 = some r) ∧ Aside0 (kq ≤ kj31) ∧ Aside0 (Below w.heap.size w w'))
        case atStart => exact ⟨(1), (1), (by rfl), (by rfl), H', ⟨Nat.le_refl _⟩, ⟨HB.out⟩⟩
        case round =>
         clear H'
         try skip
         try skip
         try skip
         obtain ⟨x13_3, x14_3, rfl, rfl, HA, HK3, HB⟩ := hrel
         cases gk with
         | zero => exact absurd HA.out (by simp [laws_FnBalance.l0])
         | succ k3 =>
          have H := HA.out; clear HA; simp only [laws_FnBalance.l0] at H
          by_cases c66 : x14_3 ≤ t1003
          ·rw [if_pos c66] at H; have c66b0 := decide_eq_true c66; clear c66
           have H' := A_ H
           clear H
           go_wp2
           go_loopg [15, 16] k3 (fun kq v15 v16 w' => ∃ (x15_4 : Int) (x16_4 : Int), v15 = .int .i64 x15_4 ∧ v16 = .int .i64 x16_4 ∧ Aside0 (laws_FnBalance.l1 kq l0 t1003 t1004 x13_3 x14_3 x15_4 x16_4 = some r) ∧ Aside0 (kq ≤ k3) ∧ Aside0 (Below w.heap.size w w'))
           case atStart => exact ⟨(0), (1), (by rfl), (by rfl), H', ⟨Nat.le_refl _⟩, ⟨HB.out⟩⟩
           case round =>
            clear H'
            try skip
            obtain ⟨x15_4, x16_4, rfl, rfl, HA, HK4, HB⟩ := hrel
            cases gk with
            | zero => exact absurd HA.out (by simp [laws_FnBalance.l1])
            | succ k4 =>
             have H := HA.out; clear HA; simp only [laws_FnBalance.l1] at H
             by_cases c67 : x16_4 ≤ x14_3
             ·rw [if_pos c67] at H; have c67b0 := decide_eq_true c67; clear c67; replace H := bA_ H; obtain ⟨t1006, A68, H⟩ := H
              by_cases c69 : t1006 = 1
              ·rw [if_pos c69] at H
               have c69b0 : (t1006 == 1) = true := beq_iff_eq.mpr c69
               clear c69
               have H' := A_ H
               clear H
               go_wp2_with (first | ((with_reducible refine gc_ 16 rfl ?_); refine cD_ E16 110 rfl rfl rfl (laws_gcd.calls k4 x14_3 x16_4 t1006 _ A68.out) (by simp only [mA, mB, mC]; rfl) fun nd => ?_))
               go_roundg k4
               case measure => have := HJ6.out; have := HJ31.out; have := HK3.out; have := HK4.out; omega
               case rel => exact ⟨(wrap64 (x15_4 + 1)), (wrap64 (x16_4 + 1)), (by rfl), (by rfl), H', ⟨by have := HJ6.out; have := HJ31.out; have := HK3.out; have := HK4.out; omega⟩, ⟨by repeat (first | (with_reducible first | exact HB.out | apply below_alloc | apply pw_below_drewN | apply below_drew1) | exact HB.out)⟩⟩
              rw [if_neg c69] at H
              have c69b0 : (t1006 == 1) = false := beq_eq_false_iff_ne.mpr c69
              have H' := A_ H
              clear H
              go_wp2_with (first | ((with_reducible refine gc_ 16 rfl ?_); refine cD_ E16 110 rfl rfl rfl (laws_gcd.calls k4 x14_3 x16_4 t1006 _ A68.out) (by simp only [mA, mB, mC]; rfl) fun nd => ?_))
              go_roundg k4
              case measure => have := HJ6.out; have := HJ31.out; have := HK3.out; have := HK4.out; omega
              case rel => exact ⟨(x15_4), (wrap64 (x16_4 + 1)), (by rfl), (by rfl), H', ⟨by have := HJ6.out; have := HJ31.out; have := HK3.out; have := HK4.out; omega⟩, ⟨by repeat (first | (with_reducible first | exact HB.out | apply below_alloc | apply pw_below_drewN | apply below_drew1) | exact HB.out)⟩⟩
             rw [if_neg c67] at H; have c67b0 := decide_eq_false c67; clear c67
             have H' := A_ H
             clear H
             go_wp2
             go_roundg k4
             case measure => have := HJ6.out; have := HJ31.out; have := HK3.out; have := HK4.out; omega
             case rel => exact ⟨(wrap64 (x13_3 + (wrap64 ((wrap64 ((wrap64 (t1003 - x14_3)) + 1)) * x15_4)))), (wrap64 (x14_3 + 1)), (by rfl), (by rfl), H', ⟨by have := HJ6.out; have := HJ31.out; have := HK3.out; have := HK4.out; omega⟩, ⟨HB.out⟩⟩
          rw [if_neg c66] at H; have c66b0 := decide_eq_false c66; clear c66
          by_cases c70 : x13_3 = t1004
          ·rw [if_pos c70] at H
           have c70b1 : (x13_3 != t1004) = false := bne_eq_false_iff_eq.mpr c70
           clear c70
           have H' := A_ H
           clear H
           go_wp2
           go_meet
           case rel => exact ⟨_, H', ⟨by have := HJ6.out; have := HJ31.out; have := HK3.out; omega⟩, ⟨HB.out⟩⟩
          rw [if_neg c70] at H
          have c70b1 : (x13_3 != t1004) = true := bne_iff_ne.mpr c70
          obtain rfl := Option.some.inj H
          go_wp2
          go_ret
          exact ⟨by rfl, HB.out⟩
       rw [if_neg c65] at H
       have c65b0 : decide (0 ≤ t1004) = false := decide_eq_false c65
       clear c65
       (rw [c65b0])
       have H' := A_ H
       clear H
       go_wp2
       go_meet
       case rel => exact ⟨_, H', ⟨by have := HJ6.out; have := HJ31.out; omega⟩, ⟨HB.out⟩⟩
      case rest =>
       clear HC61
       try skip
       try skip
       obtain ⟨kq, HA, HJ60, HB⟩ := hcut
       cases kq with
       | zero => exact absurd HA.out (by simp [laws_FnBalance.j4])
       | succ kj60 =>
        have H := HA.out; clear HA; simp only [laws_FnBalance.j4] at H; replace H := bA_ H; obtain ⟨t1007, A71, H⟩ := H; replace H := bA_ H; obtain ⟨t1008, A72, H⟩ := H; have HC73 := A_ H; clear H
        go_upto_region 31 with (first | ((with_reducible refine gc_ 18 rfl ?_); refine cD_ E18 126 rfl rfl rfl (laws_at.calls _ _ l0 2 t1007 _ (Kd.C_below HR0.out HB.out) HC0.out A71.out) (by simp only [mA, mB, mC]; rfl) fun nd => ?_) | ((with_reducible refine gc_ 17 rfl ?_); refine cL_ E17 128 rfl rfl rfl (spec_FibonacciPrefix.calls kj60 (Int.tmod t1007 60) t1008 _ A72.out) (by simp only [mA, mB, mC]; rfl) ?_; rintro e w74 ⟨v1009, rfl, ho0, hb⟩; refine ⟨_, rfl, ?_⟩; have HO1010 := A_ (Kd.R_lower ho0 (below_size (by repeat (first | (with_reducible first | exact HB.out | apply below_alloc | apply pw_below_drewN | apply below_drew1) | exact HB.out)))); replace HB := A_ (below_step (by repeat (first | (with_reducible first | exact HB.out | apply below_alloc | apply pw_below_drewN | apply below_drew1) | exact HB.out)) hb); clear hb; (try clear ho0)))
        (try simp only [Act.put, mD, mE, mF])
        go_cut [136] (fun v136 wc => ∃ (kq : Nat) (x136_72 : Bool), v136 = .bool x136_72 ∧ Aside0 (laws_FnBalance.j5 kq l0 x136_72 = some r) ∧ Aside0 (kq ≤ kj60) ∧ Aside0 (Below w.heap.size w wc))
        case first =>
         have H := HC73.out; clear HC73; replace H := bA_ H; obtain ⟨t1011, A75, H⟩ := H
         by_cases c76 : t1011 = true
         ·subst c76; rw [if_pos rfl] at H; replace H := bA_ H; obtain ⟨t1012, A77, H⟩ := H
          have H' := A_ H
          clear H; obtain ⟨Ao78, co78, eo78⟩ := Kd.R_slice HO1010.out; subst eo78
          go_wp2_with (first | ((with_reducible refine gc_ 19 rfl ?_); refine cL_ E19 130 rfl rfl rfl (impl_IsRich.calls kj60 _ _ t1008 true _ ((Kd.R_reads' HO1010.out).2.2) ((Kd.R_reads' HO1010.out).2.1) A75.out) (by simp only [mA, mB, mC]; rfl) ?_; rintro e w79 ⟨rfl, hb⟩; refine ⟨_, rfl, ?_⟩; replace HO1010 := A_ (Kd.R_below HO1010.out hb); replace HB := bs_ HB hb; clear hb; (try clear hi)) | (go_at_call 9; (with_reducible refine (impl_IsBalanced.calls kj60 _ _ t1008 t1012 _ ?side1 ?side2 A77.out).mono ?_); (case side1 => exact (Kd.R_reads' HO1010.out).2.2); (case side2 => exact (Kd.R_reads' HO1010.out).2.1); rintro e w80 ⟨rfl, hb⟩; replace HO1010 := A_ (Kd.R_below HO1010.out hb); replace HB := bs_ HB hb; clear hb; (try clear hi)))
          go_meet
          case rel => exact ⟨_, (!t1012), (by rfl), H', ⟨by have := HJ6.out; have := HJ31.out; have := HJ60.out; omega⟩, ⟨HB.out⟩⟩
         replace c76 := Bool.eq_false_iff.mpr c76; subst c76; rw [if_neg nf_] at H
         have H' := A_ H
         clear H; obtain ⟨Ao81, co81, eo81⟩ := Kd.R_slice HO1010.out; subst eo81
         go_wp2_with (first | ((with_reducible refine gc_ 19 rfl ?_); refine cL_ E19 130 rfl rfl rfl (impl_IsRich.calls kj60 _ _ t1008 false _ ((Kd.R_reads' HO1010.out).2.2) ((Kd.R_reads' HO1010.out).2.1) A75.out) (by simp only [mA, mB, mC]; rfl) ?_; rintro e w82 ⟨rfl, hb⟩; refine ⟨_, rfl, ?_⟩; replace HO1010 := A_ (Kd.R_below HO1010.out hb); replace HB := bs_ HB hb; clear hb; (try clear hi)))
         go_meet
         case rel => exact ⟨_, (true), (by rfl), H', ⟨by have := HJ6.out; have := HJ31.out; have := HJ60.out; omega⟩, ⟨HB.out⟩⟩
        case rest =>
         clear HC73; obtain ⟨kq, x136_72, rfl, HA, HJ72, HB⟩ := hcut
         cases kq with
         | zero => exact absurd HA.out (by simp [laws_FnBalance.j5])
         | succ kj72 =>
          have H := HA.out; clear HA; simp only [laws_FnBalance.j5] at H
          by_cases c83 : x136_72 = true
          ·subst c83; rw [if_pos rfl] at H; obtain rfl := Option.some.inj H
           go_wp2
           go_ret
           exact ⟨by rfl, HB.out⟩
          replace c83 := Bool.eq_false_iff.mpr c83; subst c83; rw [if_neg nf_] at H; replace H := bA_ H; obtain ⟨⟨t1013, t1014⟩, A84, H⟩ := H; dsimp only at H; replace H := bA_ H; obtain ⟨t1017, A85, H⟩ := H; replace H := bA_ H; obtain ⟨t1020, A86, H⟩ := H; replace H := bA_ H; obtain ⟨t1021, A87, H⟩ := H
          by_cases c88 : (t1020 == t1021) = true
          ·rw [if_pos c88] at H
           have c88b0 : (t1020 == t1021) = true := c88
           (try (have c88b1 : decide (t1020 = t1021) = true := by simpa using c88))
           (try (have c88b2 : (t1020 == t1021) = true := by simpa using c88))
           clear c88; replace H := bA_ H; obtain ⟨t1022, A89, H⟩ := H; replace H := bA_ H; obtain ⟨t1023, A90, H⟩ := H
           by_cases c91 : t1022 = t1023
           ·rw [if_pos c91] at H
            have c91b0 : (t1022 == t1023) = true := beq_iff_eq.mpr c91
            clear c91; replace H := bA_ H; obtain ⟨t1024, A92, H⟩ := H; replace H := bA_ H; obtain ⟨t1025, A93, H⟩ := H; obtain rfl := Option.some.inj H
            go_wp2_with (first | ((with_reducible refine gc_ 20 rfl ?_); refine cL_ E20 139 rfl rfl rfl (spec_DrawIsSturmianPrefix.calls kj72 _ _ l0 t1013 t1014 _ (Kd.C_below HR0.out HB.out) HC0.out A84.out) (by simp only [mA, mB, mC]; rfl) ?_; rintro e w94 ⟨v1015, rfl, ho0, hb⟩; refine ⟨_, rfl, ?_⟩; have HO1016 := A_ (Kd.R_lower ho0 (below_size HB.out)); replace HB := bs_ HB hb; clear hb; (try clear ho0)) | ((with_reducible refine gc_ 21 rfl ?_); refine cL_ E21 143 rfl rfl rfl (spec_DrawRichnessOf.calls kj72 _ _ l0 t1017 _ (Kd.C_below HR0.out HB.out) HC0.out A85.out) (by simp only [mA, mB, mC]; rfl) ?_; rintro e w95 ⟨v1018, rfl, ho0, hb⟩; refine ⟨_, rfl, ?_⟩; have HO1019 := A_ (Kd.R_lower (Kd.R_new' ho0 (Kd.R_lt HO1016.out)) (below_size HB.out)); replace HO1016 := A_ (Kd.R_elder' HO1016.out (Kd.R_base ho0) hb); replace HB := bs_ HB hb; clear hb ho0; obtain ⟨Ao96, co96, eo96⟩ := Kd.R_slice HO1016.out; subst eo96) | ((with_reducible refine gc_ 22 rfl ?_); refine cL_ E22 146 rfl rfl rfl (impl_IsSturmianPrefix.calls kj72 _ _ t1013 t1014 t1020 _ ((Kd.R_reads' HO1016.out).2.2) ((Kd.R_reads' HO1016.out).2.1) A86.out) (by simp only [mA, mB, mC]; rfl) ?_; rintro e w97 ⟨rfl, hb⟩; refine ⟨_, rfl, ?_⟩; replace HO1016 := A_ (Kd.R_below HO1016.out hb); replace HO1019 := A_ (Kd.R_below HO1019.out hb); replace HB := bs_ HB hb; clear hb; (try clear hi)) | ((with_reducible refine gc_ 23 rfl ?_); refine cL_ E23 149 rfl rfl rfl (spec_IsSturmianPrefix.calls kj72 _ _ t1013 t1014 t1021 _ ((Kd.R_reads' HO1016.out).2.2) ((Kd.R_reads' HO1016.out).2.1) A87.out) (by simp only [mA, mB, mC]; rfl) ?_; rintro e w98 ⟨rfl, hb⟩; refine ⟨_, rfl, ?_⟩; replace HO1016 := A_ (Kd.R_below HO1016.out hb); replace HO1019 := A_ (Kd.R_below HO1019.out hb); replace HB := bs_ HB hb; clear hb; obtain ⟨Ao99, co99, eo99⟩ := Kd.R_slice HO1019.out; subst eo99) | (go_at_call 24; (with_reducible refine (impl_RichnessOf.calls kj72 _ _ t1017 t1022 _ ?side1 ?side2 A89.out).mono ?_); (case side1 => exact (Kd.R_reads' HO1019.out).2.2); (case side2 => exact (Kd.R_reads' HO1019.out).2.1); rintro e w100 ⟨rfl, hb⟩; replace HO1016 := A_ (Kd.R_below HO1016.out hb); replace HO1019 := A_ (Kd.R_below HO1019.out hb); replace HB := bs_ HB hb; clear hb; (try clear hi)) | (go_at_call 25; (with_reducible refine (spec_RichnessOf.calls kj72 _ _ t1017 t1023 _ ?side1 ?side2 A90.out).mono ?_); (case side1 => exact (Kd.R_reads' HO1019.out).2.2); (case side2 => exact (Kd.R_reads' HO1019.out).2.1); rintro e w101 ⟨rfl, hb⟩; replace HO1016 := A_ (Kd.R_below HO1016.out hb); replace HO1019 := A_ (Kd.R_below HO1019.out hb); replace HB := bs_ HB hb; clear hb; (try clear hi)) | (go_at_call 19; (with_reducible refine (impl_IsRich.calls kj72 _ _ t1017 t1024 _ ?side1 ?side2 A92.out).mono ?_); (case side1 => exact (Kd.R_reads' HO1019.out).2.2); (case side2 => exact (Kd.R_reads' HO1019.out).2.1); rintro e w102 ⟨rfl, hb⟩; replace HO1016 := A_ (Kd.R_below HO1016.out hb); replace HO1019 := A_ (Kd.R_below HO1019.out hb); replace HB := bs_ HB hb; clear hb; (try clear hi)) | (go_at_call 26; (with_reducible refine (spec_IsRich.calls kj72 _ _ t1017 t1025 _ ?side1 ?side2 A93.out).mono ?_); (case side1 => exact (Kd.R_reads' HO1019.out).2.2); (case side2 => exact (Kd.R_reads' HO1019.out).2.1); rintro e w103 ⟨rfl, hb⟩; replace HO1016 := A_ (Kd.R_below HO1016.out hb); replace HO1019 := A_ (Kd.R_below HO1019.out hb); replace HB := bs_ HB hb; clear hb; (try clear hi)))
            go_ret
            exact ⟨by rfl, HB.out⟩
           rw [if_neg c91] at H
           have c91b0 : (t1022 == t1023) = false := beq_eq_false_iff_ne.mpr c91
           obtain rfl := Option.some.inj H
           go_wp2_with (first | ((with_reducible refine gc_ 20 rfl ?_); refine cL_ E20 139 rfl rfl rfl (spec_DrawIsSturmianPrefix.calls kj72 _ _ l0 t1013 t1014 _ (Kd.C_below HR0.out HB.out) HC0.out A84.out) (by simp only [mA, mB, mC]; rfl) ?_; rintro e w104 ⟨v1015, rfl, ho0, hb⟩; refine ⟨_, rfl, ?_⟩; have HO1016 := A_ (Kd.R_lower ho0 (below_size HB.out)); replace HB := bs_ HB hb; clear hb; (try clear ho0)) | ((with_reducible refine gc_ 21 rfl ?_); refine cL_ E21 143 rfl rfl rfl (spec_DrawRichnessOf.calls kj72 _ _ l0 t1017 _ (Kd.C_below HR0.out HB.out) HC0.out A85.out) (by simp only [mA, mB, mC]; rfl) ?_; rintro e w105 ⟨v1018, rfl, ho0, hb⟩; refine ⟨_, rfl, ?_⟩; have HO1019 := A_ (Kd.R_lower (Kd.R_new' ho0 (Kd.R_lt HO1016.out)) (below_size HB.out)); replace HO1016 := A_ (Kd.R_elder' HO1016.out (Kd.R_base ho0) hb); replace HB := bs_ HB hb; clear hb ho0; obtain ⟨Ao106, co106, eo106⟩ := Kd.R_slice HO1016.out; subst eo106) | ((with_reducible refine gc_ 22 rfl ?_); refine cL_ E22 146 rfl rfl rfl (impl_IsSturmianPrefix.calls kj72 _ _ t1013 t1014 t1020 _ ((Kd.R_reads' HO1016.out).2.2) ((Kd.R_reads' HO1016.out).2.1) A86.out) (by simp only [mA, mB, mC]; rfl) ?_; rintro e w107 ⟨rfl, hb⟩; refine ⟨_, rfl, ?_⟩; replace HO1016 := A_ (Kd.R_below HO1016.out hb); replace HO1019 := A_ (Kd.R_below HO1019.out hb); replace HB := bs_ HB hb; clear hb; (try clear hi)) | ((with_reducible refine gc_ 23 rfl ?_); refine cL_ E23 149 rfl rfl rfl (spec_IsSturmianPrefix.calls kj72 _ _ t1013 t1014 t1021 _ ((Kd.R_reads' HO1016.out).2.2) ((Kd.R_reads' HO1016.out).2.1) A87.out) (by simp only [mA, mB, mC]; rfl) ?_; rintro e w108 ⟨rfl, hb⟩; refine ⟨_, rfl, ?_⟩; replace HO1016 := A_ (Kd.R_below HO1016.out hb); replace HO1019 := A_ (Kd.R_below HO1019.out hb); replace HB := bs_ HB hb; clear hb; obtain ⟨Ao109, co109, eo109⟩ := Kd.R_slice HO1019.out; subst eo109) | (go_at_call 24; (with_reducible refine (impl_RichnessOf.calls kj72 _ _ t1017 t1022 _ ?side1 ?side2 A89.out).mono ?_); (case side1 => exact (Kd.R_reads' HO1019.out).2.2); (case side2 => exact (Kd.R_reads' HO1019.out).2.1); rintro e w110 ⟨rfl, hb⟩; replace HO1016 := A_ (Kd.R_below HO1016.out hb); replace HO1019 := A_ (Kd.R_below HO1019.out hb); replace HB := bs_ HB hb; clear hb; (try clear hi)) | (go_at_call 25; (with_reducible refine (spec_RichnessOf.calls kj72 _ _ t1017 t1023 _ ?side1 ?side2 A90.out).mono ?_); (case side1 => exact (Kd.R_reads' HO1019.out).2.2); (case side2 => exact (Kd.R_reads' HO1019.out).2.1); rintro e w111 ⟨rfl, hb⟩; replace HO1016 := A_ (Kd.R_below HO1016.out hb); replace HO1019 := A_ (Kd.R_below HO1019.out hb); replace HB := bs_ HB hb; clear hb; (try clear hi)))
           go_ret
           exact ⟨by rfl, HB.out⟩
          rw [if_neg c88] at H
          have c88b0 : (t1020 == t1021) = false := by simpa using c88
          (try (have c88b1 : decide (t1020 = t1021) = false := by simpa using c88))
          (try (have c88b2 : (t1020 == t1021) = false := by simpa using c88))
          (try (have c88b3 : ¬ (t1020 = t1021) := by simpa using c88))
          clear c88; obtain rfl := Option.some.inj H
          go_wp2_with (first | ((with_reducible refine gc_ 20 rfl ?_); refine cL_ E20 139 rfl rfl rfl (spec_DrawIsSturmianPrefix.calls kj72 _ _ l0 t1013 t1014 _ (Kd.C_below HR0.out HB.out) HC0.out A84.out) (by simp only [mA, mB, mC]; rfl) ?_; rintro e w112 ⟨v1015, rfl, ho0, hb⟩; refine ⟨_, rfl, ?_⟩; have HO1016 := A_ (Kd.R_lower ho0 (below_size HB.out)); replace HB := bs_ HB hb; clear hb; (try clear ho0)) | ((with_reducible refine gc_ 21 rfl ?_); refine cL_ E21 143 rfl rfl rfl (spec_DrawRichnessOf.calls kj72 _ _ l0 t1017 _ (Kd.C_below HR0.out HB.out) HC0.out A85.out) (by simp only [mA, mB, mC]; rfl) ?_; rintro e w113 ⟨v1018, rfl, ho0, hb⟩; refine ⟨_, rfl, ?_⟩; have HO1019 := A_ (Kd.R_lower (Kd.R_new' ho0 (Kd.R_lt HO1016.out)) (below_size HB.out)); replace HO1016 := A_ (Kd.R_elder' HO1016.out (Kd.R_base ho0) hb); replace HB := bs_ HB hb; clear hb ho0; obtain ⟨Ao114, co114, eo114⟩ := Kd.R_slice HO1016.out; subst eo114) | ((with_reducible refine gc_ 22 rfl ?_); refine cL_ E22 146 rfl rfl rfl (impl_IsSturmianPrefix.calls kj72 _ _ t1013 t1014 t1020 _ ((Kd.R_reads' HO1016.out).2.2) ((Kd.R_reads' HO1016.out).2.1) A86.out) (by simp only [mA, mB, mC]; rfl) ?_; rintro e w115 ⟨rfl, hb⟩; refine ⟨_, rfl, ?_⟩; replace HO1016 := A_ (Kd.R_below HO1016.out hb); replace HO1019 := A_ (Kd.R_below HO1019.out hb); replace HB := bs_ HB hb; clear hb; (try clear hi)) | ((with_reducible refine gc_ 23 rfl ?_); refine cL_ E23 149 rfl rfl rfl (spec_IsSturmianPrefix.calls kj72 _ _ t1013 t1014 t1021 _ ((Kd.R_reads' HO1016.out).2.2) ((Kd.R_reads' HO1016.out).2.1) A87.out) (by simp only [mA, mB, mC]; rfl) ?_; rintro e w116 ⟨rfl, hb⟩; refine ⟨_, rfl, ?_⟩; replace HO1016 := A_ (Kd.R_below HO1016.out hb); replace HO1019 := A_ (Kd.R_below HO1019.out hb); replace HB := bs_ HB hb; clear hb; (try clear hi)))
          go_ret
          exact ⟨by rfl, HB.out⟩
     rw [if_neg c60] at H
     have c60b1 : (t1004 != t1005) = true := bne_iff_ne.mpr c60
     obtain rfl := Option.some.inj H
     go_wp2_with (first | ((with_reducible refine gc_ 13 rfl ?_); refine cL_ E13 89 rfl rfl rfl (spec_DrawCountBalanced.calls kj31 _ _ l0 t1003 _ (Kd.C_below HR0.out HB.out) HC0.out A57.out) (by simp only [mA, mB, mC]; rfl) ?_; rintro e w117 ⟨rfl, hb⟩; refine ⟨_, rfl, ?_⟩; replace HB := bs_ HB hb; clear hb; (try clear hi)) | ((with_reducible refine gc_ 14 rfl ?_); refine cL_ E14 91 rfl rfl rfl (impl_CountBalanced.calls kj31 t1003 t1004 _ A58.out) (by simp only [mA, mB, mC]; rfl) ?_; rintro e w118 ⟨rfl, hb⟩; refine ⟨_, rfl, ?_⟩; replace HB := bs_ HB hb; clear hb; (try clear hi)) | ((with_reducible refine gc_ 15 rfl ?_); refine cL_ E15 94 rfl rfl rfl (spec_CountBalanced.calls kj31 t1003 t1005 _ A59.out) (by simp only [mA, mB, mC]; rfl) ?_; rintro e w119 ⟨rfl, hb⟩; refine ⟨_, rfl, ?_⟩; replace HB := bs_ HB hb; clear hb; (try clear hi)))
     go_ret
     exact ⟨by rfl, HB.out⟩

def laws_FnBalance.Pure : Prop := ∀ (l0 : List Int), l0.length ≤ maxLen → l0.length * 1 ≤ 140737488351232 → (∀ x ∈ l0, (Lit.int .u8 x).wf = true) → ∃ k, laws_FnBalance.f k l0 = some true
theorem laws_FnBalance.walk (P : laws_FnBalance.Pure) (a0 : Option Addr) (len0 cap0 : Nat) (z0 : List Int) (w : World) (w0 : (a0 = none ∧ len0 = 0 ∧ cap0 = 0 ∧ z0 = []) ∨ ∃ x, a0 = some x ∧ len0 ≤ cap0 ∧ cap0 ≤ maxLen ∧ z0.length = cap0 ∧ (∀ i, i < z0.length → w.cell? (x.add i) = some (.int .u8 (z0.getD i 0))) ∧ ∀ n ∈ z0, (Lit.int .u8 n).wf = true) (y0 : len0 * 1 ≤ 140737488351232) :
  Calls Tryz.prog 3 #[.slice a0 len0 cap0] w fun e w' => e = .returned (.bool true) ∧ Below w.heap.size w w' := by
 obtain ⟨l0, rfl, hr0, hm0, hw0, hc0⟩ := ReadsInt.ofRowC w0; obtain ⟨k, h⟩ := P l0 hm0 y0 hw0; refine (laws_FnBalance.calls k _ _ l0 true w (Kd.C_of_reads (d := (0 : Int)) (h1 := fun _ => rfl) hr0) hc0 h).mono ?_; rintro e w' ⟨rfl, hd⟩; exact ⟨rfl, hd⟩
end Go.Proofs.YtmjlmjhccpedmaaGreat.PFnBalance

