/- Walks of the functions that the law reaches. -/
import Derived.Test.YtmjlmjhccpedmaaGreatPFnBalancex3
namespace Go.Proofs.YtmjlmjhccpedmaaGreat.PFnBalance
open Go.RowKit Go.Proofs.YtmjlmjhccpedmaaGreatW.PrintWords Go.Proofs.YtmjlmjhccpedmaaGreatW.PrintLast Go.Proofs.YtmjlmjhccpedmaaGreatW.PrintMore
attribute [local go_sem] max2_int min2_int max_two min_two max_three min_three max_four min_four
set_option linter.unusedVariables false
set_option maxHeartbeats 8000000
set_option maxRecDepth 100000
set_option linter.unusedSimpArgs false

def impl_UnbalancedPair.f (k : Nat) (l0 : List Int) : Option (List Int × List Int × Bool) := if (l0.length : Int) > 64 then (some ((([] : List Int)), (([] : List Int)), false)) else ((impl_unbalanced.f k l0).bind fun bt669 => (if bt669.2.2.2 = true then ((some (([] : List Int) : List Int)).bind fun y673 => (if 0 ≤ bt669.2.1 then (if bt669.2.1 ≤ (wrap64 (bt669.2.1 + bt669.1)) then (if (wrap64 (bt669.2.1 + bt669.1)) ≤ (l0.length : Int) then (if y673.length + ((l0.take ((wrap64 (bt669.2.1 + bt669.1)) : Int).toNat).drop (bt669.2.1 : Int).toNat).length < 17592186044416 then ((some (([] : List Int) : List Int)).bind fun y680 => (if 0 ≤ bt669.2.2.1 then (if bt669.2.2.1 ≤ (wrap64 (bt669.2.2.1 + bt669.1)) then (if (wrap64 (bt669.2.2.1 + bt669.1)) ≤ (l0.length : Int) then (if y680.length + ((l0.take ((wrap64 (bt669.2.2.1 + bt669.1)) : Int).toNat).drop (bt669.2.2.1 : Int).toNat).length < 17592186044416 then (some ((y673 ++ ((l0.take ((wrap64 (bt669.2.1 + bt669.1)) : Int).toNat).drop (bt669.2.1 : Int).toNat)), (y680 ++ ((l0.take ((wrap64 (bt669.2.2.1 + bt669.1)) : Int).toNat).drop (bt669.2.2.1 : Int).toNat)), true)) else (none)) else (none)) else (none)) else (none))) else (none)) else (none)) else (none)) else (none))) else (some ((([] : List Int)), (([] : List Int)), false))))
def impl_UnbalancedPair.T6 : Bool × List (List Nat × List Nat) := (true, [([], []), ([], []), ([], []), ([], []), ([], []), ([3, 4], [3, 4]), ([1, 2, 5], [1, 2, 5]), ([0, 6], [0, 6]), ([], []), ([], []), ([], []), ([], []), ([], []), ([11, 12], [11, 12]), ([9, 10, 13], [9, 10, 13]), ([8, 14, 7], [8, 14]), ([7, 15, 0, 1, 2, 3, 4, 5, 6, 7], [7]), ([15, 16, 0, 1, 2, 3, 4, 5, 6, 7, 8, 9, 10, 11, 12, 13, 14, 15, 16], [15]), ([17, 0, 1, 2, 3, 4, 5, 6, 7, 8, 9, 10, 11, 12, 13, 14, 15, 16, 17], [])])
def impl_UnbalancedPair.B6 : List Nat := [0, 0, 0, 0, 0, 24, 62, 127, 0, 0, 0, 0, 0, 6144, 15872, 32767, 65535, 131071, 262143]
theorem impl_UnbalancedPair.tab6 : rtab .any (opsOf Tryz.f6 6) = impl_UnbalancedPair.T6 := by kernel_rfl
theorem impl_UnbalancedPair.bits6 : waitsOk impl_UnbalancedPair.T6.2 impl_UnbalancedPair.B6 = true := by kernel_rfl
theorem impl_UnbalancedPair.calls (k : Nat) (A0 : Option Addr) (c0 : Nat) (l0 : List Int) (r1 : List Int) (r2 : List Int) (r3 : Bool) (w : World) (hr0 : Kd.C (Kd.int .i64) w A0 l0.length l0) (hc0 : l0.length ≤ c0) (h : impl_UnbalancedPair.f k l0 = some (r1, r2, r3)) :
  Calls Tryz.prog 6 #[.slice A0 l0.length c0] w fun e w' => ∃ v0_ v1_ : Value, e = .returned (.tuple #[v0_, v1_, .bool r3]) ∧ Kd.R (Kd.int .i64) 3 w' w.heap.size (fun k_ => some k_ ≠ (v1_ : Value).ownBlock) v0_ r1 ∧ Kd.R (Kd.int .i64) 3 w' w.heap.size (fun k_ => some k_ ≠ (v0_ : Value).ownBlock) v1_ r2 ∧ Below w.heap.size w w' := by
 have HR0 := A_ hr0; have HC0 := A_ hc0; clear hr0 hc0; have HB := A_ (Below.refl w.heap.size w); unfold impl_UnbalancedPair.f at h; have H := h; clear h
 by_cases c2 : (l0.length : Int) > 64
 ·rw [if_pos c2] at H
  have c2b0 : decide (64 < (l0.length : Int)) = true := decide_eq_true c2
  clear c2; obtain ⟨y663, hy663⟩ := ex_ ((([] : List Int)) : List Int); replace H : (some (y663, (([] : List Int)), false)) = some (r1, r2, r3) := by (rw [hy663]; with_reducible exact H)
  have Ny663 := A_ hy663; clear hy663; obtain ⟨y666, hy666⟩ := ex_ ((([] : List Int)) : List Int); replace H : (some (y663, y666, false)) = some (r1, r2, r3) := by (rw [hy666]; with_reducible exact H)
  have Ny666 := A_ hy666; clear hy666; simp only [Option.some.injEq, Prod.mk.injEq] at H; obtain ⟨rfl, rfl, rfl⟩ := H; go_enter Tryz.func6, Tryz.ntmps6
  go_wp2_with (first | ((with_reducible refine gd_ 12 rfl ?_); refine RL_ 12 3 [] [] rfl rfl (by go_simp; done) rfl rfl ?_; rintro v664 w3 ho4 hb - -; (rw [← Ny663.out] at ho4); have HO665 := A_ (Kd.R_lower ho4 (below_size HB.out)); replace HB := bs_ HB hb; clear hb ho4) | ((with_reducible refine gd_ 13 rfl ?_); refine RL_ 13 3 [] [] rfl rfl (by go_simp; done) rfl rfl ?_; rintro v667 w5 ho6 hb - -; (rw [← Ny666.out] at ho6); have HO668 := A_ (Kd.R_lower (Kd.R_new' ho6 (Kd.R_lt HO665.out)) (below_size HB.out)); replace HO665 := A_ (Kd.R_elder' HO665.out (Kd.R_base ho6) hb); replace HB := bs_ HB hb; clear hb ho6))
  go_ret3
  exact ⟨_, _, by rfl, by exact Kd.R_mono HO665.out (fun _ hk => hk.2), by exact Kd.R_mono HO668.out (fun _ hk => hk.2), HB.out⟩
 rw [if_neg c2] at H
 have c2b0 : decide (64 < (l0.length : Int)) = false := decide_eq_false c2
 clear c2; replace H := bA_ H; obtain ⟨⟨t669, t670, t671, t672⟩, A7, H⟩ := H; dsimp only at H
 by_cases c8 : t672 = true
 ·subst c8; rw [if_pos rfl] at H; obtain ⟨y673, hy673⟩ := ex_ ((([] : List Int)) : List Int); replace H : (if 0 ≤ t670 then (if t670 ≤ (wrap64 (t670 + t669)) then (if (wrap64 (t670 + t669)) ≤ (l0.length : Int) then (if y673.length + ((l0.take ((wrap64 (t670 + t669)) : Int).toNat).drop (t670 : Int).toNat).length < 17592186044416 then ((some (([] : List Int) : List Int)).bind fun y680 => (if 0 ≤ t671 then (if t671 ≤ (wrap64 (t671 + t669)) then (if (wrap64 (t671 + t669)) ≤ (l0.length : Int) then (if y680.length + ((l0.take ((wrap64 (t671 + t669)) : Int).toNat).drop (t671 : Int).toNat).length < 17592186044416 then (some ((y673 ++ ((l0.take ((wrap64 (t670 + t669)) : Int).toNat).drop (t670 : Int).toNat)), (y680 ++ ((l0.take ((wrap64 (t671 + t669)) : Int).toNat).drop (t671 : Int).toNat)), true)) else (none)) else (none)) else (none)) else (none))) else (none)) else (none)) else (none)) else (none)) = some (r1, r2, r3) := by (have H2_ := (Option.bind_some _ _).symm.trans H; rw [hy673]; with_reducible exact H2_)
  have Ny673 := A_ hy673; clear hy673
  by_cases c9 : 0 ≤ t670
  ·rw [if_pos c9] at H; have c9b0 := eq_true c9; have c9b1 := decide_eq_true c9; clear c9
   by_cases c10 : t670 ≤ (wrap64 (t670 + t669))
   ·rw [if_pos c10] at H; have c10b0 := eq_true c10; have c10b1 := decide_eq_true c10
    by_cases c11 : (wrap64 (t670 + t669)) ≤ (l0.length : Int)
    ·rw [if_pos c11] at H; have c11b0 := eq_true c11; have c11b1 := decide_eq_true c11
     by_cases c12 : y673.length + ((l0.take ((wrap64 (t670 + t669)) : Int).toNat).drop (t670 : Int).toNat).length < 17592186044416
     ·rw [if_pos c12] at H; have LMc12 := A_ c12; clear c12; obtain ⟨y677, hy677⟩ := ex_ ((y673 ++ ((l0.take ((wrap64 (t670 + t669)) : Int).toNat).drop (t670 : Int).toNat)) : List Int); replace H : ((some (([] : List Int) : List Int)).bind fun y680 => (if 0 ≤ t671 then (if t671 ≤ (wrap64 (t671 + t669)) then (if (wrap64 (t671 + t669)) ≤ (l0.length : Int) then (if y680.length + ((l0.take ((wrap64 (t671 + t669)) : Int).toNat).drop (t671 : Int).toNat).length < 17592186044416 then (some (y677, (y680 ++ ((l0.take ((wrap64 (t671 + t669)) : Int).toNat).drop (t671 : Int).toNat)), true)) else (none)) else (none)) else (none)) else (none))) = some (r1, r2, r3) := by (rw [hy677]; with_reducible exact H)
      have Ny677 := A_ hy677; clear hy677; obtain ⟨y680, hy680⟩ := ex_ ((([] : List Int)) : List Int); replace H : (if 0 ≤ t671 then (if t671 ≤ (wrap64 (t671 + t669)) then (if (wrap64 (t671 + t669)) ≤ (l0.length : Int) then (if y680.length + ((l0.take ((wrap64 (t671 + t669)) : Int).toNat).drop (t671 : Int).toNat).length < 17592186044416 then (some (y677, (y680 ++ ((l0.take ((wrap64 (t671 + t669)) : Int).toNat).drop (t671 : Int).toNat)), true)) else (none)) else (none)) else (none)) else (none)) = some (r1, r2, r3) := by (have H2_ := (Option.bind_some _ _).symm.trans H; rw [hy680]; with_reducible exact H2_)
      have Ny680 := A_ hy680; clear hy680
      by_cases c13 : 0 ≤ t671
      ·rw [if_pos c13] at H; have c13b0 := eq_true c13; have c13b1 := decide_eq_true c13; clear c13
       by_cases c14 : t671 ≤ (wrap64 (t671 + t669))
       ·rw [if_pos c14] at H; have c14b0 := eq_true c14; have c14b1 := decide_eq_true c14
        by_cases c15 : (wrap64 (t671 + t669)) ≤ (l0.length : Int)
        ·rw [if_pos c15] at H; have c15b0 := eq_true c15; have c15b1 := decide_eq_true c15
         by_cases c16 : y680.length + ((l0.take ((wrap64 (t671 + t669)) : Int).toNat).drop (t671 : Int).toNat).length < 17592186044416
         ·rw [if_pos c16] at H; have LMc16 := A_ c16; clear c16; obtain ⟨y684, hy684⟩ := ex_ ((y680 ++ ((l0.take ((wrap64 (t671 + t669)) : Int).toNat).drop (t671 : Int).toNat)) : List Int); replace H : (some (y677, y684, true)) = some (r1, r2, r3) := by (rw [hy684]; with_reducible exact H)
          have Ny684 := A_ hy684; clear hy684; simp only [Option.some.injEq, Prod.mk.injEq] at H; obtain ⟨rfl, rfl, rfl⟩ := H; go_enter Tryz.func6, Tryz.ntmps6
          try go_wp2_with (first | ((with_reducible refine gc_ 29 rfl ?_); refine cL_ E29 16 rfl rfl rfl (impl_unbalanced.calls k _ _ l0 t669 t670 t671 true _ (by repeat (first | exact HR0.out | (with_reducible refine Kd.C_alloc ?_ _) | (with_reducible refine Kd.C_drewN ?_ _) | (with_reducible refine Kd.C_drew ?_))) HC0.out A7.out) (by simp only [mA, mB, mC]; rfl) ?_; rintro e w17 ⟨rfl, hb⟩; refine ⟨_, rfl, ?_⟩; replace HB := bs_ HB hb; clear hb; (try clear hi)))
          have n0_ := A_ (below_drew1 HB.out); clear HB; have HB := n0_; clear n0_; obtain ⟨i019, hi019, _, hsz19, _⟩ := info_parts info3; obtain ⟨A19, hcut19, hA19, hC19⟩ := print_mid_of (P := Tryz.prog) (Value.int .i64) 0 24 3 .i64 .i64 Tryz.underlying24 hi019 hsz19 A0 c0 l0 t670 (wrap64 (t670 + t669)) (od_ (by assumption)) (by first | omega | exact od_ (by first | (with_reducible assumption) | assumption)) (od_ (by assumption)) HC0.out; have HR676 := A_ (Kd.C_of_reads (h1 := fun _ => rfl) (hA19 _ (Kd.reads_of_C HR0.out))); clear hA19 hC19 hi019 hsz19; obtain ⟨i020, hi020, _, hsz20, _⟩ := info_parts info3; obtain ⟨A20, hcut20, hA20, hC20⟩ := print_mid_of (P := Tryz.prog) (Value.int .i64) 0 24 3 .i64 .i64 Tryz.underlying24 hi020 hsz20 A0 c0 l0 t671 (wrap64 (t671 + t669)) (od_ (by assumption)) (by first | omega | exact od_ (by first | (with_reducible assumption) | assumption)) (od_ (by assumption)) HC0.out; have HR683 := A_ (Kd.C_of_reads (h1 := fun _ => rfl) (hA20 _ (Kd.reads_of_C HR0.out))); clear hA20 hC20 hi020 hsz20; refine start_ (n := 19) (S := fun w' => True) (ds := []) (mk_ 19 0) (by kernel_rfl) rfl rfl trivial (fun hHeld => ?_); refine with_tabW impl_UnbalancedPair.tab6 impl_UnbalancedPair.bits6 (fun HT_ HW_ => ?_)
          generalize w17.drew = w18 at HB HR676 HR683 hHeld ⊢
          refine pv_ 1 26 (mk_ 19 2) rfl rfl HT_.out (by kernel_rfl) (fun _ _ _ h => h) (by rfl) (by intro w'; go_simp; with_reducible rfl) (by simp only [Act.put, mD, mE, mF, i64_w, i32_w]; rfl) ?_; refine pv_ 2 27 (mk_ 19 6) rfl rfl HT_.out (by kernel_rfl) (fun _ _ _ h => h) (by rfl) (by intro w'; go_simp; with_reducible rfl) (by simp only [Act.put, mD, mE, mF, i64_w, i32_w]; rfl) ?_; refine pv_ 3 28 (mk_ 19 14) rfl rfl HT_.out (by kernel_rfl) (fun _ _ _ h => h) (by rfl) (by intro w'; go_simp; with_reducible rfl) (by simp only [Act.put, mD, mE, mF, i64_w, i32_w]; rfl) ?_; refine pv_ 4 29 (mk_ 19 30) rfl rfl HT_.out (by kernel_rfl) (fun _ _ _ h => h) (by rfl) (by intro w'; go_simp; with_reducible rfl) (by simp only [Act.put, mD, mE, mF, i64_w, i32_w]; rfl) ?_; refine pv_ 5 30 (mk_ 19 62) rfl rfl HT_.out (by kernel_rfl) (fun _ _ _ h => h) (by rfl) (by intro w'; go_simp; with_reducible rfl) (by simp only [Act.put, mD, mE, mF, i64_w, i32_w]; rfl) ?_; refine pv_ 6 31 (mk_ 19 126) rfl rfl HT_.out (by kernel_rfl) (fun _ _ _ h => h) (by rfl) (by intro w'; go_simp; with_reducible rfl) (by simp only [Act.put, mD, mE, mF, i64_w, i32_w]; rfl) ?_; refine pv_ 9 34 (mk_ 19 638) rfl rfl HT_.out (by kernel_rfl) (fun _ _ _ h => h) (by rfl) (by intro w'; go_simp; with_reducible rfl) (by simp only [Act.put, mD, mE, mF, i64_w, i32_w]; rfl) ?_; refine pv_ 10 35 (mk_ 19 1662) rfl rfl HT_.out (by kernel_rfl) (fun _ _ _ h => h) (by rfl) (by intro w'; go_simp; with_reducible rfl) (by simp only [Act.put, mD, mE, mF, i64_w, i32_w]; rfl) ?_; refine pv_ 11 36 (mk_ 19 3710) rfl rfl HT_.out (by kernel_rfl) (fun _ _ _ h => h) (by rfl) (by intro w'; go_simp; with_reducible rfl) (by simp only [Act.put, mD, mE, mF, i64_w, i32_w]; rfl) ?_; refine pv_ 12 37 (mk_ 19 7806) rfl rfl HT_.out (by kernel_rfl) (fun _ _ _ h => h) (by rfl) (by intro w'; go_simp; with_reducible rfl) (by simp only [Act.put, mD, mE, mF, i64_w, i32_w]; rfl) ?_; refine pv_ 13 38 (mk_ 19 15998) rfl rfl HT_.out (by kernel_rfl) (fun _ _ _ h => h) (by rfl) (by intro w'; go_simp; with_reducible rfl) (by simp only [Act.put, mD, mE, mF, i64_w, i32_w]; rfl) ?_; refine pv_ 14 39 (mk_ 19 32382) rfl rfl HT_.out (by kernel_rfl) (fun _ _ _ h => h) (by rfl) (by intro w'; go_simp; with_reducible rfl) (by simp only [Act.put, mD, mE, mF, i64_w, i32_w]; rfl) ?_; refine join_ (σ := Value × Value × Value) 4 (mk_ 19 32767) (fun s_ => [(25, s_.1), (32, s_.2.1), (33, s_.2.2)]) (fun s_ w' => (Kd.R (Kd.int .i64) 3 w' w.heap.size (fun k_ => some k_ ≠ (s_.2.2 : Value).ownBlock) s_.2.1 y677) ∧ (Kd.R (Kd.int .i64) 3 w' w.heap.size (fun k_ => some k_ ≠ (s_.2.1 : Value).ownBlock) s_.2.2 y680) ∧ (Below w.heap.size w w')) ?_ ?_; rotate_left
          ·intro hCont; refine two_ (i := 0) (j := 8) (Ni := some 25) (Nj := some 33) (mk_ 19 32383) (mk_ 19 32638) rfl rfl rfl rfl (two_of HT_.out (by kernel_rfl)) (by decide) (by decide) (fun K hK => ?_) (fun K hK => ?_)
           ·skip
            refine Kd.R_lit_step (Kd.int .i64) _ 3 ?hg (N := 25) ?hd (xs := ([] : List Int)) (inner := []) (ok := fun _ => True) (okp := fun _ => True) ?hr ?hp (fun _ hk => hk) trivial (Below.refl _ _) (Nat.le_refl _) (by simp) ?_; (case hd | hg => rfl); (case hr => go_simp; done); (case hp => exact (Reps.none _ _)); intro v674 w21 ho22 hb hg_ hnew_; clear hg_ hnew_
            (rw [← Ny673.out] at ho22)
            have n0_ := A_ (Kd.R_lower ho22 (below_size HB.out)); have n1_ := bs_ HB hb; clear HB; have HO675 := n0_; have HB := n1_; clear n0_ n1_ hb ho22; refine hK.out _ _ trivial (fun hHeld => ?_); clear hK K; refine norm_ (by show Act.put _ (some 25) _ = _; simp only [Act.put, mD, mE, mF, i64_w, i32_w]; rfl) ?_; refine two_ (i := 7) (j := 8) (Ni := some 32) (Nj := some 33) (mk_ 19 32511) (mk_ 19 32639) rfl rfl rfl rfl (two_of HT_.out (by kernel_rfl)) (by decide) (by decide) (fun K hK => ?_) (fun K hK => ?_)
            ·skip
             refine Kd.R_append_rows_step (Kd.int .i64) (w0 := w) w.heap.size (by rfl) (.tmp 25) (.tmp 31) 24 3 (.int .i64 0) 8 rfl Tryz.underlying24 info3 rfl (by decide) (by omega) v674 y673 ((l0.take ((wrap64 (t670 + t669)) : Int).toNat).drop (t670 : Int).toNat) _ _ _ (fun _ => True) (fun _ => False) rfl rfl ?aO ?aR (fun _ _ h => h) (fun _ h => h.elim) ?aF ?aB ?aS ?aL ?_
             (case aR => first | (rw [← show ((l0.take ((wrap64 (t670 + t669)) : Int).toNat).drop (t670 : Int).toNat).length = ((wrap64 (t670 + t669)).toNat - t670.toNat) from (by rw [List.length_drop, List.length_take]; omega)]; exact (Kd.C_below HR676.out HB.out)) | (exact (Kd.C_below HR676.out HB.out)))
             (case aB => exact HB.out)
             (case aF => exact (fun _ _ => trivial))
             (case aO => exact HO675.out)
             (case aS => exact (below_size HB.out))
             (case aL => have := LMc12.out; have hlx_ := (show ((l0.take ((wrap64 (t670 + t669)) : Int).toNat).drop (t670 : Int).toNat).length = ((wrap64 (t670 + t669)).toNat - t670.toNat) from (by rw [List.length_drop, List.length_take]; omega)); omega)
             intro v678 w23 ho hb hg hat; rw [← Ny677.out] at ho; have n0_ := A_ (hb); have n1_ := A_ (ho); clear HB HO675; have HB := n0_; have HO679 := n1_; clear n0_ n1_ ho hb hg hat; refine hK.out _ _ trivial (fun hHeld => ?_); clear hK K; refine norm_ (by show Act.put _ (some 32) _ = _; simp only [Act.put, mD, mE, mF, i64_w, i32_w]; rfl) ?_; refine one_ (i := 8) (N := some 33) (mk_ 19 32767) rfl rfl (one_of HT_.out (by kernel_rfl)) (by decide) (fun K hK => ?_); refine Kd.R_lit_step (Kd.int .i64) _ 3 ?hg (N := 33) ?hd (xs := ([] : List Int)) (inner := []) (ok := fun _ => True) (okp := fun _ => True) ?hr ?hp (fun _ hk => hk) trivial (Below.refl _ _) (Nat.le_refl _) (by simp) ?_; (case hd | hg => rfl); (case hr => go_simp; done); (case hp => exact (Reps.none _ _)); intro v681 w24 ho25 hb hg_ hnew_; clear hg_ hnew_
             (rw [← Ny680.out] at ho25)
             have n0_ := A_ (Kd.R_elder' HO679.out (Kd.R_base ho25) hb); have n1_ := A_ (Kd.R_lower (Kd.R_new' ho25 (Kd.R_lt HO679.out)) (below_size HB.out)); have n2_ := bs_ HB hb; clear HO679 HB; have HO679 := n0_; have HO682 := n1_; have HB := n2_; clear n0_ n1_ n2_ hb ho25; refine hK.out _ _ trivial (fun hHeld => ?_); clear hK K; refine norm_ (by show Act.put _ (some 33) _ = _; simp only [Act.put, mD, mE, mF, i64_w, i32_w]; rfl) ?_; exact norm_ (by simp only [putAll, Act.put, mD, mE, mF]) (hCont (v674, v678, v681) _ ⟨(by exact Kd.R_mono HO679.out (fun _ hk => hk.2)), (by exact Kd.R_mono HO682.out (fun _ hk => hk.2)), HB.out⟩)
            refine Kd.R_lit_step (Kd.int .i64) _ 3 ?hg (N := 33) ?hd (xs := ([] : List Int)) (inner := []) (ok := fun _ => True) (okp := fun _ => True) ?hr ?hp (fun _ hk => hk) trivial (Below.refl _ _) (Nat.le_refl _) (by simp) ?_; (case hd | hg => rfl); (case hr => go_simp; done); (case hp => exact (Reps.none _ _)); intro v681 w23 ho24 hb hg_ hnew_; clear hg_ hnew_
            (rw [← Ny680.out] at ho24)
            have n0_ := A_ (Kd.R_elder' HO675.out (Kd.R_base ho24) hb); have n1_ := A_ (Kd.R_lower (Kd.R_new' ho24 (Kd.R_lt HO675.out)) (below_size HB.out)); have n2_ := bs_ HB hb; clear HO675 HB; have HO675 := n0_; have HO682 := n1_; have HB := n2_; clear n0_ n1_ n2_ hb ho24; refine hK.out _ _ trivial (fun hHeld => ?_); clear hK K; refine norm_ (by show Act.put _ (some 33) _ = _; simp only [Act.put, mD, mE, mF, i64_w, i32_w]; rfl) ?_; refine one_ (i := 7) (N := some 32) (mk_ 19 32767) rfl rfl (one_of HT_.out (by kernel_rfl)) (by decide) (fun K hK => ?_); refine Kd.R_append_rows_step (Kd.int .i64) (w0 := w) w.heap.size (by rfl) (.tmp 25) (.tmp 31) 24 3 (.int .i64 0) 8 rfl Tryz.underlying24 info3 rfl (by decide) (by omega) v674 y673 ((l0.take ((wrap64 (t670 + t669)) : Int).toNat).drop (t670 : Int).toNat) _ _ _ (fun k_ => some k_ ≠ (v681 : Value).ownBlock) (fun _ => False) rfl rfl ?aO ?aR (fun _ _ h => h) (fun _ h => h.elim) ?aF ?aB ?aS ?aL ?_
            (case aR => first | (rw [← show ((l0.take ((wrap64 (t670 + t669)) : Int).toNat).drop (t670 : Int).toNat).length = ((wrap64 (t670 + t669)).toNat - t670.toNat) from (by rw [List.length_drop, List.length_take]; omega)]; exact (Kd.C_below HR676.out HB.out)) | (exact (Kd.C_below HR676.out HB.out)))
            (case aB => exact HB.out)
            (case aF => exact (fun k_ hk => Kd.fresh' (Kd.R_lt HO682.out) k_ hk))
            (case aO => exact (by exact Kd.R_mono HO675.out (fun _ hk => hk.2)))
            (case aS => exact (below_size HB.out))
            (case aL => have := LMc12.out; have hlx_ := (show ((l0.take ((wrap64 (t670 + t669)) : Int).toNat).drop (t670 : Int).toNat).length = ((wrap64 (t670 + t669)).toNat - t670.toNat) from (by rw [List.length_drop, List.length_take]; omega)); omega)
            intro v678 w25 ho hb hg hat; rw [← Ny677.out] at ho; have n0_ := A_ (Kd.R_after (ok := (fun _ => True)) HO682.out hg hat); have n1_ := A_ (hb); have n2_ := A_ (ho); clear HO682 HB HO675; have HO682 := n0_; have HB := n1_; have HO679 := n2_; clear n0_ n1_ n2_ ho hb hg hat; refine hK.out _ _ trivial (fun hHeld => ?_); clear hK K; refine norm_ (by show Act.put _ (some 32) _ = _; simp only [Act.put, mD, mE, mF, i64_w, i32_w]; rfl) ?_; exact norm_ (by simp only [putAll, Act.put, mD, mE, mF]) (hCont (v674, v678, v681) _ ⟨HO679.out, (by exact Kd.R_mono HO682.out (fun _ hk => hk.2)), HB.out⟩)
           refine Kd.R_lit_step (Kd.int .i64) _ 3 ?hg (N := 33) ?hd (xs := ([] : List Int)) (inner := []) (ok := fun _ => True) (okp := fun _ => True) ?hr ?hp (fun _ hk => hk) trivial (Below.refl _ _) (Nat.le_refl _) (by simp) ?_; (case hd | hg => rfl); (case hr => go_simp; done); (case hp => exact (Reps.none _ _)); intro v681 w21 ho22 hb hg_ hnew_; clear hg_ hnew_
           (rw [← Ny680.out] at ho22)
           have n0_ := A_ (Kd.R_lower ho22 (below_size HB.out)); have n1_ := bs_ HB hb; clear HB; have HO682 := n0_; have HB := n1_; clear n0_ n1_ hb ho22; refine hK.out _ _ trivial (fun hHeld => ?_); clear hK K; refine norm_ (by show Act.put _ (some 33) _ = _; simp only [Act.put, mD, mE, mF, i64_w, i32_w]; rfl) ?_; refine one_ (i := 0) (N := some 25) (mk_ 19 32639) rfl rfl (one_of HT_.out (by kernel_rfl)) (by decide) (fun K hK => ?_); refine Kd.R_lit_step (Kd.int .i64) _ 3 ?hg (N := 25) ?hd (xs := ([] : List Int)) (inner := []) (ok := fun _ => True) (okp := fun _ => True) ?hr ?hp (fun _ hk => hk) trivial (Below.refl _ _) (Nat.le_refl _) (by simp) ?_; (case hd | hg => rfl); (case hr => go_simp; done); (case hp => exact (Reps.none _ _)); intro v674 w23 ho24 hb hg_ hnew_; clear hg_ hnew_
           (rw [← Ny673.out] at ho24)
           have n0_ := A_ (Kd.R_elder' HO682.out (Kd.R_base ho24) hb); have n1_ := A_ (Kd.R_lower (Kd.R_new' ho24 (Kd.R_lt HO682.out)) (below_size HB.out)); have n2_ := bs_ HB hb; clear HO682 HB; have HO682 := n0_; have HO675 := n1_; have HB := n2_; clear n0_ n1_ n2_ hb ho24; refine hK.out _ _ trivial (fun hHeld => ?_); clear hK K; refine norm_ (by show Act.put _ (some 25) _ = _; simp only [Act.put, mD, mE, mF, i64_w, i32_w]; rfl) ?_; refine one_ (i := 7) (N := some 32) (mk_ 19 32767) rfl rfl (one_of HT_.out (by kernel_rfl)) (by decide) (fun K hK => ?_); refine Kd.R_append_rows_step (Kd.int .i64) (w0 := w) w.heap.size (by rfl) (.tmp 25) (.tmp 31) 24 3 (.int .i64 0) 8 rfl Tryz.underlying24 info3 rfl (by decide) (by omega) v674 y673 ((l0.take ((wrap64 (t670 + t669)) : Int).toNat).drop (t670 : Int).toNat) _ _ _ (fun k_ => some k_ ≠ (v681 : Value).ownBlock) (fun _ => False) rfl rfl ?aO ?aR (fun _ _ h => h) (fun _ h => h.elim) ?aF ?aB ?aS ?aL ?_
           (case aR => first | (rw [← show ((l0.take ((wrap64 (t670 + t669)) : Int).toNat).drop (t670 : Int).toNat).length = ((wrap64 (t670 + t669)).toNat - t670.toNat) from (by rw [List.length_drop, List.length_take]; omega)]; exact (Kd.C_below HR676.out HB.out)) | (exact (Kd.C_below HR676.out HB.out)))
           (case aB => exact HB.out)
           (case aF => exact (fun k_ hk => Kd.fresh' (Kd.R_lt HO682.out) k_ hk))
           (case aO => exact (by exact Kd.R_mono HO675.out (fun _ hk => hk.2)))
           (case aS => exact (below_size HB.out))
           (case aL => have := LMc12.out; have hlx_ := (show ((l0.take ((wrap64 (t670 + t669)) : Int).toNat).drop (t670 : Int).toNat).length = ((wrap64 (t670 + t669)).toNat - t670.toNat) from (by rw [List.length_drop, List.length_take]; omega)); omega)
           intro v678 w25 ho hb hg hat; rw [← Ny677.out] at ho; have n0_ := A_ (Kd.R_after (ok := (fun _ => True)) HO682.out hg hat); have n1_ := A_ (hb); have n2_ := A_ (ho); clear HO682 HB HO675; have HO682 := n0_; have HB := n1_; have HO679 := n2_; clear n0_ n1_ n2_ ho hb hg hat; refine hK.out _ _ trivial (fun hHeld => ?_); clear hK K; refine norm_ (by show Act.put _ (some 32) _ = _; simp only [Act.put, mD, mE, mF, i64_w, i32_w]; rfl) ?_; exact norm_ (by simp only [putAll, Act.put, mD, mE, mF]) (hCont (v674, v678, v681) _ ⟨HO679.out, (by exact Kd.R_mono HO682.out (fun _ hk => hk.2)), HB.out⟩)
          rintro ⟨v674, v678, v681⟩ w26 ⟨h0_, h1_, h2_⟩
          have n0_ : Aside0 (Kd.R (Kd.int .i64) 3 w26 w.heap.size (fun k_ => some k_ ≠ (v681 : Value).ownBlock) v678 y677) := ⟨h0_⟩
          have n1_ : Aside0 (Kd.R (Kd.int .i64) 3 w26 w.heap.size (fun k_ => some k_ ≠ (v678 : Value).ownBlock) v681 y680) := ⟨h1_⟩
          have n2_ : Aside0 (Below w.heap.size w w26) := ⟨h2_⟩
          clear HB h0_ h1_ h2_; have HO679 := n0_; have HO682 := n1_; have HB := n2_; clear n0_ n1_ n2_; refine norm_ (a' := ?_) ?_ ?_; rotate_left
          ·simp only [putAll, Act.put, mD, mE, mF]
           rfl
          refine one_ (i := 15) (N := some 40) (mk_ 19 65535) rfl rfl (one_of HT_.out (by kernel_rfl)) (by decide) (fun K hK => ?_); refine Kd.R_append_rows_step (Kd.int .i64) (w0 := w) w.heap.size (by rfl) (.tmp 33) (.tmp 39) 24 3 (.int .i64 0) 8 rfl Tryz.underlying24 info3 rfl (by decide) (by omega) v681 y680 ((l0.take ((wrap64 (t671 + t669)) : Int).toNat).drop (t671 : Int).toNat) _ _ _ (fun k_ => some k_ ≠ (v678 : Value).ownBlock) (fun _ => False) rfl rfl ?aO ?aR (fun _ _ h => h) (fun _ h => h.elim) ?aF ?aB ?aS ?aL ?_
          (case aR => first | (rw [← show ((l0.take ((wrap64 (t671 + t669)) : Int).toNat).drop (t671 : Int).toNat).length = ((wrap64 (t671 + t669)).toNat - t671.toNat) from (by rw [List.length_drop, List.length_take]; omega)]; exact (Kd.C_below HR683.out HB.out)) | (exact (Kd.C_below HR683.out HB.out)))
          (case aB => exact HB.out)
          (case aF => exact (fun k_ hk => Kd.fresh' (Kd.R_lt HO679.out) k_ hk))
          (case aO => exact HO682.out)
          (case aS => exact (below_size HB.out))
          (case aL => have := LMc16.out; have hlx_ := (show ((l0.take ((wrap64 (t671 + t669)) : Int).toNat).drop (t671 : Int).toNat).length = ((wrap64 (t671 + t669)).toNat - t671.toNat) from (by rw [List.length_drop, List.length_take]; omega)); omega)
          intro v685 w27 ho hb hg hat; rw [← Ny684.out] at ho; have n0_ := A_ (Kd.R_after (ok := (fun _ => True)) (by exact Kd.R_mono HO679.out (fun _ hk => ⟨trivial, hk⟩)) hg hat); have n1_ := A_ (hb); have n2_ := A_ (ho); clear HO679 HB HO682; have HO679 := n0_; have HB := n1_; have HO686 := n2_; clear n0_ n1_ n2_ ho hb hg hat; refine hK.out _ _ trivial (fun hHeld => ?_); clear hK K; refine norm_ (by show Act.put _ (some 40) _ = _; simp only [Act.put, mD, mE, mF, i64_w, i32_w]; rfl) ?_; refine pv_ 16 2 (mk_ 19 131071) rfl rfl HT_.out (by kernel_rfl) (fun _ _ _ h => h) (by rfl) (by intro w'; go_simp; with_reducible rfl) (by simp only [Act.put, mD, mE, mF, i64_w, i32_w]; rfl) ?_; refine pv_ 17 3 (mk_ 19 262143) rfl rfl HT_.out (by kernel_rfl) (fun _ _ _ h => h) (by rfl) (by intro w'; go_simp; with_reducible rfl) (by simp only [Act.put, mD, mE, mF, i64_w, i32_w]; rfl) ?_; refine pv_ 18 4 (mk_ 19 524287) rfl rfl HT_.out (by kernel_rfl) (fun _ _ _ h => h) (by rfl) (by intro w'; go_simp; with_reducible rfl) (by simp only [Act.put, mD, mE, mF, i64_w, i32_w]; rfl) ?_; refine done_ (done_of HT_.out (by kernel_rfl)) ?_
          try go_wp2
          go_ret3
          exact ⟨_, _, by rfl, by exact Kd.R_mono HO679.out (fun _ hk => hk.2), HO686.out, HB.out⟩
         rw [if_neg c16] at H
         cases H
        rw [if_neg c15] at H
        cases H
       rw [if_neg c14] at H
       cases H
      rw [if_neg c13] at H
      cases H
     rw [if_neg c12] at H
     cases H
    rw [if_neg c11] at H
    cases H
   rw [if_neg c10] at H
   cases H
  rw [if_neg c9] at H
  cases H
 replace c8 := Bool.eq_false_iff.mpr c8; subst c8; rw [if_neg nf_] at H; obtain ⟨y687, hy687⟩ := ex_ ((([] : List Int)) : List Int); replace H : (some (y687, (([] : List Int)), false)) = some (r1, r2, r3) := by (rw [hy687]; with_reducible exact H)
 have Ny687 := A_ hy687; clear hy687; obtain ⟨y690, hy690⟩ := ex_ ((([] : List Int)) : List Int); replace H : (some (y687, y690, false)) = some (r1, r2, r3) := by (rw [hy690]; with_reducible exact H)
 have Ny690 := A_ hy690; clear hy690; simp only [Option.some.injEq, Prod.mk.injEq] at H; obtain ⟨rfl, rfl, rfl⟩ := H; go_enter Tryz.func6, Tryz.ntmps6
 go_wp2_with (first | ((with_reducible refine gc_ 29 rfl ?_); refine cL_ E29 16 rfl rfl rfl (impl_unbalanced.calls k _ _ l0 t669 t670 t671 false _ (by repeat (first | exact HR0.out | (with_reducible refine Kd.C_alloc ?_ _) | (with_reducible refine Kd.C_drewN ?_ _) | (with_reducible refine Kd.C_drew ?_))) HC0.out A7.out) (by simp only [mA, mB, mC]; rfl) ?_; rintro e w28 ⟨rfl, hb⟩; refine ⟨_, rfl, ?_⟩; replace HB := bs_ HB hb; clear hb; (try clear hi)) | ((with_reducible refine gd_ 23 rfl ?_); refine RL_ 23 3 [] [] rfl rfl (by go_simp; done) rfl rfl ?_; rintro v688 w29 ho30 hb - -; (rw [← Ny687.out] at ho30); have HO689 := A_ (Kd.R_lower ho30 (below_size HB.out)); replace HB := bs_ HB hb; clear hb ho30) | ((with_reducible refine gd_ 24 rfl ?_); refine RL_ 24 3 [] [] rfl rfl (by go_simp; done) rfl rfl ?_; rintro v691 w31 ho32 hb - -; (rw [← Ny690.out] at ho32); have HO692 := A_ (Kd.R_lower (Kd.R_new' ho32 (Kd.R_lt HO689.out)) (below_size HB.out)); replace HO689 := A_ (Kd.R_elder' HO689.out (Kd.R_base ho32) hb); replace HB := bs_ HB hb; clear hb ho32))
 go_ret3
 exact ⟨_, _, by rfl, by exact Kd.R_mono HO689.out (fun _ hk => hk.2), by exact Kd.R_mono HO692.out (fun _ hk => hk.2), HB.out⟩

def spec_CountLetters.l0 : Nat → List Int → Int → Int → Int → Option (Int)
 | 0, _, _, _, _ => none
 | k + 1, x0, x1, x5, x6 => if x6 < (x0.length : Int) then (if 0 ≤ x6 then (if (rd x0 x6) = x1 then (spec_CountLetters.l0 k x0 x1 (wrap64 (x5 + 1)) (wrap64 (x6 + 1))) else (spec_CountLetters.l0 k x0 x1 x5 (wrap64 (x6 + 1)))) else (none)) else (some x5)
def spec_CountLetters.f (k : Nat) (l0 : List Int) (a1 : Int) : Option (Int) := spec_CountLetters.l0 k l0 a1 0 0
theorem spec_CountLetters.calls (k : Nat) (A0 : Option Addr) (c0 : Nat) (l0 : List Int) (a1 : Int) (r : Int) (w : World) (hr0 : Kd.C (Kd.int .i64) w A0 l0.length l0) (hc0 : l0.length ≤ c0) (h : spec_CountLetters.f k l0 a1 = some r) :
  Calls Tryz.prog 11 #[.slice A0 l0.length c0, .int .i64 a1] w fun e w' => e = .returned (.int .i64 r) ∧ Drawn0 w w' := by
 have HR0 := A_ hr0; clear hr0 hc0; unfold spec_CountLetters.f at h; have H := h; clear h
 have H' := A_ H
 clear H; go_enter Tryz.func11, Tryz.ntmps11
 go_wp2
 go_loopg [5, 6] k (fun kq v5 v6 w' => ∃ (x5_1 : Int) (x6_1 : Int), v5 = .int .i64 x5_1 ∧ v6 = .int .i64 x6_1 ∧ Aside0 (spec_CountLetters.l0 kq l0 a1 x5_1 x6_1 = some r) ∧ Aside0 (kq ≤ k) ∧ Drawn0 w w')
 case atStart => exact ⟨(0), (0), (by rfl), (by rfl), H', ⟨Nat.le_refl _⟩, by repeat (first | exact Drawn0.refl _ | apply Drawn0.step)⟩
 case round =>
  clear H'; obtain ⟨x5_1, x6_1, rfl, rfl, HA, HK1, ⟨m1, rfl⟩⟩ := hrel
  cases gk with
  | zero => exact absurd HA.out (by simp [spec_CountLetters.l0])
  | succ k1 =>
   have H := HA.out; clear HA; simp only [spec_CountLetters.l0] at H
   by_cases c3 : x6_1 < (l0.length : Int)
   ·rw [if_pos c3] at H; have c3b0 := decide_eq_true c3; clear c3
    by_cases c4 : 0 ≤ x6_1
    ·rw [if_pos c4] at H; have c4b0 := decide_eq_true c4; clear c4
     by_cases c5 : (rd l0 x6_1) = a1
     ·rw [if_pos c5] at H
      have c5b0 : ((rd l0 x6_1) == a1) = true := beq_iff_eq.mpr c5
      clear c5
      have H' := A_ H
      clear H
      have p693 : 0 ≤ (x6_1 : Int) := od_ (by assumption)
      have q693 : x6_1 < (l0.length : Int) := od_ (by assumption)
      obtain ⟨ad693, e693, hx693_0⟩ := Kd.at_int HR0.out x6_1 p693 q693
      cases e693
      replace p693 := eq_true p693; replace q693 := eq_true q693
      go_wp2
      go_roundg k1
      case measure => have := HK1.out; omega
      case rel => exact ⟨(wrap64 (x5_1 + 1)), (wrap64 (x6_1 + 1)), (by rfl), (by rfl), H', ⟨by have := HK1.out; omega⟩, by repeat (first | exact Drawn0.refl _ | apply Drawn0.step)⟩
     rw [if_neg c5] at H
     have c5b0 : ((rd l0 x6_1) == a1) = false := beq_eq_false_iff_ne.mpr c5
     have H' := A_ H
     clear H
     have p693 : 0 ≤ (x6_1 : Int) := od_ (by assumption)
     have q693 : x6_1 < (l0.length : Int) := od_ (by assumption)
     obtain ⟨ad693, e693, hx693_0⟩ := Kd.at_int HR0.out x6_1 p693 q693
     cases e693
     replace p693 := eq_true p693; replace q693 := eq_true q693
     go_wp2
     go_roundg k1
     case measure => have := HK1.out; omega
     case rel => exact ⟨(x5_1), (wrap64 (x6_1 + 1)), (by rfl), (by rfl), H', ⟨by have := HK1.out; omega⟩, by repeat (first | exact Drawn0.refl _ | apply Drawn0.step)⟩
    rw [if_neg c4] at H
    cases H
   rw [if_neg c3] at H; have c3b0 := decide_eq_false c3; clear c3; obtain rfl := Option.some.inj H
   go_wp2
   go_ret
   exact ⟨by rfl, by repeat (first | exact Drawn0.refl _ | apply Drawn0.step)⟩
mutual
def spec_UnbalancedPair.l0 : Nat → List Int → Int → Option (List Int × List Int × Bool)
 | 0, _, _ => none
 | k + 1, x0, x5 => if x5 ≤ (x0.length : Int) then (spec_UnbalancedPair.j1 k x0 x5 (decide ((x0.length : Int) ≤ 64))) else (spec_UnbalancedPair.j1 k x0 x5 false)
def spec_UnbalancedPair.j1 : Nat → List Int → Int → Bool → Option (List Int × List Int × Bool)
 | 0, _, _, _ => none
 | k + 1, x0, x5, x18 => if x18 = true then (spec_UnbalancedPair.l1 k x0 x5 0) else (some ((([] : List Int)), (([] : List Int)), false))
def spec_UnbalancedPair.l1 : Nat → List Int → Int → Int → Option (List Int × List Int × Bool)
 | 0, _, _, _ => none
 | k + 1, x0, x5, x6 => if (wrap64 (x6 + x5)) ≤ (x0.length : Int) then (spec_UnbalancedPair.l2 k x0 x5 x6 (wrap64 (x6 + 1))) else (spec_UnbalancedPair.l0 k x0 (wrap64 (x5 + 1)))
def spec_UnbalancedPair.l2 : Nat → List Int → Int → Int → Int → Option (List Int × List Int × Bool)
 | 0, _, _, _, _ => none
 | k + 1, x0, x5, x6, x7 => if (wrap64 (x7 + x5)) ≤ (x0.length : Int) then (if 0 ≤ x6 then (if x6 ≤ (wrap64 (x6 + x5)) then (if (wrap64 (x6 + x5)) ≤ (x0.length : Int) then ((spec_CountLetters.f k ((x0.take ((wrap64 (x6 + x5)) : Int).toNat).drop (x6 : Int).toNat) 1).bind fun t701 => (if 0 ≤ x7 then (if x7 ≤ (wrap64 (x7 + x5)) then ((spec_CountLetters.f k ((x0.take ((wrap64 (x7 + x5)) : Int).toNat).drop (x7 : Int).toNat) 1).bind fun t703 => (if (wrap64 (t701 - t703)) > 1 then ((some (([] : List Int) : List Int)).bind fun y704 => (if y704.length + ((x0.take ((wrap64 (x6 + x5)) : Int).toNat).drop (x6 : Int).toNat).length < 17592186044416 then ((some (([] : List Int) : List Int)).bind fun y711 => (if y711.length + ((x0.take ((wrap64 (x7 + x5)) : Int).toNat).drop (x7 : Int).toNat).length < 17592186044416 then (some ((y704 ++ ((x0.take ((wrap64 (x6 + x5)) : Int).toNat).drop (x6 : Int).toNat)), (y711 ++ ((x0.take ((wrap64 (x7 + x5)) : Int).toNat).drop (x7 : Int).toNat)), true)) else (none))) else (none))) else (if (wrap64 (t703 - t701)) > 1 then ((some (([] : List Int) : List Int)).bind fun y718 => (if y718.length + ((x0.take ((wrap64 (x6 + x5)) : Int).toNat).drop (x6 : Int).toNat).length < 17592186044416 then ((some (([] : List Int) : List Int)).bind fun y725 => (if y725.length + ((x0.take ((wrap64 (x7 + x5)) : Int).toNat).drop (x7 : Int).toNat).length < 17592186044416 then (some ((y718 ++ ((x0.take ((wrap64 (x6 + x5)) : Int).toNat).drop (x6 : Int).toNat)), (y725 ++ ((x0.take ((wrap64 (x7 + x5)) : Int).toNat).drop (x7 : Int).toNat)), true)) else (none))) else (none))) else (spec_UnbalancedPair.l2 k x0 x5 x6 (wrap64 (x7 + 1)))))) else (none)) else (none))) else (none)) else (none)) else (none)) else (spec_UnbalancedPair.l1 k x0 x5 (wrap64 (x6 + 1)))
end
def spec_UnbalancedPair.f (k : Nat) (l0 : List Int) : Option (List Int × List Int × Bool) := spec_UnbalancedPair.l0 k l0 1
def spec_UnbalancedPair.T13 : Bool × List (List Nat × List Nat) := (true, [([], []), ([], []), ([], []), ([], []), ([], []), ([3, 4], [3, 4]), ([1, 2, 5], [1, 2, 5]), ([0, 6], [0, 6]), ([], []), ([], []), ([], []), ([], []), ([], []), ([11, 12], [11, 12]), ([9, 10, 13], [9, 10, 13]), ([8, 14, 7], [8, 14]), ([7, 15, 0, 1, 2, 3, 4, 5, 6, 7], [7]), ([15, 16, 0, 1, 2, 3, 4, 5, 6, 7, 8, 9, 10, 11, 12, 13, 14, 15, 16], [15]), ([17, 0, 1, 2, 3, 4, 5, 6, 7, 8, 9, 10, 11, 12, 13, 14, 15, 16, 17], [])])
def spec_UnbalancedPair.B13 : List Nat := [0, 0, 0, 0, 0, 24, 62, 127, 0, 0, 0, 0, 0, 6144, 15872, 32767, 65535, 131071, 262143]
theorem spec_UnbalancedPair.tab13 : rtab .any (opsOf Tryz.f7 13) = spec_UnbalancedPair.T13 := by kernel_rfl
theorem spec_UnbalancedPair.bits13 : waitsOk spec_UnbalancedPair.T13.2 spec_UnbalancedPair.B13 = true := by kernel_rfl
theorem spec_UnbalancedPair.calls (k : Nat) (A0 : Option Addr) (c0 : Nat) (l0 : List Int) (r1 : List Int) (r2 : List Int) (r3 : Bool) (w : World) (hr0 : Kd.C (Kd.int .i64) w A0 l0.length l0) (hc0 : l0.length ≤ c0) (h : spec_UnbalancedPair.f k l0 = some (r1, r2, r3)) :
  Calls Tryz.prog 7 #[.slice A0 l0.length c0] w fun e w' => ∃ v0_ v1_ : Value, e = .returned (.tuple #[v0_, v1_, .bool r3]) ∧ Kd.R (Kd.int .i64) 3 w' w.heap.size (fun k_ => some k_ ≠ (v1_ : Value).ownBlock) v0_ r1 ∧ Kd.R (Kd.int .i64) 3 w' w.heap.size (fun k_ => some k_ ≠ (v0_ : Value).ownBlock) v1_ r2 ∧ Below w.heap.size w w' := by
 have HR0 := A_ hr0; have HC0 := A_ hc0; clear hr0 hc0; have HB := A_ (Below.refl w.heap.size w); unfold spec_UnbalancedPair.f at h; have H := h; clear h
 have H' := A_ H
 clear H; go_enter Tryz.func7, Tryz.ntmps7
 go_wp2
 go_loopg [5] k (fun kq v5 w' => ∃ (x5_1 : Int), v5 = .int .i64 x5_1 ∧ Aside0 (spec_UnbalancedPair.l0 kq l0 x5_1 = some (r1, r2, r3)) ∧ Aside0 (kq ≤ k) ∧ Aside0 (Below w.heap.size w w'))
 case atStart => exact ⟨(1), (by rfl), H', ⟨Nat.le_refl _⟩, ⟨HB.out⟩⟩
 case round =>
  clear H'; obtain ⟨x5_1, rfl, HA, HK1, HB⟩ := hrel
  cases gk with
  | zero => exact absurd HA.out (by simp [spec_UnbalancedPair.l0])
  | succ k1 =>
   have H := HA.out; clear HA; simp only [spec_UnbalancedPair.l0] at H; have HC2 := A_ H; clear H
   go_upto_region 2 with (fail)
   go_cut [18] (fun v18 wc => ∃ (kq : Nat) (x18_1 : Bool), v18 = .bool x18_1 ∧ Aside0 (spec_UnbalancedPair.j1 kq l0 x5_1 x18_1 = some (r1, r2, r3)) ∧ Aside0 (kq ≤ k1) ∧ Aside0 (Below w.heap.size w wc))
   case first =>
    have H := HC2.out; clear HC2
    by_cases c3 : x5_1 ≤ (l0.length : Int)
    ·rw [if_pos c3] at H; have c3b0 := decide_eq_true c3; clear c3
     (skip)
     have H' := A_ H
     clear H
     go_wp2
     go_meet
     case rel => exact ⟨_, (decide ((l0.length : Int) ≤ 64)), (by rfl), H', ⟨by have := HK1.out; omega⟩, ⟨HB.out⟩⟩
    rw [if_neg c3] at H; have c3b0 := decide_eq_false c3; clear c3
    (skip)
    have H' := A_ H
    clear H
    go_wp2
    go_meet
    case rel => exact ⟨_, (false), (by rfl), H', ⟨by have := HK1.out; omega⟩, ⟨HB.out⟩⟩
   case rest =>
    clear HC2; obtain ⟨kq, x18_1, rfl, HA, HJ1, HB⟩ := hcut
    cases kq with
    | zero => exact absurd HA.out (by simp [spec_UnbalancedPair.j1])
    | succ kj1 =>
     have H := HA.out; clear HA; simp only [spec_UnbalancedPair.j1] at H
     by_cases c4 : x18_1 = true
     ·subst c4; rw [if_pos rfl] at H
      have H' := A_ H
      clear H
      go_wp2
      go_loopg [6] kj1 (fun kq v6 w' => ∃ (x6_3 : Int), v6 = .int .i64 x6_3 ∧ Aside0 (spec_UnbalancedPair.l1 kq l0 x5_1 x6_3 = some (r1, r2, r3)) ∧ Aside0 (kq ≤ kj1) ∧ Aside0 (Below w.heap.size w w'))
      case atStart => exact ⟨(0), (by rfl), H', ⟨Nat.le_refl _⟩, ⟨HB.out⟩⟩
      case round =>
       clear H'; obtain ⟨x6_3, rfl, HA, HK3, HB⟩ := hrel
       cases gk with
       | zero => exact absurd HA.out (by simp [spec_UnbalancedPair.l1])
       | succ k3 =>
        have H := HA.out; clear HA; simp only [spec_UnbalancedPair.l1] at H
        by_cases c5 : (wrap64 (x6_3 + x5_1)) ≤ (l0.length : Int)
        ·rw [if_pos c5] at H; have c5b0 := decide_eq_true c5; clear c5
         have H' := A_ H
         clear H
         go_wp2
         go_loopg [7] k3 (fun kq v7 w' => ∃ (x7_4 : Int), v7 = .int .i64 x7_4 ∧ Aside0 (spec_UnbalancedPair.l2 kq l0 x5_1 x6_3 x7_4 = some (r1, r2, r3)) ∧ Aside0 (kq ≤ k3) ∧ Aside0 (Below w.heap.size w w'))
         case atStart => exact ⟨(wrap64 (x6_3 + 1)), (by rfl), H', ⟨Nat.le_refl _⟩, ⟨HB.out⟩⟩
         case round =>
          clear H'
          try skip
          obtain ⟨x7_4, rfl, HA, HK4, HB⟩ := hrel
          cases gk with
          | zero => exact absurd HA.out (by simp [spec_UnbalancedPair.l2])
          | succ k4 =>
           have H := HA.out; clear HA; simp only [spec_UnbalancedPair.l2] at H
           by_cases c6 : (wrap64 (x7_4 + x5_1)) ≤ (l0.length : Int)
           ·rw [if_pos c6] at H; have c6b0 := decide_eq_true c6; clear c6
            by_cases c7 : 0 ≤ x6_3
            ·rw [if_pos c7] at H; have c7b0 := eq_true c7; have c7b1 := decide_eq_true c7; clear c7
             by_cases c8 : x6_3 ≤ (wrap64 (x6_3 + x5_1))
             ·rw [if_pos c8] at H; have c8b0 := eq_true c8; have c8b1 := decide_eq_true c8
              by_cases c9 : (wrap64 (x6_3 + x5_1)) ≤ (l0.length : Int)
              ·rw [if_pos c9] at H; have c9b1 := decide_eq_true c9; replace H := bA_ H; obtain ⟨t701, A10, H⟩ := H
               by_cases c11 : 0 ≤ x7_4
               ·rw [if_pos c11] at H; have c11b0 := eq_true c11; have c11b1 := decide_eq_true c11; clear c11
                by_cases c12 : x7_4 ≤ (wrap64 (x7_4 + x5_1))
                ·rw [if_pos c12] at H; have c12b1 := decide_eq_true c12; have c13b0 := eq_true (od_ (by assumption) : (wrap64 (x7_4 + x5_1)) ≤ (l0.length : Int)); replace H := bA_ H; obtain ⟨t703, A14, H⟩ := H
                 by_cases c15 : (wrap64 (t701 - t703)) > 1
                 ·rw [if_pos c15] at H
                  have c15b0 : decide (1 < (wrap64 (t701 - t703))) = true := decide_eq_true c15
                  clear c15; obtain ⟨y704, hy704⟩ := ex_ ((([] : List Int)) : List Int); replace H : (if y704.length + ((l0.take ((wrap64 (x6_3 + x5_1)) : Int).toNat).drop (x6_3 : Int).toNat).length < 17592186044416 then ((some (([] : List Int) : List Int)).bind fun y711 => (if y711.length + ((l0.take ((wrap64 (x7_4 + x5_1)) : Int).toNat).drop (x7_4 : Int).toNat).length < 17592186044416 then (some ((y704 ++ ((l0.take ((wrap64 (x6_3 + x5_1)) : Int).toNat).drop (x6_3 : Int).toNat)), (y711 ++ ((l0.take ((wrap64 (x7_4 + x5_1)) : Int).toNat).drop (x7_4 : Int).toNat)), true)) else (none))) else (none)) = some (r1, r2, r3) := by (have H2_ := (Option.bind_some _ _).symm.trans H; rw [hy704]; with_reducible exact H2_)
                  have Ny704 := A_ hy704; clear hy704; have c16b0 := eq_true (od_ (by assumption) : 0 ≤ x6_3); have c17b0 := eq_true (od_ (by assumption) : x6_3 ≤ (wrap64 (x6_3 + x5_1))); have c18b0 := eq_true (od_ (by assumption) : (wrap64 (x6_3 + x5_1)) ≤ (l0.length : Int))
                  by_cases c19 : y704.length + ((l0.take ((wrap64 (x6_3 + x5_1)) : Int).toNat).drop (x6_3 : Int).toNat).length < 17592186044416
                  ·rw [if_pos c19] at H; have LMc19 := A_ c19; clear c19; obtain ⟨y708, hy708⟩ := ex_ ((y704 ++ ((l0.take ((wrap64 (x6_3 + x5_1)) : Int).toNat).drop (x6_3 : Int).toNat)) : List Int); replace H : ((some (([] : List Int) : List Int)).bind fun y711 => (if y711.length + ((l0.take ((wrap64 (x7_4 + x5_1)) : Int).toNat).drop (x7_4 : Int).toNat).length < 17592186044416 then (some (y708, (y711 ++ ((l0.take ((wrap64 (x7_4 + x5_1)) : Int).toNat).drop (x7_4 : Int).toNat)), true)) else (none))) = some (r1, r2, r3) := by (rw [hy708]; with_reducible exact H)
                   have Ny708 := A_ hy708; clear hy708; obtain ⟨y711, hy711⟩ := ex_ ((([] : List Int)) : List Int); replace H : (if y711.length + ((l0.take ((wrap64 (x7_4 + x5_1)) : Int).toNat).drop (x7_4 : Int).toNat).length < 17592186044416 then (some (y708, (y711 ++ ((l0.take ((wrap64 (x7_4 + x5_1)) : Int).toNat).drop (x7_4 : Int).toNat)), true)) else (none)) = some (r1, r2, r3) := by (have H2_ := (Option.bind_some _ _).symm.trans H; rw [hy711]; with_reducible exact H2_)
                   have Ny711 := A_ hy711; clear hy711; have c20b0 := eq_true (od_ (by assumption) : 0 ≤ x7_4); have c21b0 := eq_true (od_ (by assumption) : x7_4 ≤ (wrap64 (x7_4 + x5_1))); have c22b0 := eq_true (od_ (by assumption) : (wrap64 (x7_4 + x5_1)) ≤ (l0.length : Int))
                   by_cases c23 : y711.length + ((l0.take ((wrap64 (x7_4 + x5_1)) : Int).toNat).drop (x7_4 : Int).toNat).length < 17592186044416
                   ·rw [if_pos c23] at H; have LMc23 := A_ c23; clear c23; obtain ⟨y715, hy715⟩ := ex_ ((y711 ++ ((l0.take ((wrap64 (x7_4 + x5_1)) : Int).toNat).drop (x7_4 : Int).toNat)) : List Int); replace H : (some (y708, y715, true)) = some (r1, r2, r3) := by (rw [hy715]; with_reducible exact H)
                    have Ny715 := A_ hy715; clear hy715; simp only [Option.some.injEq, Prod.mk.injEq] at H; obtain ⟨rfl, rfl, rfl⟩ := H; obtain ⟨i024, hi024, _, hsz24, _⟩ := info_parts info3; obtain ⟨A24, hcut24, hA24, hC24⟩ := print_mid_of (P := Tryz.prog) (Value.int .i64) 0 24 3 .i64 .i64 Tryz.underlying24 hi024 hsz24 A0 c0 l0 x6_3 (wrap64 (x6_3 + x5_1)) (od_ (by assumption)) (by first | omega | exact od_ (by first | (with_reducible assumption) | assumption)) (od_ (by assumption)) HC0.out; have HR700 := A_ (Kd.C_of_reads (h1 := fun _ => rfl) (hA24 _ (Kd.reads_of_C HR0.out))); have HC700 := A_ hC24; clear hA24 hC24 hi024 hsz24
                    try go_wp2_with (first | ((with_reducible refine gc_ 11 rfl ?_); refine cD_ E11 45 rfl rfl rfl (spec_CountLetters.calls k4 _ _ ((l0.take ((wrap64 (x6_3 + x5_1)) : Int).toNat).drop (x6_3 : Int).toNat) 1 t701 _ (Kd.C_below HR700.out HB.out) HC700.out A10.out) (by (try simp only [mA, mB, mC]); first | done | (rw [show ((l0.take ((wrap64 (x6_3 + x5_1)) : Int).toNat).drop (x6_3 : Int).toNat).length = ((wrap64 (x6_3 + x5_1)).toNat - x6_3.toNat) from (by rw [List.length_drop, List.length_take]; omega)] <;> rfl) | rfl | (simp only [List.length_drop, List.length_take]; rfl)) fun nd => ?_; obtain ⟨i025, hi025, _, hsz25, _⟩ := info_parts info3; obtain ⟨A25, hcut25, hA25, hC25⟩ := print_mid_of (P := Tryz.prog) (Value.int .i64) 0 24 3 .i64 .i64 Tryz.underlying24 hi025 hsz25 A0 c0 l0 x7_4 (wrap64 (x7_4 + x5_1)) (od_ (by assumption)) (by first | omega | exact od_ (by first | (with_reducible assumption) | assumption)) (od_ (by assumption)) HC0.out; have HR702 := A_ (Kd.C_of_reads (h1 := fun _ => rfl) (hA25 _ (Kd.reads_of_C HR0.out))); have HC702 := A_ hC25; clear hA25 hC25 hi025 hsz25) | ((with_reducible refine gc_ 11 rfl ?_); refine cD_ E11 52 rfl rfl rfl (spec_CountLetters.calls k4 _ _ ((l0.take ((wrap64 (x7_4 + x5_1)) : Int).toNat).drop (x7_4 : Int).toNat) 1 t703 _ (by repeat (first | exact (Kd.C_below HR702.out (by repeat (first | (with_reducible first | exact HB.out | apply below_alloc | apply pw_below_drewN | apply below_drew1) | exact HB.out))) | (with_reducible refine Kd.C_alloc ?_ _) | (with_reducible refine Kd.C_drewN ?_ _) | (with_reducible refine Kd.C_drew ?_))) HC702.out A14.out) (by (try simp only [mA, mB, mC]); first | done | (rw [show ((l0.take ((wrap64 (x7_4 + x5_1)) : Int).toNat).drop (x7_4 : Int).toNat).length = ((wrap64 (x7_4 + x5_1)).toNat - x7_4.toNat) from (by rw [List.length_drop, List.length_take]; have h_ : ((wrap64 (x7_4 + x5_1)) : Int) ≤ (l0.length : Int) := od_ (by assumption); omega)] <;> rfl) | rfl | (simp only [List.length_drop, List.length_take]; rfl)) fun nd => ?_))
                    (try (rw [drewN_self wr]; generalize hq_ : World.drewN wr _ = wr; have n0_ : Aside0 (Below w.heap.size w wr) := ⟨by rw [← hq_]; exact (by repeat (first | (with_reducible first | exact HB.out | apply below_alloc | apply pw_below_drewN | apply below_drew1) | exact HB.out))⟩; clear HB hq_; revert n0_; intro HB))
                    have n0_ := A_ (below_drew1 HB.out); clear HB; have HB := n0_; clear n0_; obtain ⟨i027, hi027, _, hsz27, _⟩ := info_parts info3
                    (try clear hcut24)
                    obtain ⟨A27, hcut27, hA27, hC27⟩ := print_mid_of (P := Tryz.prog) (Value.int .i64) 0 24 3 .i64 .i64 Tryz.underlying24 hi027 hsz27 A0 c0 l0 x6_3 (wrap64 (x6_3 + x5_1)) (od_ (by assumption)) (by first | omega | exact od_ (by first | (with_reducible assumption) | assumption)) (od_ (by assumption)) HC0.out; have HR707 := A_ (Kd.C_of_reads (h1 := fun _ => rfl) (hA27 _ (Kd.reads_of_C HR0.out))); clear hA27 hC27 hi027 hsz27; obtain ⟨i028, hi028, _, hsz28, _⟩ := info_parts info3
                    (try clear hcut25)
                    obtain ⟨A28, hcut28, hA28, hC28⟩ := print_mid_of (P := Tryz.prog) (Value.int .i64) 0 24 3 .i64 .i64 Tryz.underlying24 hi028 hsz28 A0 c0 l0 x7_4 (wrap64 (x7_4 + x5_1)) (od_ (by assumption)) (by first | omega | exact od_ (by first | (with_reducible assumption) | assumption)) (od_ (by assumption)) HC0.out; have HR714 := A_ (Kd.C_of_reads (h1 := fun _ => rfl) (hA28 _ (Kd.reads_of_C HR0.out))); clear hA28 hC28 hi028 hsz28; refine start_ (n := 19) (S := fun w' => True) (ds := []) (mk_ 19 0) (by kernel_rfl) rfl rfl trivial (fun hHeld => ?_); refine with_tabW spec_UnbalancedPair.tab13 spec_UnbalancedPair.bits13 (fun HT_ HW_ => ?_)
                    generalize wr.drew = w26 at HB HR707 HR714 hHeld ⊢
                    refine pv_ 1 64 (mk_ 19 2) rfl rfl HT_.out (by kernel_rfl) (fun _ _ _ h => h) (by rfl) (by intro w'; go_simp; with_reducible rfl) (by simp only [Act.put, mD, mE, mF, i64_w, i32_w]; rfl) ?_; refine pv_ 2 65 (mk_ 19 6) rfl rfl HT_.out (by kernel_rfl) (fun _ _ _ h => h) (by rfl) (by intro w'; go_simp; with_reducible rfl) (by simp only [Act.put, mD, mE, mF, i64_w, i32_w]; rfl) ?_; refine pv_ 3 66 (mk_ 19 14) rfl rfl HT_.out (by kernel_rfl) (fun _ _ _ h => h) (by rfl) (by intro w'; go_simp; with_reducible rfl) (by simp only [Act.put, mD, mE, mF, i64_w, i32_w]; rfl) ?_; refine pv_ 4 67 (mk_ 19 30) rfl rfl HT_.out (by kernel_rfl) (fun _ _ _ h => h) (by rfl) (by intro w'; go_simp; with_reducible rfl) (by simp only [Act.put, mD, mE, mF, i64_w, i32_w]; rfl) ?_; refine pv_ 5 68 (mk_ 19 62) rfl rfl HT_.out (by kernel_rfl) (fun _ _ _ h => h) (by rfl) (by intro w'; go_simp; with_reducible rfl) (by simp only [Act.put, mD, mE, mF, i64_w, i32_w]; rfl) ?_; refine pv_ 6 69 (mk_ 19 126) rfl rfl HT_.out (by kernel_rfl) (fun _ _ _ h => h) (by rfl) (by intro w'; go_simp; with_reducible rfl) (by simp only [Act.put, mD, mE, mF, i64_w, i32_w]; rfl) ?_; refine pv_ 9 72 (mk_ 19 638) rfl rfl HT_.out (by kernel_rfl) (fun _ _ _ h => h) (by rfl) (by intro w'; go_simp; with_reducible rfl) (by simp only [Act.put, mD, mE, mF, i64_w, i32_w]; rfl) ?_; refine pv_ 10 73 (mk_ 19 1662) rfl rfl HT_.out (by kernel_rfl) (fun _ _ _ h => h) (by rfl) (by intro w'; go_simp; with_reducible rfl) (by simp only [Act.put, mD, mE, mF, i64_w, i32_w]; rfl) ?_; refine pv_ 11 74 (mk_ 19 3710) rfl rfl HT_.out (by kernel_rfl) (fun _ _ _ h => h) (by rfl) (by intro w'; go_simp; with_reducible rfl) (by simp only [Act.put, mD, mE, mF, i64_w, i32_w]; rfl) ?_; refine pv_ 12 75 (mk_ 19 7806) rfl rfl HT_.out (by kernel_rfl) (fun _ _ _ h => h) (by rfl) (by intro w'; go_simp; with_reducible rfl) (by simp only [Act.put, mD, mE, mF, i64_w, i32_w]; rfl) ?_; refine pv_ 13 76 (mk_ 19 15998) rfl rfl HT_.out (by kernel_rfl) (fun _ _ _ h => h) (by rfl) (by intro w'; go_simp; with_reducible rfl) (by simp only [Act.put, mD, mE, mF, i64_w, i32_w]; rfl) ?_; refine pv_ 14 77 (mk_ 19 32382) rfl rfl HT_.out (by kernel_rfl) (fun _ _ _ h => h) (by rfl) (by intro w'; go_simp; with_reducible rfl) (by simp only [Act.put, mD, mE, mF, i64_w, i32_w]; rfl) ?_; refine join_ (σ := Value × Value × Value) 4 (mk_ 19 32767) (fun s_ => [(63, s_.1), (70, s_.2.1), (71, s_.2.2)]) (fun s_ w' => (Kd.R (Kd.int .i64) 3 w' w.heap.size (fun k_ => some k_ ≠ (s_.2.2 : Value).ownBlock) s_.2.1 y708) ∧ (Kd.R (Kd.int .i64) 3 w' w.heap.size (fun k_ => some k_ ≠ (s_.2.1 : Value).ownBlock) s_.2.2 y711) ∧ (Below w.heap.size w w')) ?_ ?_; rotate_left
                    ·intro hCont; refine two_ (i := 0) (j := 8) (Ni := some 63) (Nj := some 71) (mk_ 19 32383) (mk_ 19 32638) rfl rfl rfl rfl (two_of HT_.out (by kernel_rfl)) (by decide) (by decide) (fun K hK => ?_) (fun K hK => ?_)
                     ·skip
                      refine Kd.R_lit_step (Kd.int .i64) _ 3 ?hg (N := 63) ?hd (xs := ([] : List Int)) (inner := []) (ok := fun _ => True) (okp := fun _ => True) ?hr ?hp (fun _ hk => hk) trivial (Below.refl _ _) (Nat.le_refl _) (by simp) ?_; (case hd | hg => rfl); (case hr => go_simp; done); (case hp => exact (Reps.none _ _)); intro v705 w29 ho30 hb hg_ hnew_; clear hg_ hnew_
                      (rw [← Ny704.out] at ho30)
                      have n0_ := A_ (Kd.R_lower ho30 (below_size HB.out)); have n1_ := bs_ HB hb; clear HB; have HO706 := n0_; have HB := n1_; clear n0_ n1_ hb ho30; refine hK.out _ _ trivial (fun hHeld => ?_); clear hK K; refine norm_ (by show Act.put _ (some 63) _ = _; simp only [Act.put, mD, mE, mF, i64_w, i32_w]; rfl) ?_; refine two_ (i := 7) (j := 8) (Ni := some 70) (Nj := some 71) (mk_ 19 32511) (mk_ 19 32639) rfl rfl rfl rfl (two_of HT_.out (by kernel_rfl)) (by decide) (by decide) (fun K hK => ?_) (fun K hK => ?_)
                      ·skip
                       refine Kd.R_append_rows_step (Kd.int .i64) (w0 := w) w.heap.size (by rfl) (.tmp 63) (.tmp 69) 24 3 (.int .i64 0) 8 rfl Tryz.underlying24 info3 rfl (by decide) (by omega) v705 y704 ((l0.take ((wrap64 (x6_3 + x5_1)) : Int).toNat).drop (x6_3 : Int).toNat) _ _ _ (fun _ => True) (fun _ => False) rfl rfl ?aO ?aR (fun _ _ h => h) (fun _ h => h.elim) ?aF ?aB ?aS ?aL ?_
                       (case aR => first | (rw [← show ((l0.take ((wrap64 (x6_3 + x5_1)) : Int).toNat).drop (x6_3 : Int).toNat).length = ((wrap64 (x6_3 + x5_1)).toNat - x6_3.toNat) from (by rw [List.length_drop, List.length_take]; omega)]; exact (Kd.C_below HR707.out HB.out)) | (exact (Kd.C_below HR707.out HB.out)))
                       (case aB => exact HB.out)
                       (case aF => exact (fun _ _ => trivial))
                       (case aO => exact HO706.out)
                       (case aS => exact (below_size HB.out))
                       (case aL => have := LMc19.out; have hlx_ := (show ((l0.take ((wrap64 (x6_3 + x5_1)) : Int).toNat).drop (x6_3 : Int).toNat).length = ((wrap64 (x6_3 + x5_1)).toNat - x6_3.toNat) from (by rw [List.length_drop, List.length_take]; omega)); omega)
                       intro v709 w31 ho hb hg hat; rw [← Ny708.out] at ho; have n0_ := A_ (hb); have n1_ := A_ (ho); clear HB HO706; have HB := n0_; have HO710 := n1_; clear n0_ n1_ ho hb hg hat; refine hK.out _ _ trivial (fun hHeld => ?_); clear hK K; refine norm_ (by show Act.put _ (some 70) _ = _; simp only [Act.put, mD, mE, mF, i64_w, i32_w]; rfl) ?_; refine one_ (i := 8) (N := some 71) (mk_ 19 32767) rfl rfl (one_of HT_.out (by kernel_rfl)) (by decide) (fun K hK => ?_); refine Kd.R_lit_step (Kd.int .i64) _ 3 ?hg (N := 71) ?hd (xs := ([] : List Int)) (inner := []) (ok := fun _ => True) (okp := fun _ => True) ?hr ?hp (fun _ hk => hk) trivial (Below.refl _ _) (Nat.le_refl _) (by simp) ?_; (case hd | hg => rfl); (case hr => go_simp; done); (case hp => exact (Reps.none _ _)); intro v712 w32 ho33 hb hg_ hnew_; clear hg_ hnew_
                       (rw [← Ny711.out] at ho33)
                       have n0_ := A_ (Kd.R_elder' HO710.out (Kd.R_base ho33) hb); have n1_ := A_ (Kd.R_lower (Kd.R_new' ho33 (Kd.R_lt HO710.out)) (below_size HB.out)); have n2_ := bs_ HB hb; clear HO710 HB; have HO710 := n0_; have HO713 := n1_; have HB := n2_; clear n0_ n1_ n2_ hb ho33; refine hK.out _ _ trivial (fun hHeld => ?_); clear hK K; refine norm_ (by show Act.put _ (some 71) _ = _; simp only [Act.put, mD, mE, mF, i64_w, i32_w]; rfl) ?_; exact norm_ (by simp only [putAll, Act.put, mD, mE, mF]) (hCont (v705, v709, v712) _ ⟨(by exact Kd.R_mono HO710.out (fun _ hk => hk.2)), (by exact Kd.R_mono HO713.out (fun _ hk => hk.2)), HB.out⟩)
                      refine Kd.R_lit_step (Kd.int .i64) _ 3 ?hg (N := 71) ?hd (xs := ([] : List Int)) (inner := []) (ok := fun _ => True) (okp := fun _ => True) ?hr ?hp (fun _ hk => hk) trivial (Below.refl _ _) (Nat.le_refl _) (by simp) ?_; (case hd | hg => rfl); (case hr => go_simp; done); (case hp => exact (Reps.none _ _)); intro v712 w31 ho32 hb hg_ hnew_; clear hg_ hnew_
                      (rw [← Ny711.out] at ho32)
                      have n0_ := A_ (Kd.R_elder' HO706.out (Kd.R_base ho32) hb); have n1_ := A_ (Kd.R_lower (Kd.R_new' ho32 (Kd.R_lt HO706.out)) (below_size HB.out)); have n2_ := bs_ HB hb; clear HO706 HB; have HO706 := n0_; have HO713 := n1_; have HB := n2_; clear n0_ n1_ n2_ hb ho32; refine hK.out _ _ trivial (fun hHeld => ?_); clear hK K; refine norm_ (by show Act.put _ (some 71) _ = _; simp only [Act.put, mD, mE, mF, i64_w, i32_w]; rfl) ?_; refine one_ (i := 7) (N := some 70) (mk_ 19 32767) rfl rfl (one_of HT_.out (by kernel_rfl)) (by decide) (fun K hK => ?_); refine Kd.R_append_rows_step (Kd.int .i64) (w0 := w) w.heap.size (by rfl) (.tmp 63) (.tmp 69) 24 3 (.int .i64 0) 8 rfl Tryz.underlying24 info3 rfl (by decide) (by omega) v705 y704 ((l0.take ((wrap64 (x6_3 + x5_1)) : Int).toNat).drop (x6_3 : Int).toNat) _ _ _ (fun k_ => some k_ ≠ (v712 : Value).ownBlock) (fun _ => False) rfl rfl ?aO ?aR (fun _ _ h => h) (fun _ h => h.elim) ?aF ?aB ?aS ?aL ?_
                      (case aR => first | (rw [← show ((l0.take ((wrap64 (x6_3 + x5_1)) : Int).toNat).drop (x6_3 : Int).toNat).length = ((wrap64 (x6_3 + x5_1)).toNat - x6_3.toNat) from (by rw [List.length_drop, List.length_take]; omega)]; exact (Kd.C_below HR707.out HB.out)) | (exact (Kd.C_below HR707.out HB.out)))
                      (case aB => exact HB.out)
                      (case aF => exact (fun k_ hk => Kd.fresh' (Kd.R_lt HO713.out) k_ hk))
                      (case aO => exact (by exact Kd.R_mono HO706.out (fun _ hk => hk.2)))
                      (case aS => exact (below_size HB.out))
                      (case aL => have := LMc19.out; have hlx_ := (show ((l0.take ((wrap64 (x6_3 + x5_1)) : Int).toNat).drop (x6_3 : Int).toNat).length = ((wrap64 (x6_3 + x5_1)).toNat - x6_3.toNat) from (by rw [List.length_drop, List.length_take]; omega)); omega)
                      intro v709 w33 ho hb hg hat; rw [← Ny708.out] at ho; have n0_ := A_ (Kd.R_after (ok := (fun _ => True)) HO713.out hg hat); have n1_ := A_ (hb); have n2_ := A_ (ho); clear HO713 HB HO706; have HO713 := n0_; have HB := n1_; have HO710 := n2_; clear n0_ n1_ n2_ ho hb hg hat; refine hK.out _ _ trivial (fun hHeld => ?_); clear hK K; refine norm_ (by show Act.put _ (some 70) _ = _; simp only [Act.put, mD, mE, mF, i64_w, i32_w]; rfl) ?_; exact norm_ (by simp only [putAll, Act.put, mD, mE, mF]) (hCont (v705, v709, v712) _ ⟨HO710.out, (by exact Kd.R_mono HO713.out (fun _ hk => hk.2)), HB.out⟩)
                     refine Kd.R_lit_step (Kd.int .i64) _ 3 ?hg (N := 71) ?hd (xs := ([] : List Int)) (inner := []) (ok := fun _ => True) (okp := fun _ => True) ?hr ?hp (fun _ hk => hk) trivial (Below.refl _ _) (Nat.le_refl _) (by simp) ?_; (case hd | hg => rfl); (case hr => go_simp; done); (case hp => exact (Reps.none _ _)); intro v712 w29 ho30 hb hg_ hnew_; clear hg_ hnew_
                     (rw [← Ny711.out] at ho30)
                     have n0_ := A_ (Kd.R_lower ho30 (below_size HB.out)); have n1_ := bs_ HB hb; clear HB; have HO713 := n0_; have HB := n1_; clear n0_ n1_ hb ho30; refine hK.out _ _ trivial (fun hHeld => ?_); clear hK K; refine norm_ (by show Act.put _ (some 71) _ = _; simp only [Act.put, mD, mE, mF, i64_w, i32_w]; rfl) ?_; refine one_ (i := 0) (N := some 63) (mk_ 19 32639) rfl rfl (one_of HT_.out (by kernel_rfl)) (by decide) (fun K hK => ?_); refine Kd.R_lit_step (Kd.int .i64) _ 3 ?hg (N := 63) ?hd (xs := ([] : List Int)) (inner := []) (ok := fun _ => True) (okp := fun _ => True) ?hr ?hp (fun _ hk => hk) trivial (Below.refl _ _) (Nat.le_refl _) (by simp) ?_; (case hd | hg => rfl); (case hr => go_simp; done); (case hp => exact (Reps.none _ _)); intro v705 w31 ho32 hb hg_ hnew_; clear hg_ hnew_
                     (rw [← Ny704.out] at ho32)
                     have n0_ := A_ (Kd.R_elder' HO713.out (Kd.R_base ho32) hb); have n1_ := A_ (Kd.R_lower (Kd.R_new' ho32 (Kd.R_lt HO713.out)) (below_size HB.out)); have n2_ := bs_ HB hb; clear HO713 HB; have HO713 := n0_; have HO706 := n1_; have HB := n2_; clear n0_ n1_ n2_ hb ho32; refine hK.out _ _ trivial (fun hHeld => ?_); clear hK K; refine norm_ (by show Act.put _ (some 63) _ = _; simp only [Act.put, mD, mE, mF, i64_w, i32_w]; rfl) ?_; refine one_ (i := 7) (N := some 70) (mk_ 19 32767) rfl rfl (one_of HT_.out (by kernel_rfl)) (by decide) (fun K hK => ?_); refine Kd.R_append_rows_step (Kd.int .i64) (w0 := w) w.heap.size (by rfl) (.tmp 63) (.tmp 69) 24 3 (.int .i64 0) 8 rfl Tryz.underlying24 info3 rfl (by decide) (by omega) v705 y704 ((l0.take ((wrap64 (x6_3 + x5_1)) : Int).toNat).drop (x6_3 : Int).toNat) _ _ _ (fun k_ => some k_ ≠ (v712 : Value).ownBlock) (fun _ => False) rfl rfl ?aO ?aR (fun _ _ h => h) (fun _ h => h.elim) ?aF ?aB ?aS ?aL ?_
                     (case aR => first | (rw [← show ((l0.take ((wrap64 (x6_3 + x5_1)) : Int).toNat).drop (x6_3 : Int).toNat).length = ((wrap64 (x6_3 + x5_1)).toNat - x6_3.toNat) from (by rw [List.length_drop, List.length_take]; omega)]; exact (Kd.C_below HR707.out HB.out)) | (exact (Kd.C_below HR707.out HB.out)))
                     (case aB => exact HB.out)
                     (case aF => exact (fun k_ hk => Kd.fresh' (Kd.R_lt HO713.out) k_ hk))
                     (case aO => exact (by exact Kd.R_mono HO706.out (fun _ hk => hk.2)))
                     (case aS => exact (below_size HB.out))
                     (case aL => have := LMc19.out; have hlx_ := (show ((l0.take ((wrap64 (x6_3 + x5_1)) : Int).toNat).drop (x6_3 : Int).toNat).length = ((wrap64 (x6_3 + x5_1)).toNat - x6_3.toNat) from (by rw [List.length_drop, List.length_take]; omega)); omega)
                     intro v709 w33 ho hb hg hat; rw [← Ny708.out] at ho; have n0_ := A_ (Kd.R_after (ok := (fun _ => True)) HO713.out hg hat); have n1_ := A_ (hb); have n2_ := A_ (ho); clear HO713 HB HO706; have HO713 := n0_; have HB := n1_; have HO710 := n2_; clear n0_ n1_ n2_ ho hb hg hat; refine hK.out _ _ trivial (fun hHeld => ?_); clear hK K; refine norm_ (by show Act.put _ (some 70) _ = _; simp only [Act.put, mD, mE, mF, i64_w, i32_w]; rfl) ?_; exact norm_ (by simp only [putAll, Act.put, mD, mE, mF]) (hCont (v705, v709, v712) _ ⟨HO710.out, (by exact Kd.R_mono HO713.out (fun _ hk => hk.2)), HB.out⟩)
                    rintro ⟨v705, v709, v712⟩ w34 ⟨h0_, h1_, h2_⟩
                    have n0_ : Aside0 (Kd.R (Kd.int .i64) 3 w34 w.heap.size (fun k_ => some k_ ≠ (v712 : Value).ownBlock) v709 y708) := ⟨h0_⟩
                    have n1_ : Aside0 (Kd.R (Kd.int .i64) 3 w34 w.heap.size (fun k_ => some k_ ≠ (v709 : Value).ownBlock) v712 y711) := ⟨h1_⟩
                    have n2_ : Aside0 (Below w.heap.size w w34) := ⟨h2_⟩
                    clear HB h0_ h1_ h2_; have HO710 := n0_; have HO713 := n1_; have HB := n2_; clear n0_ n1_ n2_; refine norm_ (a' := ?_) ?_ ?_; rotate_left
                    ·simp only [putAll, Act.put, mD, mE, mF]
                     rfl
                    refine one_ (i := 15) (N := some 78) (mk_ 19 65535) rfl rfl (one_of HT_.out (by kernel_rfl)) (by decide) (fun K hK => ?_); refine Kd.R_append_rows_step (Kd.int .i64) (w0 := w) w.heap.size (by rfl) (.tmp 71) (.tmp 77) 24 3 (.int .i64 0) 8 rfl Tryz.underlying24 info3 rfl (by decide) (by omega) v712 y711 ((l0.take ((wrap64 (x7_4 + x5_1)) : Int).toNat).drop (x7_4 : Int).toNat) _ _ _ (fun k_ => some k_ ≠ (v709 : Value).ownBlock) (fun _ => False) rfl rfl ?aO ?aR (fun _ _ h => h) (fun _ h => h.elim) ?aF ?aB ?aS ?aL ?_
                    (case aR => first | (rw [← show ((l0.take ((wrap64 (x7_4 + x5_1)) : Int).toNat).drop (x7_4 : Int).toNat).length = ((wrap64 (x7_4 + x5_1)).toNat - x7_4.toNat) from (by rw [List.length_drop, List.length_take]; have h_ : ((wrap64 (x7_4 + x5_1)) : Int) ≤ (l0.length : Int) := od_ (by assumption); omega)]; exact (Kd.C_below HR714.out HB.out)) | (exact (Kd.C_below HR714.out HB.out)))
                    (case aB => exact HB.out)
                    (case aF => exact (fun k_ hk => Kd.fresh' (Kd.R_lt HO710.out) k_ hk))
                    (case aO => exact HO713.out)
                    (case aS => exact (below_size HB.out))
                    (case aL => have := LMc23.out; have hlx_ := (show ((l0.take ((wrap64 (x7_4 + x5_1)) : Int).toNat).drop (x7_4 : Int).toNat).length = ((wrap64 (x7_4 + x5_1)).toNat - x7_4.toNat) from (by rw [List.length_drop, List.length_take]; have h_ : ((wrap64 (x7_4 + x5_1)) : Int) ≤ (l0.length : Int) := od_ (by assumption); omega)); omega)
                    intro v716 w35 ho hb hg hat; rw [← Ny715.out] at ho; have n0_ := A_ (Kd.R_after (ok := (fun _ => True)) (by exact Kd.R_mono HO710.out (fun _ hk => ⟨trivial, hk⟩)) hg hat); have n1_ := A_ (hb); have n2_ := A_ (ho); clear HO710 HB HO713; have HO710 := n0_; have HB := n1_; have HO717 := n2_; clear n0_ n1_ n2_ ho hb hg hat; refine hK.out _ _ trivial (fun hHeld => ?_); clear hK K; refine norm_ (by show Act.put _ (some 78) _ = _; simp only [Act.put, mD, mE, mF, i64_w, i32_w]; rfl) ?_; refine pv_ 16 2 (mk_ 19 131071) rfl rfl HT_.out (by kernel_rfl) (fun _ _ _ h => h) (by rfl) (by intro w'; go_simp; with_reducible rfl) (by simp only [Act.put, mD, mE, mF, i64_w, i32_w]; rfl) ?_; refine pv_ 17 3 (mk_ 19 262143) rfl rfl HT_.out (by kernel_rfl) (fun _ _ _ h => h) (by rfl) (by intro w'; go_simp; with_reducible rfl) (by simp only [Act.put, mD, mE, mF, i64_w, i32_w]; rfl) ?_; refine pv_ 18 4 (mk_ 19 524287) rfl rfl HT_.out (by kernel_rfl) (fun _ _ _ h => h) (by rfl) (by intro w'; go_simp; with_reducible rfl) (by simp only [Act.put, mD, mE, mF, i64_w, i32_w]; rfl) ?_; refine done_ (done_of HT_.out (by kernel_rfl)) ?_
                    try go_wp2
                    go_ret3
                    exact ⟨_, _, by rfl, by exact Kd.R_mono HO710.out (fun _ hk => hk.2), HO717.out, HB.out⟩
                   rw [if_neg c23] at H
                   cases H
                  rw [if_neg c19] at H
                  cases H
                 rw [if_neg c15] at H
                 have c15b0 : decide (1 < (wrap64 (t701 - t703))) = false := decide_eq_false c15
                 clear c15
                 by_cases c36 : (wrap64 (t703 - t701)) > 1
                 ·rw [if_pos c36] at H
                  have c36b0 : decide (1 < (wrap64 (t703 - t701))) = true := decide_eq_true c36
                  clear c36; obtain ⟨y718, hy718⟩ := ex_ ((([] : List Int)) : List Int); replace H : (if y718.length + ((l0.take ((wrap64 (x6_3 + x5_1)) : Int).toNat).drop (x6_3 : Int).toNat).length < 17592186044416 then ((some (([] : List Int) : List Int)).bind fun y725 => (if y725.length + ((l0.take ((wrap64 (x7_4 + x5_1)) : Int).toNat).drop (x7_4 : Int).toNat).length < 17592186044416 then (some ((y718 ++ ((l0.take ((wrap64 (x6_3 + x5_1)) : Int).toNat).drop (x6_3 : Int).toNat)), (y725 ++ ((l0.take ((wrap64 (x7_4 + x5_1)) : Int).toNat).drop (x7_4 : Int).toNat)), true)) else (none))) else (none)) = some (r1, r2, r3) := by (have H2_ := (Option.bind_some _ _).symm.trans H; rw [hy718]; with_reducible exact H2_)
                  have Ny718 := A_ hy718; clear hy718; have c37b0 := eq_true (od_ (by assumption) : 0 ≤ x6_3); have c38b0 := eq_true (od_ (by assumption) : x6_3 ≤ (wrap64 (x6_3 + x5_1))); have c39b0 := eq_true (od_ (by assumption) : (wrap64 (x6_3 + x5_1)) ≤ (l0.length : Int))
                  by_cases c40 : y718.length + ((l0.take ((wrap64 (x6_3 + x5_1)) : Int).toNat).drop (x6_3 : Int).toNat).length < 17592186044416
                  ·rw [if_pos c40] at H; have LMc40 := A_ c40; clear c40; obtain ⟨y722, hy722⟩ := ex_ ((y718 ++ ((l0.take ((wrap64 (x6_3 + x5_1)) : Int).toNat).drop (x6_3 : Int).toNat)) : List Int); replace H : ((some (([] : List Int) : List Int)).bind fun y725 => (if y725.length + ((l0.take ((wrap64 (x7_4 + x5_1)) : Int).toNat).drop (x7_4 : Int).toNat).length < 17592186044416 then (some (y722, (y725 ++ ((l0.take ((wrap64 (x7_4 + x5_1)) : Int).toNat).drop (x7_4 : Int).toNat)), true)) else (none))) = some (r1, r2, r3) := by (rw [hy722]; with_reducible exact H)
                   have Ny722 := A_ hy722; clear hy722; obtain ⟨y725, hy725⟩ := ex_ ((([] : List Int)) : List Int); replace H : (if y725.length + ((l0.take ((wrap64 (x7_4 + x5_1)) : Int).toNat).drop (x7_4 : Int).toNat).length < 17592186044416 then (some (y722, (y725 ++ ((l0.take ((wrap64 (x7_4 + x5_1)) : Int).toNat).drop (x7_4 : Int).toNat)), true)) else (none)) = some (r1, r2, r3) := by (have H2_ := (Option.bind_some _ _).symm.trans H; rw [hy725]; with_reducible exact H2_)
                   have Ny725 := A_ hy725; clear hy725; have c41b0 := eq_true (od_ (by assumption) : 0 ≤ x7_4); have c42b0 := eq_true (od_ (by assumption) : x7_4 ≤ (wrap64 (x7_4 + x5_1))); have c43b0 := eq_true (od_ (by assumption) : (wrap64 (x7_4 + x5_1)) ≤ (l0.length : Int))
                   by_cases c44 : y725.length + ((l0.take ((wrap64 (x7_4 + x5_1)) : Int).toNat).drop (x7_4 : Int).toNat).length < 17592186044416
                   ·rw [if_pos c44] at H; have LMc44 := A_ c44; clear c44; obtain ⟨y729, hy729⟩ := ex_ ((y725 ++ ((l0.take ((wrap64 (x7_4 + x5_1)) : Int).toNat).drop (x7_4 : Int).toNat)) : List Int); replace H : (some (y722, y729, true)) = some (r1, r2, r3) := by (rw [hy729]; with_reducible exact H)
                    have Ny729 := A_ hy729; clear hy729; simp only [Option.some.injEq, Prod.mk.injEq] at H; obtain ⟨rfl, rfl, rfl⟩ := H; obtain ⟨i045, hi045, _, hsz45, _⟩ := info_parts info3; obtain ⟨A45, hcut45, hA45, hC45⟩ := print_mid_of (P := Tryz.prog) (Value.int .i64) 0 24 3 .i64 .i64 Tryz.underlying24 hi045 hsz45 A0 c0 l0 x6_3 (wrap64 (x6_3 + x5_1)) (od_ (by assumption)) (by first | omega | exact od_ (by first | (with_reducible assumption) | assumption)) (od_ (by assumption)) HC0.out; have HR700 := A_ (Kd.C_of_reads (h1 := fun _ => rfl) (hA45 _ (Kd.reads_of_C HR0.out))); have HC700 := A_ hC45; clear hA45 hC45 hi045 hsz45
                    try go_wp2_with (first | ((with_reducible refine gc_ 11 rfl ?_); refine cD_ E11 45 rfl rfl rfl (spec_CountLetters.calls k4 _ _ ((l0.take ((wrap64 (x6_3 + x5_1)) : Int).toNat).drop (x6_3 : Int).toNat) 1 t701 _ (Kd.C_below HR700.out HB.out) HC700.out A10.out) (by (try simp only [mA, mB, mC]); first | done | (rw [show ((l0.take ((wrap64 (x6_3 + x5_1)) : Int).toNat).drop (x6_3 : Int).toNat).length = ((wrap64 (x6_3 + x5_1)).toNat - x6_3.toNat) from (by rw [List.length_drop, List.length_take]; omega)] <;> rfl) | rfl | (simp only [List.length_drop, List.length_take]; rfl)) fun nd => ?_; obtain ⟨i046, hi046, _, hsz46, _⟩ := info_parts info3; obtain ⟨A46, hcut46, hA46, hC46⟩ := print_mid_of (P := Tryz.prog) (Value.int .i64) 0 24 3 .i64 .i64 Tryz.underlying24 hi046 hsz46 A0 c0 l0 x7_4 (wrap64 (x7_4 + x5_1)) (od_ (by assumption)) (by first | omega | exact od_ (by first | (with_reducible assumption) | assumption)) (od_ (by assumption)) HC0.out; have HR702 := A_ (Kd.C_of_reads (h1 := fun _ => rfl) (hA46 _ (Kd.reads_of_C HR0.out))); have HC702 := A_ hC46; clear hA46 hC46 hi046 hsz46) | ((with_reducible refine gc_ 11 rfl ?_); refine cD_ E11 52 rfl rfl rfl (spec_CountLetters.calls k4 _ _ ((l0.take ((wrap64 (x7_4 + x5_1)) : Int).toNat).drop (x7_4 : Int).toNat) 1 t703 _ (by repeat (first | exact (Kd.C_below HR702.out (by repeat (first | (with_reducible first | exact HB.out | apply below_alloc | apply pw_below_drewN | apply below_drew1) | exact HB.out))) | (with_reducible refine Kd.C_alloc ?_ _) | (with_reducible refine Kd.C_drewN ?_ _) | (with_reducible refine Kd.C_drew ?_))) HC702.out A14.out) (by (try simp only [mA, mB, mC]); first | done | (rw [show ((l0.take ((wrap64 (x7_4 + x5_1)) : Int).toNat).drop (x7_4 : Int).toNat).length = ((wrap64 (x7_4 + x5_1)).toNat - x7_4.toNat) from (by rw [List.length_drop, List.length_take]; have h_ : ((wrap64 (x7_4 + x5_1)) : Int) ≤ (l0.length : Int) := od_ (by assumption); omega)] <;> rfl) | rfl | (simp only [List.length_drop, List.length_take]; rfl)) fun nd => ?_))
                    (try (rw [drewN_self wr]; generalize hq_ : World.drewN wr _ = wr; have n0_ : Aside0 (Below w.heap.size w wr) := ⟨by rw [← hq_]; exact (by repeat (first | (with_reducible first | exact HB.out | apply below_alloc | apply pw_below_drewN | apply below_drew1) | exact HB.out))⟩; clear HB hq_; revert n0_; intro HB))
                    have n0_ := A_ (below_drew1 HB.out); clear HB; have HB := n0_; clear n0_; obtain ⟨i048, hi048, _, hsz48, _⟩ := info_parts info3
                    (try clear hcut45)
                    obtain ⟨A48, hcut48, hA48, hC48⟩ := print_mid_of (P := Tryz.prog) (Value.int .i64) 0 24 3 .i64 .i64 Tryz.underlying24 hi048 hsz48 A0 c0 l0 x6_3 (wrap64 (x6_3 + x5_1)) (od_ (by assumption)) (by first | omega | exact od_ (by first | (with_reducible assumption) | assumption)) (od_ (by assumption)) HC0.out; have HR721 := A_ (Kd.C_of_reads (h1 := fun _ => rfl) (hA48 _ (Kd.reads_of_C HR0.out))); clear hA48 hC48 hi048 hsz48; obtain ⟨i049, hi049, _, hsz49, _⟩ := info_parts info3
                    (try clear hcut46)
                    obtain ⟨A49, hcut49, hA49, hC49⟩ := print_mid_of (P := Tryz.prog) (Value.int .i64) 0 24 3 .i64 .i64 Tryz.underlying24 hi049 hsz49 A0 c0 l0 x7_4 (wrap64 (x7_4 + x5_1)) (od_ (by assumption)) (by first | omega | exact od_ (by first | (with_reducible assumption) | assumption)) (od_ (by assumption)) HC0.out; have HR728 := A_ (Kd.C_of_reads (h1 := fun _ => rfl) (hA49 _ (Kd.reads_of_C HR0.out))); clear hA49 hC49 hi049 hsz49; refine start_ (n := 19) (S := fun w' => True) (ds := []) (mk_ 19 0) (by kernel_rfl) rfl rfl trivial (fun hHeld => ?_); refine with_tabW spec_UnbalancedPair.tab13 spec_UnbalancedPair.bits13 (fun HT_ HW_ => ?_)
                    generalize wr.drew = w47 at HB HR721 HR728 hHeld ⊢
                    refine pv_ 1 64 (mk_ 19 2) rfl rfl HT_.out (by kernel_rfl) (fun _ _ _ h => h) (by rfl) (by intro w'; go_simp; with_reducible rfl) (by simp only [Act.put, mD, mE, mF, i64_w, i32_w]; rfl) ?_; refine pv_ 2 65 (mk_ 19 6) rfl rfl HT_.out (by kernel_rfl) (fun _ _ _ h => h) (by rfl) (by intro w'; go_simp; with_reducible rfl) (by simp only [Act.put, mD, mE, mF, i64_w, i32_w]; rfl) ?_; refine pv_ 3 66 (mk_ 19 14) rfl rfl HT_.out (by kernel_rfl) (fun _ _ _ h => h) (by rfl) (by intro w'; go_simp; with_reducible rfl) (by simp only [Act.put, mD, mE, mF, i64_w, i32_w]; rfl) ?_; refine pv_ 4 67 (mk_ 19 30) rfl rfl HT_.out (by kernel_rfl) (fun _ _ _ h => h) (by rfl) (by intro w'; go_simp; with_reducible rfl) (by simp only [Act.put, mD, mE, mF, i64_w, i32_w]; rfl) ?_; refine pv_ 5 68 (mk_ 19 62) rfl rfl HT_.out (by kernel_rfl) (fun _ _ _ h => h) (by rfl) (by intro w'; go_simp; with_reducible rfl) (by simp only [Act.put, mD, mE, mF, i64_w, i32_w]; rfl) ?_; refine pv_ 6 69 (mk_ 19 126) rfl rfl HT_.out (by kernel_rfl) (fun _ _ _ h => h) (by rfl) (by intro w'; go_simp; with_reducible rfl) (by simp only [Act.put, mD, mE, mF, i64_w, i32_w]; rfl) ?_; refine pv_ 9 72 (mk_ 19 638) rfl rfl HT_.out (by kernel_rfl) (fun _ _ _ h => h) (by rfl) (by intro w'; go_simp; with_reducible rfl) (by simp only [Act.put, mD, mE, mF, i64_w, i32_w]; rfl) ?_; refine pv_ 10 73 (mk_ 19 1662) rfl rfl HT_.out (by kernel_rfl) (fun _ _ _ h => h) (by rfl) (by intro w'; go_simp; with_reducible rfl) (by simp only [Act.put, mD, mE, mF, i64_w, i32_w]; rfl) ?_; refine pv_ 11 74 (mk_ 19 3710) rfl rfl HT_.out (by kernel_rfl) (fun _ _ _ h => h) (by rfl) (by intro w'; go_simp; with_reducible rfl) (by simp only [Act.put, mD, mE, mF, i64_w, i32_w]; rfl) ?_; refine pv_ 12 75 (mk_ 19 7806) rfl rfl HT_.out (by kernel_rfl) (fun _ _ _ h => h) (by rfl) (by intro w'; go_simp; with_reducible rfl) (by simp only [Act.put, mD, mE, mF, i64_w, i32_w]; rfl) ?_; refine pv_ 13 76 (mk_ 19 15998) rfl rfl HT_.out (by kernel_rfl) (fun _ _ _ h => h) (by rfl) (by intro w'; go_simp; with_reducible rfl) (by simp only [Act.put, mD, mE, mF, i64_w, i32_w]; rfl) ?_; refine pv_ 14 77 (mk_ 19 32382) rfl rfl HT_.out (by kernel_rfl) (fun _ _ _ h => h) (by rfl) (by intro w'; go_simp; with_reducible rfl) (by simp only [Act.put, mD, mE, mF, i64_w, i32_w]; rfl) ?_; refine join_ (σ := Value × Value × Value) 4 (mk_ 19 32767) (fun s_ => [(63, s_.1), (70, s_.2.1), (71, s_.2.2)]) (fun s_ w' => (Kd.R (Kd.int .i64) 3 w' w.heap.size (fun k_ => some k_ ≠ (s_.2.2 : Value).ownBlock) s_.2.1 y722) ∧ (Kd.R (Kd.int .i64) 3 w' w.heap.size (fun k_ => some k_ ≠ (s_.2.1 : Value).ownBlock) s_.2.2 y725) ∧ (Below w.heap.size w w')) ?_ ?_; rotate_left
                    ·intro hCont; refine two_ (i := 0) (j := 8) (Ni := some 63) (Nj := some 71) (mk_ 19 32383) (mk_ 19 32638) rfl rfl rfl rfl (two_of HT_.out (by kernel_rfl)) (by decide) (by decide) (fun K hK => ?_) (fun K hK => ?_)
                     ·skip
                      refine Kd.R_lit_step (Kd.int .i64) _ 3 ?hg (N := 63) ?hd (xs := ([] : List Int)) (inner := []) (ok := fun _ => True) (okp := fun _ => True) ?hr ?hp (fun _ hk => hk) trivial (Below.refl _ _) (Nat.le_refl _) (by simp) ?_; (case hd | hg => rfl); (case hr => go_simp; done); (case hp => exact (Reps.none _ _)); intro v719 w50 ho51 hb hg_ hnew_; clear hg_ hnew_
                      (rw [← Ny718.out] at ho51)
                      have n0_ := A_ (Kd.R_lower ho51 (below_size HB.out)); have n1_ := bs_ HB hb; clear HB; have HO720 := n0_; have HB := n1_; clear n0_ n1_ hb ho51; refine hK.out _ _ trivial (fun hHeld => ?_); clear hK K; refine norm_ (by show Act.put _ (some 63) _ = _; simp only [Act.put, mD, mE, mF, i64_w, i32_w]; rfl) ?_; refine two_ (i := 7) (j := 8) (Ni := some 70) (Nj := some 71) (mk_ 19 32511) (mk_ 19 32639) rfl rfl rfl rfl (two_of HT_.out (by kernel_rfl)) (by decide) (by decide) (fun K hK => ?_) (fun K hK => ?_)
                      ·skip
                       refine Kd.R_append_rows_step (Kd.int .i64) (w0 := w) w.heap.size (by rfl) (.tmp 63) (.tmp 69) 24 3 (.int .i64 0) 8 rfl Tryz.underlying24 info3 rfl (by decide) (by omega) v719 y718 ((l0.take ((wrap64 (x6_3 + x5_1)) : Int).toNat).drop (x6_3 : Int).toNat) _ _ _ (fun _ => True) (fun _ => False) rfl rfl ?aO ?aR (fun _ _ h => h) (fun _ h => h.elim) ?aF ?aB ?aS ?aL ?_
                       (case aR => first | (rw [← show ((l0.take ((wrap64 (x6_3 + x5_1)) : Int).toNat).drop (x6_3 : Int).toNat).length = ((wrap64 (x6_3 + x5_1)).toNat - x6_3.toNat) from (by rw [List.length_drop, List.length_take]; omega)]; exact (Kd.C_below HR721.out HB.out)) | (exact (Kd.C_below HR721.out HB.out)))
                       (case aB => exact HB.out)
                       (case aF => exact (fun _ _ => trivial))
                       (case aO => exact HO720.out)
                       (case aS => exact (below_size HB.out))
                       (case aL => have := LMc40.out; have hlx_ := (show ((l0.take ((wrap64 (x6_3 + x5_1)) : Int).toNat).drop (x6_3 : Int).toNat).length = ((wrap64 (x6_3 + x5_1)).toNat - x6_3.toNat) from (by rw [List.length_drop, List.length_take]; omega)); omega)
                       intro v723 w52 ho hb hg hat; rw [← Ny722.out] at ho; have n0_ := A_ (hb); have n1_ := A_ (ho); clear HB HO720; have HB := n0_; have HO724 := n1_; clear n0_ n1_ ho hb hg hat; refine hK.out _ _ trivial (fun hHeld => ?_); clear hK K; refine norm_ (by show Act.put _ (some 70) _ = _; simp only [Act.put, mD, mE, mF, i64_w, i32_w]; rfl) ?_; refine one_ (i := 8) (N := some 71) (mk_ 19 32767) rfl rfl (one_of HT_.out (by kernel_rfl)) (by decide) (fun K hK => ?_); refine Kd.R_lit_step (Kd.int .i64) _ 3 ?hg (N := 71) ?hd (xs := ([] : List Int)) (inner := []) (ok := fun _ => True) (okp := fun _ => True) ?hr ?hp (fun _ hk => hk) trivial (Below.refl _ _) (Nat.le_refl _) (by simp) ?_; (case hd | hg => rfl); (case hr => go_simp; done); (case hp => exact (Reps.none _ _)); intro v726 w53 ho54 hb hg_ hnew_; clear hg_ hnew_
                       (rw [← Ny725.out] at ho54)
                       have n0_ := A_ (Kd.R_elder' HO724.out (Kd.R_base ho54) hb); have n1_ := A_ (Kd.R_lower (Kd.R_new' ho54 (Kd.R_lt HO724.out)) (below_size HB.out)); have n2_ := bs_ HB hb; clear HO724 HB; have HO724 := n0_; have HO727 := n1_; have HB := n2_; clear n0_ n1_ n2_ hb ho54; refine hK.out _ _ trivial (fun hHeld => ?_); clear hK K; refine norm_ (by show Act.put _ (some 71) _ = _; simp only [Act.put, mD, mE, mF, i64_w, i32_w]; rfl) ?_; exact norm_ (by simp only [putAll, Act.put, mD, mE, mF]) (hCont (v719, v723, v726) _ ⟨(by exact Kd.R_mono HO724.out (fun _ hk => hk.2)), (by exact Kd.R_mono HO727.out (fun _ hk => hk.2)), HB.out⟩)
                      refine Kd.R_lit_step (Kd.int .i64) _ 3 ?hg (N := 71) ?hd (xs := ([] : List Int)) (inner := []) (ok := fun _ => True) (okp := fun _ => True) ?hr ?hp (fun _ hk => hk) trivial (Below.refl _ _) (Nat.le_refl _) (by simp) ?_; (case hd | hg => rfl); (case hr => go_simp; done); (case hp => exact (Reps.none _ _)); intro v726 w52 ho53 hb hg_ hnew_; clear hg_ hnew_
                      (rw [← Ny725.out] at ho53)
                      have n0_ := A_ (Kd.R_elder' HO720.out (Kd.R_base ho53) hb); have n1_ := A_ (Kd.R_lower (Kd.R_new' ho53 (Kd.R_lt HO720.out)) (below_size HB.out)); have n2_ := bs_ HB hb; clear HO720 HB; have HO720 := n0_; have HO727 := n1_; have HB := n2_; clear n0_ n1_ n2_ hb ho53; refine hK.out _ _ trivial (fun hHeld => ?_); clear hK K; refine norm_ (by show Act.put _ (some 71) _ = _; simp only [Act.put, mD, mE, mF, i64_w, i32_w]; rfl) ?_; refine one_ (i := 7) (N := some 70) (mk_ 19 32767) rfl rfl (one_of HT_.out (by kernel_rfl)) (by decide) (fun K hK => ?_); refine Kd.R_append_rows_step (Kd.int .i64) (w0 := w) w.heap.size (by rfl) (.tmp 63) (.tmp 69) 24 3 (.int .i64 0) 8 rfl Tryz.underlying24 info3 rfl (by decide) (by omega) v719 y718 ((l0.take ((wrap64 (x6_3 + x5_1)) : Int).toNat).drop (x6_3 : Int).toNat) _ _ _ (fun k_ => some k_ ≠ (v726 : Value).ownBlock) (fun _ => False) rfl rfl ?aO ?aR (fun _ _ h => h) (fun _ h => h.elim) ?aF ?aB ?aS ?aL ?_
                      (case aR => first | (rw [← show ((l0.take ((wrap64 (x6_3 + x5_1)) : Int).toNat).drop (x6_3 : Int).toNat).length = ((wrap64 (x6_3 + x5_1)).toNat - x6_3.toNat) from (by rw [List.length_drop, List.length_take]; omega)]; exact (Kd.C_below HR721.out HB.out)) | (exact (Kd.C_below HR721.out HB.out)))
                      (case aB => exact HB.out)
                      (case aF => exact (fun k_ hk => Kd.fresh' (Kd.R_lt HO727.out) k_ hk))
                      (case aO => exact (by exact Kd.R_mono HO720.out (fun _ hk => hk.2)))
                      (case aS => exact (below_size HB.out))
                      (case aL => have := LMc40.out; have hlx_ := (show ((l0.take ((wrap64 (x6_3 + x5_1)) : Int).toNat).drop (x6_3 : Int).toNat).length = ((wrap64 (x6_3 + x5_1)).toNat - x6_3.toNat) from (by rw [List.length_drop, List.length_take]; omega)); omega)
                      intro v723 w54 ho hb hg hat; rw [← Ny722.out] at ho; have n0_ := A_ (Kd.R_after (ok := (fun _ => True)) HO727.out hg hat); have n1_ := A_ (hb); have n2_ := A_ (ho); clear HO727 HB HO720; have HO727 := n0_; have HB := n1_; have HO724 := n2_; clear n0_ n1_ n2_ ho hb hg hat; refine hK.out _ _ trivial (fun hHeld => ?_); clear hK K; refine norm_ (by show Act.put _ (some 70) _ = _; simp only [Act.put, mD, mE, mF, i64_w, i32_w]; rfl) ?_; exact norm_ (by simp only [putAll, Act.put, mD, mE, mF]) (hCont (v719, v723, v726) _ ⟨HO724.out, (by exact Kd.R_mono HO727.out (fun _ hk => hk.2)), HB.out⟩)
                     refine Kd.R_lit_step (Kd.int .i64) _ 3 ?hg (N := 71) ?hd (xs := ([] : List Int)) (inner := []) (ok := fun _ => True) (okp := fun _ => True) ?hr ?hp (fun _ hk => hk) trivial (Below.refl _ _) (Nat.le_refl _) (by simp) ?_; (case hd | hg => rfl); (case hr => go_simp; done); (case hp => exact (Reps.none _ _)); intro v726 w50 ho51 hb hg_ hnew_; clear hg_ hnew_
                     (rw [← Ny725.out] at ho51)
                     have n0_ := A_ (Kd.R_lower ho51 (below_size HB.out)); have n1_ := bs_ HB hb; clear HB; have HO727 := n0_; have HB := n1_; clear n0_ n1_ hb ho51; refine hK.out _ _ trivial (fun hHeld => ?_); clear hK K; refine norm_ (by show Act.put _ (some 71) _ = _; simp only [Act.put, mD, mE, mF, i64_w, i32_w]; rfl) ?_; refine one_ (i := 0) (N := some 63) (mk_ 19 32639) rfl rfl (one_of HT_.out (by kernel_rfl)) (by decide) (fun K hK => ?_); refine Kd.R_lit_step (Kd.int .i64) _ 3 ?hg (N := 63) ?hd (xs := ([] : List Int)) (inner := []) (ok := fun _ => True) (okp := fun _ => True) ?hr ?hp (fun _ hk => hk) trivial (Below.refl _ _) (Nat.le_refl _) (by simp) ?_; (case hd | hg => rfl); (case hr => go_simp; done); (case hp => exact (Reps.none _ _)); intro v719 w52 ho53 hb hg_ hnew_; clear hg_ hnew_
                     (rw [← Ny718.out] at ho53)
                     have n0_ := A_ (Kd.R_elder' HO727.out (Kd.R_base ho53) hb); have n1_ := A_ (Kd.R_lower (Kd.R_new' ho53 (Kd.R_lt HO727.out)) (below_size HB.out)); have n2_ := bs_ HB hb; clear HO727 HB; have HO727 := n0_; have HO720 := n1_; have HB := n2_; clear n0_ n1_ n2_ hb ho53; refine hK.out _ _ trivial (fun hHeld => ?_); clear hK K; refine norm_ (by show Act.put _ (some 63) _ = _; simp only [Act.put, mD, mE, mF, i64_w, i32_w]; rfl) ?_; refine one_ (i := 7) (N := some 70) (mk_ 19 32767) rfl rfl (one_of HT_.out (by kernel_rfl)) (by decide) (fun K hK => ?_); refine Kd.R_append_rows_step (Kd.int .i64) (w0 := w) w.heap.size (by rfl) (.tmp 63) (.tmp 69) 24 3 (.int .i64 0) 8 rfl Tryz.underlying24 info3 rfl (by decide) (by omega) v719 y718 ((l0.take ((wrap64 (x6_3 + x5_1)) : Int).toNat).drop (x6_3 : Int).toNat) _ _ _ (fun k_ => some k_ ≠ (v726 : Value).ownBlock) (fun _ => False) rfl rfl ?aO ?aR (fun _ _ h => h) (fun _ h => h.elim) ?aF ?aB ?aS ?aL ?_
                     (case aR => first | (rw [← show ((l0.take ((wrap64 (x6_3 + x5_1)) : Int).toNat).drop (x6_3 : Int).toNat).length = ((wrap64 (x6_3 + x5_1)).toNat - x6_3.toNat) from (by rw [List.length_drop, List.length_take]; omega)]; exact (Kd.C_below HR721.out HB.out)) | (exact (Kd.C_below HR721.out HB.out)))
                     (case aB => exact HB.out)
                     (case aF => exact (fun k_ hk => Kd.fresh' (Kd.R_lt HO727.out) k_ hk))
                     (case aO => exact (by exact Kd.R_mono HO720.out (fun _ hk => hk.2)))
                     (case aS => exact (below_size HB.out))
                     (case aL => have := LMc40.out; have hlx_ := (show ((l0.take ((wrap64 (x6_3 + x5_1)) : Int).toNat).drop (x6_3 : Int).toNat).length = ((wrap64 (x6_3 + x5_1)).toNat - x6_3.toNat) from (by rw [List.length_drop, List.length_take]; omega)); omega)
                     intro v723 w54 ho hb hg hat; rw [← Ny722.out] at ho; have n0_ := A_ (Kd.R_after (ok := (fun _ => True)) HO727.out hg hat); have n1_ := A_ (hb); have n2_ := A_ (ho); clear HO727 HB HO720; have HO727 := n0_; have HB := n1_; have HO724 := n2_; clear n0_ n1_ n2_ ho hb hg hat; refine hK.out _ _ trivial (fun hHeld => ?_); clear hK K; refine norm_ (by show Act.put _ (some 70) _ = _; simp only [Act.put, mD, mE, mF, i64_w, i32_w]; rfl) ?_; exact norm_ (by simp only [putAll, Act.put, mD, mE, mF]) (hCont (v719, v723, v726) _ ⟨HO724.out, (by exact Kd.R_mono HO727.out (fun _ hk => hk.2)), HB.out⟩)
                    rintro ⟨v719, v723, v726⟩ w55 ⟨h0_, h1_, h2_⟩
                    have n0_ : Aside0 (Kd.R (Kd.int .i64) 3 w55 w.heap.size (fun k_ => some k_ ≠ (v726 : Value).ownBlock) v723 y722) := ⟨h0_⟩
                    have n1_ : Aside0 (Kd.R (Kd.int .i64) 3 w55 w.heap.size (fun k_ => some k_ ≠ (v723 : Value).ownBlock) v726 y725) := ⟨h1_⟩
                    have n2_ : Aside0 (Below w.heap.size w w55) := ⟨h2_⟩
                    clear HB h0_ h1_ h2_; have HO724 := n0_; have HO727 := n1_; have HB := n2_; clear n0_ n1_ n2_; refine norm_ (a' := ?_) ?_ ?_; rotate_left
                    ·simp only [putAll, Act.put, mD, mE, mF]
                     rfl
                    refine one_ (i := 15) (N := some 78) (mk_ 19 65535) rfl rfl (one_of HT_.out (by kernel_rfl)) (by decide) (fun K hK => ?_); refine Kd.R_append_rows_step (Kd.int .i64) (w0 := w) w.heap.size (by rfl) (.tmp 71) (.tmp 77) 24 3 (.int .i64 0) 8 rfl Tryz.underlying24 info3 rfl (by decide) (by omega) v726 y725 ((l0.take ((wrap64 (x7_4 + x5_1)) : Int).toNat).drop (x7_4 : Int).toNat) _ _ _ (fun k_ => some k_ ≠ (v723 : Value).ownBlock) (fun _ => False) rfl rfl ?aO ?aR (fun _ _ h => h) (fun _ h => h.elim) ?aF ?aB ?aS ?aL ?_
                    (case aR => first | (rw [← show ((l0.take ((wrap64 (x7_4 + x5_1)) : Int).toNat).drop (x7_4 : Int).toNat).length = ((wrap64 (x7_4 + x5_1)).toNat - x7_4.toNat) from (by rw [List.length_drop, List.length_take]; have h_ : ((wrap64 (x7_4 + x5_1)) : Int) ≤ (l0.length : Int) := od_ (by assumption); omega)]; exact (Kd.C_below HR728.out HB.out)) | (exact (Kd.C_below HR728.out HB.out)))
                    (case aB => exact HB.out)
                    (case aF => exact (fun k_ hk => Kd.fresh' (Kd.R_lt HO724.out) k_ hk))
                    (case aO => exact HO727.out)
                    (case aS => exact (below_size HB.out))
                    (case aL => have := LMc44.out; have hlx_ := (show ((l0.take ((wrap64 (x7_4 + x5_1)) : Int).toNat).drop (x7_4 : Int).toNat).length = ((wrap64 (x7_4 + x5_1)).toNat - x7_4.toNat) from (by rw [List.length_drop, List.length_take]; have h_ : ((wrap64 (x7_4 + x5_1)) : Int) ≤ (l0.length : Int) := od_ (by assumption); omega)); omega)
                    intro v730 w56 ho hb hg hat; rw [← Ny729.out] at ho; have n0_ := A_ (Kd.R_after (ok := (fun _ => True)) (by exact Kd.R_mono HO724.out (fun _ hk => ⟨trivial, hk⟩)) hg hat); have n1_ := A_ (hb); have n2_ := A_ (ho); clear HO724 HB HO727; have HO724 := n0_; have HB := n1_; have HO731 := n2_; clear n0_ n1_ n2_ ho hb hg hat; refine hK.out _ _ trivial (fun hHeld => ?_); clear hK K; refine norm_ (by show Act.put _ (some 78) _ = _; simp only [Act.put, mD, mE, mF, i64_w, i32_w]; rfl) ?_; refine pv_ 16 2 (mk_ 19 131071) rfl rfl HT_.out (by kernel_rfl) (fun _ _ _ h => h) (by rfl) (by intro w'; go_simp; with_reducible rfl) (by simp only [Act.put, mD, mE, mF, i64_w, i32_w]; rfl) ?_; refine pv_ 17 3 (mk_ 19 262143) rfl rfl HT_.out (by kernel_rfl) (fun _ _ _ h => h) (by rfl) (by intro w'; go_simp; with_reducible rfl) (by simp only [Act.put, mD, mE, mF, i64_w, i32_w]; rfl) ?_; refine pv_ 18 4 (mk_ 19 524287) rfl rfl HT_.out (by kernel_rfl) (fun _ _ _ h => h) (by rfl) (by intro w'; go_simp; with_reducible rfl) (by simp only [Act.put, mD, mE, mF, i64_w, i32_w]; rfl) ?_; refine done_ (done_of HT_.out (by kernel_rfl)) ?_
                    try go_wp2
                    go_ret3
                    exact ⟨_, _, by rfl, by exact Kd.R_mono HO724.out (fun _ hk => hk.2), HO731.out, HB.out⟩
                   rw [if_neg c44] at H
                   cases H
                  rw [if_neg c40] at H
                  cases H
                 rw [if_neg c36] at H
                 have c36b0 : decide (1 < (wrap64 (t703 - t701))) = false := decide_eq_false c36
                 clear c36
                 have H' := A_ H
                 clear H; obtain ⟨i057, hi057, _, hsz57, _⟩ := info_parts info3; obtain ⟨A57, hcut57, hA57, hC57⟩ := print_mid_of (P := Tryz.prog) (Value.int .i64) 0 24 3 .i64 .i64 Tryz.underlying24 hi057 hsz57 A0 c0 l0 x6_3 (wrap64 (x6_3 + x5_1)) (od_ (by assumption)) (by first | omega | exact od_ (by first | (with_reducible assumption) | assumption)) (od_ (by assumption)) HC0.out; have HR700 := A_ (Kd.C_of_reads (h1 := fun _ => rfl) (hA57 _ (Kd.reads_of_C HR0.out))); have HC700 := A_ hC57; clear hA57 hC57 hi057 hsz57
                 go_wp2_with (first | ((with_reducible refine gc_ 11 rfl ?_); refine cD_ E11 45 rfl rfl rfl (spec_CountLetters.calls k4 _ _ ((l0.take ((wrap64 (x6_3 + x5_1)) : Int).toNat).drop (x6_3 : Int).toNat) 1 t701 _ (Kd.C_below HR700.out HB.out) HC700.out A10.out) (by (try simp only [mA, mB, mC]); first | done | (rw [show ((l0.take ((wrap64 (x6_3 + x5_1)) : Int).toNat).drop (x6_3 : Int).toNat).length = ((wrap64 (x6_3 + x5_1)).toNat - x6_3.toNat) from (by rw [List.length_drop, List.length_take]; omega)] <;> rfl) | rfl | (simp only [List.length_drop, List.length_take]; rfl)) fun nd => ?_; obtain ⟨i058, hi058, _, hsz58, _⟩ := info_parts info3; obtain ⟨A58, hcut58, hA58, hC58⟩ := print_mid_of (P := Tryz.prog) (Value.int .i64) 0 24 3 .i64 .i64 Tryz.underlying24 hi058 hsz58 A0 c0 l0 x7_4 (wrap64 (x7_4 + x5_1)) (od_ (by assumption)) (by first | omega | exact od_ (by first | (with_reducible assumption) | assumption)) (od_ (by assumption)) HC0.out; have HR702 := A_ (Kd.C_of_reads (h1 := fun _ => rfl) (hA58 _ (Kd.reads_of_C HR0.out))); have HC702 := A_ hC58; clear hA58 hC58 hi058 hsz58) | ((with_reducible refine gc_ 11 rfl ?_); refine cD_ E11 52 rfl rfl rfl (spec_CountLetters.calls k4 _ _ ((l0.take ((wrap64 (x7_4 + x5_1)) : Int).toNat).drop (x7_4 : Int).toNat) 1 t703 _ (by repeat (first | exact (Kd.C_below HR702.out (by repeat (first | (with_reducible first | exact HB.out | apply below_alloc | apply pw_below_drewN | apply below_drew1) | exact HB.out))) | (with_reducible refine Kd.C_alloc ?_ _) | (with_reducible refine Kd.C_drewN ?_ _) | (with_reducible refine Kd.C_drew ?_))) HC702.out A14.out) (by (try simp only [mA, mB, mC]); first | done | (rw [show ((l0.take ((wrap64 (x7_4 + x5_1)) : Int).toNat).drop (x7_4 : Int).toNat).length = ((wrap64 (x7_4 + x5_1)).toNat - x7_4.toNat) from (by rw [List.length_drop, List.length_take]; have h_ : ((wrap64 (x7_4 + x5_1)) : Int) ≤ (l0.length : Int) := od_ (by assumption); omega)] <;> rfl) | rfl | (simp only [List.length_drop, List.length_take]; rfl)) fun nd => ?_))
                 go_roundg k4
                 case measure => have := HK1.out; have := HJ1.out; have := HK3.out; have := HK4.out; omega
                 case rel => exact ⟨(wrap64 (x7_4 + 1)), (by rfl), H', ⟨by have := HK1.out; have := HJ1.out; have := HK3.out; have := HK4.out; omega⟩, ⟨by repeat (first | (with_reducible first | exact HB.out | apply below_alloc | apply pw_below_drewN | apply below_drew1) | exact HB.out)⟩⟩
                rw [if_neg c12] at H
                cases H
               rw [if_neg c11] at H
               cases H
              rw [if_neg c9] at H
              cases H
             rw [if_neg c8] at H
             cases H
            rw [if_neg c7] at H
            cases H
           rw [if_neg c6] at H; have c6b0 := decide_eq_false c6; clear c6
           have H' := A_ H
           clear H
           go_wp2
           go_roundg k4
           case measure => have := HK1.out; have := HJ1.out; have := HK3.out; have := HK4.out; omega
           case rel => exact ⟨(wrap64 (x6_3 + 1)), (by rfl), H', ⟨by have := HK1.out; have := HJ1.out; have := HK3.out; have := HK4.out; omega⟩, ⟨HB.out⟩⟩
        rw [if_neg c5] at H; have c5b0 := decide_eq_false c5; clear c5
        have H' := A_ H
        clear H
        go_wp2
        go_roundg k3
        case measure => have := HK1.out; have := HJ1.out; have := HK3.out; omega
        case rel => exact ⟨(wrap64 (x5_1 + 1)), (by rfl), H', ⟨by have := HK1.out; have := HJ1.out; have := HK3.out; omega⟩, ⟨HB.out⟩⟩
     replace c4 := Bool.eq_false_iff.mpr c4; subst c4; rw [if_neg nf_] at H; obtain ⟨y694, hy694⟩ := ex_ ((([] : List Int)) : List Int); replace H : (some (y694, (([] : List Int)), false)) = some (r1, r2, r3) := by (rw [hy694]; with_reducible exact H)
     have Ny694 := A_ hy694; clear hy694; obtain ⟨y697, hy697⟩ := ex_ ((([] : List Int)) : List Int); replace H : (some (y694, y697, false)) = some (r1, r2, r3) := by (rw [hy697]; with_reducible exact H)
     have Ny697 := A_ hy697; clear hy697; simp only [Option.some.injEq, Prod.mk.injEq] at H; obtain ⟨rfl, rfl, rfl⟩ := H
     go_wp2_with (first | ((with_reducible refine gate_dst (N := 79) rfl ?_); (try (refine gate_guard (by rfl) ?_; dsimp only)); refine Kd.R_lit (Kd.int .i64) _ 3 ?hg (N := 79) ?hd (xs := ([] : List Int)) (inner := []) (ok := fun _ => True) (okp := fun _ => True) ?hr ?hp (fun _ hk => hk) trivial (Below.refl _ _) (Nat.le_refl _) (by simp) ?_; (case hd | hg => rfl); (case hr => go_simp; done); (case hp => exact (Reps.none _ _)); rintro v695 w59 ho60 hb - -; (rw [← Ny694.out] at ho60); have HO696 := A_ (Kd.R_lower ho60 (below_size HB.out)); replace HB := bs_ HB hb; clear hb ho60) | ((with_reducible refine gate_dst (N := 80) rfl ?_); (try (refine gate_guard (by rfl) ?_; dsimp only)); refine Kd.R_lit (Kd.int .i64) _ 3 ?hg (N := 80) ?hd (xs := ([] : List Int)) (inner := []) (ok := fun _ => True) (okp := fun _ => True) ?hr ?hp (fun _ hk => hk) trivial (Below.refl _ _) (Nat.le_refl _) (by simp) ?_; (case hd | hg => rfl); (case hr => go_simp; done); (case hp => exact (Reps.none _ _)); rintro v698 w61 ho62 hb - -; (rw [← Ny697.out] at ho62); have HO699 := A_ (Kd.R_lower (Kd.R_new' ho62 (Kd.R_lt HO696.out)) (below_size HB.out)); replace HO696 := A_ (Kd.R_elder' HO696.out (Kd.R_base ho62) hb); replace HB := bs_ HB hb; clear hb ho62))
     go_ret3
     exact ⟨_, _, by rfl, by exact Kd.R_mono HO696.out (fun _ hk => hk.2), by exact Kd.R_mono HO699.out (fun _ hk => hk.2), HB.out⟩
def laws_sameInts.l0 : Nat → List Int → List Int → Int → Option (Bool)
 | 0, _, _, _ => none
 | k + 1, x0, x1, x5 => if x5 < (x0.length : Int) then (if 0 ≤ x5 then (if x5 < (x1.length : Int) then (if (rd x0 x5) = (rd x1 x5) then (laws_sameInts.l0 k x0 x1 (wrap64 (x5 + 1))) else (some false)) else (none)) else (none)) else (some true)
def laws_sameInts.f (k : Nat) (l0 : List Int) (l1 : List Int) : Option (Bool) := if (l0.length : Int) = (l1.length : Int) then (laws_sameInts.l0 k l0 l1 0) else (some false)
theorem laws_sameInts.calls (k : Nat) (A0 : Option Addr) (c0 : Nat) (l0 : List Int) (A1 : Option Addr) (c1 : Nat) (l1 : List Int) (r : Bool) (w : World) (hr0 : Kd.C (Kd.int .i64) w A0 l0.length l0) (hc0 : l0.length ≤ c0) (hr1 : Kd.C (Kd.int .i64) w A1 l1.length l1) (hc1 : l1.length ≤ c1) (h : laws_sameInts.f k l0 l1 = some r) :
  Calls Tryz.prog 8 #[.slice A0 l0.length c0, .slice A1 l1.length c1] w fun e w' => e = .returned (.bool r) ∧ Drawn0 w w' := by
 have HR0 := A_ hr0; clear hr0 hc0; have HR1 := A_ hr1; clear hr1 hc1; unfold laws_sameInts.f at h; have H := h; clear h
 by_cases c3 : (l0.length : Int) = (l1.length : Int)
 ·rw [if_pos c3] at H
  have c3b1 : ((l0.length : Int) != (l1.length : Int)) = false := bne_eq_false_iff_eq.mpr c3
  clear c3
  have H' := A_ H
  clear H; go_enter Tryz.func8, Tryz.ntmps8
  go_wp2
  repeat (go_quiet (fail); try go_wp2)
  go_loopg [5] k (fun kq v5 w' => ∃ (x5_1 : Int), v5 = .int .i64 x5_1 ∧ Aside0 (laws_sameInts.l0 kq l0 l1 x5_1 = some r) ∧ Aside0 (kq ≤ k) ∧ Drawn0 w w')
  case atStart => exact ⟨(0), (by rfl), H', ⟨Nat.le_refl _⟩, by repeat (first | exact Drawn0.refl _ | apply Drawn0.step)⟩
  case round =>
   clear H'
   try skip
   try skip
   try skip
   obtain ⟨x5_1, rfl, HA, HK1, ⟨m1, rfl⟩⟩ := hrel
   cases gk with
   | zero => exact absurd HA.out (by simp [laws_sameInts.l0])
   | succ k1 =>
    have H := HA.out; clear HA; simp only [laws_sameInts.l0] at H
    by_cases c4 : x5_1 < (l0.length : Int)
    ·rw [if_pos c4] at H; have c4b0 := decide_eq_true c4; clear c4
     by_cases c5 : 0 ≤ x5_1
     ·rw [if_pos c5] at H; have c5b0 := decide_eq_true c5; clear c5
      by_cases c6 : x5_1 < (l1.length : Int)
      ·rw [if_pos c6] at H; have c6b0 := decide_eq_true c6; clear c6
       by_cases c7 : (rd l0 x5_1) = (rd l1 x5_1)
       ·rw [if_pos c7] at H
        have c7b1 : ((rd l0 x5_1) != (rd l1 x5_1)) = false := bne_eq_false_iff_eq.mpr c7
        clear c7
        have H' := A_ H
        clear H
        have p732 : 0 ≤ (x5_1 : Int) := od_ (by assumption)
        have q732 : x5_1 < (l0.length : Int) := od_ (by assumption)
        obtain ⟨ad732, e732, hx732_0⟩ := Kd.at_int HR0.out x5_1 p732 q732
        cases e732
        replace p732 := eq_true p732; replace q732 := eq_true q732
        have p733 : 0 ≤ (x5_1 : Int) := od_ (by assumption)
        have q733 : x5_1 < (l1.length : Int) := od_ (by assumption)
        obtain ⟨ad733, e733, hx733_0⟩ := Kd.at_int HR1.out x5_1 p733 q733
        cases e733
        replace p733 := eq_true p733; replace q733 := eq_true q733
        go_wp2
        repeat (go_quiet (fail); try go_wp2)
        go_roundg k1
        case measure => have := HK1.out; omega
        case rel => exact ⟨(wrap64 (x5_1 + 1)), (by rfl), H', ⟨by have := HK1.out; omega⟩, by repeat (first | exact Drawn0.refl _ | apply Drawn0.step)⟩
       rw [if_neg c7] at H
       have c7b1 : ((rd l0 x5_1) != (rd l1 x5_1)) = true := bne_iff_ne.mpr c7
       obtain rfl := Option.some.inj H
       have p732 : 0 ≤ (x5_1 : Int) := od_ (by assumption)
       have q732 : x5_1 < (l0.length : Int) := od_ (by assumption)
       obtain ⟨ad732, e732, hx732_0⟩ := Kd.at_int HR0.out x5_1 p732 q732
       cases e732
       replace p732 := eq_true p732; replace q732 := eq_true q732
       have p733 : 0 ≤ (x5_1 : Int) := od_ (by assumption)
       have q733 : x5_1 < (l1.length : Int) := od_ (by assumption)
       obtain ⟨ad733, e733, hx733_0⟩ := Kd.at_int HR1.out x5_1 p733 q733
       cases e733
       replace p733 := eq_true p733; replace q733 := eq_true q733
       go_wp2
       repeat (go_quiet (fail); try go_wp2)
       go_ret
       exact ⟨by rfl, by repeat (first | exact Drawn0.refl _ | apply Drawn0.step)⟩
      rw [if_neg c6] at H
      cases H
     rw [if_neg c5] at H
     cases H
    rw [if_neg c4] at H; have c4b0 := decide_eq_false c4; clear c4; obtain rfl := Option.some.inj H
    go_wp2
    repeat (go_quiet (fail); try go_wp2)
    go_ret
    exact ⟨by rfl, by repeat (first | exact Drawn0.refl _ | apply Drawn0.step)⟩
 rw [if_neg c3] at H
 have c3b1 : ((l0.length : Int) != (l1.length : Int)) = true := bne_iff_ne.mpr c3
 obtain rfl := Option.some.inj H; go_enter Tryz.func8, Tryz.ntmps8
 go_wp2
 repeat (go_quiet (fail); try go_wp2)
 go_ret
 exact ⟨by rfl, by repeat (first | exact Drawn0.refl _ | apply Drawn0.step)⟩

def impl_areLetters.l0 : Nat → Int → List Int → Int → Int → Option (Bool)
 | 0, _, _, _, _ => none
 | k + 1, x1, x7, x8, x9 => if x9 < x8 then (if 0 ≤ x9 then (if x9 < (x7.length : Int) then (if (rd x7 x9) < 0 then (some false) else (if (rd x7 x9) ≥ x1 then (some false) else (impl_areLetters.l0 k x1 x7 x8 (wrap64 (x9 + 1))))) else (none)) else (none)) else (some true)
def impl_areLetters.f (k : Nat) (l0 : List Int) (a1 : Int) : Option (Bool) := impl_areLetters.l0 k a1 l0 (l0.length : Int) 0
theorem impl_areLetters.calls (k : Nat) (A0 : Option Addr) (c0 : Nat) (l0 : List Int) (a1 : Int) (r : Bool) (w : World) (hr0 : Kd.C (Kd.int .i64) w A0 l0.length l0) (hc0 : l0.length ≤ c0) (h : impl_areLetters.f k l0 a1 = some r) :
  Calls Tryz.prog 30 #[.slice A0 l0.length c0, .int .i64 a1] w fun e w' => e = .returned (.bool r) ∧ Drawn0 w w' := by
 have HR0 := A_ hr0; clear hr0 hc0; unfold impl_areLetters.f at h; have H := h; clear h
 have H' := A_ H
 clear H; go_enter Tryz.func30, Tryz.ntmps30
 go_wp2
 go_loopg [9] k (fun kq v9 w' => ∃ (x9_1 : Int), v9 = .int .i64 x9_1 ∧ Aside0 (impl_areLetters.l0 kq a1 l0 (l0.length : Int) x9_1 = some r) ∧ Aside0 (kq ≤ k) ∧ Drawn0 w w')
 case atStart => exact ⟨(0), (by rfl), H', ⟨Nat.le_refl _⟩, by repeat (first | exact Drawn0.refl _ | apply Drawn0.step)⟩
 case round =>
  clear H'; obtain ⟨x9_1, rfl, HA, HK1, ⟨m1, rfl⟩⟩ := hrel
  cases gk with
  | zero => exact absurd HA.out (by simp [impl_areLetters.l0])
  | succ k1 =>
   have H := HA.out; clear HA; simp only [impl_areLetters.l0] at H
   by_cases c3 : x9_1 < (l0.length : Int)
   ·rw [if_pos c3] at H; have c3b0 := decide_eq_true c3; clear c3
    by_cases c4 : 0 ≤ x9_1
    ·rw [if_pos c4] at H; have c4b0 := decide_eq_true c4; clear c4
     by_cases c5 : x9_1 < (l0.length : Int)
     ·rw [if_pos c5] at H; have c5b0 := decide_eq_true c5; clear c5
      by_cases c6 : (rd l0 x9_1) < 0
      ·rw [if_pos c6] at H; have c6b0 := decide_eq_true c6; clear c6; obtain rfl := Option.some.inj H
       have p734 : 0 ≤ (x9_1 : Int) := od_ (by assumption)
       have q734 : x9_1 < (l0.length : Int) := od_ (by assumption)
       obtain ⟨ad734, e734, hx734_0⟩ := Kd.at_int HR0.out x9_1 p734 q734
       cases e734
       replace p734 := eq_true p734; replace q734 := eq_true q734
       go_wp2
       go_ret
       exact ⟨by rfl, by repeat (first | exact Drawn0.refl _ | apply Drawn0.step)⟩
      rw [if_neg c6] at H; have c6b0 := decide_eq_false c6; clear c6
      by_cases c7 : (rd l0 x9_1) ≥ a1
      ·rw [if_pos c7] at H
       have c7b0 : decide (a1 ≤ (rd l0 x9_1)) = true := decide_eq_true c7
       clear c7; obtain rfl := Option.some.inj H
       have p734 : 0 ≤ (x9_1 : Int) := od_ (by assumption)
       have q734 : x9_1 < (l0.length : Int) := od_ (by assumption)
       obtain ⟨ad734, e734, hx734_0⟩ := Kd.at_int HR0.out x9_1 p734 q734
       cases e734
       replace p734 := eq_true p734; replace q734 := eq_true q734
       go_wp2
       go_ret
       exact ⟨by rfl, by repeat (first | exact Drawn0.refl _ | apply Drawn0.step)⟩
      rw [if_neg c7] at H
      have c7b0 : decide (a1 ≤ (rd l0 x9_1)) = false := decide_eq_false c7
      clear c7
      have H' := A_ H
      clear H
      have p734 : 0 ≤ (x9_1 : Int) := od_ (by assumption)
      have q734 : x9_1 < (l0.length : Int) := od_ (by assumption)
      obtain ⟨ad734, e734, hx734_0⟩ := Kd.at_int HR0.out x9_1 p734 q734
      cases e734
      replace p734 := eq_true p734; replace q734 := eq_true q734
      go_wp2
      go_roundg k1
      case measure => have := HK1.out; omega
      case rel => exact ⟨(wrap64 (x9_1 + 1)), (by rfl), H', ⟨by have := HK1.out; omega⟩, by repeat (first | exact Drawn0.refl _ | apply Drawn0.step)⟩
     rw [if_neg c5] at H
     cases H
    rw [if_neg c4] at H
    cases H
   rw [if_neg c3] at H; have c3b0 := decide_eq_false c3; clear c3; obtain rfl := Option.some.inj H
   go_wp2
   go_ret
   exact ⟨by rfl, by repeat (first | exact Drawn0.refl _ | apply Drawn0.step)⟩

def impl_IsBalanced.f (k : Nat) (l0 : List Int) : Option (Bool) := if (l0.length : Int) > 64 then (some false) else ((impl_areLetters.f k l0 2).bind fun t735 => (if t735 = true then ((impl_unbalanced.f k l0).bind fun bt736 => (some (!bt736.2.2.2))) else (some false)))
theorem impl_IsBalanced.calls (k : Nat) (A0 : Option Addr) (c0 : Nat) (l0 : List Int) (r : Bool) (w : World) (hr0 : Kd.C (Kd.int .i64) w A0 l0.length l0) (hc0 : l0.length ≤ c0) (h : impl_IsBalanced.f k l0 = some r) :
  Calls Tryz.prog 9 #[.slice A0 l0.length c0] w fun e w' => e = .returned (.bool r) ∧ Below w.heap.size w w' := by
 have HR0 := A_ hr0; have HC0 := A_ hc0; clear hr0 hc0; have HB := A_ (Below.refl w.heap.size w); unfold impl_IsBalanced.f at h; have H := h; clear h
 by_cases c2 : (l0.length : Int) > 64
 ·rw [if_pos c2] at H
  have c2b0 : decide (64 < (l0.length : Int)) = true := decide_eq_true c2
  clear c2; obtain rfl := Option.some.inj H; go_enter Tryz.func9, Tryz.ntmps9
  go_wp2
  go_ret
  exact ⟨by rfl, HB.out⟩
 rw [if_neg c2] at H
 have c2b0 : decide (64 < (l0.length : Int)) = false := decide_eq_false c2
 clear c2; replace H := bA_ H; obtain ⟨t735, A3, H⟩ := H
 by_cases c4 : t735 = true
 ·subst c4; rw [if_pos rfl] at H; replace H := bA_ H; obtain ⟨⟨t736, t737, t738, t739⟩, A5, H⟩ := H; dsimp only at H; obtain rfl := Option.some.inj H; go_enter Tryz.func9, Tryz.ntmps9
  go_wp2_with (first | (go_at_call 30; (with_reducible refine (impl_areLetters.calls k _ _ l0 2 true _ ?side1 ?side2 A3.out).mono ?_); (case side1 => repeat (first | exact HR0.out | (with_reducible refine Kd.C_alloc ?_ _) | (with_reducible refine Kd.C_drewN ?_ _) | (with_reducible refine Kd.C_drew ?_))); (case side2 => exact HC0.out); rintro e w' ⟨rfl, ⟨nd, rfl⟩⟩) | ((with_reducible refine gc_ 29 rfl ?_); refine cL_ E29 17 rfl rfl rfl (impl_unbalanced.calls k _ _ l0 t736 t737 t738 t739 _ (by repeat (first | exact HR0.out | (with_reducible refine Kd.C_alloc ?_ _) | (with_reducible refine Kd.C_drewN ?_ _) | (with_reducible refine Kd.C_drew ?_))) HC0.out A5.out) (by simp only [mA, mB, mC]; rfl) ?_; rintro e w6 ⟨rfl, hb⟩; refine ⟨_, rfl, ?_⟩; replace HB := A_ (below_step (by repeat (first | (with_reducible first | exact HB.out | apply below_alloc | apply pw_below_drewN | apply below_drew1) | exact HB.out)) hb); clear hb; (try clear hi)))
  go_ret
  exact ⟨by rfl, HB.out⟩
 replace c4 := Bool.eq_false_iff.mpr c4; subst c4; rw [if_neg nf_] at H; obtain rfl := Option.some.inj H; go_enter Tryz.func9, Tryz.ntmps9
 go_wp2_with (first | (go_at_call 30; (with_reducible refine (impl_areLetters.calls k _ _ l0 2 false _ ?side1 ?side2 A3.out).mono ?_); (case side1 => repeat (first | exact HR0.out | (with_reducible refine Kd.C_alloc ?_ _) | (with_reducible refine Kd.C_drewN ?_ _) | (with_reducible refine Kd.C_drew ?_))); (case side2 => exact HC0.out); rintro e w' ⟨rfl, ⟨nd, rfl⟩⟩))
 go_ret
 exact ⟨by rfl, by repeat (first | (with_reducible first | exact HB.out | apply below_alloc | apply pw_below_drewN | apply below_drew1) | exact HB.out)⟩

def spec_IsBalanced.f (k : Nat) (l0 : List Int) : Option (Bool) := (spec_UnbalancedPair.f k l0).bind fun bt740 => ((spec_IsWord.f k l0 2).bind fun t747 => (if t747 = true then (if (l0.length : Int) ≤ 64 then (some (!bt740.2.2)) else (some false)) else (some false)))
theorem spec_IsBalanced.calls (k : Nat) (A0 : Option Addr) (c0 : Nat) (l0 : List Int) (r : Bool) (w : World) (hr0 : Kd.C (Kd.int .i64) w A0 l0.length l0) (hc0 : l0.length ≤ c0) (h : spec_IsBalanced.f k l0 = some r) :
  Calls Tryz.prog 10 #[.slice A0 l0.length c0] w fun e w' => e = .returned (.bool r) ∧ Below w.heap.size w w' := by
 have HR0 := A_ hr0; have HC0 := A_ hc0; clear hr0 hc0; have HB := A_ (Below.refl w.heap.size w); unfold spec_IsBalanced.f at h; have H := h; clear h; replace H := bA_ H; obtain ⟨⟨t740, t741, t742⟩, A2, H⟩ := H; dsimp only at H; replace H := bA_ H; obtain ⟨t747, A3, H⟩ := H
 by_cases c4 : t747 = true
 ·subst c4; rw [if_pos rfl] at H
  by_cases c5 : (l0.length : Int) ≤ 64
  ·rw [if_pos c5] at H; have c5b0 := decide_eq_true c5
   clear c5; obtain rfl := Option.some.inj H; go_enter Tryz.func10, Tryz.ntmps10
   go_wp2_with (first | ((with_reducible refine gc_ 7 rfl ?_); refine cL_ E7 8 rfl rfl rfl (spec_UnbalancedPair.calls k _ _ l0 t740 t741 t742 _ (by repeat (first | exact HR0.out | (with_reducible refine Kd.C_alloc ?_ _) | (with_reducible refine Kd.C_drewN ?_ _) | (with_reducible refine Kd.C_drew ?_))) HC0.out A2.out) (by simp only [mA, mB, mC]; rfl) ?_; rintro e w6 ⟨v743, v745, rfl, ho0, ho1, hb⟩; refine ⟨_, rfl, ?_⟩; replace HB := bs_ HB hb; clear hb ho0; (try clear ho1)) | ((with_reducible refine gc_ 31 rfl ?_); refine cD_ E31 13 rfl rfl rfl (spec_IsWord.calls k _ _ l0 2 true _ (Kd.C_below HR0.out HB.out) HC0.out A3.out) (by simp only [mA, mB, mC]; rfl) fun nd => ?_))
   go_ret
   exact ⟨by rfl, by repeat (first | (with_reducible first | exact HB.out | apply below_alloc | apply pw_below_drewN | apply below_drew1) | exact HB.out)⟩
  rw [if_neg c5] at H; have c5b0 := decide_eq_false c5
  clear c5; obtain rfl := Option.some.inj H; go_enter Tryz.func10, Tryz.ntmps10
  go_wp2_with (first | ((with_reducible refine gc_ 7 rfl ?_); refine cL_ E7 8 rfl rfl rfl (spec_UnbalancedPair.calls k _ _ l0 t740 t741 t742 _ (by repeat (first | exact HR0.out | (with_reducible refine Kd.C_alloc ?_ _) | (with_reducible refine Kd.C_drewN ?_ _) | (with_reducible refine Kd.C_drew ?_))) HC0.out A2.out) (by simp only [mA, mB, mC]; rfl) ?_; rintro e w7 ⟨v743, v745, rfl, ho0, ho1, hb⟩; refine ⟨_, rfl, ?_⟩; replace HB := bs_ HB hb; clear hb ho0; (try clear ho1)) | ((with_reducible refine gc_ 31 rfl ?_); refine cD_ E31 13 rfl rfl rfl (spec_IsWord.calls k _ _ l0 2 true _ (Kd.C_below HR0.out HB.out) HC0.out A3.out) (by simp only [mA, mB, mC]; rfl) fun nd => ?_))
  go_ret
  exact ⟨by rfl, by repeat (first | (with_reducible first | exact HB.out | apply below_alloc | apply pw_below_drewN | apply below_drew1) | exact HB.out)⟩
 replace c4 := Bool.eq_false_iff.mpr c4; subst c4; rw [if_neg nf_] at H; obtain rfl := Option.some.inj H; go_enter Tryz.func10, Tryz.ntmps10
 go_wp2_with (first | ((with_reducible refine gc_ 7 rfl ?_); refine cL_ E7 8 rfl rfl rfl (spec_UnbalancedPair.calls k _ _ l0 t740 t741 t742 _ (by repeat (first | exact HR0.out | (with_reducible refine Kd.C_alloc ?_ _) | (with_reducible refine Kd.C_drewN ?_ _) | (with_reducible refine Kd.C_drew ?_))) HC0.out A2.out) (by simp only [mA, mB, mC]; rfl) ?_; rintro e w8 ⟨v743, v745, rfl, ho0, ho1, hb⟩; refine ⟨_, rfl, ?_⟩; replace HB := bs_ HB hb; clear hb ho0; (try clear ho1)) | ((with_reducible refine gc_ 31 rfl ?_); refine cD_ E31 13 rfl rfl rfl (spec_IsWord.calls k _ _ l0 2 false _ (Kd.C_below HR0.out HB.out) HC0.out A3.out) (by simp only [mA, mB, mC]; rfl) fun nd => ?_))
 go_ret
 exact ⟨by rfl, by repeat (first | (with_reducible first | exact HB.out | apply below_alloc | apply pw_below_drewN | apply below_drew1) | exact HB.out)⟩

def spec_l3Same.l0 : Nat → List Int → List Int → Int → Option (Bool)
 | 0, _, _, _ => none
 | k + 1, x0, x1, x5 => if x5 < (x0.length : Int) then (if 0 ≤ x5 then (if x5 < (x1.length : Int) then (if (rd x0 x5) = (rd x1 x5) then (spec_l3Same.l0 k x0 x1 (wrap64 (x5 + 1))) else (some false)) else (none)) else (none)) else (some true)
def spec_l3Same.f (k : Nat) (l0 : List Int) (l1 : List Int) : Option (Bool) := if (l0.length : Int) = (l1.length : Int) then (spec_l3Same.l0 k l0 l1 0) else (some false)
theorem spec_l3Same.calls (k : Nat) (A0 : Option Addr) (c0 : Nat) (l0 : List Int) (A1 : Option Addr) (c1 : Nat) (l1 : List Int) (r : Bool) (w : World) (hr0 : Kd.C (Kd.int .i64) w A0 l0.length l0) (hc0 : l0.length ≤ c0) (hr1 : Kd.C (Kd.int .i64) w A1 l1.length l1) (hc1 : l1.length ≤ c1) (h : spec_l3Same.f k l0 l1 = some r) :
  Calls Tryz.prog 46 #[.slice A0 l0.length c0, .slice A1 l1.length c1] w fun e w' => e = .returned (.bool r) ∧ Drawn0 w w' := by
 have HR0 := A_ hr0; clear hr0 hc0; have HR1 := A_ hr1; clear hr1 hc1; unfold spec_l3Same.f at h; have H := h; clear h
 by_cases c3 : (l0.length : Int) = (l1.length : Int)
 ·rw [if_pos c3] at H
  have c3b1 : ((l0.length : Int) != (l1.length : Int)) = false := bne_eq_false_iff_eq.mpr c3
  clear c3
  have H' := A_ H
  clear H; go_enter Tryz.func46, Tryz.ntmps46
  go_wp2
  repeat (go_quiet (fail); try go_wp2)
  go_loopg [5] k (fun kq v5 w' => ∃ (x5_1 : Int), v5 = .int .i64 x5_1 ∧ Aside0 (spec_l3Same.l0 kq l0 l1 x5_1 = some r) ∧ Aside0 (kq ≤ k) ∧ Drawn0 w w')
  case atStart => exact ⟨(0), (by rfl), H', ⟨Nat.le_refl _⟩, by repeat (first | exact Drawn0.refl _ | apply Drawn0.step)⟩
  case round =>
   clear H'
   try skip
   try skip
   try skip
   obtain ⟨x5_1, rfl, HA, HK1, ⟨m1, rfl⟩⟩ := hrel
   cases gk with
   | zero => exact absurd HA.out (by simp [spec_l3Same.l0])
   | succ k1 =>
    have H := HA.out; clear HA; simp only [spec_l3Same.l0] at H
    by_cases c4 : x5_1 < (l0.length : Int)
    ·rw [if_pos c4] at H; have c4b0 := decide_eq_true c4; clear c4
     by_cases c5 : 0 ≤ x5_1
     ·rw [if_pos c5] at H; have c5b0 := decide_eq_true c5; clear c5
      by_cases c6 : x5_1 < (l1.length : Int)
      ·rw [if_pos c6] at H; have c6b0 := decide_eq_true c6; clear c6
       by_cases c7 : (rd l0 x5_1) = (rd l1 x5_1)
       ·rw [if_pos c7] at H
        have c7b1 : ((rd l0 x5_1) != (rd l1 x5_1)) = false := bne_eq_false_iff_eq.mpr c7
        clear c7
        have H' := A_ H
        clear H
        have p748 : 0 ≤ (x5_1 : Int) := od_ (by assumption)
        have q748 : x5_1 < (l0.length : Int) := od_ (by assumption)
        obtain ⟨ad748, e748, hx748_0⟩ := Kd.at_int HR0.out x5_1 p748 q748
        cases e748
        replace p748 := eq_true p748; replace q748 := eq_true q748
        have p749 : 0 ≤ (x5_1 : Int) := od_ (by assumption)
        have q749 : x5_1 < (l1.length : Int) := od_ (by assumption)
        obtain ⟨ad749, e749, hx749_0⟩ := Kd.at_int HR1.out x5_1 p749 q749
        cases e749
        replace p749 := eq_true p749; replace q749 := eq_true q749
        go_wp2
        repeat (go_quiet (fail); try go_wp2)
        go_roundg k1
        case measure => have := HK1.out; omega
        case rel => exact ⟨(wrap64 (x5_1 + 1)), (by rfl), H', ⟨by have := HK1.out; omega⟩, by repeat (first | exact Drawn0.refl _ | apply Drawn0.step)⟩
       rw [if_neg c7] at H
       have c7b1 : ((rd l0 x5_1) != (rd l1 x5_1)) = true := bne_iff_ne.mpr c7
       obtain rfl := Option.some.inj H
       have p748 : 0 ≤ (x5_1 : Int) := od_ (by assumption)
       have q748 : x5_1 < (l0.length : Int) := od_ (by assumption)
       obtain ⟨ad748, e748, hx748_0⟩ := Kd.at_int HR0.out x5_1 p748 q748
       cases e748
       replace p748 := eq_true p748; replace q748 := eq_true q748
       have p749 : 0 ≤ (x5_1 : Int) := od_ (by assumption)
       have q749 : x5_1 < (l1.length : Int) := od_ (by assumption)
       obtain ⟨ad749, e749, hx749_0⟩ := Kd.at_int HR1.out x5_1 p749 q749
       cases e749
       replace p749 := eq_true p749; replace q749 := eq_true q749
       go_wp2
       repeat (go_quiet (fail); try go_wp2)
       go_ret
       exact ⟨by rfl, by repeat (first | exact Drawn0.refl _ | apply Drawn0.step)⟩
      rw [if_neg c6] at H
      cases H
     rw [if_neg c5] at H
     cases H
    rw [if_neg c4] at H; have c4b0 := decide_eq_false c4; clear c4; obtain rfl := Option.some.inj H
    go_wp2
    repeat (go_quiet (fail); try go_wp2)
    go_ret
    exact ⟨by rfl, by repeat (first | exact Drawn0.refl _ | apply Drawn0.step)⟩
 rw [if_neg c3] at H
 have c3b1 : ((l0.length : Int) != (l1.length : Int)) = true := bne_iff_ne.mpr c3
 obtain rfl := Option.some.inj H; go_enter Tryz.func46, Tryz.ntmps46
 go_wp2
 repeat (go_quiet (fail); try go_wp2)
 go_ret
 exact ⟨by rfl, by repeat (first | exact Drawn0.refl _ | apply Drawn0.step)⟩

def spec_OccurrencesOf.l0 : Nat → List Int → List Int → List Int → Int → Option (List Int)
 | 0, _, _, _, _ => none
 | k + 1, x0, x1, x5, x6 => if (wrap64 (x6 + (x1.length : Int))) ≤ (x0.length : Int) then (if 0 ≤ x6 then (if x6 ≤ (wrap64 (x6 + (x1.length : Int))) then ((spec_l3Same.f k ((x0.take ((wrap64 (x6 + (x1.length : Int))) : Int).toNat).drop (x6 : Int).toNat) x1).bind fun t754 => (if t754 = true then (if x5.length < 17592186044416 then (spec_OccurrencesOf.l0 k x0 x1 (x5 ++ [x6]) (wrap64 (x6 + 1))) else (none)) else (spec_OccurrencesOf.l0 k x0 x1 x5 (wrap64 (x6 + 1))))) else (none)) else (none)) else (some x5)
def spec_OccurrencesOf.f (k : Nat) (l0 : List Int) (l1 : List Int) : Option (List Int) := spec_OccurrencesOf.l0 k l0 l1 (([] : List Int)) 0
theorem spec_OccurrencesOf.calls (k : Nat) (A0 : Option Addr) (c0 : Nat) (l0 : List Int) (A1 : Option Addr) (c1 : Nat) (l1 : List Int) (r : List Int) (w : World) (hr0 : Kd.C (Kd.int .i64) w A0 l0.length l0) (hc0 : l0.length ≤ c0) (hr1 : Kd.C (Kd.int .i64) w A1 l1.length l1) (hc1 : l1.length ≤ c1) (h : spec_OccurrencesOf.f k l0 l1 = some r) :
  Calls Tryz.prog 32 #[.slice A0 l0.length c0, .slice A1 l1.length c1] w fun e w' => ∃ v0_ : Value, e = .returned (v0_) ∧ Kd.R (Kd.int .i64) 3 w' w.heap.size (fun _ => True) v0_ r ∧ Below w.heap.size w w' := by
 have HR0 := A_ hr0; have HC0 := A_ hc0; clear hr0 hc0; have HR1 := A_ hr1; have HC1 := A_ hc1; clear hr1 hc1; have HB := A_ (Below.refl w.heap.size w); unfold spec_OccurrencesOf.f at h; have H := h; clear h; obtain ⟨y750, hy750⟩ := ex_ ((([] : List Int)) : List Int); replace H : (spec_OccurrencesOf.l0 k l0 l1 y750 0) = some r := by (rw [hy750]; with_reducible exact H)
 have Ny750 := A_ hy750; clear hy750
 have H' := A_ H
 clear H; go_enter Tryz.func32, Tryz.ntmps32
 go_wp2_with (first | ((with_reducible refine gd_ 7 rfl ?_); refine RL_ 7 3 [] [] rfl rfl (by go_simp; done) rfl rfl ?_; rintro v751 w3 ho4 hb - -; (rw [← Ny750.out] at ho4); have HO752 := A_ (Kd.R_lower ho4 (below_size HB.out)); replace HB := bs_ HB hb; clear hb ho4))
 go_loopg [5, 6] k (fun kq v5 v6 w' => ∃ (x5_1 : List Int) (x6_1 : Int), v6 = .int .i64 x6_1 ∧ Aside0 (spec_OccurrencesOf.l0 kq l0 l1 x5_1 x6_1 = some r) ∧ Aside0 (kq ≤ k) ∧ Aside0 (Kd.R (Kd.int .i64) 3 w' w.heap.size (fun _ => True) v5 x5_1) ∧ Aside0 (Below w.heap.size w w'))
 case atStart => exact ⟨(y750), (0), (by rfl), H', ⟨Nat.le_refl _⟩, ⟨HO752.out⟩, ⟨HB.out⟩⟩
 case round =>
  clear H'; obtain ⟨x5_1, x6_1, rfl, HA, HK1, HO_5, HB⟩ := hrel
  cases gk with
  | zero => exact absurd HA.out (by simp [spec_OccurrencesOf.l0])
  | succ k1 =>
   have H := HA.out; clear HA; simp only [spec_OccurrencesOf.l0] at H
   by_cases c5 : (wrap64 (x6_1 + (l1.length : Int))) ≤ (l0.length : Int)
   ·rw [if_pos c5] at H; have c5b0 := decide_eq_true c5; clear c5
    by_cases c6 : 0 ≤ x6_1
    ·rw [if_pos c6] at H; have c6b0 := eq_true c6; have c6b1 := decide_eq_true c6; clear c6
     by_cases c7 : x6_1 ≤ (wrap64 (x6_1 + (l1.length : Int)))
     ·rw [if_pos c7] at H; have c8b0 := eq_true (od_ (by assumption) : (wrap64 (x6_1 + (l1.length : Int))) ≤ (l0.length : Int)); replace H := bA_ H; obtain ⟨t754, A9, H⟩ := H
      by_cases c10 : t754 = true
      ·subst c10; rw [if_pos rfl] at H
       by_cases c11 : x5_1.length < 17592186044416
       ·rw [if_pos c11] at H; have LMc11 := A_ c11; clear c11; obtain ⟨y755, hy755⟩ := ex_ ((x5_1 ++ [x6_1]) : List Int); replace H : (spec_OccurrencesOf.l0 k1 l0 l1 y755 (wrap64 (x6_1 + 1))) = some r := by (rw [hy755]; with_reducible exact H)
        have Ny755 := A_ hy755; clear hy755
        have H' := A_ H
        clear H; obtain ⟨i012, hi012, _, hsz12, _⟩ := info_parts info3; obtain ⟨A12, hcut12, hA12, hC12⟩ := print_mid_of (P := Tryz.prog) (Value.int .i64) 0 24 3 .i64 .i64 Tryz.underlying24 hi012 hsz12 A0 c0 l0 x6_1 (wrap64 (x6_1 + (l1.length : Int))) (od_ (by assumption)) (by first | omega | exact od_ (by first | (with_reducible assumption) | assumption)) (od_ (by assumption)) HC0.out; have HR753 := A_ (Kd.C_of_reads (h1 := fun _ => rfl) (hA12 _ (Kd.reads_of_C HR0.out))); have HC753 := A_ hC12; clear hA12 hC12 hi012 hsz12
        go_wp2_with (first | ((with_reducible refine gc_ 46 rfl ?_); refine cD_ E46 25 rfl rfl rfl (spec_l3Same.calls k1 _ _ ((l0.take ((wrap64 (x6_1 + (l1.length : Int))) : Int).toNat).drop (x6_1 : Int).toNat) _ _ l1 true _ (Kd.C_below HR753.out HB.out) HC753.out (Kd.C_below HR1.out HB.out) HC1.out A9.out) (by (try simp only [mA, mB, mC]); first | done | (rw [show ((l0.take ((wrap64 (x6_1 + (l1.length : Int))) : Int).toNat).drop (x6_1 : Int).toNat).length = ((wrap64 (x6_1 + (l1.length : Int))).toNat - x6_1.toNat) from (by rw [List.length_drop, List.length_take]; have h_ : ((wrap64 (x6_1 + (l1.length : Int))) : Int) ≤ (l0.length : Int) := od_ (by assumption); omega)] <;> rfl) | rfl | (simp only [List.length_drop, List.length_take]; rfl)) fun nd => ?_) | ((with_reducible refine gate_builtin (b := .append) (xs := #[.tmp 26, .tmp 28]) rfl ?_); at_builtin; refine Kd.R_append (Kd.int .i64) (w0 := w) w.heap.size rfl (.tmp 26) (.tmp 28) 24 3 (.int .i64 0) 8 rfl Tryz.underlying24 info3 rfl (by decide) (by omega) u5 x5_1 x6_1 [.int .i64 x6_1] (fun _ => True) (fun _ => False) rfl rfl ?aP (fun _ hk => hk.elim) ?aF ?aO ?aB ?aS ?aL ?_; (case aP => exact rfl); (case aB => exact (by repeat (first | (with_reducible first | exact HB.out | apply below_alloc | apply pw_below_drewN | apply below_drew1) | exact HB.out))); (case aF => exact (fun _ _ => trivial)); (case aO => exact (by (with_reducible repeat (first | apply Kd.R_alloc | apply Kd.R_drewN | apply Kd.R_drew)); exact HO_5.out)); (case aS => exact (below_size (by repeat (first | (with_reducible first | exact HB.out | apply below_alloc | apply pw_below_drewN | apply below_drew1) | exact HB.out)))); (case aL => have := LMc11.out; omega); intro v756 w13 ho hb hg hat; rw [← Ny755.out] at ho; replace HB := A_ (hb); have HO757 := A_ (ho); clear HO_5; clear ho hb hg hat))
        go_roundg k1
        case measure => have := HK1.out; omega
        case rel => exact ⟨(y755), (wrap64 (x6_1 + 1)), (by rfl), H', ⟨by have := HK1.out; omega⟩, ⟨HO757.out⟩, ⟨HB.out⟩⟩
       rw [if_neg c11] at H
       cases H
      replace c10 := Bool.eq_false_iff.mpr c10; subst c10; rw [if_neg nf_] at H
      have H' := A_ H
      clear H; obtain ⟨i014, hi014, _, hsz14, _⟩ := info_parts info3; obtain ⟨A14, hcut14, hA14, hC14⟩ := print_mid_of (P := Tryz.prog) (Value.int .i64) 0 24 3 .i64 .i64 Tryz.underlying24 hi014 hsz14 A0 c0 l0 x6_1 (wrap64 (x6_1 + (l1.length : Int))) (od_ (by assumption)) (by first | omega | exact od_ (by first | (with_reducible assumption) | assumption)) (od_ (by assumption)) HC0.out; have HR753 := A_ (Kd.C_of_reads (h1 := fun _ => rfl) (hA14 _ (Kd.reads_of_C HR0.out))); have HC753 := A_ hC14; clear hA14 hC14 hi014 hsz14
      go_wp2_with (first | ((with_reducible refine gc_ 46 rfl ?_); refine cD_ E46 25 rfl rfl rfl (spec_l3Same.calls k1 _ _ ((l0.take ((wrap64 (x6_1 + (l1.length : Int))) : Int).toNat).drop (x6_1 : Int).toNat) _ _ l1 false _ (Kd.C_below HR753.out HB.out) HC753.out (Kd.C_below HR1.out HB.out) HC1.out A9.out) (by (try simp only [mA, mB, mC]); first | done | (rw [show ((l0.take ((wrap64 (x6_1 + (l1.length : Int))) : Int).toNat).drop (x6_1 : Int).toNat).length = ((wrap64 (x6_1 + (l1.length : Int))).toNat - x6_1.toNat) from (by rw [List.length_drop, List.length_take]; have h_ : ((wrap64 (x6_1 + (l1.length : Int))) : Int) ≤ (l0.length : Int) := od_ (by assumption); omega)] <;> rfl) | rfl | (simp only [List.length_drop, List.length_take]; rfl)) fun nd => ?_))
      go_roundg k1
      case measure => have := HK1.out; omega
      case rel => exact ⟨(x5_1), (wrap64 (x6_1 + 1)), (by rfl), H', ⟨by have := HK1.out; omega⟩, ⟨by (with_reducible repeat (first | apply Kd.R_alloc | apply Kd.R_drewN | apply Kd.R_drew)); exact HO_5.out⟩, ⟨by repeat (first | (with_reducible first | exact HB.out | apply below_alloc | apply pw_below_drewN | apply below_drew1) | exact HB.out)⟩⟩
     rw [if_neg c7] at H
     cases H
    rw [if_neg c6] at H
    cases H
   rw [if_neg c5] at H; have c5b0 := decide_eq_false c5; clear c5; obtain rfl := Option.some.inj H
   go_wp2
   go_ret
   exact ⟨_, by rfl, HO_5.out, HB.out⟩

def spec_IsFactor.f (k : Nat) (l0 : List Int) (l1 : List Int) : Option (Bool) := (spec_OccurrencesOf.f k l0 l1).bind fun t758 => (some (decide ((t758.length : Int) > 0)))
theorem spec_IsFactor.calls (k : Nat) (A0 : Option Addr) (c0 : Nat) (l0 : List Int) (A1 : Option Addr) (c1 : Nat) (l1 : List Int) (r : Bool) (w : World) (hr0 : Kd.C (Kd.int .i64) w A0 l0.length l0) (hc0 : l0.length ≤ c0) (hr1 : Kd.C (Kd.int .i64) w A1 l1.length l1) (hc1 : l1.length ≤ c1) (h : spec_IsFactor.f k l0 l1 = some r) :
  Calls Tryz.prog 12 #[.slice A0 l0.length c0, .slice A1 l1.length c1] w fun e w' => e = .returned (.bool r) ∧ Below w.heap.size w w' := by
 have HR0 := A_ hr0; have HC0 := A_ hc0; clear hr0 hc0; have HR1 := A_ hr1; have HC1 := A_ hc1; clear hr1 hc1; have HB := A_ (Below.refl w.heap.size w); unfold spec_IsFactor.f at h; have H := h; clear h; replace H := bA_ H; obtain ⟨t758, A3, H⟩ := H; obtain rfl := Option.some.inj H; go_enter Tryz.func12, Tryz.ntmps12
 go_wp2_with (first | ((with_reducible refine gc_ 32 rfl ?_); refine cL_ E32 7 rfl rfl rfl (spec_OccurrencesOf.calls k _ _ l0 _ _ l1 t758 _ (by repeat (first | exact HR0.out | (with_reducible refine Kd.C_alloc ?_ _) | (with_reducible refine Kd.C_drewN ?_ _) | (with_reducible refine Kd.C_drew ?_))) HC0.out (by repeat (first | exact HR1.out | (with_reducible refine Kd.C_alloc ?_ _) | (with_reducible refine Kd.C_drewN ?_ _) | (with_reducible refine Kd.C_drew ?_))) HC1.out A3.out) (by simp only [mA, mB, mC]; rfl) ?_; rintro e w4 ⟨v759, rfl, ho0, hb⟩; refine ⟨_, rfl, ?_⟩; have HO760 := A_ (Kd.R_lower ho0 (below_size HB.out)); replace HB := bs_ HB hb; clear hb ho0; obtain ⟨Ao5, co5, eo5⟩ := Kd.R_slice HO760.out; subst eo5))
 go_ret
 exact ⟨by rfl, HB.out⟩

def spec_DrawCountBalanced.f (k : Nat) (l0 : List Int) : Option (Int) := (spec_l1New.f k l0).bind fun bt761 => ((spec_l1Below.f bt761.1 bt761.2.1 bt761.2.2 11).bind fun bt765 => (some (wrap64 (bt765.1 - 1))))
theorem spec_DrawCountBalanced.calls (k : Nat) (A0 : Option Addr) (c0 : Nat) (l0 : List Int) (r : Int) (w : World) (hr0 : Kd.C (Kd.int .u8) w A0 l0.length l0) (hc0 : l0.length ≤ c0) (h : spec_DrawCountBalanced.f k l0 = some r) :
  Calls Tryz.prog 13 #[.slice A0 l0.length c0] w fun e w' => e = .returned (.int .i64 r) ∧ Below w.heap.size w w' := by
 have HR0 := A_ hr0; have HC0 := A_ hc0; clear hr0 hc0; have HB := A_ (Below.refl w.heap.size w); unfold spec_DrawCountBalanced.f at h; have H := h; clear h; replace H := bA_ H; obtain ⟨⟨t761, t762, t763⟩, A2, H⟩ := H; dsimp only at H; replace H := bA_ H; obtain ⟨⟨t765, t766, t767⟩, A3, H⟩ := H; dsimp only at H; obtain rfl := Option.some.inj H; go_enter Tryz.func13, Tryz.ntmps13
 go_wp2_with (first | ((with_reducible refine gc_ 28 rfl ?_); refine cL_ E28 4 rfl rfl rfl (spec_l1New.calls k _ _ l0 t761 t762 t763 w _ HB.out HR0.out HC0.out A2.out) (by simp only [mA, mB, mC]; rfl) ?_; rintro e w4 ⟨g764, rfl, hi, hb, hb2⟩; refine ⟨_, rfl, ?_⟩; replace HB := A_ (hb); have HI764 := A_ (hi); clear hb hb2; (try clear hi)) | ((with_reducible refine gc_ 33 rfl ?_); refine cL_ E33 5 rfl rfl rfl (spec_l1Below.calls g764 t761 t762 t763 11 t765 t766 t767 w _ HI764.out HB.out A3.out) (by simp only [mA, mB, mC]; rfl) ?_; rintro e w5 ⟨rfl, hi, hb, hk⟩; refine ⟨_, rfl, ?_⟩; replace HB := A_ (hb); replace HI764 := A_ (hi); clear hb hk; (try clear hi)))
 go_ret
 exact ⟨by rfl, HB.out⟩
mutual
def impl_allWords.l0 : Nat → Int → List (List Int) → Int → Int → Option ((List (List Int)))
 | 0, _, _, _, _ => none
 | k + 1, x0, x5, x12, x13 => if x13 < x12 then (impl_allWords.l1 k x0 (([] : List (List Int))) x12 x13 x5 (x5.length : Int) 0) else (some x5)
def impl_allWords.l1 : Nat → Int → List (List Int) → Int → Int → List (List Int) → Int → Int → Option ((List (List Int)))
 | 0, _, _, _, _, _, _, _ => none
 | k + 1, x0, x6, x12, x13, x16, x17, x18 => if x18 < x17 then (if 0 ≤ x18 then (if x18 < (x16.length : Int) then (impl_allWords.l2 k x0 x6 (rd_L2 x16 x18) x12 x13 x16 x17 x18 x0 0) else (none)) else (none)) else (impl_allWords.l0 k x0 x6 x12 (wrap64 (x13 + 1)))
def impl_allWords.l2 : Nat → Int → List (List Int) → List Int → Int → Int → List (List Int) → Int → Int → Int → Int → Option ((List (List Int)))
 | 0, _, _, _, _, _, _, _, _, _, _ => none
 | k + 1, x0, x6, x8, x12, x13, x16, x17, x18, x22, x23 => if x23 < x22 then ((some (([] : List Int) : List Int)).bind fun y778 => (if y778.length + x8.length < 17592186044416 then ((some (y778 ++ x8 : List Int)).bind fun y781 => (if y781.length < 17592186044416 then (if x6.length < 5864062014805 then (impl_allWords.l2 k x0 (x6 ++ [(y781 ++ [x23])]) x8 x12 x13 x16 x17 x18 x22 (wrap64 (x23 + 1))) else (none)) else (none))) else (none))) else (impl_allWords.l1 k x0 x6 x12 x13 x16 x17 (wrap64 (x18 + 1)))
end
def impl_allWords.f (k : Nat) (a0 : Int) (a1 : Int) : Option ((List (List Int))) := impl_allWords.l0 k a0 (([(([] : List Int))] : List (List Int))) a1 0
theorem impl_allWords.calls (k : Nat) (a0 : Int) (a1 : Int) (r : List (List Int)) (w : World) (h : impl_allWords.f k a0 a1 = some r) :
  Calls Tryz.prog 34 #[.int .i64 a0, .int .i64 a1] w fun e w' => ∃ v0_ : Value, e = .returned (v0_) ∧ Kd.N (Kd.slice 3 (Kd.int .i64)) 24 w' w.heap.size (fun k_ => (w.heap.size ≤ k_)) v0_ r ∧ Below w.heap.size w w' := by
 have HB := A_ (Below.refl w.heap.size w); unfold impl_allWords.f at h; have H := h; clear h; obtain ⟨y768, hy768⟩ := ex_ ((([] : List Int)) : List Int); replace H : (impl_allWords.l0 k a0 (([y768] : List (List Int))) a1 0) = some r := by (rw [hy768]; with_reducible exact H)
 have Ny768 := A_ hy768; clear hy768; obtain ⟨y771, hy771⟩ := ex_ ((([y768] : List (List Int))) : List (List Int)); replace H : (impl_allWords.l0 k a0 y771 a1 0) = some r := by (rw [hy771]; with_reducible exact H)
 have Ny771 := A_ hy771; clear hy771
 have H' := A_ H
 clear H; go_enter Tryz.func34, Tryz.ntmps34
 go_wp2_with (first | ((with_reducible refine gd_ 10 rfl ?_); refine RL_ 10 3 [] [] rfl rfl (by go_simp; done) rfl rfl ?_; rintro v769 w3 ho4 hb - -; (rw [← Ny768.out] at ho4); have HO770 := A_ (Kd.R_lower (Kd.R_newM (M := fun k_ => (w.heap.size ≤ k_)) ho4 (below_size HB.out) (fun k_ h_ => h_)) (below_size HB.out)); replace HB := bs_ HB hb; clear hb ho4; obtain ⟨Ao5, co5, eo5⟩ := Kd.R_slice HO770.out; subst eo5) | ((with_reducible refine gate_dst (N := 11) rfl ?_); refine Kd.N_lit (Kd.slice 3 (Kd.int .i64)) _ 24 ?hg (N' := 11) ?hd (xs := ([y768] : List (List Int))) (inner := [.slice Ao5 y768.length co5]) (ok := (fun k_ => (w.heap.size ≤ k_))) (okp := (fun k_ => (w.heap.size ≤ k_))) ?hr ?hp (fun _ hk => hk) ((show ∀ k_, w3.heap.size ≤ k_ → (fun k_ => (w.heap.size ≤ k_)) k_ from fun k_ hk => (Nat.le_trans (below_size HB.out) hk)) _ (Nat.le_refl _)) (Below.refl _ _) (Nat.le_refl _) (by simp) ?_; (case hd | hg => rfl); (case hr => go_simp; done); (case hp => exact (Reps.one (fk_ HO770.out (fun k_ hk => hk.1)) (Reps.none _ _))); rintro v772 w6 ho7 hb - -; (rw [← Ny771.out] at ho7); have HO773 := A_ (Kd.N_lower ho7 (below_size HB.out)); replace HB := bs_ HB hb; clear HO770; clear hb ho7))
 go_loopg [5, 13] k (fun kq v5 v13 w' => ∃ (x5_1 : List (List Int)) (x13_1 : Int), v13 = .int .i64 x13_1 ∧ Aside0 (impl_allWords.l0 kq a0 x5_1 a1 x13_1 = some r) ∧ Aside0 (kq ≤ k) ∧ Aside0 (Kd.N (Kd.slice 3 (Kd.int .i64)) 24 w' w.heap.size (fun k_ => (w.heap.size ≤ k_)) v5 x5_1) ∧ Aside0 (Below w.heap.size w w'))
 case atStart => exact ⟨(y771), (0), (by rfl), H', ⟨Nat.le_refl _⟩, ⟨HO773.out⟩, ⟨HB.out⟩⟩
 case round =>
  clear H'; obtain ⟨x5_1, x13_1, rfl, HA, HK1, HO_5, HB⟩ := hrel
  cases gk with
  | zero => exact absurd HA.out (by simp [impl_allWords.l0])
  | succ k1 =>
   have H := HA.out; clear HA; simp only [impl_allWords.l0] at H
   by_cases c8 : x13_1 < a1
   ·rw [if_pos c8] at H; have c8b0 := decide_eq_true c8; clear c8; obtain ⟨y774, hy774⟩ := ex_ ((([] : List (List Int))) : List (List Int)); replace H : (impl_allWords.l1 k1 a0 y774 a1 x13_1 x5_1 (x5_1.length : Int) 0) = some r := by (rw [hy774]; with_reducible exact H)
    have Ny774 := A_ hy774; clear hy774
    have H' := A_ H
    clear H
    go_wp2_with (first | ((with_reducible refine gate_dst (N := 15) rfl ?_); refine Kd.N_lit (Kd.slice 3 (Kd.int .i64)) _ 24 ?hg (N' := 15) ?hd (xs := ([] : List (List Int))) (inner := []) (ok := (fun k_ => (w.heap.size ≤ k_) ∧ some k_ ≠ (u5 : Value).ownBlock)) (okp := (fun k_ => (w.heap.size ≤ k_) ∧ some k_ ≠ (u5 : Value).ownBlock)) ?hr ?hp (fun _ hk => hk) ((show ∀ k_, wr.heap.size ≤ k_ → (fun k_ => (w.heap.size ≤ k_) ∧ some k_ ≠ (u5 : Value).ownBlock) k_ from fun k_ hk => ⟨(Nat.le_trans (below_size HB.out) hk), Kd.fresh' (Kd.N_lt HO_5.out) k_ hk⟩) _ (Nat.le_refl _)) (Below.refl _ _) (Nat.le_refl _) (by simp) ?_; (case hd | hg => rfl); (case hr => go_simp; done); (case hp => exact (Reps.none _ _)); rintro v775 w9 ho10 hb - -; (rw [← Ny774.out] at ho10); replace HO_5 := A_ (Kd.N_elder' HO_5.out (Kd.N_base ho10) hb); have HO776 := A_ (Kd.N_lower ho10 (below_size HB.out)); replace HB := bs_ HB hb; clear hb ho10; obtain ⟨Ao11, co11, eo11⟩ := Kd.N_slice HO_5.out; subst eo11))
    go_loopg [6, 18] k1 (fun kq v6 v18 w' => ∃ (x6_2 : List (List Int)) (x18_2 : Int), v18 = .int .i64 x18_2 ∧ Aside0 (impl_allWords.l1 kq a0 x6_2 a1 x13_1 x5_1 (x5_1.length : Int) x18_2 = some r) ∧ Aside0 (kq ≤ k1) ∧ Aside0 (Kd.N (Kd.slice 3 (Kd.int .i64)) 24 w' w.heap.size (fun k_ => (w.heap.size ≤ k_) ∧ some k_ ≠ ((.slice Ao11 x5_1.length co11) : Value).ownBlock) v6 x6_2) ∧ Aside0 (Kd.N (Kd.slice 3 (Kd.int .i64)) 24 w' w.heap.size (fun k_ => (w.heap.size ≤ k_) ∧ some k_ ≠ (v6 : Value).ownBlock) (.slice Ao11 x5_1.length co11) x5_1) ∧ Aside0 (Below w.heap.size w w'))
    case atStart => exact ⟨(y774), (0), (by rfl), H', ⟨Nat.le_refl _⟩, ⟨HO776.out⟩, ⟨HO_5.out⟩, ⟨HB.out⟩⟩
    case round =>
     clear H'
     try skip
     obtain ⟨x6_2, x18_2, rfl, HA, HK2, HO_6, HO_16, HB⟩ := hrel
     cases gk with
     | zero => exact absurd HA.out (by simp [impl_allWords.l1])
     | succ k2 =>
      have H := HA.out; clear HA; simp only [impl_allWords.l1] at H
      by_cases c12 : x18_2 < (x5_1.length : Int)
      ·rw [if_pos c12] at H; have c12b0 := decide_eq_true c12; clear c12
       by_cases c13 : 0 ≤ x18_2
       ·rw [if_pos c13] at H; have c13b0 := decide_eq_true c13; clear c13
        by_cases c14 : x18_2 < (x5_1.length : Int)
        ·rw [if_pos c14] at H; have c14b0 := decide_eq_true c14; clear c14
         have H' := A_ H
         clear H
         have p777 : 0 ≤ (x18_2 : Int) := od_ (by assumption)
         have q777 : x18_2 < (x5_1.length : Int) := od_ (by assumption)
         obtain ⟨ad777, A777_0, c777_0, e777, hx777_0, hl777_0, hi777_0⟩ := at_L2 (Kd.N_reads' HO_16.out).2.2 x18_2 p777 q777
         cases e777
         obtain ⟨ce777, hce777, hMe777, hcc777⟩ := Kd.N_get HO_16.out [] x18_2 p777 (by exact q777); obtain ⟨ua777_0, uc777_0, rfl, ul777_0, ge777_0⟩ := Kd.FK_slice_open hMe777; have hv777_0 := hcc777 0 _ rfl; rw [Nat.add_zero, show ((Kd.slice 3 (Kd.int .i64))).sz = 1 from rfl, Nat.mul_one] at hv777_0; replace hv777_0 := Option.some.inj (hv777_0.symm.trans hx777_0)
         injection hv777_0 with hva_ hvn_ hvc_
         rw [hva_] at ge777_0; rw [hvc_] at ul777_0; have HL777_0 := A_ (show Kd.V (Kd.int .i64) 3 _ w.heap.size _ _ (rd_L2 x5_1 x18_2) from Kd.V_mk ul777_0 ge777_0); clear hva_ hvn_ hvc_ ge777_0 ul777_0 hcc777 hce777; clear hi777_0 hl777_0; replace p777 := eq_true p777; replace q777 := eq_true q777
         go_wp2
         go_loopg [6, 23] k2 (fun kq v6 v23 w' => ∃ (x6_3 : List (List Int)) (x23_3 : Int), v23 = .int .i64 x23_3 ∧ Aside0 (impl_allWords.l2 kq a0 x6_3 (rd_L2 x5_1 x18_2) a1 x13_1 x5_1 (x5_1.length : Int) x18_2 a0 x23_3 = some r) ∧ Aside0 (kq ≤ k2) ∧ Aside0 (Kd.N (Kd.slice 3 (Kd.int .i64)) 24 w' w.heap.size (fun k_ => (w.heap.size ≤ k_) ∧ some k_ ≠ ((.slice (some ad777) x5_1.length co11) : Value).ownBlock) v6 x6_3) ∧ Aside0 (Kd.N (Kd.slice 3 (Kd.int .i64)) 24 w' w.heap.size (fun k_ => (w.heap.size ≤ k_) ∧ some k_ ≠ (v6 : Value).ownBlock) (.slice (some ad777) x5_1.length co11) x5_1) ∧ Aside0 (Below w.heap.size w w') ∧ Aside0 (Kd.V (Kd.int .i64) 3 w' w.heap.size (fun k_ => (w.heap.size ≤ k_) ∧ some k_ ≠ (v6 : Value).ownBlock) (.slice A777_0 (rd_L2 x5_1 x18_2).length c777_0) (rd_L2 x5_1 x18_2)))
         case atStart => exact ⟨(x6_2), (0), (by rfl), H', ⟨Nat.le_refl _⟩, ⟨HO_6.out⟩, ⟨HO_16.out⟩, ⟨HB.out⟩, ⟨by exact Kd.V_mono HL777_0.out (fun _ hk => hk.1)⟩⟩
         case round =>
          clear H'
          try skip
          try skip
          try skip
          try clear hx777_0
          try skip
          try skip
          obtain ⟨x6_3, x23_3, rfl, HA, HK3, HO_6, HO_16, HB, HL777_0⟩ := hrel
          cases gk with
          | zero => exact absurd HA.out (by simp [impl_allWords.l2])
          | succ k3 =>
           have H := HA.out; clear HA; simp only [impl_allWords.l2] at H
           by_cases c15 : x23_3 < a0
           ·rw [if_pos c15] at H; have c15b0 := decide_eq_true c15; clear c15; obtain ⟨y778, hy778⟩ := ex_ ((([] : List Int)) : List Int); replace H : (if y778.length + (rd_L2 x5_1 x18_2).length < 17592186044416 then ((some (y778 ++ (rd_L2 x5_1 x18_2) : List Int)).bind fun y781 => (if y781.length < 17592186044416 then (if x6_3.length < 5864062014805 then (impl_allWords.l2 k3 a0 (x6_3 ++ [(y781 ++ [x23_3])]) (rd_L2 x5_1 x18_2) a1 x13_1 x5_1 (x5_1.length : Int) x18_2 a0 (wrap64 (x23_3 + 1))) else (none)) else (none))) else (none)) = some r := by (have H2_ := (Option.bind_some _ _).symm.trans H; rw [hy778]; with_reducible exact H2_)
            have Ny778 := A_ hy778; clear hy778
            by_cases c16 : y778.length + (rd_L2 x5_1 x18_2).length < 17592186044416
            ·rw [if_pos c16] at H; have LMc16 := A_ c16; clear c16; obtain ⟨y781, hy781⟩ := ex_ ((y778 ++ (rd_L2 x5_1 x18_2)) : List Int); replace H : (if y781.length < 17592186044416 then (if x6_3.length < 5864062014805 then (impl_allWords.l2 k3 a0 (x6_3 ++ [(y781 ++ [x23_3])]) (rd_L2 x5_1 x18_2) a1 x13_1 x5_1 (x5_1.length : Int) x18_2 a0 (wrap64 (x23_3 + 1))) else (none)) else (none)) = some r := by (have H2_ := (Option.bind_some _ _).symm.trans H; rw [hy781]; with_reducible exact H2_)
             have Ny781 := A_ hy781; clear hy781
             by_cases c17 : y781.length < 17592186044416
             ·rw [if_pos c17] at H; have LMc17 := A_ c17; clear c17; obtain ⟨y784, hy784⟩ := ex_ ((y781 ++ [x23_3]) : List Int); replace H : (if x6_3.length < 5864062014805 then (impl_allWords.l2 k3 a0 (x6_3 ++ [y784]) (rd_L2 x5_1 x18_2) a1 x13_1 x5_1 (x5_1.length : Int) x18_2 a0 (wrap64 (x23_3 + 1))) else (none)) = some r := by (rw [hy784]; with_reducible exact H)
              have Ny784 := A_ hy784; clear hy784
              by_cases c18 : x6_3.length < 5864062014805
              ·rw [if_pos c18] at H; have LMc18 := A_ c18; clear c18; obtain ⟨y787, hy787⟩ := ex_ ((x6_3 ++ [y784]) : List (List Int)); replace H : (impl_allWords.l2 k3 a0 y787 (rd_L2 x5_1 x18_2) a1 x13_1 x5_1 (x5_1.length : Int) x18_2 a0 (wrap64 (x23_3 + 1))) = some r := by (rw [hy787]; with_reducible exact H)
               have Ny787 := A_ hy787; clear hy787
               have H' := A_ H
               clear H
               go_wp2_with (first | ((with_reducible refine gd_ 27 rfl ?_); refine RL_ 27 3 [] [] rfl rfl (by go_simp; done) rfl rfl ?_; rintro v779 w19 ho20 hb - -; (rw [← Ny778.out] at ho20); have n0_ := A_ (Kd.N_elder' HO_6.out (Kd.R_base ho20) hb); have n1_ := A_ (Kd.N_elder' HO_16.out (Kd.R_base ho20) hb); have nHL_ := A_ (Kd.V_elder' HL777_0.out (Kd.R_base ho20) hb); clear HL777_0; have HL777_0 := nHL_; clear nHL_; have n2_ := A_ (Kd.R_lower (Kd.R_newM (M := fun k_ => (w.heap.size ≤ k_)) ho20 (below_size HB.out) (fun k_ h_ => h_)) (below_size HB.out)); have n3_ := bs_ HB hb; clear HO_6 HO_16 HB; revert n0_ n1_ n2_ n3_; intro HO_6 HO_16 HO780 HB; clear hb ho20) | ((with_reducible refine gate_builtin (b := .append) (xs := #[.tmp 27, .tmp 28]) rfl ?_); at_builtin; refine Kd.R_append_rows (Kd.int .i64) (w0 := w) w.heap.size rfl (.tmp 27) (.tmp 28) 24 3 (.int .i64 0) 8 rfl Tryz.underlying24 info3 rfl (by decide) (by omega) v779 y778 (rd_L2 x5_1 x18_2) _ _ _ (fun k_ => (w.heap.size ≤ k_)) (fun _ => False) rfl rfl ?aO ?aR (fun _ _ h => h) (fun _ h => h.elim) ?aF ?aB ?aS ?aL ?_; (case aR => repeat (first | exact (Kd.V_reads' HL777_0.out).2.2 | exact (Kd.C_below HR777_0.out HB.out) | (with_reducible refine Kd.C_alloc ?_ _) | (with_reducible refine Kd.C_drewN ?_ _) | (with_reducible refine Kd.C_drew ?_))); (case aB => exact HB.out); (case aF => exact (fun k_ hk => (Nat.le_trans (below_size HB.out) hk))); (case aO => exact (by exact Kd.R_mono HO780.out (fun _ hk => hk.1))); (case aS => exact (below_size HB.out)); (case aL => have := LMc16.out; omega); intro v782 w21 ho hb hg hat; rw [← Ny781.out] at ho; have n0_ := A_ (Kd.N_afterv (ok := (fun k_ => (w.heap.size ≤ k_) ∧ some k_ ≠ (.slice (some ad777) x5_1.length co11 : Value).ownBlock)) HO_6.out hg hat); have n1_ := A_ (Kd.N_afterv (ok := (fun k_ => (w.heap.size ≤ k_) ∧ some k_ ≠ (u6 : Value).ownBlock)) HO_16.out hg hat); have nHL_ := A_ (Kd.V_afterv (ok := (fun k_ => (w.heap.size ≤ k_) ∧ some k_ ≠ (u6 : Value).ownBlock)) HL777_0.out hg hat); clear HL777_0; have HL777_0 := nHL_; clear nHL_; have n2_ := A_ (hb); have n3_ := A_ (ho); clear HO_6 HO_16 HB HO780; revert n0_ n1_ n2_ n3_; intro HO_6 HO_16 HB HO783; clear ho hb hg hat) | ((with_reducible refine gate_builtin (b := .append) (xs := #[.tmp 29, .tmp 31]) rfl ?_); at_builtin; refine Kd.R_append (Kd.int .i64) (w0 := w) w.heap.size rfl (.tmp 29) (.tmp 31) 24 3 (.int .i64 0) 8 rfl Tryz.underlying24 info3 rfl (by decide) (by omega) v782 y781 x23_3 [.int .i64 x23_3] (fun k_ => (w.heap.size ≤ k_)) (fun _ => False) rfl rfl ?aP (fun _ hk => hk.elim) ?aF ?aO ?aB ?aS ?aL ?_; (case aP => exact rfl); (case aB => exact HB.out); (case aF => exact (fun k_ hk => (Nat.le_trans (below_size HB.out) hk))); (case aO => exact HO783.out); (case aS => exact (below_size HB.out)); (case aL => have := LMc17.out; omega); intro v785 w22 ho hb hg hat; rw [← Ny784.out] at ho; have n0_ := A_ (Kd.N_afterv (ok := (fun k_ => (w.heap.size ≤ k_) ∧ some k_ ≠ (.slice (some ad777) x5_1.length co11 : Value).ownBlock)) HO_6.out hg hat); have n1_ := A_ (Kd.N_afterv (ok := (fun k_ => (w.heap.size ≤ k_) ∧ some k_ ≠ (u6 : Value).ownBlock)) HO_16.out hg hat); have nHL_ := A_ (Kd.V_afterv (ok := (fun k_ => (w.heap.size ≤ k_) ∧ some k_ ≠ (u6 : Value).ownBlock)) HL777_0.out hg hat); clear HL777_0; have HL777_0 := nHL_; clear nHL_; have n2_ := A_ (hb); have n3_ := A_ (ho); clear HO_6 HO_16 HB HO783; revert n0_ n1_ n2_ n3_; intro HO_6 HO_16 HB HO786; clear ho hb hg hat; obtain ⟨Ao24, co24, eo24⟩ := Kd.R_slice HO786.out; subst eo24) | ((with_reducible refine gate_builtin (b := .append) (xs := #[.tmp 26, .tmp 33]) rfl ?_); at_builtin; refine Kd.N_append (Kd.slice 3 (Kd.int .i64)) (w0 := w) w.heap.size rfl (.tmp 26) (.tmp 33) 47 24 (.slice none 0 0) 24 rfl Tryz.underlying47 info24 rfl (by decide) (by omega) u6 x6_3 y784 [.slice Ao24 y784.length co24] (fun k_ => (w.heap.size ≤ k_) ∧ some k_ ≠ (.slice (some ad777) x5_1.length co11 : Value).ownBlock) (fun k_ => ((fun k_ => (w.heap.size ≤ k_) ∧ some k_ ≠ (.slice (some ad777) x5_1.length co11 : Value).ownBlock)) k_ ∧ some k_ ≠ (u6 : Value).ownBlock) rfl rfl ?aP (fun _ hk => hk) ?aF ?aO ?aB ?aS ?aL ?_; (case aP => exact (Kd.FK_slice_mk (Kd.R_reads' (Kd.R_mono (ok' := (fun k_ => ((fun k_ => (w.heap.size ≤ k_) ∧ some k_ ≠ (.slice (some ad777) x5_1.length co11 : Value).ownBlock)) k_ ∧ some k_ ≠ (u6 : Value).ownBlock)) (Kd.R_apart' (Kd.R_apart' (HO786.out) (Kd.N_typed HO_16.out) (by decide)) (Kd.N_typed HO_6.out) (by decide)) (fun k_ hk => ⟨⟨hk.1.1, hk.1.2⟩, hk.2⟩))).2.1 (Kd.R_F (Kd.R_mono (ok' := (fun k_ => ((fun k_ => (w.heap.size ≤ k_) ∧ some k_ ≠ (.slice (some ad777) x5_1.length co11 : Value).ownBlock)) k_ ∧ some k_ ≠ (u6 : Value).ownBlock)) (Kd.R_apart' (Kd.R_apart' (HO786.out) (Kd.N_typed HO_16.out) (by decide)) (Kd.N_typed HO_6.out) (by decide)) (fun k_ hk => ⟨⟨hk.1.1, hk.1.2⟩, hk.2⟩))))); (case aB => exact HB.out); (case aF => exact (fun k_ hk => ⟨(Nat.le_trans (below_size HB.out) hk), Kd.fresh' (Kd.N_lt HO_16.out) k_ hk⟩)); (case aO => exact (by exact Kd.N_mono HO_6.out (fun _ hk => ⟨hk.1.1, hk.1.2⟩))); (case aS => exact (below_size HB.out)); (case aL => have := LMc18.out; omega); intro v788 w23 ho hb hg hat; rw [← Ny787.out] at ho; have n0_ := A_ (Kd.N_afterv (ok := (fun k_ => (w.heap.size ≤ k_) ∧ some k_ ≠ (.slice Ao24 y784.length co24 : Value).ownBlock)) (by exact Kd.N_mono HO_16.out (fun _ hk => ⟨⟨hk.1.1, hk.2⟩, hk.1.2⟩)) hg hat); have nHL_ := A_ (Kd.V_afterv (ok := (fun k_ => (w.heap.size ≤ k_) ∧ some k_ ≠ (.slice Ao24 y784.length co24 : Value).ownBlock)) (by exact Kd.V_mono HL777_0.out (fun _ hk => ⟨⟨hk.1.1, hk.2⟩, hk.1.2⟩)) hg hat); clear HL777_0; have HL777_0 := nHL_; clear nHL_; have n1_ := A_ (hb); have n2_ := A_ (ho); clear HO_16 HB HO_6 HO786; revert n0_ n1_ n2_; intro HO_16 HB HO789; clear ho hb hg hat))
               go_roundg k3
               case measure => have := HK1.out; have := HK2.out; have := HK3.out; omega
               case rel => exact ⟨(y787), (wrap64 (x23_3 + 1)), (by rfl), H', ⟨by have := HK1.out; have := HK2.out; have := HK3.out; omega⟩, ⟨HO789.out⟩, ⟨by exact Kd.N_mono HO_16.out (fun _ hk => ⟨hk.1.1, hk.2⟩)⟩, ⟨HB.out⟩, ⟨by exact Kd.V_mono HL777_0.out (fun _ hk => ⟨hk.1.1, hk.2⟩)⟩⟩
              rw [if_neg c18] at H
              cases H
             rw [if_neg c17] at H
             cases H
            rw [if_neg c16] at H
            cases H
           rw [if_neg c15] at H; have c15b0 := decide_eq_false c15; clear c15
           have H' := A_ H
           clear H
           go_wp2
           go_roundg k3
           case measure => have := HK1.out; have := HK2.out; have := HK3.out; omega
           case rel => exact ⟨(x6_3), (wrap64 (x18_2 + 1)), (by rfl), H', ⟨by have := HK1.out; have := HK2.out; have := HK3.out; omega⟩, ⟨HO_6.out⟩, ⟨HO_16.out⟩, ⟨HB.out⟩⟩
        rw [if_neg c14] at H
        cases H
       rw [if_neg c13] at H
       cases H
      rw [if_neg c12] at H; have c12b0 := decide_eq_false c12; clear c12
      have H' := A_ H
      clear H
      go_wp2
      go_roundg k2
      case measure => have := HK1.out; have := HK2.out; omega
      case rel => exact ⟨(x6_2), (wrap64 (x13_1 + 1)), (by rfl), H', ⟨by have := HK1.out; have := HK2.out; omega⟩, ⟨by exact Kd.N_mono HO_6.out (fun _ hk => hk.1)⟩, ⟨HB.out⟩⟩
   rw [if_neg c8] at H; have c8b0 := decide_eq_false c8; clear c8; obtain rfl := Option.some.inj H
   go_wp2
   go_ret
   exact ⟨_, by rfl, HO_5.out, HB.out⟩

mutual
def impl_CountBalanced.j0 : Nat → Int → Bool → Option (Int)
 | 0, _, _ => none
 | k + 1, x0, x11 => if x11 = true then (some (-1)) else ((impl_allWords.f k 2 x0).bind fun t790 => (impl_CountBalanced.l0 k 0 t790 (t790.length : Int) 0))
def impl_CountBalanced.l0 : Nat → Int → List (List Int) → Int → Int → Option (Int)
 | 0, _, _, _, _ => none
 | k + 1, x3, x13, x14, x15 => if x15 < x14 then (if 0 ≤ x15 then (if x15 < (x13.length : Int) then ((impl_IsBalanced.f k (rd_L2 x13 x15)).bind fun t794 => ((impl_oneIf.f t794).bind fun t795 => (impl_CountBalanced.l0 k (wrap64 (x3 + t795)) x13 x14 (wrap64 (x15 + 1))))) else (none)) else (none)) else (some x3)
end
def impl_CountBalanced.f (k : Nat) (a0 : Int) : Option (Int) := if a0 < 0 then (impl_CountBalanced.j0 k a0 true) else (impl_CountBalanced.j0 k a0 (decide (a0 > 8)))
theorem impl_CountBalanced.calls (k : Nat) (a0 : Int) (r : Int) (w : World) (h : impl_CountBalanced.f k a0 = some r) :
  Calls Tryz.prog 14 #[.int .i64 a0] w fun e w' => e = .returned (.int .i64 r) ∧ Below w.heap.size w w' := by
 have HB := A_ (Below.refl w.heap.size w); unfold impl_CountBalanced.f at h; have H := h; clear h; have HC2 := A_ H; clear H; go_enter Tryz.func14, Tryz.ntmps14
 go_upto_region 1 with (fail)
 go_cut [11] (fun v11 wc => ∃ (kq : Nat) (x11_1 : Bool), v11 = .bool x11_1 ∧ Aside0 (impl_CountBalanced.j0 kq a0 x11_1 = some r) ∧ Aside0 (kq ≤ k) ∧ Aside0 (Below w.heap.size w wc))
 case first =>
  have H := HC2.out; clear HC2
  by_cases c3 : a0 < 0
  ·rw [if_pos c3] at H; have c3b0 := decide_eq_true c3; clear c3
   (skip)
   have H' := A_ H
   clear H
   go_wp2
   go_meet
   case rel => exact ⟨_, (true), (by rfl), H', ⟨by omega⟩, ⟨HB.out⟩⟩
  rw [if_neg c3] at H; have c3b0 := decide_eq_false c3; clear c3
  (skip)
  have H' := A_ H
  clear H
  go_wp2
  go_meet
  case rel => exact ⟨_, (decide (a0 > 8)), (by rfl), H', ⟨by omega⟩, ⟨HB.out⟩⟩
 case rest =>
  clear HC2; obtain ⟨kq, x11_1, rfl, HA, HJ1, HB⟩ := hcut
  cases kq with
  | zero => exact absurd HA.out (by simp [impl_CountBalanced.j0])
  | succ kj1 =>
   have H := HA.out; clear HA; simp only [impl_CountBalanced.j0] at H
   by_cases c4 : x11_1 = true
   ·subst c4; rw [if_pos rfl] at H; obtain rfl := Option.some.inj H
    go_wp2
    go_ret
    exact ⟨by rfl, HB.out⟩
   replace c4 := Bool.eq_false_iff.mpr c4; subst c4; rw [if_neg nf_] at H; replace H := bA_ H; obtain ⟨t790, A5, H⟩ := H
   have H' := A_ H
   clear H
   go_wp2_with (first | ((with_reducible refine gc_ 34 rfl ?_); refine cL_ E34 13 rfl rfl rfl (impl_allWords.calls kj1 2 a0 t790 _ A5.out) (by simp only [mA, mB, mC]; rfl) ?_; rintro e w6 ⟨v791, rfl, ho0, hb⟩; refine ⟨_, rfl, ?_⟩; have HO792 := A_ (Kd.N_lower (Kd.N_mono (ok' := fun k_ => True) ho0 (fun k_ hk_ => trivial)) (below_size HB.out)); replace HB := bs_ HB hb; clear hb ho0; obtain ⟨Ao7, co7, eo7⟩ := Kd.N_slice HO792.out; subst eo7))
   go_loopg [3, 15] kj1 (fun kq v3 v15 w' => ∃ (x3_2 : Int) (x15_2 : Int), v3 = .int .i64 x3_2 ∧ v15 = .int .i64 x15_2 ∧ Aside0 (impl_CountBalanced.l0 kq x3_2 t790 (t790.length : Int) x15_2 = some r) ∧ Aside0 (kq ≤ kj1) ∧ Aside0 (Kd.N (Kd.slice 3 (Kd.int .i64)) 24 w' w.heap.size (fun _ => True) (.slice Ao7 t790.length co7) t790) ∧ Aside0 (Below w.heap.size w w'))
   case atStart => exact ⟨(0), (0), (by rfl), (by rfl), H', ⟨Nat.le_refl _⟩, ⟨HO792.out⟩, ⟨HB.out⟩⟩
   case round =>
    clear H'; obtain ⟨x3_2, x15_2, rfl, rfl, HA, HK2, HO_13, HB⟩ := hrel
    cases gk with
    | zero => exact absurd HA.out (by simp [impl_CountBalanced.l0])
    | succ k2 =>
     have H := HA.out; clear HA; simp only [impl_CountBalanced.l0] at H
     by_cases c8 : x15_2 < (t790.length : Int)
     ·rw [if_pos c8] at H; have c8b0 := decide_eq_true c8; clear c8
      by_cases c9 : 0 ≤ x15_2
      ·rw [if_pos c9] at H; have c9b0 := decide_eq_true c9; clear c9
       by_cases c10 : x15_2 < (t790.length : Int)
       ·rw [if_pos c10] at H; have c10b0 := decide_eq_true c10; clear c10; replace H := bA_ H; obtain ⟨t794, A11, H⟩ := H; replace H := bA_ H; obtain ⟨t795, A12, H⟩ := H
        have H' := A_ H
        clear H
        have p793 : 0 ≤ (x15_2 : Int) := od_ (by assumption)
        have q793 : x15_2 < (t790.length : Int) := od_ (by assumption)
        obtain ⟨ad793, A793_0, c793_0, e793, hx793_0, hl793_0, hi793_0⟩ := at_L2 (Kd.N_reads' HO_13.out).2.2 x15_2 p793 q793
        cases e793
        obtain ⟨ce793, hce793, hMe793, hcc793⟩ := Kd.N_get HO_13.out [] x15_2 p793 (by exact q793); obtain ⟨ua793_0, uc793_0, rfl, ul793_0, ge793_0⟩ := Kd.FK_slice_open hMe793; have hv793_0 := hcc793 0 _ rfl; rw [Nat.add_zero, show ((Kd.slice 3 (Kd.int .i64))).sz = 1 from rfl, Nat.mul_one] at hv793_0; replace hv793_0 := Option.some.inj (hv793_0.symm.trans hx793_0)
        injection hv793_0 with hva_ hvn_ hvc_
        rw [hva_] at ge793_0; rw [hvc_] at ul793_0; have HL793_0 := A_ (show Kd.V (Kd.int .i64) 3 _ w.heap.size _ _ (rd_L2 t790 x15_2) from Kd.V_mk ul793_0 ge793_0); clear hva_ hvn_ hvc_ ge793_0 ul793_0 hcc793 hce793; have HR793_0 := A_ hi793_0; have HC793_0 := A_ hl793_0; clear hi793_0 hl793_0; replace p793 := eq_true p793; replace q793 := eq_true q793
        go_wp2_with (first | ((with_reducible refine gc_ 9 rfl ?_); refine cL_ E9 21 rfl rfl rfl (impl_IsBalanced.calls k2 _ _ (rd_L2 t790 x15_2) t794 _ (by repeat (first | exact (by repeat (first | (with_reducible exact HR793_0.out) | (with_reducible refine Kd.C_alloc ?_ _) | (with_reducible refine Kd.C_drewN ?_ _) | (with_reducible refine Kd.C_drew ?_) | exact HR793_0.out)) | (with_reducible refine Kd.C_alloc ?_ _) | (with_reducible refine Kd.C_drewN ?_ _) | (with_reducible refine Kd.C_drew ?_))) HC793_0.out A11.out) (by simp only [mA, mB, mC]; rfl) ?_; rintro e w13 ⟨rfl, hb⟩; refine ⟨_, rfl, ?_⟩; replace HO_13 := A_ (Kd.N_below HO_13.out hb); replace HL793_0 := A_ (Kd.V_below HL793_0.out hb); replace HR793_0 := A_ (Kd.C_below (by repeat (first | (with_reducible exact HR793_0.out) | (with_reducible refine Kd.C_alloc ?_ _) | (with_reducible refine Kd.C_drewN ?_ _) | (with_reducible refine Kd.C_drew ?_) | exact HR793_0.out)) hb); replace HB := bs_ HB hb; clear hb; (try clear hi)) | ((with_reducible refine gc_ 35 rfl ?_); refine cD_ E35 22 rfl rfl rfl (impl_oneIf.calls t794 t795 _ A12.out) (by simp only [mA, mB, mC]; rfl) fun nd => ?_))
        go_roundg k2
        case measure => have := HJ1.out; have := HK2.out; omega
        case rel => exact ⟨(wrap64 (x3_2 + t795)), (wrap64 (x15_2 + 1)), (by rfl), (by rfl), H', ⟨by have := HJ1.out; have := HK2.out; omega⟩, ⟨by (with_reducible repeat (first | apply Kd.N_alloc | apply Kd.N_drewN | apply Kd.N_drew)); exact HO_13.out⟩, ⟨by repeat (first | (with_reducible first | exact HB.out | apply below_alloc | apply pw_below_drewN | apply below_drew1) | exact HB.out)⟩⟩
       rw [if_neg c10] at H
       cases H
      rw [if_neg c9] at H
      cases H
     rw [if_neg c8] at H; have c8b0 := decide_eq_false c8; clear c8; obtain rfl := Option.some.inj H
     go_wp2
     go_ret
     exact ⟨by rfl, HB.out⟩

def spec_l11Word.l0 : Nat → Int → Int → List Int → Int → Option (List Int)
 | 0, _, _, _, _ => none
 | k + 1, x0, x2, x7, x8 => if x8 ≥ 0 then (if x0 = 0 then (none) else (if 0 ≤ x8 then (if x8 < (x7.length : Int) then (spec_l11Word.l0 k x0 (wrap64 (Int.tdiv x2 x0)) (x7.set (x8 : Int).toNat (Int.tmod x2 x0)) (wrap64 (x8 - 1))) else (none)) else (none))) else (some x7)
def spec_l11Word.f (k : Nat) (a0 : Int) (a1 : Int) (a2 : Int) : Option (List Int) := if 0 ≤ a1 then (if (a1 : Int).toNat ≤ 35184372088832 then (spec_l11Word.l0 k a0 a2 (List.replicate (a1 : Int).toNat 0) (wrap64 (a1 - 1))) else (none)) else (none)
theorem spec_l11Word.calls (k : Nat) (a0 : Int) (a1 : Int) (a2 : Int) (r : List Int) (w : World) (h : spec_l11Word.f k a0 a1 a2 = some r) :
  Calls Tryz.prog 37 #[.int .i64 a0, .int .i64 a1, .int .i64 a2] w fun e w' => ∃ v0_ : Value, e = .returned (v0_) ∧ Kd.R (Kd.int .i64) 3 w' w.heap.size (fun _ => True) v0_ r ∧ Below w.heap.size w w' := by
 have HB := A_ (Below.refl w.heap.size w); unfold spec_l11Word.f at h; have H := h; clear h
 by_cases c4 : 0 ≤ a1
 ·rw [if_pos c4] at H; have c4b0 := eq_true c4; have c4b1 := decide_eq_true c4; clear c4
  by_cases c5 : (a1 : Int).toNat ≤ 35184372088832
  ·rw [if_pos c5] at H; have c5b1 := decide_eq_true c5; clear c5; obtain ⟨y796, hy796⟩ := ex_ ((List.replicate (a1 : Int).toNat 0) : List Int); replace H : (spec_l11Word.l0 k a0 a2 y796 (wrap64 (a1 - 1))) = some r := by (rw [hy796]; with_reducible exact H)
   have Ny796 := A_ hy796; clear hy796
   have H' := A_ H
   clear H; go_enter Tryz.func37, Tryz.ntmps37
   go_wp2_with (first | ((with_reducible refine gate_dst (N := 10) rfl ?_); refine Kd.R_make (Kd.int .i64) _ 3 rfl (N := 10) rfl 24 _ _ rfl a1 rfl rfl Tryz.underlying24 (.int .i64 0) 8 info3 rfl (by decide) (by omega) 0 (ok := fun _ => True) (okp := fun _ => True) rfl (fun _ hk => hk) trivial (od_ (by assumption)) (Nat.le_trans (Nat.mul_le_mul_right _ (od_ (by assumption) : a1.toNat ≤ 35184372088832)) (by omega)) (Below.refl _ _) (Nat.le_refl _) ?_; rintro v797 w6 ho7 hb - -; (rw [← Ny796.out] at ho7); have HO798 := A_ (Kd.R_lower ho7 (below_size HB.out)); replace HB := bs_ HB hb; clear hb ho7))
   go_loopg [2, 8] k (fun kq v2 v8 w' => ∃ (x2_1 : Int) (x7_1 : List Int) (x8_1 : Int), v2 = .int .i64 x2_1 ∧ v8 = .int .i64 x8_1 ∧ Aside0 (spec_l11Word.l0 kq a0 x2_1 x7_1 x8_1 = some r) ∧ Aside0 (kq ≤ k) ∧ Aside0 (Kd.R (Kd.int .i64) 3 w' w.heap.size (fun _ => True) v797 x7_1) ∧ Aside0 (Below w.heap.size w w'))
   case atStart => exact ⟨(a2), (y796), (wrap64 (a1 - 1)), (by rfl), (by rfl), H', ⟨Nat.le_refl _⟩, ⟨HO798.out⟩, ⟨HB.out⟩⟩
   case round =>
    clear H'
    try skip
    try skip
    try skip
    try skip
    obtain ⟨x2_1, x7_1, x8_1, rfl, rfl, HA, HK1, HO_7, HB⟩ := hrel
    cases gk with
    | zero => exact absurd HA.out (by simp [spec_l11Word.l0])
    | succ k1 =>
     have H := HA.out; clear HA; simp only [spec_l11Word.l0] at H
     by_cases c8 : x8_1 ≥ 0
     ·rw [if_pos c8] at H
      have c8b0 : decide (0 ≤ x8_1) = true := decide_eq_true c8
      clear c8
      by_cases c9 : a0 = 0
      ·rw [if_pos c9] at H
       cases H
      rw [if_neg c9] at H
      have c9b0 : (a0 == 0) = false := beq_eq_false_iff_ne.mpr c9
      have c9b1 : (a0 != 0) = true := bne_iff_ne.mpr c9
      by_cases c10 : 0 ≤ x8_1
      ·rw [if_pos c10] at H; have c10b0 := decide_eq_true c10; clear c10
       by_cases c11 : x8_1 < (x7_1.length : Int)
       ·rw [if_pos c11] at H; have c11b0 := decide_eq_true c11; clear c11; obtain ⟨y799, hy799⟩ := ex_ ((x7_1.set (x8_1 : Int).toNat (Int.tmod x2_1 a0)) : List Int); replace H : (spec_l11Word.l0 k1 a0 (wrap64 (Int.tdiv x2_1 a0)) y799 (wrap64 (x8_1 - 1))) = some r := by (rw [hy799]; with_reducible exact H)
        have Ny799 := A_ hy799; clear hy799
        have H' := A_ H
        clear H
        have p12 : 0 ≤ (x8_1 : Int) := od_ (by assumption)
        have q12 : (x8_1 : Int) < ((x7_1.length : Int) : Int) := od_ (by assumption)
        obtain ⟨go12, co12, eo12, gb12, gl12, cl12, HG12⟩ := Kd.R_form HO_7.out (by omega)
        (first | cases eo12 | (injection eo12 with ea_ en_ ec_; (first | subst ea_ | (injection ea_ with ea_; subst ea_)); subst ec_; clear en_))
        have GB12 := A_ gb12; clear gb12 gl12 HG12; obtain ⟨hx12_0, hf12_0⟩ := Kd.R_celln 0 HO_7.out (x8_1 : Int) p12 q12; replace p12 := eq_true p12; replace q12 := eq_true q12; have HP13 := Kd.R_putg HO_7.out (x8_1 : Int) (Int.tmod x2_1 a0)
        go_wp2_with (first | ((with_reducible refine gate_store (t := 3) (p := 22) rfl ?_); refine store_event (t := 3) (p := 22) (v := ?vo_w14) (w1 := (wr.setCell ⟨go12, (x8_1 : Int).toNat, none⟩ (.int .i64 (Int.tmod x2_1 a0)))) ?hg ?ho ?hn ?hr ?_; (case ho => rfl); (case hg => rfl); (case hn => rfl); (case hr => go_simp; done); intro w14 hw; have hg : wr.grownBy w14 (some go12) := (by rw [hw]; exact HP13.2); have hp_ : Kd.R (Kd.int .i64) 3 w14 w.heap.size (fun _ => True) (.slice (some ⟨go12, 0, none⟩) x7_1.length co12) y799 := (by rw [hw, Ny799.out]; exact HP13.1); clear HP13; replace HO_7 := A_ (hp_); replace HB := A_ ((by rw [hw]; exact below_set (HB.out) GB12.out : Below w.heap.size w w14)); clear hg hw hp_))
        go_roundg k1
        case measure => have := HK1.out; omega
        case rel => exact ⟨(wrap64 (Int.tdiv x2_1 a0)), (y799), (wrap64 (x8_1 - 1)), (by rfl), (by rfl), H', ⟨by have := HK1.out; omega⟩, ⟨HO_7.out⟩, ⟨HB.out⟩⟩
       rw [if_neg c11] at H
       cases H
      rw [if_neg c10] at H
      cases H
     rw [if_neg c8] at H
     have c8b0 : decide (0 ≤ x8_1) = false := decide_eq_false c8
     clear c8; obtain rfl := Option.some.inj H
     go_wp2
     go_ret
     exact ⟨_, by rfl, HO_7.out, HB.out⟩
  rw [if_neg c5] at H
  cases H
 rw [if_neg c4] at H
 cases H

def spec_CountBalanced.l0 : Nat → Int → Int → Int → Option (Int)
 | 0, _, _, _ => none
 | k + 1, x0, x3, x4 => if 0 ≤ x0 then (if x4 < (shl .i64 1 x0) then ((spec_l11Word.f k 2 x0 x4).bind fun t801 => ((spec_IsBalanced.f k t801).bind fun t804 => (if t804 = true then (spec_CountBalanced.l0 k x0 (wrap64 (x3 + 1)) (wrap64 (x4 + 1))) else (spec_CountBalanced.l0 k x0 x3 (wrap64 (x4 + 1)))))) else (some x3)) else (none)
def spec_CountBalanced.f (k : Nat) (a0 : Int) : Option (Int) := (spec_l1In.f a0 0 8).bind fun t800 => (if t800 = true then (spec_CountBalanced.l0 k a0 0 0) else (some (-1)))
theorem spec_CountBalanced.calls (k : Nat) (a0 : Int) (r : Int) (w : World) (h : spec_CountBalanced.f k a0 = some r) :
  Calls Tryz.prog 15 #[.int .i64 a0] w fun e w' => e = .returned (.int .i64 r) ∧ Below w.heap.size w w' := by
 have HB := A_ (Below.refl w.heap.size w); unfold spec_CountBalanced.f at h; have H := h; clear h; replace H := bA_ H; obtain ⟨t800, A2, H⟩ := H
 by_cases c3 : t800 = true
 ·subst c3; rw [if_pos rfl] at H
  have H' := A_ H
  clear H; go_enter Tryz.func15, Tryz.ntmps15
  go_wp2_with (first | ((with_reducible refine gc_ 36 rfl ?_); refine cD_ E36 6 rfl rfl rfl (spec_l1In.calls a0 0 8 true _ A2.out) (by simp only [mA, mB, mC]; rfl) fun nd => ?_))
  go_loopg [3, 4] k (fun kq v3 v4 w' => ∃ (x3_1 : Int) (x4_1 : Int), v3 = .int .i64 x3_1 ∧ v4 = .int .i64 x4_1 ∧ Aside0 (spec_CountBalanced.l0 kq a0 x3_1 x4_1 = some r) ∧ Aside0 (kq ≤ k) ∧ Aside0 (Below w.heap.size w w'))
  case atStart => exact ⟨(0), (0), (by rfl), (by rfl), H', ⟨Nat.le_refl _⟩, ⟨by repeat (first | (with_reducible first | exact HB.out | apply below_alloc | apply pw_below_drewN | apply below_drew1) | exact HB.out)⟩⟩
  case round =>
   clear H'; obtain ⟨x3_1, x4_1, rfl, rfl, HA, HK1, HB⟩ := hrel
   cases gk with
   | zero => exact absurd HA.out (by simp [spec_CountBalanced.l0])
   | succ k1 =>
    have H := HA.out; clear HA; simp only [spec_CountBalanced.l0] at H
    by_cases c4 : 0 ≤ a0
    ·rw [if_pos c4] at H; have c4b0 := eq_true c4; clear c4; obtain ⟨ji5, hji5⟩ : ∃ j_ : Int, (shl .i64 1 a0) = j_ := ⟨_, rfl⟩; replace H : (if x4_1 < (ji5) then ((spec_l11Word.f k1 2 a0 x4_1).bind fun t801 => ((spec_IsBalanced.f k1 t801).bind fun t804 => (if t804 = true then (spec_CountBalanced.l0 k1 a0 (wrap64 (x3_1 + 1)) (wrap64 (x4_1 + 1))) else (spec_CountBalanced.l0 k1 a0 x3_1 (wrap64 (x4_1 + 1)))))) else (some x3_1)) = some r := by first | (rw [hji5] at H; exact H) | (simp only [hji5] at H ⊢; exact H)
     have hji5_ : (IntKind.i64.wrap (1 * 2 ^ min a0.toNat 64)) = ji5 := hji5
     have hji5z : a0 ≤ 64 → (IntKind.i64.wrap (1 * 2 ^ a0.toNat)) = ji5 := shl_small hji5
     have hji5u : (IntKind.i64.wrap (2 ^ min a0.toNat 64)) = ji5 := by have h_ := hji5_; rw [Int.one_mul] at h_; exact h_
     have hji5v : a0 ≤ 64 → (IntKind.i64.wrap (2 ^ a0.toNat)) = ji5 := fun hle_ => by have h_ := hji5z hle_; rw [Int.one_mul] at h_; exact h_
     have hji5y : (wrap64 (1 * 2 ^ min a0.toNat 64)) = ji5 := (i64_w _).symm.trans hji5_
     have hji5x : a0 ≤ 64 → (wrap64 (1 * 2 ^ a0.toNat)) = ji5 := fun h_ => (i64_w _).symm.trans (hji5z h_)
     by_cases c6 : x4_1 < (ji5)
     ·rw [if_pos c6] at H; have c6b0 := decide_eq_true c6; clear c6; replace H := bA_ H; obtain ⟨t801, A7, H⟩ := H; replace H := bA_ H; obtain ⟨t804, A8, H⟩ := H
      by_cases c9 : t804 = true
      ·subst c9; rw [if_pos rfl] at H
       have H' := A_ H
       clear H
       go_wp2_with (first | ((with_reducible refine gc_ 37 rfl ?_); refine cL_ E37 16 rfl rfl rfl (spec_l11Word.calls k1 2 a0 x4_1 t801 _ A7.out) (by simp only [mA, mB, mC]; rfl) ?_; rintro e w10 ⟨v802, rfl, ho0, hb⟩; refine ⟨_, rfl, ?_⟩; have HO803 := A_ (Kd.R_lower ho0 (below_size HB.out)); replace HB := bs_ HB hb; clear hb ho0; obtain ⟨Ao11, co11, eo11⟩ := Kd.R_slice HO803.out; subst eo11) | ((with_reducible refine gc_ 10 rfl ?_); refine cL_ E10 17 rfl rfl rfl (spec_IsBalanced.calls k1 _ _ t801 true _ ((Kd.R_reads' HO803.out).2.2) ((Kd.R_reads' HO803.out).2.1) A8.out) (by simp only [mA, mB, mC]; rfl) ?_; rintro e w12 ⟨rfl, hb⟩; refine ⟨_, rfl, ?_⟩; replace HO803 := A_ (Kd.R_below HO803.out hb); replace HB := bs_ HB hb; clear hb; (try clear hi)))
       (try subst hji5)
       go_roundg k1
       case measure => have := HK1.out; omega
       case rel => exact ⟨(wrap64 (x3_1 + 1)), (wrap64 (x4_1 + 1)), (by rfl), (by rfl), H', ⟨by have := HK1.out; omega⟩, ⟨HB.out⟩⟩
      replace c9 := Bool.eq_false_iff.mpr c9; subst c9; rw [if_neg nf_] at H
      have H' := A_ H
      clear H
      go_wp2_with (first | ((with_reducible refine gc_ 37 rfl ?_); refine cL_ E37 16 rfl rfl rfl (spec_l11Word.calls k1 2 a0 x4_1 t801 _ A7.out) (by simp only [mA, mB, mC]; rfl) ?_; rintro e w13 ⟨v802, rfl, ho0, hb⟩; refine ⟨_, rfl, ?_⟩; have HO803 := A_ (Kd.R_lower ho0 (below_size HB.out)); replace HB := bs_ HB hb; clear hb ho0; obtain ⟨Ao14, co14, eo14⟩ := Kd.R_slice HO803.out; subst eo14) | ((with_reducible refine gc_ 10 rfl ?_); refine cL_ E10 17 rfl rfl rfl (spec_IsBalanced.calls k1 _ _ t801 false _ ((Kd.R_reads' HO803.out).2.2) ((Kd.R_reads' HO803.out).2.1) A8.out) (by simp only [mA, mB, mC]; rfl) ?_; rintro e w15 ⟨rfl, hb⟩; refine ⟨_, rfl, ?_⟩; replace HO803 := A_ (Kd.R_below HO803.out hb); replace HB := bs_ HB hb; clear hb; (try clear hi)))
      (try subst hji5)
      go_roundg k1
      case measure => have := HK1.out; omega
      case rel => exact ⟨(x3_1), (wrap64 (x4_1 + 1)), (by rfl), (by rfl), H', ⟨by have := HK1.out; omega⟩, ⟨HB.out⟩⟩
     rw [if_neg c6] at H; have c6b0 := decide_eq_false c6; clear c6; obtain rfl := Option.some.inj H
     go_wp2
     go_ret
     exact ⟨by first | rfl | (simp [errW_none, errW_some] <;> rfl) | (simp only [← hji5]; first | rfl | (simp [errW_none, errW_some] <;> rfl)) | (simp [*, errW_none, errW_some] <;> rfl), HB.out⟩
    rw [if_neg c4] at H
    cases H
 replace c3 := Bool.eq_false_iff.mpr c3; subst c3; rw [if_neg nf_] at H; obtain rfl := Option.some.inj H; go_enter Tryz.func15, Tryz.ntmps15
 go_wp2_with (first | ((with_reducible refine gc_ 36 rfl ?_); refine cD_ E36 6 rfl rfl rfl (spec_l1In.calls a0 0 8 false _ A2.out) (by simp only [mA, mB, mC]; rfl) fun nd => ?_))
 go_ret
 exact ⟨by rfl, by repeat (first | (with_reducible first | exact HB.out | apply below_alloc | apply pw_below_drewN | apply below_drew1) | exact HB.out)⟩

def laws_gcd.l0 : Nat → Int → Int → Option (Int)
 | 0, _, _ => none
 | k + 1, x0, x1 => if x1 > 0 then (if x1 = 0 then (none) else (laws_gcd.l0 k x1 (Int.tmod x0 x1))) else (some x0)
def laws_gcd.f (k : Nat) (a0 : Int) (a1 : Int) : Option (Int) := laws_gcd.l0 k a0 a1
theorem laws_gcd.calls (k : Nat) (a0 : Int) (a1 : Int) (r : Int) (w : World) (h : laws_gcd.f k a0 a1 = some r) :
  Calls Tryz.prog 16 #[.int .i64 a0, .int .i64 a1] w fun e w' => e = .returned (.int .i64 r) ∧ Drawn0 w w' := by
 unfold laws_gcd.f at h; have H := h; clear h
 have H' := A_ H
 clear H; go_enter Tryz.func16, Tryz.ntmps16
 go_wp2
 go_loopg [0, 1] k (fun kq v0 v1 w' => ∃ (x0_1 : Int) (x1_1 : Int), v0 = .int .i64 x0_1 ∧ v1 = .int .i64 x1_1 ∧ Aside0 (laws_gcd.l0 kq x0_1 x1_1 = some r) ∧ Aside0 (kq ≤ k) ∧ Drawn0 w w')
 case atStart => exact ⟨(a0), (a1), (by rfl), (by rfl), H', ⟨Nat.le_refl _⟩, by repeat (first | exact Drawn0.refl _ | apply Drawn0.step)⟩
 case round =>
  clear H'; obtain ⟨x0_1, x1_1, rfl, rfl, HA, HK1, ⟨m1, rfl⟩⟩ := hrel
  cases gk with
  | zero => exact absurd HA.out (by simp [laws_gcd.l0])
  | succ k1 =>
   have H := HA.out; clear HA; simp only [laws_gcd.l0] at H
   by_cases c3 : x1_1 > 0
   ·rw [if_pos c3] at H
    have c3b0 : decide (0 < x1_1) = true := decide_eq_true c3
    clear c3
    by_cases c4 : x1_1 = 0
    ·rw [if_pos c4] at H
     cases H
    rw [if_neg c4] at H
    have H' := A_ H
    clear H
    go_wp2
    go_roundg k1
    case measure => have := HK1.out; omega
    case rel => exact ⟨(x1_1), (Int.tmod x0_1 x1_1), (by rfl), (by rfl), H', ⟨by have := HK1.out; omega⟩, by repeat (first | exact Drawn0.refl _ | apply Drawn0.step)⟩
   rw [if_neg c3] at H
   have c3b0 : decide (0 < x1_1) = false := decide_eq_false c3
   clear c3; obtain rfl := Option.some.inj H
   go_wp2
   go_ret
   exact ⟨by rfl, by repeat (first | exact Drawn0.refl _ | apply Drawn0.step)⟩
def laws_at.f (l0 : List Int) (a1 : Int) : Option (Int) := if a1 < (l0.length : Int) then (if 0 ≤ a1 then (some (wrap64 (rd l0 a1))) else (none)) else (some (Int.tmod (wrap64 ((wrap64 (a1 * 37)) + (wrap64 ((l0.length : Int) * 11)))) 256))
theorem laws_at.calls (A0 : Option Addr) (c0 : Nat) (l0 : List Int) (a1 : Int) (r : Int) (w : World) (hr0 : Kd.C (Kd.int .u8) w A0 l0.length l0) (hc0 : l0.length ≤ c0) (h : laws_at.f l0 a1 = some r) :
  Calls Tryz.prog 18 #[.slice A0 l0.length c0, .int .i64 a1] w fun e w' => e = .returned (.int .i64 r) ∧ Drawn0 w w' := by
 have HR0 := A_ hr0; clear hr0 hc0; unfold laws_at.f at h; have H := h; clear h
 by_cases c3 : a1 < (l0.length : Int)
 ·rw [if_pos c3] at H; have c3b0 := decide_eq_true c3; clear c3
  by_cases c4 : 0 ≤ a1
  ·rw [if_pos c4] at H; have c4b0 := decide_eq_true c4; clear c4; obtain rfl := Option.some.inj H
   have p805 : 0 ≤ (a1 : Int) := od_ (by assumption)
   have q805 : a1 < (l0.length : Int) := od_ (by assumption)
   obtain ⟨ad805, e805, hx805_0⟩ := Kd.at_int HR0.out a1 p805 q805
   cases e805
   replace p805 := eq_true p805; replace q805 := eq_true q805; go_enter Tryz.func18, Tryz.ntmps18
   go_wp2
   go_ret
   exact ⟨by rfl, by repeat (first | exact Drawn0.refl _ | apply Drawn0.step)⟩
  rw [if_neg c4] at H
  cases H
 rw [if_neg c3] at H; have c3b0 := decide_eq_false c3; clear c3; obtain rfl := Option.some.inj H; go_enter Tryz.func18, Tryz.ntmps18
 go_wp2
 go_ret
 exact ⟨by rfl, by repeat (first | exact Drawn0.refl _ | apply Drawn0.step)⟩

def impl_IsWord.f (k : Nat) (l0 : List Int) (a1 : Int) : Option (Bool) := if a1 ≥ 1 then (if a1 ≤ 16 then (if (l0.length : Int) ≤ 400 then ((impl_areLetters.f k l0 a1).bind fun t806 => (some t806)) else (some false)) else (some false)) else (some false)
theorem impl_IsWord.calls (k : Nat) (A0 : Option Addr) (c0 : Nat) (l0 : List Int) (a1 : Int) (r : Bool) (w : World) (hr0 : Kd.C (Kd.int .i64) w A0 l0.length l0) (hc0 : l0.length ≤ c0) (h : impl_IsWord.f k l0 a1 = some r) :
  Calls Tryz.prog 50 #[.slice A0 l0.length c0, .int .i64 a1] w fun e w' => e = .returned (.bool r) ∧ Drawn0 w w' := by
 have HR0 := A_ hr0; have HC0 := A_ hc0; clear hr0 hc0; unfold impl_IsWord.f at h; have H := h; clear h
 by_cases c3 : a1 ≥ 1
 ·rw [if_pos c3] at H
  have c3b0 : decide (1 ≤ a1) = true := decide_eq_true c3
  clear c3
  by_cases c4 : a1 ≤ 16
  ·rw [if_pos c4] at H; have c4b0 := decide_eq_true c4; clear c4
   by_cases c5 : (l0.length : Int) ≤ 400
   ·rw [if_pos c5] at H; have c5b0 := decide_eq_true c5
    clear c5; replace H := bA_ H; obtain ⟨t806, A6, H⟩ := H; obtain rfl := Option.some.inj H; go_enter Tryz.func50, Tryz.ntmps50
    go_wp2_with (first | (go_at_call 30; (with_reducible refine (impl_areLetters.calls k _ _ l0 a1 t806 _ ?side1 ?side2 A6.out).mono ?_); (case side1 => repeat (first | exact HR0.out | (with_reducible refine Kd.C_alloc ?_ _) | (with_reducible refine Kd.C_drewN ?_ _) | (with_reducible refine Kd.C_drew ?_))); (case side2 => exact HC0.out); rintro e w' ⟨rfl, ⟨nd, rfl⟩⟩))
    go_ret
    exact ⟨by rfl, by repeat (first | exact Drawn0.refl _ | apply Drawn0.step)⟩
   rw [if_neg c5] at H; have c5b0 := decide_eq_false c5
   clear c5; obtain rfl := Option.some.inj H; go_enter Tryz.func50, Tryz.ntmps50
   go_wp2
   go_ret
   exact ⟨by rfl, by repeat (first | exact Drawn0.refl _ | apply Drawn0.step)⟩
  rw [if_neg c4] at H; have c4b0 := decide_eq_false c4; clear c4; obtain rfl := Option.some.inj H; go_enter Tryz.func50, Tryz.ntmps50
  go_wp2
  go_ret
  exact ⟨by rfl, by repeat (first | exact Drawn0.refl _ | apply Drawn0.step)⟩
 rw [if_neg c3] at H
 have c3b0 : decide (1 ≤ a1) = false := decide_eq_false c3
 clear c3; obtain rfl := Option.some.inj H; go_enter Tryz.func50, Tryz.ntmps50
 go_wp2
 go_ret
 exact ⟨by rfl, by repeat (first | exact Drawn0.refl _ | apply Drawn0.step)⟩

def impl_isShort.f (k : Nat) (l0 : List Int) (a1 : Int) : Option (Bool) := if (l0.length : Int) ≤ a1 then ((impl_IsWord.f k l0 16).bind fun t807 => (some t807)) else (some false)
theorem impl_isShort.calls (k : Nat) (A0 : Option Addr) (c0 : Nat) (l0 : List Int) (a1 : Int) (r : Bool) (w : World) (hr0 : Kd.C (Kd.int .i64) w A0 l0.length l0) (hc0 : l0.length ≤ c0) (h : impl_isShort.f k l0 a1 = some r) :
  Calls Tryz.prog 39 #[.slice A0 l0.length c0, .int .i64 a1] w fun e w' => e = .returned (.bool r) ∧ Drawn0 w w' := by
 have HR0 := A_ hr0; have HC0 := A_ hc0; clear hr0 hc0; unfold impl_isShort.f at h; have H := h; clear h
 by_cases c3 : (l0.length : Int) ≤ a1
 ·rw [if_pos c3] at H; have c3b0 := decide_eq_true c3; clear c3; replace H := bA_ H; obtain ⟨t807, A4, H⟩ := H; obtain rfl := Option.some.inj H; go_enter Tryz.func39, Tryz.ntmps39
  go_wp2_with (first | (go_at_call 50; (with_reducible refine (impl_IsWord.calls k _ _ l0 16 t807 _ ?side1 ?side2 A4.out).mono ?_); (case side1 => repeat (first | exact HR0.out | (with_reducible refine Kd.C_alloc ?_ _) | (with_reducible refine Kd.C_drewN ?_ _) | (with_reducible refine Kd.C_drew ?_))); (case side2 => exact HC0.out); rintro e w' ⟨rfl, ⟨nd, rfl⟩⟩))
  go_ret
  exact ⟨by rfl, by repeat (first | exact Drawn0.refl _ | apply Drawn0.step)⟩
 rw [if_neg c3] at H; have c3b0 := decide_eq_false c3; clear c3; obtain rfl := Option.some.inj H; go_enter Tryz.func39, Tryz.ntmps39
 go_wp2
 go_ret
 exact ⟨by rfl, by repeat (first | exact Drawn0.refl _ | apply Drawn0.step)⟩

def impl_IsPalindrome.l0 : Nat → List Int → Int → Int → Option (Bool)
 | 0, _, _, _ => none
 | k + 1, x0, x6, x7 => if x7 < x6 then (if 0 ≤ x7 then (if x7 < (x0.length : Int) then (if 0 ≤ (wrap64 ((wrap64 ((x0.length : Int) - 1)) - x7)) then (if (wrap64 ((wrap64 ((x0.length : Int) - 1)) - x7)) < (x0.length : Int) then (if (rd x0 x7) = (rd x0 (wrap64 ((wrap64 ((x0.length : Int) - 1)) - x7))) then (impl_IsPalindrome.l0 k x0 x6 (wrap64 (x7 + 1))) else (some false)) else (none)) else (none)) else (none)) else (none)) else (some true)
def impl_IsPalindrome.f (k : Nat) (l0 : List Int) : Option (Bool) := impl_IsPalindrome.l0 k l0 (wrap64 ((l0.length : Int) / 2)) 0
theorem impl_IsPalindrome.calls (k : Nat) (A0 : Option Addr) (c0 : Nat) (l0 : List Int) (r : Bool) (w : World) (hr0 : Kd.C (Kd.int .i64) w A0 l0.length l0) (hc0 : l0.length ≤ c0) (h : impl_IsPalindrome.f k l0 = some r) :
  Calls Tryz.prog 53 #[.slice A0 l0.length c0] w fun e w' => e = .returned (.bool r) ∧ Drawn0 w w' := by
 have HR0 := A_ hr0; clear hr0 hc0; unfold impl_IsPalindrome.f at h; have H := h; clear h
 have H' := A_ H
 clear H; go_enter Tryz.func53, Tryz.ntmps53
 go_wp2
 repeat (go_quiet (fail); try go_wp2)
 go_loopg [7] k (fun kq v7 w' => ∃ (x7_1 : Int), v7 = .int .i64 x7_1 ∧ Aside0 (impl_IsPalindrome.l0 kq l0 (wrap64 ((l0.length : Int) / 2)) x7_1 = some r) ∧ Aside0 (kq ≤ k) ∧ Drawn0 w w')
 case atStart => exact ⟨(0), (by rfl), H', ⟨Nat.le_refl _⟩, by repeat (first | exact Drawn0.refl _ | apply Drawn0.step)⟩
 case round =>
  clear H'; obtain ⟨x7_1, rfl, HA, HK1, ⟨m1, rfl⟩⟩ := hrel
  cases gk with
  | zero => exact absurd HA.out (by simp [impl_IsPalindrome.l0])
  | succ k1 =>
   have H := HA.out; clear HA; simp only [impl_IsPalindrome.l0] at H
   by_cases c2 : x7_1 < (wrap64 ((l0.length : Int) / 2))
   ·rw [if_pos c2] at H; have c2b0 := decide_eq_true c2; clear c2
    by_cases c3 : 0 ≤ x7_1
    ·rw [if_pos c3] at H; have c3b0 := decide_eq_true c3; clear c3
     by_cases c4 : x7_1 < (l0.length : Int)
     ·rw [if_pos c4] at H; have c4b0 := decide_eq_true c4; clear c4; obtain ⟨ji5, hji5⟩ : ∃ j_ : Int, (wrap64 ((wrap64 ((l0.length : Int) - 1)) - x7_1)) = j_ := ⟨_, rfl⟩; replace H : (if 0 ≤ (ji5) then (if (ji5) < (l0.length : Int) then (if (rd l0 x7_1) = (rd l0 (ji5)) then (impl_IsPalindrome.l0 k1 l0 (wrap64 ((l0.length : Int) / 2)) (wrap64 (x7_1 + 1))) else (some false)) else (none)) else (none)) = some r := by first | (rw [hji5] at H; exact H) | (simp only [hji5] at H ⊢; exact H)
      have hji5w : (IntKind.i64.wrap ((wrap64 ((l0.length : Int) - 1)) - x7_1)) = ji5 := (i64_w _).trans hji5
      by_cases c6 : 0 ≤ (ji5)
      ·rw [if_pos c6] at H; have c6b0 := decide_eq_true c6; clear c6
       by_cases c7 : (ji5) < (l0.length : Int)
       ·rw [if_pos c7] at H; have c7b0 := decide_eq_true c7; clear c7
        by_cases c8 : (rd l0 x7_1) = (rd l0 (ji5))
        ·rw [if_pos c8] at H
         have c8b0 : ((rd l0 x7_1) == (rd l0 (ji5))) = true := beq_iff_eq.mpr c8
         have c8b1 : ((rd l0 x7_1) != (rd l0 (ji5))) = false := bne_eq_false_iff_eq.mpr c8
         clear c8
         have H' := A_ H
         clear H
         have p808 : 0 ≤ (x7_1 : Int) := od_ (by assumption)
         have q808 : x7_1 < (l0.length : Int) := od_ (by assumption)
         obtain ⟨ad808, e808, hx808_0⟩ := Kd.at_int HR0.out x7_1 p808 q808
         cases e808
         replace p808 := eq_true p808; replace q808 := eq_true q808
         have p809 : 0 ≤ ((ji5) : Int) := od_ (by assumption)
         have q809 : (ji5) < (l0.length : Int) := od_ (by assumption)
         obtain ⟨ad809, e809, hx809_0⟩ := Kd.at_int HR0.out (ji5) p809 q809; obtain rfl : ad808 = ad809 := (by injection e809); replace p809 := eq_true p809; replace q809 := eq_true q809
         go_wp2
         repeat (go_quiet (fail); try go_wp2)
         (try subst hji5)
         go_roundg k1
         case measure => have := HK1.out; omega
         case rel => exact ⟨(wrap64 (x7_1 + 1)), (by rfl), H', ⟨by have := HK1.out; omega⟩, by repeat (first | exact Drawn0.refl _ | apply Drawn0.step)⟩
        rw [if_neg c8] at H
        have c8b1 : ((rd l0 x7_1) != (rd l0 (ji5))) = true := bne_iff_ne.mpr c8
        obtain rfl := Option.some.inj H
        have p808 : 0 ≤ (x7_1 : Int) := od_ (by assumption)
        have q808 : x7_1 < (l0.length : Int) := od_ (by assumption)
        obtain ⟨ad808, e808, hx808_0⟩ := Kd.at_int HR0.out x7_1 p808 q808
        cases e808
        replace p808 := eq_true p808; replace q808 := eq_true q808
        have p809 : 0 ≤ ((ji5) : Int) := od_ (by assumption)
        have q809 : (ji5) < (l0.length : Int) := od_ (by assumption)
        obtain ⟨ad809, e809, hx809_0⟩ := Kd.at_int HR0.out (ji5) p809 q809; obtain rfl : ad808 = ad809 := (by injection e809); replace p809 := eq_true p809; replace q809 := eq_true q809
        go_wp2
        repeat (go_quiet (fail); try go_wp2)
        go_ret
        exact ⟨by first | rfl | (simp; done) | (simp only [← hji5] <;> (first | rfl | simp)) | (simp [*]; done), by repeat (first | exact Drawn0.refl _ | apply Drawn0.step)⟩
       rw [if_neg c7] at H
       cases H
      rw [if_neg c6] at H
      cases H
     rw [if_neg c4] at H
     cases H
    rw [if_neg c3] at H
    cases H
   rw [if_neg c2] at H; have c2b0 := decide_eq_false c2; clear c2; obtain rfl := Option.some.inj H
   go_wp2
   repeat (go_quiet (fail); try go_wp2)
   go_ret
   exact ⟨by rfl, by repeat (first | exact Drawn0.refl _ | apply Drawn0.step)⟩

def slices_Equal_int_int.l0 : Nat → List Int → List Int → Int → Int → Option (Bool)
 | 0, _, _, _, _ => none
 | k + 1, x0, x1, x12, x13 => if x13 < x12 then (if 0 ≤ x13 then (if x13 < (x0.length : Int) then (if x13 < (x1.length : Int) then (if (rd x0 x13) = (rd x1 x13) then (slices_Equal_int_int.l0 k x0 x1 x12 (wrap64 (x13 + 1))) else (some false)) else (none)) else (none)) else (none)) else (some true)
def slices_Equal_int_int.f (k : Nat) (l0 : List Int) (l1 : List Int) : Option (Bool) := if (l0.length : Int) = (l1.length : Int) then (slices_Equal_int_int.l0 k l0 l1 (l0.length : Int) 0) else (some false)
theorem slices_Equal_int_int.calls (k : Nat) (A0 : Option Addr) (c0 : Nat) (l0 : List Int) (A1 : Option Addr) (c1 : Nat) (l1 : List Int) (r : Bool) (w : World) (hr0 : Kd.C (Kd.int .i64) w A0 l0.length l0) (hc0 : l0.length ≤ c0) (hr1 : Kd.C (Kd.int .i64) w A1 l1.length l1) (hc1 : l1.length ≤ c1) (h : slices_Equal_int_int.f k l0 l1 = some r) :
  Calls Tryz.prog 60 #[.slice A0 l0.length c0, .slice A1 l1.length c1] w fun e w' => e = .returned (.bool r) ∧ Drawn0 w w' := by
 have HR0 := A_ hr0; clear hr0 hc0; have HR1 := A_ hr1; clear hr1 hc1; unfold slices_Equal_int_int.f at h; have H := h; clear h
 by_cases c3 : (l0.length : Int) = (l1.length : Int)
 ·rw [if_pos c3] at H
  have c3b1 : ((l0.length : Int) != (l1.length : Int)) = false := bne_eq_false_iff_eq.mpr c3
  clear c3
  have H' := A_ H
  clear H; go_enter Tryz.func60, Tryz.ntmps60
  go_wp2
  repeat (go_quiet (fail); try go_wp2)
  go_loopg [13] k (fun kq v13 w' => ∃ (x13_1 : Int), v13 = .int .i64 x13_1 ∧ Aside0 (slices_Equal_int_int.l0 kq l0 l1 (l0.length : Int) x13_1 = some r) ∧ Aside0 (kq ≤ k) ∧ Drawn0 w w')
  case atStart => exact ⟨(0), (by rfl), H', ⟨Nat.le_refl _⟩, by repeat (first | exact Drawn0.refl _ | apply Drawn0.step)⟩
  case round =>
   clear H'
   try skip
   try skip
   try skip
   obtain ⟨x13_1, rfl, HA, HK1, ⟨m1, rfl⟩⟩ := hrel
   cases gk with
   | zero => exact absurd HA.out (by simp [slices_Equal_int_int.l0])
   | succ k1 =>
    have H := HA.out; clear HA; simp only [slices_Equal_int_int.l0] at H
    by_cases c4 : x13_1 < (l0.length : Int)
    ·rw [if_pos c4] at H; have c4b0 := decide_eq_true c4; clear c4
     by_cases c5 : 0 ≤ x13_1
     ·rw [if_pos c5] at H; have c5b0 := decide_eq_true c5; clear c5
      by_cases c6 : x13_1 < (l0.length : Int)
      ·rw [if_pos c6] at H; have c6b0 := decide_eq_true c6; clear c6
       by_cases c7 : x13_1 < (l1.length : Int)
       ·rw [if_pos c7] at H; have c7b0 := decide_eq_true c7; clear c7
        by_cases c8 : (rd l0 x13_1) = (rd l1 x13_1)
        ·rw [if_pos c8] at H
         have c8b1 : ((rd l0 x13_1) != (rd l1 x13_1)) = false := bne_eq_false_iff_eq.mpr c8
         clear c8
         have H' := A_ H
         clear H
         have p810 : 0 ≤ (x13_1 : Int) := od_ (by assumption)
         have q810 : x13_1 < (l0.length : Int) := od_ (by assumption)
         obtain ⟨ad810, e810, hx810_0⟩ := Kd.at_int HR0.out x13_1 p810 q810
         cases e810
         replace p810 := eq_true p810; replace q810 := eq_true q810
         have p811 : 0 ≤ (x13_1 : Int) := od_ (by assumption)
         have q811 : x13_1 < (l1.length : Int) := od_ (by assumption)
         obtain ⟨ad811, e811, hx811_0⟩ := Kd.at_int HR1.out x13_1 p811 q811
         cases e811
         replace p811 := eq_true p811; replace q811 := eq_true q811
         go_wp2
         repeat (go_quiet (fail); try go_wp2)
         go_roundg k1
         case measure => have := HK1.out; omega
         case rel => exact ⟨(wrap64 (x13_1 + 1)), (by rfl), H', ⟨by have := HK1.out; omega⟩, by repeat (first | exact Drawn0.refl _ | apply Drawn0.step)⟩
        rw [if_neg c8] at H
        have c8b1 : ((rd l0 x13_1) != (rd l1 x13_1)) = true := bne_iff_ne.mpr c8
        obtain rfl := Option.some.inj H
        have p810 : 0 ≤ (x13_1 : Int) := od_ (by assumption)
        have q810 : x13_1 < (l0.length : Int) := od_ (by assumption)
        obtain ⟨ad810, e810, hx810_0⟩ := Kd.at_int HR0.out x13_1 p810 q810
        cases e810
        replace p810 := eq_true p810; replace q810 := eq_true q810
        have p811 : 0 ≤ (x13_1 : Int) := od_ (by assumption)
        have q811 : x13_1 < (l1.length : Int) := od_ (by assumption)
        obtain ⟨ad811, e811, hx811_0⟩ := Kd.at_int HR1.out x13_1 p811 q811
        cases e811
        replace p811 := eq_true p811; replace q811 := eq_true q811
        go_wp2
        repeat (go_quiet (fail); try go_wp2)
        go_ret
        exact ⟨by rfl, by repeat (first | exact Drawn0.refl _ | apply Drawn0.step)⟩
       rw [if_neg c7] at H
       cases H
      rw [if_neg c6] at H
      cases H
     rw [if_neg c5] at H
     cases H
    rw [if_neg c4] at H; have c4b0 := decide_eq_false c4; clear c4; obtain rfl := Option.some.inj H
    go_wp2
    repeat (go_quiet (fail); try go_wp2)
    go_ret
    exact ⟨by rfl, by repeat (first | exact Drawn0.refl _ | apply Drawn0.step)⟩
 rw [if_neg c3] at H
 have c3b1 : ((l0.length : Int) != (l1.length : Int)) = true := bne_iff_ne.mpr c3
 obtain rfl := Option.some.inj H; go_enter Tryz.func60, Tryz.ntmps60
 go_wp2
 repeat (go_quiet (fail); try go_wp2)
 go_ret
 exact ⟨by rfl, by repeat (first | exact Drawn0.refl _ | apply Drawn0.step)⟩
end Go.Proofs.YtmjlmjhccpedmaaGreat.PFnBalance

