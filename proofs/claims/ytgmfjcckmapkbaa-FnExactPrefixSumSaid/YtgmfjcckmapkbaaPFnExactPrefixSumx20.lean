/- Walks of the functions that the law reaches. -/
import Derived.Test.YtgmfjcckmapkbaaPFnExactPrefixSumx19
namespace Go.Proofs.Ytgmfjcckmapkbaa.PFnExactPrefixSum
open Go.RowKit Go.Proofs.YtgmfjcckmapkbaaW.PrintWords Go.Proofs.YtgmfjcckmapkbaaW.PrintLast Go.Proofs.YtgmfjcckmapkbaaW.PrintMore
attribute [local go_sem] max2_int min2_int max_two min_two max_three min_three max_four min_four
set_option linter.unusedVariables false
set_option maxHeartbeats 8000000
set_option maxRecDepth 100000
set_option linter.unusedSimpArgs false

mutual
def impl_digitMatrix.l0 : Nat → Int → Int → List (List Int) → List (List Int) → Int → Int → Option ((List (List Int)))
 | 0, _, _, _, _, _, _ => none
 | k + 1, x8, cK, bE, cI, el, bu => if bu < el then (if 0 ≤ bu then (if bu < (cI.length : Int) then (if bu < (bE.length : Int) then (if 0 ≤ cK then (if cK < ((rd_L1 cI bu).length : Int) then (if 0 ≤ (rd (rd_L1 cI bu) cK) then (if (rd (rd_L1 cI bu) cK) < ((rd_L1 bE bu).length : Int) then (impl_digitMatrix.l1 k x8 cK (bE.set (bu : Int).toNat ((rd_L1 bE bu).set ((rd (rd_L1 cI bu) cK) : Int).toNat (wrap64 ((rd (rd_L1 bE bu) (rd (rd_L1 cI bu) cK)) + 1)))) bu cI el bu (rd_L1 cI bu) ((rd_L1 cI bu).length : Int) 0) else (none)) else (none)) else (none)) else (none)) else (none)) else (none)) else (none)) else (some bE)
def impl_digitMatrix.l1 : Nat → Int → Int → List (List Int) → Int → List (List Int) → Int → Int → List Int → Int → Int → Option ((List (List Int)))
 | 0, _, _, _, _, _, _, _, _, _, _ => none
 | k + 1, x8, cK, bE, bx, cI, el, bu, cD, gs, bW => if bW < gs then (if 0 ≤ bW then (if bW < (cD.length : Int) then (if bW < cK then (if 0 ≤ bx then (if bx < (bE.length : Int) then (if 0 ≤ (wrap64 (x8 + (rd cD bW))) then (if (wrap64 (x8 + (rd cD bW))) < ((rd_L1 bE bx).length : Int) then ((some (bE.set (bx : Int).toNat ((rd_L1 bE bx).set ((wrap64 (x8 + (rd cD bW))) : Int).toNat (wrap64 ((rd (rd_L1 bE bx) (wrap64 (x8 + (rd cD bW)))) + 1))) : List (List Int))).bind fun aG => (if 0 ≤ (wrap64 (x8 + bx)) then (if (wrap64 (x8 + bx)) < (bE.length : Int) then (if (wrap64 (x8 + (rd cD bW))) < ((rd_L1 aG (wrap64 (x8 + bx))).length : Int) then (impl_digitMatrix.l1 k x8 cK (aG.set ((wrap64 (x8 + bx)) : Int).toNat ((rd_L1 aG (wrap64 (x8 + bx))).set ((wrap64 (x8 + (rd cD bW))) : Int).toNat (wrap64 ((rd (rd_L1 aG (wrap64 (x8 + bx))) (wrap64 (x8 + (rd cD bW)))) + 1)))) bx cI el bu cD gs (wrap64 (bW + 1))) else (none)) else (none)) else (none))) else (none)) else (none)) else (none)) else (none)) else (if 0 ≤ (wrap64 (x8 + bx)) then (if (wrap64 (x8 + bx)) < (bE.length : Int) then (if 0 ≤ (wrap64 (x8 + (rd cD bW))) then (if (wrap64 (x8 + (rd cD bW))) < ((rd_L1 bE (wrap64 (x8 + bx))).length : Int) then (impl_digitMatrix.l1 k x8 cK (bE.set ((wrap64 (x8 + bx)) : Int).toNat ((rd_L1 bE (wrap64 (x8 + bx))).set ((wrap64 (x8 + (rd cD bW))) : Int).toNat (wrap64 ((rd (rd_L1 bE (wrap64 (x8 + bx))) (wrap64 (x8 + (rd cD bW)))) + 1)))) bx cI el bu cD gs (wrap64 (bW + 1))) else (none)) else (none)) else (none)) else (none))) else (none)) else (none)) else (impl_digitMatrix.l0 k x8 cK bE cI el (wrap64 (bu + 1)))
end
def impl_digitMatrix.f (k : Nat) (l0 : List (List Int)) (a1 : Int) (a2 : Int) : Option ((List (List Int))) := (impl_square.f k (wrap64 (2 * a1))).bind fun b5 => (impl_digitMatrix.l0 k a1 a2 b5 l0 (l0.length : Int) 0)
def impl_digitMatrix.T19 : Bool × List (List Nat × List Nat) := (true, [([], []), ([], []), ([0, 1], [0, 1]), ([2], [2]), ([], []), ([], []), ([4, 5], [4, 5]), ([6], [6]), ([3, 7], [3, 7]), ([8], [8]), ([9], [9]), ([3, 7, 0, 1, 2, 3, 4, 5, 6, 7, 8, 9, 10], [3, 7]), ([11, 10, 0, 1, 2, 3, 4, 5, 6, 7, 8, 9, 10], [10, 11])])
def impl_digitMatrix.B19 : List Nat := [0, 0, 3, 7, 0, 0, 48, 112, 255, 511, 1023, 2047, 4095]
theorem impl_digitMatrix.tab19 : rtab .any (opsOf Try.f9 19) = impl_digitMatrix.T19 := by kernel_rfl
theorem impl_digitMatrix.bits19 : waitsOk impl_digitMatrix.T19.2 impl_digitMatrix.B19 = true := by kernel_rfl
mutual
def impl_CountingForm2.j0 : Nat → Int → Bool → Int → List (List Int) → List Int → Option (Int × List Int × (List (List (List Int))) × List Int × Bool)
 | 0, _, _, _, _, _ => none
 | k + 1, x1, ik, a4, aK, a5 => if ik = true then (some (0, ([] : List Int), ([] : List (List (List Int))), ([] : List Int), false)) else (if 0 ≤ (wrap64 (2 * (aK.length : Int))) then (if (wrap64 (2 * (aK.length : Int)) : Int).toNat ≤ 35184372088832 then ((some (List.replicate (wrap64 (2 * (aK.length : Int)) : Int).toNat 0 : List Int)).bind fun aM => (if 0 < (aM.length : Int) then (impl_CountingForm2.l0 k x1 (aK.length : Int) a5 (a5.length : Int) 0 a4 aK a5 a4 (aM.set (0 : Int).toNat 1) (List.replicate (wrap64 (2 * (aK.length : Int)) : Int).toNat 0)) else (none))) else (none)) else (none))
def impl_CountingForm2.l0 : Nat → Int → Int → List Int → Int → Int → Int → List (List Int) → List Int → Int → List Int → List Int → Option (Int × List Int × (List (List (List Int))) × List Int × Bool)
 | 0, _, _, _, _, _, _, _, _, _, _, _ => none
 | k + 1, x1, x8, gp, hU, dK, a4, aK, a5, bj, bk, be => if dK < hU then (if 0 ≤ dK then (if dK < (gp.length : Int) then ((impl_oneIf.f ((rd gp dK) == x1)).bind fun b6 => (if 0 ≤ (wrap64 (x8 + dK)) then (if (wrap64 (x8 + dK)) < (be.length : Int) then (impl_CountingForm2.l0 k x1 x8 gp hU (wrap64 (dK + 1)) a4 aK a5 bj bk (be.set ((wrap64 (x8 + dK)) : Int).toNat b6)) else (none)) else (none))) else (none)) else (none)) else (impl_CountingForm2.l1 k x8 a4 0 a4 aK a5 bj bk ([] : List (List (List Int))) be)
def impl_CountingForm2.l1 : Nat → Int → Int → Int → Int → List (List Int) → List Int → Int → List Int → List (List (List Int)) → List Int → Option (Int × List Int × (List (List (List Int))) × List Int × Bool)
 | 0, _, _, _, _, _, _, _, _, _, _ => none
 | k + 1, x8, hV, gq, a4, aK, a5, bj, bk, bF, be => if gq < hV then ((impl_digitMatrix.f k aK x8 gq).bind fun a6 => (if bF.length < 5864062014805 then (impl_CountingForm2.l1 k x8 hV (wrap64 (gq + 1)) a4 aK a5 bj bk (bF ++ [a6]) be) else (none))) else (some (bj, bk, bF, be, true))
end
def impl_CountingForm2.f (k : Nat) (bl : Int) (a9 : List (List Int)) (ba : List Int) (a1 : Int) (a2 : Bool) : Option (Int × List Int × (List (List (List Int))) × List Int × Bool) := if a2 = true then ((impl_isTerm.f a1).bind fun cH => (impl_CountingForm2.j0 k a1 (!cH) bl a9 ba)) else (impl_CountingForm2.j0 k a1 true bl a9 ba)
def impl_CountingForm2.T5 : Bool × List (List Nat × List Nat) := (true, [([], []), ([0], [0]), ([], []), ([2], [2]), ([3, 3], [3]), ([], []), ([5], [5]), ([6, 6], [6]), ([1, 4, 7], [1, 4, 7]), ([], []), ([9, 8, 0, 1, 2, 3, 4, 5, 6, 7, 8, 9], [8, 9])])
def impl_CountingForm2.B5 : List Nat := [0, 1, 0, 4, 12, 0, 32, 96, 255, 0, 1023]
theorem impl_CountingForm2.tab5 : rtab .any (opsOf Try.f9 5) = impl_CountingForm2.T5 := by kernel_rfl
theorem impl_CountingForm2.bits5 : waitsOk impl_CountingForm2.T5.2 impl_CountingForm2.B5 = true := by kernel_rfl
def impl_CountingForm2.T10 : Bool × List (List Nat × List Nat) := (true, [([], []), ([0], [0]), ([], []), ([], []), ([2, 3], [2, 3]), ([], []), ([], []), ([5, 6], [5, 6]), ([7], [7]), ([1, 4, 0, 1, 2, 3, 4, 5, 6, 7, 8], [1, 4]), ([9, 8, 8, 0, 1, 2, 3, 4, 5, 6, 7, 8], [8, 9])])
def impl_CountingForm2.B10 : List Nat := [0, 1, 0, 0, 12, 0, 0, 96, 224, 511, 1023]
theorem impl_CountingForm2.tab10 : rtab .any (opsOf Try.f9 10) = impl_CountingForm2.T10 := by kernel_rfl
theorem impl_CountingForm2.bits10 : waitsOk impl_CountingForm2.T10.2 impl_CountingForm2.B10 = true := by kernel_rfl
def impl_CountingForm.f (k : Nat) (bl : Int) (a9 : List (List Int)) (ba : List Int) (a1 : Int) : Option (Int × List Int × (List (List (List Int))) × List Int × Bool) := (impl_MinimalForm.f k bl a9 ba).bind fun t => impl_CountingForm2.f k t.1 t.2.1 t.2.2.1 a1 t.2.2.2
theorem impl_CountingForm.calls1 (k : Nat) (bl : Int) (P0_1_ : Nat → Prop) (bG : Option Addr) (bJ : Nat) (a9 : List (List Int)) (bX : Option Addr) (bZ : Nat) (ba : List Int) (a1 : Int) (r1 : Int) (r2 : List Int) (r3 : List (List (List Int))) (r4 : List Int) (r5 : Bool) (w : World) (hs0_1 : Kd.V (Kd.slice 3 (Kd.int .i64)) 23 w w.heap.size (fun k_ => P0_1_ k_) (.slice bG a9.length bJ) a9) (cw : Kd.C (Kd.int .i64) w bX ba.length ba) (cc : ba.length ≤ bZ) (av : Int) (ab : List (List Int)) (aw : List Int) (dg : Bool) (hm_ : impl_MinimalForm.f k bl a9 ba = some (av, ab, aw, dg)) (hc_ : impl_CountingForm2.f k av ab aw a1 dg = some (r1, r2, r3, r4, r5)) :
  Calls Try.prog 9 #[.agg #[.int .i64 bl, .slice bG a9.length bJ, .slice bX ba.length bZ], .int .i64 a1] w fun e w' => ∃ wb : World, Below w.heap.size w wb ∧ ∃ v1_ v2_ v3_ : Value, e = .returned (.tuple #[.agg #[.int .i64 r1, v1_, v2_, v3_], .bool r5]) ∧ Kd.R (Kd.int .i64) 3 w' wb.heap.size (o1 v3_) v1_ r2 ∧ Kd.R (Kd.slice 23 (Kd.slice 3 (Kd.int .i64))) 22 w' wb.heap.size (o2 v1_ v3_) v2_ r3 ∧ Kd.R (Kd.int .i64) 3 w' wb.heap.size (o1 v1_) v3_ r4 ∧ Below w.heap.size w w' := by
 have hu29 := Try.underlying29; have hu32 := Try.underlying32; have bw := A_ (show Kd.V (Kd.slice 3 (Kd.int .i64)) 23 w w.heap.size (fun k_ => (P0_1_ k_ ∨ w.heap.size ≤ k_)) (.slice bG a9.length bJ) a9 from Kd.V_mono hs0_1 (fun k_ hk => .inl hk)); have dI := A_ cw; have dG := A_ cc; clear cw cc; have HB := A_ (Below.refl w.heap.size w); have A3 := A_ hm_; have HH := A_ hc_; clear hm_ hc_
 have H : (if dg = true then ((impl_isTerm.f a1).bind fun cH => (impl_CountingForm2.j0 k a1 (!cH) av ab aw)) else (impl_CountingForm2.j0 k a1 true av ab aw)) = some (r1, r2, r3, r4, r5) := HH.o
 have HC4 := A_ H; clear H; go_enter Try.func9, Try.ntmps9
 go_upto_region 2 with (first | ((with_reducible refine gate_dst (N := 2) rfl ?_); refine box_event rfl (N := 2) rfl (cs := #[.int .i64 bl, .slice bG a9.length bJ, .slice bX ba.length bZ]) (t := 32) (by go_simp; done) ?_; intro dJ hg w4 hbox hb; replace bw := A_ (Kd.V_below (Kd.V_elderB bw.o dJ (Nat.le_of_eq hg.symm)) hb); have bv := A_ (hbox); have en := A_ (lg_ (below_size HB.o) hg); have em := A_ (lg_ (below_size HB.o) hg); replace HB := bs_ HB hb; clear hb hbox hg) | ((with_reducible refine gate_dst (N := 4) rfl ?_); refine box_event rfl (N := 4) rfl (cs := #[.int .i64 0, .slice none 0 0, .slice none 0 0, .slice none 0 0]) (t := 29) (by go_simp; done) ?_; intro aH hg w5 hbox hb; replace bw := A_ (Kd.V_below (Kd.V_elderB bw.o aH (Nat.le_of_eq hg.symm)) hb); have ae := A_ (hbox); have gt := A_ (lg_ (below_size HB.o) hg); have bq := A_ (lg_ (below_size HB.o) hg); replace HB := bs_ HB hb; have cF := nl_ bv hg; have cE := ng_ bv hg; replace bv := bb_ bv hb; clear hb hbox hg; have h5 := cF.o; have h7 := cE.o; have fY := bq3 bv.o) | ((with_reducible refine gc_ 25 rfl ?_); refine cM_ E25 20 (impl_MinimalForm.calls k bl (fun k_ => (((P0_1_ k_ ∨ w.heap.size ≤ k_) ∧ k_ ≠ dJ) ∧ k_ ≠ aH)) _ _ a9 _ _ ba av ab aw dg _ bw.o (Kd.C_below dI.o HB.o) dG.o A3.o) ?_; rintro e wb ⟨ie, ig, rfl, ho0, ho1, hb⟩; refine ⟨_, rfl, ?_⟩; obtain ⟨At, ct, et_⟩ := Kd.N_slice ho0; subst et_; obtain ⟨Au, cu, eu_⟩ := Kd.R_slice ho1; subst eu_; have HRa := A_ (Kd.N_reads' ho0).2.2; have HCa := A_ (Kd.N_reads' ho0).2.1; have HRb := A_ (Kd.R_reads' ho1).2.2; have HCb := A_ (Kd.R_reads' ho1).2.1; have BKn_ := bb_ ae hb; have HBW := bs_ HB hb; clear ae HB bw dI dG bv en em; have ae := BKn_; clear BKn_; have HB := A_ (Below.refl wb.heap.size wb)) | ((with_reducible refine gate_dst (N := 6) rfl ?_); refine box_event rfl (N := 6) rfl (cs := #[.int .i64 0, .slice none 0 0, .slice none 0 0]) (t := 32) (by go_simp; done) ?_; intro ao hg w6 hbox hb; have ac := A_ (hbox); have gu := A_ ((by rw [hg]; exact (below_size HB.o) : wb.heap.size ≤ ao)); have bI := A_ ((by rw [hg]; exact (below_size HB.o) : wb.heap.size ≤ ao)); replace HB := bs_ HB hb; have aC := nl_ ae hg; have aX := ng_ ae hg; replace ae := bb_ ae hb; clear hb hbox hg; have h6 := aX.o; have h8 := aC.o; have d3 := bq3 ac.o))
 (try simp only [Act.put, mD, mE, mF])
 go_cut [29] (fun h9 wc => ∃ (kq : Nat) (cC : Bool), h9 = .bool cC ∧ Aside0 (impl_CountingForm2.j0 kq a1 cC av ab aw = some (r1, r2, r3, r4, r5)) ∧ Aside0 (kq ≤ k) ∧ Aside0 (wc.heap[aH]? = some (.cells #[.int .i64 0, (.slice none 0 0), (.slice none 0 0), (.slice none 0 0)] 29 (0, 0))) ∧ Aside0 (wc.heap[ao]? = some (.cells #[.int .i64 av, (.slice At ab.length ct), (.slice Au aw.length cu)] 32 (0, 0))) ∧ Aside0 (Below wb.heap.size wb wc))
 case first =>
  have H := HC4.o; clear HC4
  by_cases c9 : dg = true
  ·subst c9; rw [if_pos rfl] at H; replace H := bA_ H; obtain ⟨cH, A10, H⟩ := H
   have H' := A_ H
   clear H
   go_wp2_with (first | (go_at_call 26; (with_reducible refine (impl_isTerm.calls a1 cH _ A10.o).mono ?_); rintro e w' ⟨rfl, ⟨nd, rfl⟩⟩))
   go_meet
   case rel => exact ⟨_, (!cH), (by rfl), H', ⟨by omega⟩, ⟨by (with_reducible repeat (first | refine blk_drewN ?_ _ | refine blk_drew ?_ | refine blk_alloc ?_ _)); exact fa_ aC (fa_ aC (fa_ aC ae.o))⟩, ⟨by (with_reducible repeat (first | refine blk_drewN ?_ _ | refine blk_drew ?_ | refine blk_alloc ?_ _)); exact pu_ 2 (pu_ 1 (pu_ 0 ac.o rfl) rfl) rfl⟩, ⟨by repeat (first | (with_reducible first | exact HB.o | apply below_alloc | apply pw_below_drewN | apply below_drew1 | refine below_set ?_ bq.o | refine below_set ?_ bI.o) | exact HB.o)⟩⟩
  replace c9 := Bool.eq_false_iff.mpr c9; subst c9; rw [if_neg nf_] at H
  have H' := A_ H
  clear H
  go_wp2
  go_meet
  case rel => exact ⟨_, (true), (by rfl), H', ⟨by omega⟩, ⟨by exact fa_ aC (fa_ aC (fa_ aC ae.o))⟩, ⟨by exact pu_ 2 (pu_ 1 (pu_ 0 ac.o rfl) rfl) rfl⟩, ⟨by repeat (first | (with_reducible first | exact HB.o | apply below_alloc | apply pw_below_drewN | apply below_drew1 | refine below_set ?_ bq.o | refine below_set ?_ bI.o) | exact HB.o)⟩⟩
 case rest =>
  clear HC4
  try clear d3
  obtain ⟨kq, cC, rfl, HA, fd, ae, ac, HB⟩ := hcut
  cases kq with
  | zero => exact nz_ HA.o
  | succ kj3 =>
   have H := HA.o; clear HA; simp only [impl_CountingForm2.j0] at H
   by_cases c11 : cC = true
   ·subst c11; rw [if_pos rfl] at H; simp only [Option.some.injEq, Prod.mk.injEq] at H; obtain ⟨rfl, rfl, rfl, rfl, rfl⟩ := H; have gY := aC.o; have hv := aX.o; have ff := bq4 ae.o
    go_wp2
    refine bodyPost_ret (results_ct rfl _ _ aH 29 #[.int .i64 0, .slice none 0 0, .slice none 0 0, .slice none 0 0] (0, 0) _ rfl (by exact pu_ 3 (pu_ 2 (pu_ 1 (pu_ 0 ae.o rfl) rfl) rfl) rfl) Try.underlying29 rfl (by kernel_rfl)) rfl ?_; exact ⟨wb, HBW.o, _, _, _, by rfl, by exact Kd.R_nil _ _ _ _ _, by exact Kd.R_nil _ _ _ _ _, by exact Kd.R_nil _ _ _ _ _, by repeat (first | (with_reducible first | exact (below_step HBW.o HB.o) | apply below_alloc | apply pw_below_drewN | apply below_drew1 | refine below_set ?_ bq.o) | exact (below_step HBW.o HB.o))⟩
   replace c11 := Bool.eq_false_iff.mpr c11; subst c11; rw [if_neg nf_] at H; obtain ⟨aW, bf⟩ : ∃ j_ : Int, (wrap64 (2 * (ab.length : Int))) = j_ := ⟨_, rfl⟩; replace H : (if 0 ≤ (aW) then (if (aW : Int).toNat ≤ 35184372088832 then ((some (List.replicate (aW : Int).toNat 0 : List Int)).bind fun aM => (if 0 < (aM.length : Int) then (impl_CountingForm2.l0 kj3 a1 (ab.length : Int) aw (aw.length : Int) 0 av ab aw av (aM.set (0 : Int).toNat 1) (List.replicate (aW : Int).toNat 0)) else (none))) else (none)) else (none)) = some (r1, r2, r3, r4, r5) := by first | (rw [bf] at H; exact H) | (simp only [bf] at H ⊢; exact H)
   have f3 : (IntKind.i64.wrap (2 * (ab.length : Int))) = aW := (i64_w _).trans bf
   by_cases c15 : 0 ≤ (aW)
   ·rw [if_pos c15] at H; have gC := eq_true c15; have gD := decide_eq_true c15; clear c15
    by_cases c16 : (aW : Int).toNat ≤ 35184372088832
    ·rw [if_pos c16] at H; have gE := eq_true c16; have gF := decide_eq_true c16; clear c16; obtain ⟨aM, cZ⟩ := ex_ ((List.replicate (aW : Int).toNat 0) : List Int); replace H : (if 0 < (aM.length : Int) then (impl_CountingForm2.l0 kj3 a1 (ab.length : Int) aw (aw.length : Int) 0 av ab aw av (aM.set (0 : Int).toNat 1) (List.replicate (aW : Int).toNat 0)) else (none)) = some (r1, r2, r3, r4, r5) := by (have H2_ := (Option.bind_some _ _).symm.trans H; rw [cZ]; with_reducible exact H2_)
     have ca := A_ cZ; clear cZ; obtain ⟨bb, da⟩ := ex_ ((List.replicate (aW : Int).toNat 0) : List Int); replace H : (if 0 < (aM.length : Int) then (impl_CountingForm2.l0 kj3 a1 (ab.length : Int) aw (aw.length : Int) 0 av ab aw av (aM.set (0 : Int).toNat 1) bb) else (none)) = some (r1, r2, r3, r4, r5) := by (rw [da]; with_reducible exact H)
     have cb := A_ da; clear da
     by_cases c17 : 0 < (aM.length : Int)
     ·rw [if_pos c17] at H; have gG := decide_eq_true c17
      have gH : decide (0 < aM.length) = true := decide_eq_true (by omega)
      clear c17; obtain ⟨ek, db⟩ := ex_ ((aM.set (0 : Int).toNat 1) : List Int); replace H : (impl_CountingForm2.l0 kj3 a1 (ab.length : Int) aw (aw.length : Int) 0 av ab aw av ek bb) = some (r1, r2, r3, r4, r5) := by (rw [db]; with_reducible exact H)
      have ez := A_ db; clear db
      have H' := A_ H
      clear H; have gZ := aX.o; have hx := aC.o; have fg := bq3 ac.o
      try go_wp2
      replace ae := A_ (blk_drew ae.o); replace ac := A_ (blk_drew ac.o); replace HB := A_ (below_drew1 HB.o); refine start_ (n := 11) (S := fun w' => w'.cell? ⟨ao, 0, none⟩ = some (.int .i64 av) ∧ w'.cell? ⟨ao, 1, none⟩ = some (.slice At ab.length ct) ∧ w'.cell? ⟨ao, 2, none⟩ = some (.slice Au aw.length cu)) (ds := []) (mk_ 11 0) (by kernel_rfl) rfl rfl (bc3 ac) (fun al => ?_); refine with_tabW impl_CountingForm2.tab5 impl_CountingForm2.bits5 (fun aZ dR => ?_)
      generalize wc.drew = w21 at ae ac HB al ⊢
      refine pw_ 0 34 (mk_ 11 1) aZ ?_; refine pw_ 2 36 (mk_ 11 5) aZ ?_; refine pw_ 3 37 (mk_ 11 13) aZ ?_; refine pw_ 5 39 (mk_ 11 45) aZ ?_; refine pw_ 6 40 (mk_ 11 109) aZ ?_; refine tk_ 1 35 (mk_ 11 111) aZ dR al ?_; refine join_ (σ := Value × Value × Nat) 1 (mk_ 11 1023) (fun s_ => [(38, s_.1), (41, s_.2.1), (9, .pointer (some ⟨s_.2.2, 0, none⟩)), (42, .agg #[.int .i64 av, s_.1, .slice none 0 0, s_.2.1])]) (fun s_ w' => (w'.cell? ⟨ao, 0, none⟩ = some (.int .i64 av) ∧ w'.cell? ⟨ao, 1, none⟩ = some (.slice At ab.length ct) ∧ w'.cell? ⟨ao, 2, none⟩ = some (.slice Au aw.length cu)) ∧ (Kd.R (Kd.int .i64) 3 w' wb.heap.size (o1 s_.2.1) s_.1 aM) ∧ (Kd.R (Kd.int .i64) 3 w' wb.heap.size (o1 s_.1) s_.2.1 bb) ∧ (w'.heap[aH]? = some (.cells #[.int .i64 0, .slice none 0 0, .slice none 0 0, .slice none 0 0] 29 (0, 0))) ∧ (w'.heap[ao]? = some (.cells #[.int .i64 av, .slice At ab.length ct, .slice Au aw.length cu] 32 (0, 0))) ∧ (w'.heap[s_.2.2]? = some (.cells #[.int .i64 0, .slice none 0 0, .slice none 0 0, .slice none 0 0] 29 (0, 0))) ∧ (wb.heap.size ≤ s_.2.2) ∧ (wb.heap.size ≤ s_.2.2) ∧ (aH ≠ s_.2.2) ∧ (s_.2.2 ≠ aH) ∧ (ao ≠ s_.2.2) ∧ (s_.2.2 ≠ ao) ∧ (Below wb.heap.size wb w')) ?_ ?_; rotate_left
      ·intro hJ4_7_9; refine join_ (σ := Value × Value) 2 (mk_ 11 511) (fun s_ => [(38, s_.1), (41, s_.2), (42, .agg #[.int .i64 av, s_.1, .slice none 0 0, s_.2])]) (fun s_ w' => (w'.cell? ⟨ao, 0, none⟩ = some (.int .i64 av) ∧ w'.cell? ⟨ao, 1, none⟩ = some (.slice At ab.length ct) ∧ w'.cell? ⟨ao, 2, none⟩ = some (.slice Au aw.length cu)) ∧ (Kd.R (Kd.int .i64) 3 w' wb.heap.size (o1 s_.2) s_.1 aM) ∧ (Kd.R (Kd.int .i64) 3 w' wb.heap.size (o1 s_.1) s_.2 bb) ∧ (w'.heap[aH]? = some (.cells #[.int .i64 0, .slice none 0 0, .slice none 0 0, .slice none 0 0] 29 (0, 0))) ∧ (w'.heap[ao]? = some (.cells #[.int .i64 av, .slice At ab.length ct, .slice Au aw.length cu] 32 (0, 0))) ∧ (Below wb.heap.size wb w')) ?_ ?_; rotate_left
       ·intro hJ4_7; refine join_ (σ := Value × Nat) 3 (mk_ 11 639) (fun s_ => [(38, s_.1), (9, .pointer (some ⟨s_.2, 0, none⟩))]) (fun s_ w' => (w'.cell? ⟨ao, 0, none⟩ = some (.int .i64 av) ∧ w'.cell? ⟨ao, 1, none⟩ = some (.slice At ab.length ct) ∧ w'.cell? ⟨ao, 2, none⟩ = some (.slice Au aw.length cu)) ∧ (Kd.R (Kd.int .i64) 3 w' wb.heap.size (fun _ => True) s_.1 aM) ∧ (w'.heap[aH]? = some (.cells #[.int .i64 0, .slice none 0 0, .slice none 0 0, .slice none 0 0] 29 (0, 0))) ∧ (w'.heap[ao]? = some (.cells #[.int .i64 av, .slice At ab.length ct, .slice Au aw.length cu] 32 (0, 0))) ∧ (w'.heap[s_.2]? = some (.cells #[.int .i64 0, .slice none 0 0, .slice none 0 0, .slice none 0 0] 29 (0, 0))) ∧ (wb.heap.size ≤ s_.2) ∧ (wb.heap.size ≤ s_.2) ∧ (aH ≠ s_.2) ∧ (s_.2 ≠ aH) ∧ (ao ≠ s_.2) ∧ (s_.2 ≠ ao) ∧ (Below wb.heap.size wb w')) ?_ ?_; rotate_left
        ·intro hJ4_9; refine join_ (σ := Value × Nat) 3 (mk_ 11 751) (fun s_ => [(41, s_.1), (9, .pointer (some ⟨s_.2, 0, none⟩))]) (fun s_ w' => (w'.cell? ⟨ao, 0, none⟩ = some (.int .i64 av) ∧ w'.cell? ⟨ao, 1, none⟩ = some (.slice At ab.length ct) ∧ w'.cell? ⟨ao, 2, none⟩ = some (.slice Au aw.length cu)) ∧ (Kd.R (Kd.int .i64) 3 w' wb.heap.size (fun _ => True) s_.1 bb) ∧ (w'.heap[aH]? = some (.cells #[.int .i64 0, .slice none 0 0, .slice none 0 0, .slice none 0 0] 29 (0, 0))) ∧ (w'.heap[ao]? = some (.cells #[.int .i64 av, .slice At ab.length ct, .slice Au aw.length cu] 32 (0, 0))) ∧ (w'.heap[s_.2]? = some (.cells #[.int .i64 0, .slice none 0 0, .slice none 0 0, .slice none 0 0] 29 (0, 0))) ∧ (wb.heap.size ≤ s_.2) ∧ (wb.heap.size ≤ s_.2) ∧ (aH ≠ s_.2) ∧ (s_.2 ≠ aH) ∧ (ao ≠ s_.2) ∧ (s_.2 ≠ ao) ∧ (Below wb.heap.size wb w')) ?_ ?_; rotate_left
         ·intro hJ7_9; refine join_ (σ := Value) 4 (mk_ 11 127) (fun s_ => [(38, s_)]) (fun s_ w' => (w'.cell? ⟨ao, 0, none⟩ = some (.int .i64 av) ∧ w'.cell? ⟨ao, 1, none⟩ = some (.slice At ab.length ct) ∧ w'.cell? ⟨ao, 2, none⟩ = some (.slice Au aw.length cu)) ∧ (Kd.R (Kd.int .i64) 3 w' wb.heap.size (fun _ => True) s_ aM) ∧ (w'.heap[aH]? = some (.cells #[.int .i64 0, .slice none 0 0, .slice none 0 0, .slice none 0 0] 29 (0, 0))) ∧ (w'.heap[ao]? = some (.cells #[.int .i64 av, .slice At ab.length ct, .slice Au aw.length cu] 32 (0, 0))) ∧ (Below wb.heap.size wb w')) ?_ ?_; rotate_left
          ·intro hJ4; refine join_ (σ := Value) 4 (mk_ 11 239) (fun s_ => [(41, s_)]) (fun s_ w' => (w'.cell? ⟨ao, 0, none⟩ = some (.int .i64 av) ∧ w'.cell? ⟨ao, 1, none⟩ = some (.slice At ab.length ct) ∧ w'.cell? ⟨ao, 2, none⟩ = some (.slice Au aw.length cu)) ∧ (Kd.R (Kd.int .i64) 3 w' wb.heap.size (fun _ => True) s_ bb) ∧ (w'.heap[aH]? = some (.cells #[.int .i64 0, .slice none 0 0, .slice none 0 0, .slice none 0 0] 29 (0, 0))) ∧ (w'.heap[ao]? = some (.cells #[.int .i64 av, .slice At ab.length ct, .slice Au aw.length cu] 32 (0, 0))) ∧ (Below wb.heap.size wb w')) ?_ ?_; rotate_left
           ·intro hJ7; refine join_ (σ := Nat) 4 (mk_ 11 623) (fun s_ => [(9, .pointer (some ⟨s_, 0, none⟩))]) (fun s_ w' => (w'.cell? ⟨ao, 0, none⟩ = some (.int .i64 av) ∧ w'.cell? ⟨ao, 1, none⟩ = some (.slice At ab.length ct) ∧ w'.cell? ⟨ao, 2, none⟩ = some (.slice Au aw.length cu)) ∧ (w'.heap[aH]? = some (.cells #[.int .i64 0, .slice none 0 0, .slice none 0 0, .slice none 0 0] 29 (0, 0))) ∧ (w'.heap[ao]? = some (.cells #[.int .i64 av, .slice At ab.length ct, .slice Au aw.length cu] 32 (0, 0))) ∧ (w'.heap[s_]? = some (.cells #[.int .i64 0, .slice none 0 0, .slice none 0 0, .slice none 0 0] 29 (0, 0))) ∧ (wb.heap.size ≤ s_) ∧ (wb.heap.size ≤ s_) ∧ (aH ≠ s_) ∧ (s_ ≠ aH) ∧ (ao ≠ s_) ∧ (s_ ≠ ao) ∧ (Below wb.heap.size wb w')) ?_ ?_; rotate_left
            ·intro hJ9; refine three_ (i := 4) (j := 7) (k := 9) (Ni := some 38) (Nj := some 41) (Nk := some 9) (mk_ 11 127) (mk_ 11 239) (mk_ 11 623) rfl rfl rfl rfl rfl rfl (three_of aZ.o (by kernel_rfl)) (by decide) (by decide) (by decide) (fun K hK => ?_) (fun K hK => ?_) (fun K hK => ?_)
             ·skip
              refine Kd.R_make_step (Kd.int .i64) _ 3 (by rfl) (N := 38) rfl 23 _ _ rfl aW rfl rfl Try.underlying23 (.int .i64 0) 8 info3 rfl (by decide) (by omega) 0 (ok := fun _ => True) (okp := fun _ => True) rfl (fun _ hk => hk) trivial oa_ (Nat.le_trans (Nat.mul_le_mul_right _ (oa_ : aW.toNat ≤ 35184372088832)) (by omega)) (Below.refl _ _) (Nat.le_refl _) ?_; intro bs w22 b0 hb hg_ hnew_; clear hg_ hnew_
              (rw [← ca.o] at b0)
              have ap := A_ (Kd.R_lower b0 (below_size HB.o)); replace ae := bb_ ae hb; replace ac := bb_ ac hb; replace HB := bs_ HB hb; clear hb b0; refine hK.out _ _ (bc3 ac) (fun al => ?_); clear hK K; refine nm_ 38 ?_; exact norm_ (by simp only [putAll, Act.put, mD, mE, mF]; first | done | rfl) (hJ4 (bs) _ ⟨al, ap.o, ae.o, ac.o, HB.o⟩)
             ·skip
              refine Kd.R_make_step (Kd.int .i64) _ 3 (by rfl) (N := 41) rfl 23 _ _ rfl aW rfl rfl Try.underlying23 (.int .i64 0) 8 info3 rfl (by decide) (by omega) 0 (ok := fun _ => True) (okp := fun _ => True) rfl (fun _ hk => hk) trivial oa_ (Nat.le_trans (Nat.mul_le_mul_right _ (oa_ : aW.toNat ≤ 35184372088832)) (by omega)) (Below.refl _ _) (Nat.le_refl _) ?_; intro bt w22 b0 hb hg_ hnew_; clear hg_ hnew_
              (rw [← cb.o] at b0)
              have au := A_ (Kd.R_lower b0 (below_size HB.o)); replace ae := bb_ ae hb; replace ac := bb_ ac hb; replace HB := bs_ HB hb; clear hb b0; refine hK.out _ _ (bc3 ac) (fun al => ?_); clear hK K; refine nm_ 41 ?_; exact norm_ (by simp only [putAll, Act.put, mD, mE, mF]; first | done | rfl) (hJ7 (bt) _ ⟨al, au.o, ae.o, ac.o, HB.o⟩)
             skip
             refine box_step rfl (N := 9) rfl (cs := #[.int .i64 0, .slice none 0 0, .slice none 0 0, .slice none 0 0]) (t := 29) (by go_simp; done) ?_; intro ak hg w22 hbox hb; have ai := A_ (hbox); have aY := A_ ((by rw [hg]; exact (below_size HB.o) : wb.heap.size ≤ ak)); have aU := A_ ((by rw [hg]; exact (below_size HB.o) : wb.heap.size ≤ ak)); replace HB := bs_ HB hb; have ag := nl_ ae hg; have am := ng_ ae hg; replace ae := bb_ ae hb; have af := nl_ ac hg; have aj := ng_ ac hg; replace ac := bb_ ac hb; clear hb hbox hg; refine hK.out _ _ (bc3 ac) (fun al => ?_); clear hK K; refine nm_ 9 ?_; exact norm_ (by simp only [putAll, Act.put, mD, mE, mF]; first | done | rfl) (hJ9 (ak) _ ⟨al, ae.o, ac.o, ai.o, aY.o, aU.o, ag.o, am.o, af.o, aj.o, HB.o⟩)
            skip
            rintro ak w23 ⟨al, h0_, h1_, h2_, h3_, h4_, h5_, h6_, h7_, h8_, h9_⟩
            clear ae ac HB; try dsimp only at al h0_ h1_ h2_ h3_ h4_ h5_ h6_ h7_ h8_ h9_
            have ae := A_ h0_; have ac := A_ h1_; have ai := A_ h2_; have aY := A_ h3_; have aU := A_ h4_; have ag := A_ h5_; have am := A_ h6_; have af := A_ h7_; have aj := A_ h8_; have HB := A_ h9_; clear h0_ h1_ h2_ h3_ h4_ h5_ h6_ h7_ h8_ h9_
            refine norm_ (by simp only [putAll, Act.put, mD, mE, mF]; rfl) ?_
            refine two_ (i := 4) (j := 7) (Ni := some 38) (Nj := some 41) (mk_ 11 639) (mk_ 11 751) rfl rfl rfl rfl (two_of aZ.o (by kernel_rfl)) (by decide) (by decide) (fun K hK => ?_) (fun K hK => ?_)
            ·skip
             refine Kd.R_make_step (Kd.int .i64) _ 3 (by rfl) (N := 38) rfl 23 _ _ rfl aW rfl rfl Try.underlying23 (.int .i64 0) 8 info3 rfl (by decide) (by omega) 0 (ok := fun _ => True) (okp := fun _ => True) rfl (fun _ hk => hk) trivial oa_ (Nat.le_trans (Nat.mul_le_mul_right _ (oa_ : aW.toNat ≤ 35184372088832)) (by omega)) (Below.refl _ _) (Nat.le_refl _) ?_; intro bs w24 b1 hb hg_ hnew_; clear hg_ hnew_
             (rw [← ca.o] at b1)
             have ap := A_ (Kd.R_lower b1 (below_size HB.o)); replace ae := bb_ ae hb; replace ac := bb_ ac hb; replace ai := bb_ ai hb; replace HB := bs_ HB hb; clear hb b1; refine hK.out _ _ (bc3 ac) (fun al => ?_); clear hK K; refine nm_ 38 ?_; exact norm_ (by simp only [putAll, Act.put, mD, mE, mF]; first | done | rfl) (hJ4_9 (bs, ak) _ ⟨al, ap.o, ae.o, ac.o, ai.o, aY.o, aU.o, ag.o, am.o, af.o, aj.o, HB.o⟩)
            skip
            refine Kd.R_make_step (Kd.int .i64) _ 3 (by rfl) (N := 41) rfl 23 _ _ rfl aW rfl rfl Try.underlying23 (.int .i64 0) 8 info3 rfl (by decide) (by omega) 0 (ok := fun _ => True) (okp := fun _ => True) rfl (fun _ hk => hk) trivial oa_ (Nat.le_trans (Nat.mul_le_mul_right _ (oa_ : aW.toNat ≤ 35184372088832)) (by omega)) (Below.refl _ _) (Nat.le_refl _) ?_; intro bt w24 b1 hb hg_ hnew_; clear hg_ hnew_
            (rw [← cb.o] at b1)
            have au := A_ (Kd.R_lower b1 (below_size HB.o)); replace ae := bb_ ae hb; replace ac := bb_ ac hb; replace ai := bb_ ai hb; replace HB := bs_ HB hb; clear hb b1; refine hK.out _ _ (bc3 ac) (fun al => ?_); clear hK K; refine nm_ 41 ?_; exact norm_ (by simp only [putAll, Act.put, mD, mE, mF]; first | done | rfl) (hJ7_9 (bt, ak) _ ⟨al, au.o, ae.o, ac.o, ai.o, aY.o, aU.o, ag.o, am.o, af.o, aj.o, HB.o⟩)
           skip
           rintro bt w24 ⟨al, h0_, h1_, h2_, h3_⟩
           clear ae ac HB; try dsimp only at al h0_ h1_ h2_ h3_
           have au := A_ h0_; have ae := A_ h1_; have ac := A_ h2_; have HB := A_ h3_; clear h0_ h1_ h2_ h3_
           refine norm_ (by simp only [putAll, Act.put, mD, mE, mF]; rfl) ?_
           refine two_ (i := 4) (j := 9) (Ni := some 38) (Nj := some 9) (mk_ 11 255) (mk_ 11 751) rfl rfl rfl rfl (two_of aZ.o (by kernel_rfl)) (by decide) (by decide) (fun K hK => ?_) (fun K hK => ?_)
           ·skip
            refine Kd.R_make_step (Kd.int .i64) _ 3 (by rfl) (N := 38) rfl 23 _ _ rfl aW rfl rfl Try.underlying23 (.int .i64 0) 8 info3 rfl (by decide) (by omega) 0 (ok := fun _ => True) (okp := fun _ => True) rfl (fun _ hk => hk) trivial oa_ (Nat.le_trans (Nat.mul_le_mul_right _ (oa_ : aW.toNat ≤ 35184372088832)) (by omega)) (Below.refl _ _) (Nat.le_refl _) ?_; intro bs w25 bB hb hg_ hnew_; clear hg_ hnew_
            (rw [← ca.o] at bB)
            have ap := A_ (Kd.R_lower (Kd.R_new' bB (Kd.R_lt au.o)) (below_size HB.o)); replace au := A_ (Kd.R_elder' au.o (Kd.R_base bB) hb); replace ae := bb_ ae hb; replace ac := bb_ ac hb; replace HB := bs_ HB hb; clear hb bB; obtain ⟨dL, dW, cV⟩ := Kd.R_slice au.o
            (first | subst cV | (injection cV with f1_ f2_ f3_; have f4_ := f1_.symm; have f5_ := f3_.symm; clear f1_ f2_ f3_; subst f4_; subst f5_))
            obtain ⟨bY, bK, bg⟩ := Kd.R_slice ap.o
            (first | subst bg | (injection bg with f1_ f2_ f3_; have f4_ := f1_.symm; have f5_ := f3_.symm; clear f1_ f2_ f3_; subst f4_; subst f5_))
            refine hK.out _ _ (bc3 ac) (fun al => ?_); clear hK K; refine nm_ 38 ?_; refine pw_ 8 42 (mk_ 11 511) aZ ?_; exact norm_ (by simp only [putAll, Act.put, mD, mE, mF]; first | done | rfl) (hJ4_7 (.slice bY aM.length bK, .slice dL bb.length dW) _ ⟨al, (by exact Kd.R_mono ap.o (fun _ hk => hk.2)), (by exact Kd.R_mono au.o (fun _ hk => hk.2)), ae.o, ac.o, HB.o⟩)
           skip
           refine box_step rfl (N := 9) rfl (cs := #[.int .i64 0, .slice none 0 0, .slice none 0 0, .slice none 0 0]) (t := 29) (by go_simp; done) ?_; intro ak hg w25 hbox hb; replace au := A_ (Kd.R_below au.o hb); have ai := A_ (hbox); have aY := A_ ((by rw [hg]; exact (below_size HB.o) : wb.heap.size ≤ ak)); have aU := A_ ((by rw [hg]; exact (below_size HB.o) : wb.heap.size ≤ ak)); replace HB := bs_ HB hb; have ag := nl_ ae hg; have am := ng_ ae hg; replace ae := bb_ ae hb; have af := nl_ ac hg; have aj := ng_ ac hg; replace ac := bb_ ac hb; clear hb hbox hg; refine hK.out _ _ (bc3 ac) (fun al => ?_); clear hK K; refine nm_ 9 ?_; exact norm_ (by simp only [putAll, Act.put, mD, mE, mF]; first | done | rfl) (hJ7_9 (bt, ak) _ ⟨al, au.o, ae.o, ac.o, ai.o, aY.o, aU.o, ag.o, am.o, af.o, aj.o, HB.o⟩)
          skip
          rintro bs w24 ⟨al, h0_, h1_, h2_, h3_⟩
          clear ae ac HB; try dsimp only at al h0_ h1_ h2_ h3_
          have ap := A_ h0_; have ae := A_ h1_; have ac := A_ h2_; have HB := A_ h3_; clear h0_ h1_ h2_ h3_
          refine norm_ (by simp only [putAll, Act.put, mD, mE, mF]; rfl) ?_
          refine two_ (i := 7) (j := 9) (Ni := some 41) (Nj := some 9) (mk_ 11 255) (mk_ 11 639) rfl rfl rfl rfl (two_of aZ.o (by kernel_rfl)) (by decide) (by decide) (fun K hK => ?_) (fun K hK => ?_)
          ·skip
           refine Kd.R_make_step (Kd.int .i64) _ 3 (by rfl) (N := 41) rfl 23 _ _ rfl aW rfl rfl Try.underlying23 (.int .i64 0) 8 info3 rfl (by decide) (by omega) 0 (ok := fun _ => True) (okp := fun _ => True) rfl (fun _ hk => hk) trivial oa_ (Nat.le_trans (Nat.mul_le_mul_right _ (oa_ : aW.toNat ≤ 35184372088832)) (by omega)) (Below.refl _ _) (Nat.le_refl _) ?_; intro bt w25 bB hb hg_ hnew_; clear hg_ hnew_
           (rw [← cb.o] at bB)
           have au := A_ (Kd.R_lower (Kd.R_new' bB (Kd.R_lt ap.o)) (below_size HB.o)); replace ap := A_ (Kd.R_elder' ap.o (Kd.R_base bB) hb); replace ae := bb_ ae hb; replace ac := bb_ ac hb; replace HB := bs_ HB hb; clear hb bB; obtain ⟨dL, dW, cV⟩ := Kd.R_slice au.o
           (first | subst cV | (injection cV with f1_ f2_ f3_; have f4_ := f1_.symm; have f5_ := f3_.symm; clear f1_ f2_ f3_; subst f4_; subst f5_))
           obtain ⟨bY, bK, bg⟩ := Kd.R_slice ap.o
           (first | subst bg | (injection bg with f1_ f2_ f3_; have f4_ := f1_.symm; have f5_ := f3_.symm; clear f1_ f2_ f3_; subst f4_; subst f5_))
           refine hK.out _ _ (bc3 ac) (fun al => ?_); clear hK K; refine nm_ 41 ?_; refine pw_ 8 42 (mk_ 11 511) aZ ?_; exact norm_ (by simp only [putAll, Act.put, mD, mE, mF]; first | done | rfl) (hJ4_7 (.slice bY aM.length bK, .slice dL bb.length dW) _ ⟨al, (by exact Kd.R_mono ap.o (fun _ hk => hk.2)), (by exact Kd.R_mono au.o (fun _ hk => hk.2)), ae.o, ac.o, HB.o⟩)
          skip
          refine box_step rfl (N := 9) rfl (cs := #[.int .i64 0, .slice none 0 0, .slice none 0 0, .slice none 0 0]) (t := 29) (by go_simp; done) ?_; intro ak hg w25 hbox hb; replace ap := A_ (Kd.R_below ap.o hb); have ai := A_ (hbox); have aY := A_ ((by rw [hg]; exact (below_size HB.o) : wb.heap.size ≤ ak)); have aU := A_ ((by rw [hg]; exact (below_size HB.o) : wb.heap.size ≤ ak)); replace HB := bs_ HB hb; have ag := nl_ ae hg; have am := ng_ ae hg; replace ae := bb_ ae hb; have af := nl_ ac hg; have aj := ng_ ac hg; replace ac := bb_ ac hb; clear hb hbox hg; refine hK.out _ _ (bc3 ac) (fun al => ?_); clear hK K; refine nm_ 9 ?_; exact norm_ (by simp only [putAll, Act.put, mD, mE, mF]; first | done | rfl) (hJ4_9 (bs, ak) _ ⟨al, ap.o, ae.o, ac.o, ai.o, aY.o, aU.o, ag.o, am.o, af.o, aj.o, HB.o⟩)
         skip
         rintro ⟨bt, ak⟩ w25 ⟨al, h0_, h1_, h2_, h3_, h4_, h5_, h6_, h7_, h8_, h9_, br⟩
         clear ae ac HB; try dsimp only at al h0_ h1_ h2_ h3_ h4_ h5_ h6_ h7_ h8_ h9_ br
         have au := A_ h0_; have ae := A_ h1_; have ac := A_ h2_; have ai := A_ h3_; have aY := A_ h4_; have aU := A_ h5_; have ag := A_ h6_; have am := A_ h7_; have af := A_ h8_; have aj := A_ h9_; have HB := A_ br; clear h0_ h1_ h2_ h3_ h4_ h5_ h6_ h7_ h8_ h9_ br
         refine norm_ (by simp only [putAll, Act.put, mD, mE, mF]; rfl) ?_
         refine one_ (i := 4) (N := some 38) (mk_ 11 767) rfl rfl (one_of aZ.o (by kernel_rfl)) (by decide) (fun K hK => ?_); refine Kd.R_make_step (Kd.int .i64) _ 3 (by rfl) (N := 38) rfl 23 _ _ rfl aW rfl rfl Try.underlying23 (.int .i64 0) 8 info3 rfl (by decide) (by omega) 0 (ok := fun _ => True) (okp := fun _ => True) rfl (fun _ hk => hk) trivial oa_ (Nat.le_trans (Nat.mul_le_mul_right _ (oa_ : aW.toNat ≤ 35184372088832)) (by omega)) (Below.refl _ _) (Nat.le_refl _) ?_; intro bs w26 bC hb hg_ hnew_; clear hg_ hnew_
         (rw [← ca.o] at bC)
         have ap := A_ (Kd.R_lower (Kd.R_new' bC (Kd.R_lt au.o)) (below_size HB.o)); replace au := A_ (Kd.R_elder' au.o (Kd.R_base bC) hb); replace ae := bb_ ae hb; replace ac := bb_ ac hb; replace ai := bb_ ai hb; replace HB := bs_ HB hb; clear hb bC; obtain ⟨bY, bK, bg⟩ := Kd.R_slice au.o
         (first | subst bg | (injection bg with f1_ f2_ f3_; have f4_ := f1_.symm; have f5_ := f3_.symm; clear f1_ f2_ f3_; subst f4_; subst f5_))
         obtain ⟨cL, cU, bM⟩ := Kd.R_slice ap.o
         (first | subst bM | (injection bM with f1_ f2_ f3_; have f4_ := f1_.symm; have f5_ := f3_.symm; clear f1_ f2_ f3_; subst f4_; subst f5_))
         refine hK.out _ _ (bc3 ac) (fun al => ?_); clear hK K; refine nm_ 38 ?_; refine pw_ 8 42 (mk_ 11 1023) aZ ?_; exact norm_ (by simp only [putAll, Act.put, mD, mE, mF]; first | done | rfl) (hJ4_7_9 (.slice cL aM.length cU, .slice bY bb.length bK, ak) _ ⟨al, (by exact Kd.R_mono ap.o (fun _ hk => hk.2)), (by exact Kd.R_mono au.o (fun _ hk => hk.2)), ae.o, ac.o, ai.o, aY.o, aU.o, ag.o, am.o, af.o, aj.o, HB.o⟩)
        skip
        rintro ⟨bs, ak⟩ w25 ⟨al, h0_, h1_, h2_, h3_, h4_, h5_, h6_, h7_, h8_, h9_, br⟩
        clear ae ac HB; try dsimp only at al h0_ h1_ h2_ h3_ h4_ h5_ h6_ h7_ h8_ h9_ br
        have ap := A_ h0_; have ae := A_ h1_; have ac := A_ h2_; have ai := A_ h3_; have aY := A_ h4_; have aU := A_ h5_; have ag := A_ h6_; have am := A_ h7_; have af := A_ h8_; have aj := A_ h9_; have HB := A_ br; clear h0_ h1_ h2_ h3_ h4_ h5_ h6_ h7_ h8_ h9_ br
        refine norm_ (by simp only [putAll, Act.put, mD, mE, mF]; rfl) ?_
        refine one_ (i := 7) (N := some 41) (mk_ 11 767) rfl rfl (one_of aZ.o (by kernel_rfl)) (by decide) (fun K hK => ?_); refine Kd.R_make_step (Kd.int .i64) _ 3 (by rfl) (N := 41) rfl 23 _ _ rfl aW rfl rfl Try.underlying23 (.int .i64 0) 8 info3 rfl (by decide) (by omega) 0 (ok := fun _ => True) (okp := fun _ => True) rfl (fun _ hk => hk) trivial oa_ (Nat.le_trans (Nat.mul_le_mul_right _ (oa_ : aW.toNat ≤ 35184372088832)) (by omega)) (Below.refl _ _) (Nat.le_refl _) ?_; intro bt w26 bC hb hg_ hnew_; clear hg_ hnew_
        (rw [← cb.o] at bC)
        have au := A_ (Kd.R_lower (Kd.R_new' bC (Kd.R_lt ap.o)) (below_size HB.o)); replace ap := A_ (Kd.R_elder' ap.o (Kd.R_base bC) hb); replace ae := bb_ ae hb; replace ac := bb_ ac hb; replace ai := bb_ ai hb; replace HB := bs_ HB hb; clear hb bC; obtain ⟨bY, bK, bg⟩ := Kd.R_slice au.o
        (first | subst bg | (injection bg with f1_ f2_ f3_; have f4_ := f1_.symm; have f5_ := f3_.symm; clear f1_ f2_ f3_; subst f4_; subst f5_))
        obtain ⟨cL, cU, bM⟩ := Kd.R_slice ap.o
        (first | subst bM | (injection bM with f1_ f2_ f3_; have f4_ := f1_.symm; have f5_ := f3_.symm; clear f1_ f2_ f3_; subst f4_; subst f5_))
        refine hK.out _ _ (bc3 ac) (fun al => ?_); clear hK K; refine nm_ 41 ?_; refine pw_ 8 42 (mk_ 11 1023) aZ ?_; exact norm_ (by simp only [putAll, Act.put, mD, mE, mF]; first | done | rfl) (hJ4_7_9 (.slice cL aM.length cU, .slice bY bb.length bK, ak) _ ⟨al, (by exact Kd.R_mono ap.o (fun _ hk => hk.2)), (by exact Kd.R_mono au.o (fun _ hk => hk.2)), ae.o, ac.o, ai.o, aY.o, aU.o, ag.o, am.o, af.o, aj.o, HB.o⟩)
       skip
       rintro ⟨bs, bt⟩ w28 ⟨al, h0_, h1_, h2_, h3_, h4_⟩
       clear ae ac HB; try dsimp only at al h0_ h1_ h2_ h3_ h4_
       have ap := A_ h0_; have au := A_ h1_; have ae := A_ h2_; have ac := A_ h3_; have HB := A_ h4_; clear h0_ h1_ h2_ h3_ h4_
       obtain ⟨cL, cU, bM⟩ := Kd.R_slice au.o
       (first | subst bM | (injection bM with f1_ f2_ f3_; have f4_ := f1_.symm; have f5_ := f3_.symm; clear f1_ f2_ f3_; subst f4_; subst f5_))
       obtain ⟨bH, bL, cW⟩ := Kd.R_slice ap.o
       (first | subst cW | (injection cW with f1_ f2_ f3_; have f4_ := f1_.symm; have f5_ := f3_.symm; clear f1_ f2_ f3_; subst f4_; subst f5_))
       refine norm_ (by simp only [putAll, Act.put, mD, mE, mF]; rfl) ?_
       refine one_ (i := 9) (N := some 9) (mk_ 11 1023) rfl rfl (one_of aZ.o (by kernel_rfl)) (by decide) (fun K hK => ?_); refine box_step rfl (N := 9) rfl (cs := #[.int .i64 0, .slice none 0 0, .slice none 0 0, .slice none 0 0]) (t := 29) (by go_simp; done) ?_; intro ak hg w31 hbox hb; replace ap := A_ (Kd.R_below ap.o hb); replace au := A_ (Kd.R_below au.o hb); have ai := A_ (hbox); have aY := A_ ((by rw [hg]; exact (below_size HB.o) : wb.heap.size ≤ ak)); have aU := A_ ((by rw [hg]; exact (below_size HB.o) : wb.heap.size ≤ ak)); replace HB := bs_ HB hb; have ag := nl_ ae hg; have am := ng_ ae hg; replace ae := bb_ ae hb; have af := nl_ ac hg; have aj := ng_ ac hg; replace ac := bb_ ac hb; clear hb hbox hg; refine hK.out _ _ (bc3 ac) (fun al => ?_); clear hK K; refine nm_ 9 ?_; exact norm_ (by simp only [putAll, Act.put, mD, mE, mF]; first | done | rfl) (hJ4_7_9 (.slice bH aM.length bL, .slice cL bb.length cU, ak) _ ⟨al, ap.o, au.o, ae.o, ac.o, ai.o, aY.o, aU.o, ag.o, am.o, af.o, aj.o, HB.o⟩)
      rintro ⟨bs, bt, ak⟩ w29 ⟨al, h0_, h1_, h2_, h3_, h4_, h5_, h6_, h7_, h8_, h9_, br, d2⟩
      clear ae ac HB; try dsimp only at al h0_ h1_ h2_ h3_ h4_ h5_ h6_ h7_ h8_ h9_ br d2
      have ap := A_ h0_; have au := A_ h1_; have ae := A_ h2_; have ac := A_ h3_; have ai := A_ h4_; have aY := A_ h5_; have aU := A_ h6_; have ag := A_ h7_; have am := A_ h8_; have af := A_ h9_; have aj := A_ br; have HB := A_ d2; clear h0_ h1_ h2_ h3_ h4_ h5_ h6_ h7_ h8_ h9_ br d2
      obtain ⟨bH, bL, cW⟩ := Kd.R_slice au.o
      (first | subst cW | (injection cW with f1_ f2_ f3_; have f4_ := f1_.symm; have f5_ := f3_.symm; clear f1_ f2_ f3_; subst f4_; subst f5_))
      obtain ⟨dh, cG, eS⟩ := Kd.R_slice ap.o
      (first | subst eS | (injection eS with f1_ f2_ f3_; have f4_ := f1_.symm; have f5_ := f3_.symm; clear f1_ f2_ f3_; subst f4_; subst f5_))
      refine norm_ (by simp only [putAll, Act.put, mD, mE, mF]; rfl) ?_
      refine one_ (i := 10) (N := none) (mk_ 11 2047) rfl rfl (one_of aZ.o (by kernel_rfl)) (by decide) (fun K hK => ?_)
      have hs32 : w29.cell? ⟨ak, 0, none⟩ = some (.int .i64 0) := bz0 ai.o
      have hfs32 := blk_frozen ai.o 0; have hns32_0 := ag.o; have hns32_1 := af.o; have hms32_0 := am.o; have hms32_1 := aj.o
      have hs33 : w29.cell? ⟨ak, 1, none⟩ = some (.slice none 0 0) := bz1 ai.o
      have hfs33 := blk_frozen ai.o 1; have hns33_0 := ag.o; have hns33_1 := af.o; have hms33_0 := am.o; have hms33_1 := aj.o
      have hs34 : w29.cell? ⟨ak, 2, none⟩ = some (.slice none 0 0) := bz2 ai.o
      have hfs34 := blk_frozen ai.o 2; have hns34_0 := ag.o; have hns34_1 := af.o; have hms34_0 := am.o; have hms34_1 := aj.o
      have hs35 : w29.cell? ⟨ak, 3, none⟩ = some (.slice none 0 0) := bz3 ai.o
      have hfs35 := blk_frozen ai.o 3; have hns35_0 := ag.o; have hns35_1 := af.o; have hms35_0 := am.o; have hms35_1 := aj.o; refine skip_ (w1 := ?_) (by rfl) rfl ?_ ?_; rotate_left
      ·go_simp
       rfl
      refine hK.out _ _ ⟨((cell_far (p := ⟨ak, _, none⟩) af.o _).trans (((cell_far (p := ⟨ak, _, none⟩) af.o _).trans (((cell_far (p := ⟨ak, _, none⟩) af.o _).trans (((cell_far (p := ⟨ak, _, none⟩) af.o _).trans (al.1)))))))), ((cell_far (p := ⟨ak, _, none⟩) af.o _).trans (((cell_far (p := ⟨ak, _, none⟩) af.o _).trans (((cell_far (p := ⟨ak, _, none⟩) af.o _).trans (((cell_far (p := ⟨ak, _, none⟩) af.o _).trans (al.2.1)))))))), ((cell_far (p := ⟨ak, _, none⟩) af.o _).trans (((cell_far (p := ⟨ak, _, none⟩) af.o _).trans (((cell_far (p := ⟨ak, _, none⟩) af.o _).trans (((cell_far (p := ⟨ak, _, none⟩) af.o _).trans (al.2.2))))))))⟩ (fun al => ?_); clear hK K; refine done_ (done_of aZ.o (by kernel_rfl)) ?_
      generalize h_ : ((((w29.setCell ⟨ak, 0, none⟩ (.int .i64 av)).setCell ⟨ak, 1, none⟩ (.slice dh aM.length cG)).setCell ⟨ak, 2, none⟩ (.slice none 0 0)).setCell ⟨ak, 3, none⟩ (.slice bH bb.length bL)) = w36
      replace ap : Aside0 (Kd.R (Kd.int .i64) 3 w36 wb.heap.size (o1 (.slice bH bb.length bL)) (.slice dh aM.length cG) aM) := ⟨by rw [← h_]; exact Kd.R_mono (gR4_ (tR_ ap ai)) (fun _ hk => hk.1)⟩; replace au : Aside0 (Kd.R (Kd.int .i64) 3 w36 wb.heap.size (o1 (.slice dh aM.length cG)) (.slice bH bb.length bL) bb) := ⟨by rw [← h_]; exact Kd.R_mono (gR4_ (tR_ au ai)) (fun _ hk => hk.1)⟩; replace ae : Aside0 (w36.heap[aH]? = some (.cells #[.int .i64 0, .slice none 0 0, .slice none 0 0, .slice none 0 0] 29 (0, 0))) := ⟨by rw [← h_]; exact fa_ ag (fa_ ag (fa_ ag (fa_ ag ae.o)))⟩; replace ac : Aside0 (w36.heap[ao]? = some (.cells #[.int .i64 av, .slice At ab.length ct, .slice Au aw.length cu] 32 (0, 0))) := ⟨by rw [← h_]; exact fa_ af (fa_ af (fa_ af (fa_ af ac.o)))⟩; replace ai : Aside0 (w36.heap[ak]? = some (.cells #[.int .i64 av, .slice dh aM.length cG, .slice none 0 0, .slice bH bb.length bL] 29 (0, 0))) := ⟨by rw [← h_]; exact pu_ 3 (pu_ 2 (pu_ 1 (pu_ 0 ai.o rfl) rfl) rfl) rfl⟩; replace HB : Aside0 (Below wb.heap.size wb w36) := ⟨by rw [← h_]; repeat (first | (with_reducible first | exact HB.o | apply below_alloc | apply pw_below_drewN | apply below_drew1 | refine below_set ?_ bq.o | refine below_set ?_ bI.o | refine below_set ?_ aU.o) | exact HB.o)⟩; clear h_; have g4 := am.o; have hy := ag.o; have g5 := aj.o; have hz := af.o; have dn := bq4 ai.o
      have fm : 0 ≤ (0 : Int) := (by omega)
      have fp : (0 : Int) < ((aM.length : Int) : Int) := oa_
      have qi18 : (0 < aM.length) = True := eq_true (by omega)
      obtain ⟨dm, hY, eR, eY, gl18, cl18, HG18⟩ := Kd.R_form ap.o (by omega)
      (first | cases eR | (injection eR with ea_ en_ ec_; (first | subst ea_ | (injection ea_ with ea_; subst ea_)); subst ec_; clear en_))
      have GB18 := A_ eY; have GG18 := A_ HG18; clear eY gl18 HG18; obtain ⟨b2, cX⟩ := Kd.R_celln 0 ap.o (0 : Int) fm fp
      (try rw [show ((0 : Int)).toNat = 0 from rfl] at b2)
      (try simp only [Nat.reduceMul, Nat.zero_mul, Nat.zero_add, Nat.reduceAdd] at b2)
      (try rw [show ((0 : Int)).toNat = 0 from rfl] at cX)
      (try simp only [Nat.reduceMul, Nat.zero_mul, Nat.zero_add, Nat.reduceAdd] at cX)
      replace fm := eq_true fm; replace fp := eq_true fp; obtain ⟨hy40_, hz40_⟩ := Kd.R_celln 0 ap.o (0 : Int) (by omega) oa_
      (try simp only [Int.reduceToNat, Int.toNat_zero, Int.toNat_ofNat, Nat.reduceMul, Nat.zero_mul, Nat.zero_add] at hy40_ hz40_)
      (try rw [show ((0 : Int)).toNat = 0 from rfl] at hy40_)
      (try rw [show ((0 : Int)).toNat = 0 from rfl] at hz40_)
      have dO := Kd.R_putg ap.o (0 : Int) 1
      try go_wp2_with (first | ((with_reducible refine gate_store (t := 3) (p := 45) rfl ?_); refine store_event (t := 3) (p := 45) (v := ?vo_w41) (w1 := (w36.setCell ⟨dm, (0 : Int).toNat, none⟩ (.int .i64 1))) ?hg ?ho ?hn ?hr ?_; (case ho => rfl); (case hg => rfl); (case hn => rfl); (case hr => first | (go_simp; done) | (go_simp; rfl) | (obtain ⟨_, _, rfl⟩ := Kd.R_slice ap.o; go_simp; first | done | rfl) | (obtain ⟨_, _, rfl⟩ := Kd.R_slice (Kd.S_R ap.o); go_simp; first | done | rfl)); intro w41 hw; have hg : w36.grownBy w41 (some dm) := (by rw [hw]; exact dO.2); have hp_ : Kd.R (Kd.int .i64) 3 w41 wb.heap.size (o1 (.slice bH bb.length bL)) (.slice (some ⟨dm, 0, none⟩) aM.length cG) ek := (by rw [hw, ez.o]; exact dO.1); clear dO; replace ae := gR_ ap ae hg; replace ac := gR_ ap ac hg; replace au := rB_ (ok := (fun _ => True)) hp_ au (fun _ hk => ⟨trivial, hk⟩) hg; replace ai := gR_ ap ai hg; replace ap := A_ (hp_); replace HB := A_ ((by rw [hw]; exact below_set (HB.o) GB18.o : Below wb.heap.size wb w41)); clear hg hw hp_; have dp := bq3 ac.o))
      go_loopg [49] kj3 (fun kq ia w' => ∃ (a3 : Int) (aE : List Int) (az : List Int) (aJ : Value) (aT : Value), ia = .int .i64 a3 ∧ Aside0 (impl_CountingForm2.l0 kq a1 (ab.length : Int) aw (aw.length : Int) a3 av ab aw av aE az = some (r1, r2, r3, r4, r5)) ∧ Aside0 (kq ≤ kj3) ∧ Aside0 (Kd.R (Kd.int .i64) 3 w' wb.heap.size (o1 aT) aJ aE) ∧ Aside0 (Kd.R (Kd.int .i64) 3 w' wb.heap.size (o1 aJ) aT az) ∧ Aside0 (w'.heap[aH]? = some (.cells #[.int .i64 0, (.slice none 0 0), (.slice none 0 0), (.slice none 0 0)] 29 (0, 0))) ∧ Aside0 (w'.heap[ao]? = some (.cells #[.int .i64 av, (.slice At ab.length ct), (.slice Au aw.length cu)] 32 (0, 0))) ∧ Aside0 (w'.heap[ak]? = some (.cells #[.int .i64 av, aJ, (.slice none 0 0), aT] 29 (0, 0))) ∧ Aside0 (Below wb.heap.size wb w'))
      case atStart => exact ⟨(0), (ek), (bb), (.slice (some ⟨dm, 0, none⟩) aM.length cG), (.slice bH bb.length bL), (by rfl), H', ⟨Nat.le_refl _⟩, ⟨ap.o⟩, ⟨by exact Kd.R_mono au.o (fun _ hk => hk.2)⟩, ⟨ae.o⟩, ⟨ac.o⟩, ⟨ai.o⟩, ⟨HB.o⟩⟩
      case round =>
       clear H'
       clear fm fp qi18 dn dp b2
       obtain ⟨a3, aE, az, aJ, aT, rfl, HA, fe, ar, an, ae, ac, ai, HB⟩ := hrel
       cases gk with
       | zero => exact nz_ HA.o
       | succ k2 =>
        have H := HA.o; clear HA; simp only [impl_CountingForm2.l0] at H
        by_cases c43 : a3 < (aw.length : Int)
        ·rw [if_pos c43] at H; have cS := decide_eq_true c43; clear c43
         by_cases c44 : 0 ≤ a3
         ·rw [if_pos c44] at H; have gU := decide_eq_true c44; clear c44
          by_cases c45 : a3 < (aw.length : Int)
          ·rw [if_pos c45] at H; have gV := decide_eq_true c45; clear c45; replace H := bA_ H; obtain ⟨b6, A46, H⟩ := H; obtain ⟨bn, bN⟩ : ∃ j_ : Int, (wrap64 ((ab.length : Int) + a3)) = j_ := ⟨_, rfl⟩; replace H : (if 0 ≤ (bn) then (if (bn) < (az.length : Int) then (impl_CountingForm2.l0 k2 a1 (ab.length : Int) aw (aw.length : Int) (wrap64 (a3 + 1)) av ab aw av aE (az.set ((bn) : Int).toNat b6)) else (none)) else (none)) = some (r1, r2, r3, r4, r5) := by first | (rw [bN] at H; exact H) | (simp only [bN] at H ⊢; exact H)
           (try rw [bN] at A46)
           have ga : (IntKind.i64.wrap ((ab.length : Int) + a3)) = bn := (i64_w _).trans bN
           by_cases c48 : 0 ≤ (bn)
           ·rw [if_pos c48] at H; have gW := decide_eq_true c48; clear c48
            by_cases c49 : (bn) < (az.length : Int)
            ·rw [if_pos c49] at H; have gX := decide_eq_true c49; clear c49; obtain ⟨e7, dc⟩ := ex_ ((az.set ((bn) : Int).toNat b6) : List Int); replace H : (impl_CountingForm2.l0 k2 a1 (ab.length : Int) aw (aw.length : Int) (wrap64 (a3 + 1)) av ab aw av aE e7) = some (r1, r2, r3, r4, r5) := by (rw [dc]; with_reducible exact H)
             have eB := A_ dc; clear dc
             have H' := A_ H
             clear H
             have d8 : 0 ≤ (a3 : Int) := oa_
             have ed : a3 < (aw.length : Int) := oa_
             obtain ⟨gB, fS, bD⟩ := Kd.at_int HRb.o a3 d8 ed
             cases fS
             replace bD := (HB.o.cell (World.block_lt_of_cell? wb _ bD)).trans bD; replace d8 := eq_true d8; replace ed := eq_true ed
             try go_wp2
             replace ar := A_ (Kd.R_drew ar.o); replace an := A_ (Kd.R_drew an.o); replace ae := A_ (blk_drew ae.o); replace ac := A_ (blk_drew ac.o); replace ai := A_ (blk_drew ai.o); replace HB := A_ (below_drew1 HB.o); refine start_ (n := 11) (S := fun w' => w'.cell? ⟨ak, 0, none⟩ = some (.int .i64 av) ∧ w'.cell? ⟨ak, 1, none⟩ = some (aJ) ∧ w'.cell? ⟨ak, 2, none⟩ = some (.slice none 0 0) ∧ w'.cell? ⟨ak, 3, none⟩ = some (aT)) (ds := [10]) (mk_ 11 0) (by kernel_rfl) rfl rfl (bc4 ai) (fun al => ?_); refine with_tabW impl_CountingForm2.tab10 impl_CountingForm2.bits10 (fun aZ dR => ?_)
             generalize wr.drew = w51 at ar an ae ac ai HB al ⊢
             refine pw_ 0 54 (mk_ 11 1) aZ ?_; refine pw_ 2 56 (mk_ 11 5) aZ ?_; refine pw_ 3 57 (mk_ 11 13) aZ ?_; refine pw_ 4 58 (mk_ 11 29) aZ ?_; refine pw_ 5 59 (mk_ 11 61) aZ ?_; refine pw_ 6 60 (mk_ 11 125) aZ ?_; refine pw_ 7 61 (mk_ 11 253) aZ ?_; refine tk_ 1 55 (mk_ 11 255) aZ dR al ?_; refine one_ (i := 8) (N := some 62) (mk_ 11 511) rfl rfl (one_of aZ.o (by kernel_rfl)) (by decide) (fun K hK => ?_); refine cS_ E27 rfl rfl rfl (impl_oneIf.calls ((rd aw a3) == a1) b6 _ A46.o) (by simp only [mA, mB, mC]; rfl) ?_; rintro e w' ⟨rfl, ⟨nd, rfl⟩⟩; refine ⟨_, rfl, ?_⟩
             have gi : 0 ≤ ((bn) : Int) := oa_
             have gn : ((bn) : Int) < ((az.length : Int) : Int) := oa_
             obtain ⟨d1, fD, eW, e4, gl50, cl50, HG50⟩ := Kd.R_form an.o (by omega)
             (first | cases eW | (injection eW with ea_ en_ ec_; (first | subst ea_ | (injection ea_ with ea_; subst ea_)); subst ec_; clear en_))
             have GB50 := A_ e4; have GG50 := A_ HG50; clear e4 gl50 HG50; obtain ⟨ge, f2⟩ := Kd.R_celln 0 an.o ((bn) : Int) gi gn; replace gi := eq_true gi; replace gn := eq_true gn; have dQ := Kd.R_putn an.o ((bn) : Int) b6; rw [← eB.o] at dQ; have HQ52 := A_ dQ; clear dQ; refine hK.out _ _ (bc4 ai) (fun al => ?_); clear hK K; refine nm_ 62 ?_; refine pw_ 9 63 (mk_ 11 1023) aZ ?_; refine last_ (i := 10) (N := none) (mk_ 11 2047) rfl rfl (one_of aZ.o (by kernel_rfl)) (by decide) (fun K hK => ?_); refine skip_ (w1 := ?_) (by rfl) rfl ?_ ?_; rotate_left
             ·go_simp
              rfl
             refine hK.out _ _ ?_; clear hK K; refine done_ (done_of aZ.o (by kernel_rfl)) ?_
             try go_wp2
             (try subst bf)
             go_roundg k2
             case measure => have := fd.o; have := fe.o; omega
             case rel => exact ⟨(wrap64 (a3 + 1)), (aE), (e7), (aJ), (.slice (some ⟨d1, 0, none⟩) az.length fD), (by rfl), H', ⟨by have := fd.o; have := fe.o; omega⟩, ⟨by exact Kd.R_mono (Kd.R_far (p := ⟨d1, ((bn) : Int).toNat, none⟩) (Kd.R_mono ar.o (fun k_ hk => (⟨hk, fun e_ => hk (by rw [e_]; rfl)⟩ : _ ∧ k_ ≠ d1))) (fun _ hk => hk.2) (.int .i64 b6)) (fun _ hk => hk.1)⟩, ⟨HQ52.o⟩, ⟨by refine blk_far ?_ (by have h_ := Kd.R_ne an.o ae.o (by decide); intro e_; exact h_ (by rw [e_]; rfl)) _; (with_reducible repeat (first | refine blk_drewN ?_ _ | refine blk_drew ?_ | refine blk_alloc ?_ _)); exact ae.o⟩, ⟨by refine blk_far ?_ (by have h_ := Kd.R_ne an.o ac.o (by decide); intro e_; exact h_ (by rw [e_]; rfl)) _; (with_reducible repeat (first | refine blk_drewN ?_ _ | refine blk_drew ?_ | refine blk_alloc ?_ _)); exact ac.o⟩, ⟨by refine blk_far ?_ (by have h_ := Kd.R_ne an.o ai.o (by decide); intro e_; exact h_ (by rw [e_]; rfl)) _; (with_reducible repeat (first | refine blk_drewN ?_ _ | refine blk_drew ?_ | refine blk_alloc ?_ _)); exact ai.o⟩, ⟨by repeat (first | (with_reducible first | exact HB.o | apply below_alloc | apply pw_below_drewN | apply below_drew1 | refine below_set ?_ GB50.o | refine below_set ?_ bq.o | refine below_set ?_ bI.o | refine below_set ?_ aU.o) | exact HB.o)⟩⟩
            rw [if_neg c49] at H
            cases H
           rw [if_neg c48] at H
           cases H
          rw [if_neg c45] at H
          cases H
         rw [if_neg c44] at H
         cases H
        rw [if_neg c43] at H; have cS := decide_eq_false c43; clear c43
        have H' := A_ H
        clear H; have g6 := aX.o; have hC := aC.o; have g7 := af.o; have hE := aj.o; have dq := bq3 ac.o
        go_wp2
        go_loopg [67] k2 (fun kq ib w' => ∃ (aq : Int) (aV : List (List (List Int))) (bi : Value), ib = .int .i64 aq ∧ Aside0 (impl_CountingForm2.l1 kq (ab.length : Int) av aq av ab aw av aE aV az = some (r1, r2, r3, r4, r5)) ∧ Aside0 (kq ≤ k2) ∧ Aside0 (Kd.R (Kd.int .i64) 3 w' wb.heap.size (o1 aT) aJ aE) ∧ Aside0 (Kd.R (Kd.slice 23 (Kd.slice 3 (Kd.int .i64))) 22 w' wb.heap.size (o2 aJ aT) bi aV) ∧ Aside0 (Kd.R (Kd.int .i64) 3 w' wb.heap.size (o1 aJ) aT az) ∧ Aside0 (w'.heap[aH]? = some (.cells #[.int .i64 0, (.slice none 0 0), (.slice none 0 0), (.slice none 0 0)] 29 (0, 0))) ∧ Aside0 (w'.heap[ao]? = some (.cells #[.int .i64 av, (.slice At ab.length ct), (.slice Au aw.length cu)] 32 (0, 0))) ∧ Aside0 (w'.heap[ak]? = some (.cells #[.int .i64 av, aJ, bi, aT] 29 (0, 0))) ∧ Aside0 (Below wb.heap.size wb w'))
        case atStart => exact ⟨(0), (([] : List (List (List Int)))), (.slice none 0 0), (by rfl), H', ⟨Nat.le_refl _⟩, ⟨ar.o⟩, ⟨by exact Kd.R_nil _ _ _ _ _⟩, ⟨an.o⟩, ⟨ae.o⟩, ⟨ac.o⟩, ⟨ai.o⟩, ⟨HB.o⟩⟩
        case round =>
         clear H'
         clear cS dq
         obtain ⟨aq, aV, bi, rfl, HA, gv, ar, aA, an, ae, ac, ai, HB⟩ := hrel
         cases gk with
         | zero => exact nz_ HA.o
         | succ k3 =>
          have H := HA.o; clear HA; simp only [impl_CountingForm2.l1] at H
          by_cases c56 : aq < av
          ·rw [if_pos c56] at H; have eN := decide_eq_true c56; clear c56; replace H := bA_ H; obtain ⟨a6, A57, H⟩ := H
           by_cases c58 : aV.length < 5864062014805
           ·rw [if_pos c58] at H; have ep := A_ c58; clear c58; obtain ⟨cJ, dd⟩ := ex_ ((aV ++ [a6]) : List (List (List Int))); replace H : (impl_CountingForm2.l1 k3 (ab.length : Int) av (wrap64 (aq + 1)) av ab aw av aE cJ az) = some (r1, r2, r3, r4, r5) := by (rw [dd]; with_reducible exact H)
            have eC := A_ dd; clear dd
            have H' := A_ H
            clear H; have g8 := aX.o; have hF := aC.o; have g9 := af.o; have hG := aj.o; have cd := bq3 ac.o; obtain ⟨wd, hwd⟩ : ∃ wd, wd = wr := ⟨_, rfl⟩; subst hwd; have HRd := A_ (Kd.C_below HRa.o HB.o); have HBd := A_ (Below.refl wd.heap.size wd); have HHd := A_ A57.o
            (try subst bf)
            (try subst bN)
            have Hd : ((impl_square.f k3 (wrap64 (2 * (ab.length : Int)))).bind fun b5 => (impl_digitMatrix.l0 k3 (ab.length : Int) aq b5 ab (ab.length : Int) 0)) = some a6 := HHd.o
            replace Hd := Option.bind_eq_some_iff.mp Hd; obtain ⟨b5, A40, Hd⟩ := Hd; replace Hd : (impl_digitMatrix.l0 k3 (ab.length : Int) aq b5 ab (ab.length : Int) 0) = some a6 := Hd; have A4 := A_ A40; clear A40
            have Hd' := A_ Hd
            clear Hd
            go_wp2_with (first | ((with_reducible refine gc_ 28 rfl ?_); refine cM_ E28 72 (impl_square.calls k3 (wrap64 (2 * (ab.length : Int))) b5 _ A4.o) ?_; rintro e w5 ⟨go, rfl, ho0, hb⟩; refine ⟨_, rfl, ?_⟩; have eo := A_ (Kd.S_lower ho0 (below_size HBd.o)); replace HBd := bs_ HBd hb; clear hb ho0; have hcd_ := (HBd.o.cell (World.block_lt_of_cell? wd _ cd.1.2.1)).trans cd.1.2.1))
            go_loopg [76] k3 (fun kq ii w' => ∃ (aN : List (List Int)) (aa : Int), ii = .int .i64 aa ∧ Aside0 (impl_digitMatrix.l0 kq (ab.length : Int) aq aN ab (ab.length : Int) aa = some a6) ∧ Aside0 (kq ≤ k3) ∧ Aside0 (Kd.S (Kd.slice 3 (Kd.int .i64)) 23 w' wd.heap.size (fun _ => True) go aN) ∧ Aside0 (Below wd.heap.size wd w'))
            case atStart => exact ⟨(b5), (0), (by rfl), Hd', ⟨Nat.le_refl _⟩, ⟨eo.o⟩, ⟨HBd.o⟩⟩
            case round =>
             clear Hd'; obtain ⟨aN, aa, rfl, HAd, HKd1, ay, HBd⟩ := hrel
             cases gk with
             | zero => exact nz_ HAd.o
             | succ kd1 =>
              have Hd := HAd.o; clear HAd; simp only [impl_digitMatrix.l0] at Hd
              by_cases c6 : aa < (ab.length : Int)
              ·rw [if_pos c6] at Hd; have eO := decide_eq_true c6; clear c6
               by_cases c7 : 0 ≤ aa
               ·rw [if_pos c7] at Hd; have fA := decide_eq_true c7; clear c7
                by_cases c8 : aa < (ab.length : Int)
                ·rw [if_pos c8] at Hd; have fB := decide_eq_true c8; clear c8
                 by_cases c9 : aa < (aN.length : Int)
                 ·rw [if_pos c9] at Hd; have fC := decide_eq_true c9; clear c9
                  by_cases c10 : 0 ≤ aq
                  ·rw [if_pos c10] at Hd; have eG := decide_eq_true c10; clear c10
                   by_cases c11 : aq < ((rd_L1 ab aa).length : Int)
                   ·rw [if_pos c11] at Hd; have eH := decide_eq_true c11; clear c11
                    by_cases c12 : 0 ≤ (rd (rd_L1 ab aa) aq)
                    ·rw [if_pos c12] at Hd; have eI := decide_eq_true c12; clear c12
                     by_cases c13 : (rd (rd_L1 ab aa) aq) < ((rd_L1 aN aa).length : Int)
                     ·rw [if_pos c13] at Hd; have eJ := decide_eq_true c13; clear c13; obtain ⟨ee, bO⟩ := ex_ (((rd_L1 aN aa).set ((rd (rd_L1 ab aa) aq) : Int).toNat (wrap64 ((rd (rd_L1 aN aa) (rd (rd_L1 ab aa) aq)) + 1))) : List Int); replace Hd : (impl_digitMatrix.l1 kd1 (ab.length : Int) aq (aN.set (aa : Int).toNat ee) aa ab (ab.length : Int) aa (rd_L1 ab aa) ((rd_L1 ab aa).length : Int) 0) = some a6 := by first | (rw [bO]; with_reducible exact Hd) | (have H2_ := (Option.bind_some _ _).symm.trans Hd; rw [bO]; with_reducible exact H2_) | (have H2_ := (Option.bind_some _ _).symm.trans Hd; with_reducible exact H2_) | with_reducible exact Hd | (rw [bO]; exact Hd) | exact Hd
                      have eq := A_ bO; clear bO; obtain ⟨e6, bP⟩ := ex_ ((aN.set (aa : Int).toNat ee) : List (List Int)); replace Hd : (impl_digitMatrix.l1 kd1 (ab.length : Int) aq e6 aa ab (ab.length : Int) aa (rd_L1 ab aa) ((rd_L1 ab aa).length : Int) 0) = some a6 := by first | (rw [bP]; with_reducible exact Hd) | (have H2_ := (Option.bind_some _ _).symm.trans Hd; rw [bP]; with_reducible exact H2_) | (have H2_ := (Option.bind_some _ _).symm.trans Hd; with_reducible exact H2_) | with_reducible exact Hd | (rw [bP]; exact Hd) | exact Hd
                      have er := A_ bP; clear bP
                      have Hd' := A_ Hd
                      clear Hd
                      have dv : 0 ≤ (aa : Int) := oa_
                      have dB : aa < (ab.length : Int) := oa_
                      obtain ⟨gw, fq, fz, fI, bo, co, ce⟩ := at_L1 HRd.o aa dv dB
                      cases fI
                      replace bo := (HBd.o.cell (World.block_lt_of_cell? wd _ bo)).trans bo; have bz := A_ ce; have e8 := A_ co; clear ce co; replace dv := eq_true dv; replace dB := eq_true dB
                      try go_wp2
                      replace ay := A_ (Kd.S_drew ay.o); replace HBd := A_ (below_drew1 HBd.o); obtain ⟨hW, dk, eQ⟩ := Kd.S_slice ay.o
                      (first | subst eQ | (injection eQ with f1_ f2_ f3_; have f4_ := f1_.symm; have f5_ := f3_.symm; clear f1_ f2_ f3_; subst f4_; subst f5_))
                      have de : 0 ≤ (aa : Int) := oa_
                      have df : aa < (aN.length : Int) := oa_
                      obtain ⟨bm, fr, dS, fJ, bh, cp, cf⟩ := at_L1 (Kd.S_reads' ay.o).2.2 aa de df
                      cases fJ
                      obtain ⟨ce648, hce648, hMe648, hcc648⟩ := Kd.S_get ay.o [] aa de (by exact df); obtain ⟨ve648_0, rfl, ge648_0⟩ := hMe648; have hv648_0 := hcc648 0 _ rfl; rw [Nat.add_zero, show ((Kd.slice 3 (Kd.int .i64))).sz = 1 from rfl, Nat.mul_one] at hv648_0; replace hv648_0 := Option.some.inj (hv648_0.symm.trans bh); rw [hv648_0] at ge648_0; have HL648_0 := A_ (show Kd.R (Kd.int .i64) 3 _ _ _ _ (rd_L1 aN aa) from ge648_0); clear hv648_0 ge648_0; have HX648_0 := A_ bh; clear hcc648 hce648; have bA := A_ cf; have e9 := A_ cp; clear cf cp; replace de := eq_true de; replace df := eq_true df
                      have dw : 0 ≤ (aq : Int) := oa_
                      have dC : aq < ((rd_L1 ab aa).length : Int) := oa_
                      obtain ⟨cP, fK, bd⟩ := Kd.at_int bz.o aq dw dC; have cx := bd
                      cases fK
                      replace bd := (HBd.o.cell (World.block_lt_of_cell? wd _ bd)).trans bd; replace dw := eq_true dw; replace dC := eq_true dC
                      have dx : 0 ≤ ((rd (rd_L1 ab aa) aq) : Int) := oa_
                      have dD : (rd (rd_L1 ab aa) aq) < ((rd_L1 aN aa).length : Int) := oa_
                      obtain ⟨gx, fL, bp⟩ := Kd.at_int (by repeat (first | (with_reducible exact bA.o) | (with_reducible refine Kd.C_alloc ?_ _) | (with_reducible refine Kd.C_drewN ?_ _) | (with_reducible refine Kd.C_drew ?_) | exact bA.o)) (rd (rd_L1 ab aa) aq) dx dD
                      cases fL
                      replace dx := eq_true dx; replace dD := eq_true dD
                      have fl : 0 ≤ ((rd (rd_L1 ab aa) aq) : Int) := oa_
                      have fo : ((rd (rd_L1 ab aa) aq) : Int) < (((rd_L1 aN aa).length : Int) : Int) := oa_
                      obtain ⟨e5, hX, eP, eX, gl14, cl14, HG14⟩ := Kd.R_form HL648_0.o (by omega)
                      (first | cases eP | (injection eP with ea_ en_ ec_; (first | subst ea_ | (injection ea_ with ea_; subst ea_)); subst ec_; clear en_))
                      have GB14 := A_ eX; have GG14 := A_ HG14; clear eX gl14 HG14
                      (first | simp only [add_plain] at bp | skip)
                      obtain ⟨cY, d4⟩ := Kd.R_celln 0 HL648_0.o ((rd (rd_L1 ab aa) aq) : Int) fl fo; replace fl := eq_true fl; replace fo := eq_true fo
                      have hq17 : (aa : Int) < (aN.length : Int) := (by have h_ : (aa : Int) < ((aN.length : Int) : Int) := oa_; first | exact h_ | (have e_ := (Kd.S_reads' ay.o).1; omega) | simpa only [List.length_set, List.length_set] using h_)
                      obtain ⟨oki17, ce17, hcl17, hM17, hcc17, hok17, hbk17⟩ := Kd.S_borrow ay.o [] (aa : Int) oa_ hq17; obtain ⟨ve17_0, rfl, ge17_0⟩ := hM17; have hv17 := hcc17 0 _ rfl; rw [Nat.add_zero, show ((Kd.slice 3 (Kd.int .i64))).sz = 1 from rfl, Nat.mul_one] at hv17; replace hv17 := Option.some.inj (hv17.symm.trans HX648_0.o); subst hv17; clear hcc17 hcl17; replace ge17_0 := (show Kd.R (Kd.int .i64) 3 _ _ _ _ (rd_L1 aN aa) from ge17_0); have dj := Kd.R_putg ge17_0 ((rd (rd_L1 ab aa) aq) : Int) (wrap64 ((rd (rd_L1 aN aa) (rd (rd_L1 ab aa) aq)) + 1)); rw [← eq.o] at dj; have HS17 := hbk17 dj.2 (fun k_ e_ => by injection e_ with e_; subst e_; exact ge17_0.1 _ rfl) (x' := ee) (Kd.M_row dj.1); rw [← er.o] at HS17; have HQ17 := A_ HS17; clear dj HS17 hbk17 hok17; refine start_ (n := 13) (S := fun w' => w'.cell? (bm.add (aa).toNat) = some (.slice (some ⟨e5, 0, none⟩) (rd_L1 aN aa).length dS) ∧ w'.cell? (cP.add (aq).toNat) = some (.int .i64 (rd (rd_L1 ab aa) aq)) ∧ w'.cell? ⟨e5, ((rd (rd_L1 ab aa) aq)).toNat, none⟩ = some (.int .i64 (rd (rd_L1 aN aa) (rd (rd_L1 ab aa) aq)))) (ds := [12]) (mk_ 13 0) (by kernel_rfl) rfl rfl ⟨bh, ((HBd.o.cell (World.block_lt_of_cell? wd _ cx)).trans cx), bp⟩ (fun al => ?_); refine with_tabW impl_digitMatrix.tab19 impl_digitMatrix.bits19 (fun aZ dR => ?_)
                      generalize wr.drew = w15 at ay HBd GG14 HL648_0 HQ17 bA HX648_0 d4 cY bh bd bp al ⊢
                      refine pw_ 0 81 (mk_ 13 1) aZ ?_; refine pw_ 1 82 (mk_ 13 3) aZ ?_; refine pw_ 2 83 (mk_ 13 7) aZ ?_; refine pw_ 4 85 (mk_ 13 23) aZ ?_; refine pw_ 5 86 (mk_ 13 55) aZ ?_; refine pw_ 6 87 (mk_ 13 119) aZ ?_; refine tk_ 3 84 (mk_ 13 127) aZ dR al ?_; refine tk_ 7 88 (mk_ 13 255) aZ dR al ?_; refine pw_ 8 89 (mk_ 13 511) aZ ?_; refine tk_ 9 90 (mk_ 13 1023) aZ dR al ?_; refine pw_ 10 91 (mk_ 13 2047) aZ ?_; refine pw_ 11 92 (mk_ 13 4095) aZ ?_; refine last_ (i := 12) (N := none) (mk_ 13 8191) rfl rfl (one_of aZ.o (by kernel_rfl)) (by decide) (fun K hK => ?_); refine skip_ (w1 := ?_) (by rfl) rfl ?_ ?_; rotate_left
                      ·go_simp
                       rfl
                      refine hK.out _ _ ?_; clear hK K; refine done_ (done_of aZ.o (by kernel_rfl)) ?_
                      try go_wp2
                      go_loopg [95] kd1 (fun kq ij w' => ∃ (ah : List (List Int)) (ax : Int), ij = .int .i64 ax ∧ Aside0 (impl_digitMatrix.l1 kq (ab.length : Int) aq ah aa ab (ab.length : Int) aa (rd_L1 ab aa) ((rd_L1 ab aa).length : Int) ax = some a6) ∧ Aside0 (kq ≤ kd1) ∧ Aside0 (Kd.S (Kd.slice 3 (Kd.int .i64)) 23 w' wd.heap.size (fun _ => True) (.slice (some bm) aN.length dk) ah) ∧ Aside0 (Below wd.heap.size wd w'))
                      case atStart => exact ⟨(e6), (0), (by rfl), Hd', ⟨Nat.le_refl _⟩, ⟨HQ17.o⟩, ⟨by repeat (first | (with_reducible first | exact HBd.o | apply below_alloc | apply pw_below_drewN | apply below_drew1 | refine below_set ?_ GB14.o) | exact HBd.o)⟩⟩
                      case round =>
                       clear Hd'
                       clear eO fA fB fC eG eH eI eJ fl fo cY bo bh bd bp dv de dw dx dB df dC dD
                       obtain ⟨ah, ax, rfl, HAd, HKd2, ay, HBd⟩ := hrel; have bc := (Kd.S_reads' ay.o).1; rw [bc] at ay
                       (try simp only [bc])
                       cases gk with
                       | zero => exact nz_ HAd.o
                       | succ kd2 =>
                        have Hd := HAd.o; clear HAd; simp only [impl_digitMatrix.l1] at Hd
                        by_cases c19 : ax < ((rd_L1 ab aa).length : Int)
                        ·rw [if_pos c19] at Hd; have eK := decide_eq_true c19; clear c19
                         by_cases c20 : 0 ≤ ax
                         ·rw [if_pos c20] at Hd; have gI := decide_eq_true c20; clear c20
                          by_cases c21 : ax < ((rd_L1 ab aa).length : Int)
                          ·rw [if_pos c21] at Hd; have gJ := decide_eq_true c21; clear c21
                           by_cases c22 : ax < aq
                           ·rw [if_pos c22] at Hd; have eL := decide_eq_true c22; clear c22
                            by_cases c23 : 0 ≤ aa
                            ·rw [if_pos c23] at Hd; have gK := decide_eq_true c23; clear c23
                             by_cases c24 : aa < (ah.length : Int)
                             ·rw [if_pos c24] at Hd; have gL := decide_eq_true c24; clear c24; obtain ⟨aD, cj⟩ : ∃ j_ : Int, (wrap64 ((ab.length : Int) + (rd (rd_L1 ab aa) ax))) = j_ := ⟨_, rfl⟩; replace Hd : (if 0 ≤ (aD) then (if (aD) < ((rd_L1 ah aa).length : Int) then ((some (ah.set (aa : Int).toNat ((rd_L1 ah aa).set ((aD) : Int).toNat (wrap64 ((rd (rd_L1 ah aa) (aD)) + 1))) : List (List Int))).bind fun aG => (if 0 ≤ (wrap64 ((ab.length : Int) + aa)) then (if (wrap64 ((ab.length : Int) + aa)) < (ah.length : Int) then (if (aD) < ((rd_L1 aG (wrap64 ((ab.length : Int) + aa))).length : Int) then (impl_digitMatrix.l1 kd2 (ab.length : Int) aq (aG.set ((wrap64 ((ab.length : Int) + aa)) : Int).toNat ((rd_L1 aG (wrap64 ((ab.length : Int) + aa))).set ((aD) : Int).toNat (wrap64 ((rd (rd_L1 aG (wrap64 ((ab.length : Int) + aa))) (aD)) + 1)))) aa ab (ab.length : Int) aa (rd_L1 ab aa) ((rd_L1 ab aa).length : Int) (wrap64 (ax + 1))) else (none)) else (none)) else (none))) else (none)) else (none)) = some a6 := by first | (rw [cj] at Hd; exact Hd) | (simp only [cj] at Hd ⊢; exact Hd)
                              have f4 : (IntKind.i64.wrap ((ab.length : Int) + (rd (rd_L1 ab aa) ax))) = aD := (i64_w _).trans cj
                              by_cases c26 : 0 ≤ (aD)
                              ·rw [if_pos c26] at Hd; have gM := decide_eq_true c26; clear c26
                               by_cases c27 : (aD) < ((rd_L1 ah aa).length : Int)
                               ·rw [if_pos c27] at Hd; have gN := decide_eq_true c27; clear c27; obtain ⟨ef, bQ⟩ := ex_ (((rd_L1 ah aa).set ((aD) : Int).toNat (wrap64 ((rd (rd_L1 ah aa) (aD)) + 1))) : List Int); replace Hd : ((some (ah.set (aa : Int).toNat ef : List (List Int))).bind fun aG => (if 0 ≤ (wrap64 ((ab.length : Int) + aa)) then (if (wrap64 ((ab.length : Int) + aa)) < (ah.length : Int) then (if (aD) < ((rd_L1 aG (wrap64 ((ab.length : Int) + aa))).length : Int) then (impl_digitMatrix.l1 kd2 (ab.length : Int) aq (aG.set ((wrap64 ((ab.length : Int) + aa)) : Int).toNat ((rd_L1 aG (wrap64 ((ab.length : Int) + aa))).set ((aD) : Int).toNat (wrap64 ((rd (rd_L1 aG (wrap64 ((ab.length : Int) + aa))) (aD)) + 1)))) aa ab (ab.length : Int) aa (rd_L1 ab aa) ((rd_L1 ab aa).length : Int) (wrap64 (ax + 1))) else (none)) else (none)) else (none))) = some a6 := by first | (rw [bQ]; with_reducible exact Hd) | (have H2_ := (Option.bind_some _ _).symm.trans Hd; rw [bQ]; with_reducible exact H2_) | (have H2_ := (Option.bind_some _ _).symm.trans Hd; with_reducible exact H2_) | with_reducible exact Hd | (rw [bQ]; exact Hd) | exact Hd
                                have eu := A_ bQ; clear bQ; obtain ⟨aG, bR⟩ := ex_ ((ah.set (aa : Int).toNat ef) : List (List Int)); replace Hd : (if 0 ≤ (wrap64 ((ab.length : Int) + aa)) then (if (wrap64 ((ab.length : Int) + aa)) < (ah.length : Int) then (if (aD) < ((rd_L1 aG (wrap64 ((ab.length : Int) + aa))).length : Int) then (impl_digitMatrix.l1 kd2 (ab.length : Int) aq (aG.set ((wrap64 ((ab.length : Int) + aa)) : Int).toNat ((rd_L1 aG (wrap64 ((ab.length : Int) + aa))).set ((aD) : Int).toNat (wrap64 ((rd (rd_L1 aG (wrap64 ((ab.length : Int) + aa))) (aD)) + 1)))) aa ab (ab.length : Int) aa (rd_L1 ab aa) ((rd_L1 ab aa).length : Int) (wrap64 (ax + 1))) else (none)) else (none)) else (none)) = some a6 := by first | (rw [bR]; with_reducible exact Hd) | (have H2_ := (Option.bind_some _ _).symm.trans Hd; rw [bR]; with_reducible exact H2_) | (have H2_ := (Option.bind_some _ _).symm.trans Hd; with_reducible exact H2_) | with_reducible exact Hd | (rw [bR]; exact Hd) | exact Hd
                                have cO := A_ bR; clear bR; obtain ⟨aQ, ck⟩ : ∃ j_ : Int, (wrap64 ((ab.length : Int) + aa)) = j_ := ⟨_, rfl⟩; replace Hd : (if 0 ≤ (aQ) then (if (aQ) < (ah.length : Int) then (if (aD) < ((rd_L1 aG (aQ)).length : Int) then (impl_digitMatrix.l1 kd2 (ab.length : Int) aq (aG.set ((aQ) : Int).toNat ((rd_L1 aG (aQ)).set ((aD) : Int).toNat (wrap64 ((rd (rd_L1 aG (aQ)) (aD)) + 1)))) aa ab (ab.length : Int) aa (rd_L1 ab aa) ((rd_L1 ab aa).length : Int) (wrap64 (ax + 1))) else (none)) else (none)) else (none)) = some a6 := by first | (rw [ck] at Hd; exact Hd) | (simp only [ck] at Hd ⊢; exact Hd)
                                have f5 : (IntKind.i64.wrap ((ab.length : Int) + aa)) = aQ := (i64_w _).trans ck
                                by_cases c30 : 0 ≤ (aQ)
                                ·rw [if_pos c30] at Hd; have gO := decide_eq_true c30; clear c30
                                 by_cases c31 : (aQ) < (ah.length : Int)
                                 ·rw [if_pos c31] at Hd; have gP := decide_eq_true c31; clear c31
                                  by_cases c32 : (aD) < ((rd_L1 aG (aQ)).length : Int)
                                  ·rw [if_pos c32] at Hd; have gQ := decide_eq_true c32; clear c32; obtain ⟨eg, bS⟩ := ex_ (((rd_L1 aG (aQ)).set ((aD) : Int).toNat (wrap64 ((rd (rd_L1 aG (aQ)) (aD)) + 1))) : List Int); replace Hd : (impl_digitMatrix.l1 kd2 (ab.length : Int) aq (aG.set ((aQ) : Int).toNat eg) aa ab (ab.length : Int) aa (rd_L1 ab aa) ((rd_L1 ab aa).length : Int) (wrap64 (ax + 1))) = some a6 := by first | (rw [bS]; with_reducible exact Hd) | (have H2_ := (Option.bind_some _ _).symm.trans Hd; rw [bS]; with_reducible exact H2_) | (have H2_ := (Option.bind_some _ _).symm.trans Hd; with_reducible exact H2_) | with_reducible exact Hd | (rw [bS]; exact Hd) | exact Hd
                                   have ev := A_ bS; clear bS; obtain ⟨eh, bT⟩ := ex_ ((aG.set ((aQ) : Int).toNat eg) : List (List Int)); replace Hd : (impl_digitMatrix.l1 kd2 (ab.length : Int) aq eh aa ab (ab.length : Int) aa (rd_L1 ab aa) ((rd_L1 ab aa).length : Int) (wrap64 (ax + 1))) = some a6 := by first | (rw [bT]; with_reducible exact Hd) | (have H2_ := (Option.bind_some _ _).symm.trans Hd; rw [bT]; with_reducible exact H2_) | (have H2_ := (Option.bind_some _ _).symm.trans Hd; with_reducible exact H2_) | with_reducible exact Hd | (rw [bT]; exact Hd) | exact Hd
                                   have ew := A_ bT; clear bT
                                   have Hd' := A_ Hd
                                   clear Hd
                                   have b3 : 0 ≤ (ax : Int) := oa_
                                   have b4 : ax < ((rd_L1 ab aa).length : Int) := oa_
                                   obtain ⟨cQ, dX, a7⟩ := Kd.at_int bz.o ax b3 b4; obtain rfl : cP = cQ := (by injection dX); replace a7 := (HBd.o.cell (World.block_lt_of_cell? wd _ a7)).trans a7; replace b3 := eq_true b3; replace b4 := eq_true b4
                                   have dy : 0 ≤ (aa : Int) := oa_
                                   have dE : aa < (ah.length : Int) := oa_
                                   obtain ⟨eD, fs, dT, fM, cy, cq, cg⟩ := at_L1 (Kd.S_reads' ay.o).2.2 aa dy dE; obtain rfl : bm = eD := (by injection fM); obtain ⟨ce655, hce655, hMe655, hcc655⟩ := Kd.S_get ay.o [] aa dy (by exact dE); obtain ⟨ve655_0, rfl, ge655_0⟩ := hMe655; have hv655_0 := hcc655 0 _ rfl; rw [Nat.add_zero, show ((Kd.slice 3 (Kd.int .i64))).sz = 1 from rfl, Nat.mul_one] at hv655_0; replace hv655_0 := Option.some.inj (hv655_0.symm.trans cy); rw [hv655_0] at ge655_0; have HL655_0 := A_ (show Kd.R (Kd.int .i64) 3 _ _ _ _ (rd_L1 ah aa) from ge655_0); clear hv655_0 ge655_0; have HX655_0 := A_ cy; clear hcc655 hce655; have b7 := A_ cg; have fa := A_ cq; clear cg cq; replace dy := eq_true dy; replace dE := eq_true dE
                                   have d5 : 0 ≤ ((aD) : Int) := oa_
                                   have d9 : (aD) < ((rd_L1 ah aa).length : Int) := oa_
                                   obtain ⟨gy, fN, dr⟩ := Kd.at_int (by repeat (first | (with_reducible exact b7.o) | (with_reducible refine Kd.C_alloc ?_ _) | (with_reducible refine Kd.C_drewN ?_ _) | (with_reducible refine Kd.C_drew ?_) | exact b7.o)) (aD) d5 d9
                                   cases fN
                                   replace d5 := eq_true d5; replace d9 := eq_true d9
                                   have gf : 0 ≤ ((aD) : Int) := oa_
                                   have gj : ((aD) : Int) < (((rd_L1 ah aa).length : Int) : Int) := oa_
                                   obtain ⟨dY, bK, bg, eZ, gl28, cl28, HG28⟩ := Kd.R_form HL655_0.o (by omega)
                                   (first | cases bg | (injection bg with ea_ en_ ec_; (first | subst ea_ | (injection ea_ with ea_; subst ea_)); subst ec_; clear en_))
                                   have GB28 := A_ eZ; have GG28 := A_ HG28; clear eZ gl28 HG28
                                   (first | simp only [add_plain] at dr | skip)
                                   obtain ⟨gb, fZ⟩ := Kd.R_celln 0 HL655_0.o ((aD) : Int) gf gj; replace gf := eq_true gf; replace gj := eq_true gj
                                   have hq34 : (aa : Int) < (ah.length : Int) := (by have h_ : (aa : Int) < ((ah.length : Int) : Int) := oa_; first | exact h_ | (have e_ := (Kd.S_reads' ay.o).1; omega) | simpa only [List.length_set, List.length_set] using h_)
                                   obtain ⟨oki34, ce34, hcl34, hM34, hcc34, hok34, hbk34⟩ := Kd.S_borrow ay.o [] (aa : Int) oa_ hq34; obtain ⟨ve34_0, rfl, ge34_0⟩ := hM34; have hv34 := hcc34 0 _ rfl; rw [Nat.add_zero, show ((Kd.slice 3 (Kd.int .i64))).sz = 1 from rfl, Nat.mul_one] at hv34; replace hv34 := Option.some.inj (hv34.symm.trans HX655_0.o); subst hv34; clear hcc34 hcl34; replace ge34_0 := (show Kd.R (Kd.int .i64) 3 _ _ _ _ (rd_L1 ah aa) from ge34_0); have dM := Kd.R_putg ge34_0 ((aD) : Int) (wrap64 ((rd (rd_L1 ah aa) (aD)) + 1))
                                   go_wp2_with (first | ((with_reducible refine gate_store (t := 3) (p := 113) rfl ?_); refine store_event (t := 3) (p := 113) (w1 := (wr.setCell ⟨dY, ((aD) : Int).toNat, none⟩ (.int .i64 (wrap64 ((rd (rd_L1 ah aa) (aD)) + 1))))) rfl rfl rfl (by go_simp; done) ?_; intro w35 hw; have hg : wr.grownBy w35 (some dY) := (by rw [hw]; exact dM.2); have hz_ : Kd.R (Kd.int .i64) 3 w35 wd.heap.size oki34 (.slice (some ⟨dY, 0, none⟩) (rd_L1 ah aa).length dT) ef := (by rw [hw, eu.o]; exact dM.1); have hp_ : Kd.S (Kd.slice 3 (Kd.int .i64)) 23 w35 wd.heap.size (fun _ => True) (.slice (some bm) ah.length dk) aG := (by rw [cO.o]; exact hbk34 hg (fun k_ e_ => by injection e_ with e_; subst e_; exact ge34_0.1 _ rfl) (Kd.M_row hz_)); have hm_ := Kd.R_mono hz_ hok34; clear dM hbk34; replace ay := A_ (hp_); replace HBd := A_ ((by rw [hw]; exact below_set (HBd.o) GB28.o : Below wd.heap.size wd w35)); have HL670 := A_ (hm_); have HC658 := A_ ((Kd.R_reads' hm_).2.1); clear HL655_0; clear hg hw hp_ hz_ hm_ hok34; have dz : 0 ≤ ((aQ) : Int) := oa_; have ea : (aQ) < (aG.length : Int) := (by have h_ : ((aQ) : Int) < ((ah.length : Int) : Int) := oa_; first | (have e_ := (Kd.S_reads' ay.o).1; omega) | simpa only [cO.o, List.length_set] using h_); have hP : (((aQ) : Int) < ((ah.length : Int) : Int)) = True := eq_true oa_; obtain ⟨eE, ft, dU, fO, cA, cr, ch⟩ := at_L1 (Kd.S_reads' ay.o).2.2 (aQ) dz ea; obtain rfl : bm = eE := (by injection fO); obtain ⟨ce660, hce660, hMe660, hcc660⟩ := Kd.S_get ay.o [] (aQ) dz (by exact of_decide_eq_true (by first | (with_reducible assumption) | assumption)); obtain ⟨ve660_0, rfl, ge660_0⟩ := hMe660; have hv660_0 := hcc660 0 _ rfl; rw [Nat.add_zero, show ((Kd.slice 3 (Kd.int .i64))).sz = 1 from rfl, Nat.mul_one] at hv660_0; replace hv660_0 := Option.some.inj (hv660_0.symm.trans cA); rw [hv660_0] at ge660_0; have HL660_0 := A_ (show Kd.R (Kd.int .i64) 3 _ _ _ _ (rd_L1 aG (aQ)) from ge660_0); clear hv660_0 ge660_0; have HX660_0 := A_ cA; clear hcc660 hce660; have b8 := A_ ch; have fb := A_ cr; clear ch cr; replace dz := eq_true dz; replace ea := eq_true ea; have d6 : 0 ≤ ((aD) : Int) := oa_; have eb : (aD) < ((rd_L1 aG (aQ)).length : Int) := oa_; obtain ⟨gz, fP, dt⟩ := Kd.at_int (by repeat (first | (with_reducible exact b8.o) | (with_reducible refine Kd.C_alloc ?_ _) | (with_reducible refine Kd.C_drewN ?_ _) | (with_reducible refine Kd.C_drew ?_) | exact b8.o)) (aD) d6 eb; cases fP; replace d6 := eq_true d6; replace eb := eq_true eb; have gg : 0 ≤ ((aD) : Int) := oa_; have gl : ((aD) : Int) < (((rd_L1 aG (aQ)).length : Int) : Int) := oa_; obtain ⟨dZ, hZ, eU, e0, gl33, cl33, HG33⟩ := Kd.R_form HL660_0.o (by omega); (first | cases eU | (injection eU with ea_ en_ ec_; (first | subst ea_ | (injection ea_ with ea_; subst ea_)); subst ec_; clear en_)); have GB33 := A_ e0; have GG33 := A_ HG33; clear e0 gl33 HG33; (first | simp only [add_plain] at dt | skip); obtain ⟨gc, f0⟩ := Kd.R_celln 0 HL660_0.o ((aD) : Int) gg gl; replace gg := eq_true gg; replace gl := eq_true gl; have hq36 : ((aQ) : Int) < (ah.length : Int) := (by have h_ : ((aQ) : Int) < ((ah.length : Int) : Int) := oa_; first | exact h_ | (have e_ := (Kd.S_reads' ay.o).1; omega) | simpa only [cO.o, List.length_set] using h_); obtain ⟨oki36, ce36, hcl36, hM36, hcc36, hok36, hbk36⟩ := Kd.S_borrow ay.o [] ((aQ) : Int) oa_ hq36; obtain ⟨ve36_0, rfl, ge36_0⟩ := hM36; have hv36 := hcc36 0 _ rfl; rw [Nat.add_zero, show ((Kd.slice 3 (Kd.int .i64))).sz = 1 from rfl, Nat.mul_one] at hv36; replace hv36 := Option.some.inj (hv36.symm.trans HX660_0.o); subst hv36; clear hcc36 hcl36; replace ge36_0 := (show Kd.R (Kd.int .i64) 3 _ _ _ _ (rd_L1 aG (aQ)) from ge36_0); have dN := Kd.R_putg ge36_0 ((aD) : Int) (wrap64 ((rd (rd_L1 aG (aQ)) (aD)) + 1))) | ((with_reducible refine gate_store (t := 3) (p := 126) rfl ?_); refine store_event (t := 3) (p := 126) (w1 := (w35.setCell ⟨dZ, ((aD) : Int).toNat, none⟩ (.int .i64 (wrap64 ((rd (rd_L1 aG (aQ)) (aD)) + 1))))) rfl rfl rfl (by go_simp; done) ?_; intro w37 hw; have hg : w35.grownBy w37 (some dZ) := (by rw [hw]; exact dN.2); have hz_ : Kd.R (Kd.int .i64) 3 w37 wd.heap.size oki36 (.slice (some ⟨dZ, 0, none⟩) (rd_L1 aG (aQ)).length dU) eg := (by rw [hw, ev.o]; exact dN.1); have hp_ : Kd.S (Kd.slice 3 (Kd.int .i64)) 23 w37 wd.heap.size (fun _ => True) (.slice (some bm) ah.length dk) eh := (by rw [ew.o]; exact hbk36 hg (fun k_ e_ => by injection e_ with e_; subst e_; exact ge36_0.1 _ rfl) (Kd.M_row hz_)); have hm_ := Kd.R_mono hz_ hok36; clear dN hbk36; replace ay := A_ (hp_); replace HBd := A_ ((by rw [hw]; exact below_set (HBd.o) GB33.o : Below wd.heap.size wd w37)); have HL671 := A_ (hm_); have HC663 := A_ ((Kd.R_reads' hm_).2.1); clear HL670 HL660_0; clear hg hw hp_ hz_ hm_ hok36))
                                   (try simp only [← bc])
                                   (try subst bf)
                                   (try subst cj)
                                   (try subst ck)
                                   go_roundg kd2
                                   case measure => have := HKd1.o; have := HKd2.o; omega
                                   case rel => exact ⟨(eh), (wrap64 (ax + 1)), (by rfl), Hd', ⟨by have := HKd1.o; have := HKd2.o; omega⟩, ⟨by (try simp only [bc]); exact ay.o⟩, ⟨HBd.o⟩⟩
                                  rw [if_neg c32] at Hd; exact absurd Hd (by simp)
                                 rw [if_neg c31] at Hd; exact absurd Hd (by simp)
                                rw [if_neg c30] at Hd; exact absurd Hd (by simp)
                               rw [if_neg c27] at Hd; exact absurd Hd (by simp)
                              rw [if_neg c26] at Hd; exact absurd Hd (by simp)
                             rw [if_neg c24] at Hd; exact absurd Hd (by simp)
                            rw [if_neg c23] at Hd; exact absurd Hd (by simp)
                           rw [if_neg c22] at Hd; have eL := decide_eq_false c22; clear c22; obtain ⟨aI, cm⟩ : ∃ j_ : Int, (wrap64 ((ab.length : Int) + aa)) = j_ := ⟨_, rfl⟩; replace Hd : (if 0 ≤ (aI) then (if (aI) < (ah.length : Int) then (if 0 ≤ (wrap64 ((ab.length : Int) + (rd (rd_L1 ab aa) ax))) then (if (wrap64 ((ab.length : Int) + (rd (rd_L1 ab aa) ax))) < ((rd_L1 ah (aI)).length : Int) then (impl_digitMatrix.l1 kd2 (ab.length : Int) aq (ah.set ((aI) : Int).toNat ((rd_L1 ah (aI)).set ((wrap64 ((ab.length : Int) + (rd (rd_L1 ab aa) ax))) : Int).toNat (wrap64 ((rd (rd_L1 ah (aI)) (wrap64 ((ab.length : Int) + (rd (rd_L1 ab aa) ax)))) + 1)))) aa ab (ab.length : Int) aa (rd_L1 ab aa) ((rd_L1 ab aa).length : Int) (wrap64 (ax + 1))) else (none)) else (none)) else (none)) else (none)) = some a6 := by first | (rw [cm] at Hd; exact Hd) | (simp only [cm] at Hd ⊢; exact Hd)
                           have f6 : (IntKind.i64.wrap ((ab.length : Int) + aa)) = aI := (i64_w _).trans cm
                           by_cases c39 : 0 ≤ (aI)
                           ·rw [if_pos c39] at Hd; have gR := decide_eq_true c39; clear c39
                            by_cases c40 : (aI) < (ah.length : Int)
                            ·rw [if_pos c40] at Hd; have gS := decide_eq_true c40; clear c40; obtain ⟨a8, cn⟩ : ∃ j_ : Int, (wrap64 ((ab.length : Int) + (rd (rd_L1 ab aa) ax))) = j_ := ⟨_, rfl⟩; replace Hd : (if 0 ≤ (a8) then (if (a8) < ((rd_L1 ah (aI)).length : Int) then (impl_digitMatrix.l1 kd2 (ab.length : Int) aq (ah.set ((aI) : Int).toNat ((rd_L1 ah (aI)).set ((a8) : Int).toNat (wrap64 ((rd (rd_L1 ah (aI)) (a8)) + 1)))) aa ab (ab.length : Int) aa (rd_L1 ab aa) ((rd_L1 ab aa).length : Int) (wrap64 (ax + 1))) else (none)) else (none)) = some a6 := by first | (rw [cn] at Hd; exact Hd) | (simp only [cn] at Hd ⊢; exact Hd)
                             have f8 : (IntKind.i64.wrap ((ab.length : Int) + (rd (rd_L1 ab aa) ax))) = a8 := (i64_w _).trans cn
                             by_cases c42 : 0 ≤ (a8)
                             ·rw [if_pos c42] at Hd; have gT := decide_eq_true c42; clear c42
                              by_cases c43 : (a8) < ((rd_L1 ah (aI)).length : Int)
                              ·rw [if_pos c43] at Hd; have cS := decide_eq_true c43; clear c43; obtain ⟨ei, bU⟩ := ex_ (((rd_L1 ah (aI)).set ((a8) : Int).toNat (wrap64 ((rd (rd_L1 ah (aI)) (a8)) + 1))) : List Int); replace Hd : (impl_digitMatrix.l1 kd2 (ab.length : Int) aq (ah.set ((aI) : Int).toNat ei) aa ab (ab.length : Int) aa (rd_L1 ab aa) ((rd_L1 ab aa).length : Int) (wrap64 (ax + 1))) = some a6 := by first | (rw [bU]; with_reducible exact Hd) | (have H2_ := (Option.bind_some _ _).symm.trans Hd; rw [bU]; with_reducible exact H2_) | (have H2_ := (Option.bind_some _ _).symm.trans Hd; with_reducible exact H2_) | with_reducible exact Hd | (rw [bU]; exact Hd) | exact Hd
                               have ex := A_ bU; clear bU; obtain ⟨ej, bV⟩ := ex_ ((ah.set ((aI) : Int).toNat ei) : List (List Int)); replace Hd : (impl_digitMatrix.l1 kd2 (ab.length : Int) aq ej aa ab (ab.length : Int) aa (rd_L1 ab aa) ((rd_L1 ab aa).length : Int) (wrap64 (ax + 1))) = some a6 := by first | (rw [bV]; with_reducible exact Hd) | (have H2_ := (Option.bind_some _ _).symm.trans Hd; rw [bV]; with_reducible exact H2_) | (have H2_ := (Option.bind_some _ _).symm.trans Hd; with_reducible exact H2_) | with_reducible exact Hd | (rw [bV]; exact Hd) | exact Hd
                               have ey := A_ bV; clear bV
                               have Hd' := A_ Hd
                               clear Hd
                               have b3 : 0 ≤ (ax : Int) := oa_
                               have b4 : ax < ((rd_L1 ab aa).length : Int) := oa_
                               obtain ⟨cQ, dX, a7⟩ := Kd.at_int bz.o ax b3 b4; obtain rfl : cP = cQ := (by injection dX); replace a7 := (HBd.o.cell (World.block_lt_of_cell? wd _ a7)).trans a7; replace b3 := eq_true b3; replace b4 := eq_true b4
                               have dA : 0 ≤ ((aI) : Int) := oa_
                               have dF : (aI) < (ah.length : Int) := oa_
                               obtain ⟨eF, fu, dV, fQ, cB, cv, ci⟩ := at_L1 (Kd.S_reads' ay.o).2.2 (aI) dA dF; obtain rfl : bm = eF := (by injection fQ); obtain ⟨ce665, hce665, hMe665, hcc665⟩ := Kd.S_get ay.o [] (aI) dA (by exact dF); obtain ⟨ve665_0, rfl, ge665_0⟩ := hMe665; have hv665_0 := hcc665 0 _ rfl; rw [Nat.add_zero, show ((Kd.slice 3 (Kd.int .i64))).sz = 1 from rfl, Nat.mul_one] at hv665_0; replace hv665_0 := Option.some.inj (hv665_0.symm.trans cB); rw [hv665_0] at ge665_0; have HL665_0 := A_ (show Kd.R (Kd.int .i64) 3 _ _ _ _ (rd_L1 ah (aI)) from ge665_0); clear hv665_0 ge665_0; have HX665_0 := A_ cB; clear hcc665 hce665; have b9 := A_ ci; have fc := A_ cv; clear ci cv; replace dA := eq_true dA; replace dF := eq_true dF
                               have d7 : 0 ≤ ((a8) : Int) := oa_
                               have ec : (a8) < ((rd_L1 ah (aI)).length : Int) := oa_
                               obtain ⟨gA, fR, du⟩ := Kd.at_int (by repeat (first | (with_reducible exact b9.o) | (with_reducible refine Kd.C_alloc ?_ _) | (with_reducible refine Kd.C_drewN ?_ _) | (with_reducible refine Kd.C_drew ?_) | exact b9.o)) (a8) d7 ec
                               cases fR
                               replace d7 := eq_true d7; replace ec := eq_true ec
                               have gh : 0 ≤ ((a8) : Int) := oa_
                               have gm : ((a8) : Int) < (((rd_L1 ah (aI)).length : Int) : Int) := oa_
                               obtain ⟨d0, h4, eV, e3, gl44, cl44, HG44⟩ := Kd.R_form HL665_0.o (by omega)
                               (first | cases eV | (injection eV with ea_ en_ ec_; (first | subst ea_ | (injection ea_ with ea_; subst ea_)); subst ec_; clear en_))
                               have GB44 := A_ e3; have GG44 := A_ HG44; clear e3 gl44 HG44
                               (first | simp only [add_plain] at du | skip)
                               obtain ⟨gd, f1⟩ := Kd.R_celln 0 HL665_0.o ((a8) : Int) gh gm; replace gh := eq_true gh; replace gm := eq_true gm
                               have hq45 : ((aI) : Int) < (ah.length : Int) := (by have h_ : ((aI) : Int) < ((ah.length : Int) : Int) := oa_; first | exact h_ | (have e_ := (Kd.S_reads' ay.o).1; omega) | simpa only [List.length_set, List.length_set] using h_)
                               obtain ⟨oki45, ce45, hcl45, hM45, hcc45, hok45, hbk45⟩ := Kd.S_borrow ay.o [] ((aI) : Int) oa_ hq45; obtain ⟨ve45_0, rfl, ge45_0⟩ := hM45; have hv45 := hcc45 0 _ rfl; rw [Nat.add_zero, show ((Kd.slice 3 (Kd.int .i64))).sz = 1 from rfl, Nat.mul_one] at hv45; replace hv45 := Option.some.inj (hv45.symm.trans HX665_0.o); subst hv45; clear hcc45 hcl45; replace ge45_0 := (show Kd.R (Kd.int .i64) 3 _ _ _ _ (rd_L1 ah (aI)) from ge45_0); have dP := Kd.R_putg ge45_0 ((a8) : Int) (wrap64 ((rd (rd_L1 ah (aI)) (a8)) + 1))
                               go_wp2_with (first | ((with_reducible refine gate_store (t := 3) (p := 126) rfl ?_); refine store_event (t := 3) (p := 126) (w1 := (wr.setCell ⟨d0, ((a8) : Int).toNat, none⟩ (.int .i64 (wrap64 ((rd (rd_L1 ah (aI)) (a8)) + 1))))) rfl rfl rfl (by go_simp; done) ?_; intro w46 hw; have hg : wr.grownBy w46 (some d0) := (by rw [hw]; exact dP.2); have hz_ : Kd.R (Kd.int .i64) 3 w46 wd.heap.size oki45 (.slice (some ⟨d0, 0, none⟩) (rd_L1 ah (aI)).length dV) ei := (by rw [hw, ex.o]; exact dP.1); have hp_ : Kd.S (Kd.slice 3 (Kd.int .i64)) 23 w46 wd.heap.size (fun _ => True) (.slice (some bm) ah.length dk) ej := (by rw [ey.o]; exact hbk45 hg (fun k_ e_ => by injection e_ with e_; subst e_; exact ge45_0.1 _ rfl) (Kd.M_row hz_)); have hm_ := Kd.R_mono hz_ hok45; clear dP hbk45; replace ay := A_ (hp_); replace HBd := A_ ((by rw [hw]; exact below_set (HBd.o) GB44.o : Below wd.heap.size wd w46)); have HL672 := A_ (hm_); have HC668 := A_ ((Kd.R_reads' hm_).2.1); clear HL665_0; clear hg hw hp_ hz_ hm_ hok45))
                               (try simp only [← bc])
                               (try subst bf)
                               (try subst cm)
                               (try subst cn)
                               go_roundg kd2
                               case measure => have := HKd1.o; have := HKd2.o; omega
                               case rel => exact ⟨(ej), (wrap64 (ax + 1)), (by rfl), Hd', ⟨by have := HKd1.o; have := HKd2.o; omega⟩, ⟨by (try simp only [bc]); exact ay.o⟩, ⟨HBd.o⟩⟩
                              rw [if_neg c43] at Hd; exact absurd Hd (by simp)
                             rw [if_neg c42] at Hd; exact absurd Hd (by simp)
                            rw [if_neg c40] at Hd; exact absurd Hd (by simp)
                           rw [if_neg c39] at Hd; exact absurd Hd (by simp)
                          rw [if_neg c21] at Hd; exact absurd Hd (by simp)
                         rw [if_neg c20] at Hd; exact absurd Hd (by simp)
                        rw [if_neg c19] at Hd; have eK := decide_eq_false c19; clear c19
                        have Hd' := A_ Hd
                        clear Hd
                        go_wp2
                        (try simp only [← bc])
                        (try subst bf)
                        go_roundg kd2
                        case measure => have := HKd1.o; have := HKd2.o; omega
                        case rel => exact ⟨(ah), (wrap64 (aa + 1)), (by rfl), Hd', ⟨by have := HKd1.o; have := HKd2.o; omega⟩, ⟨by (try simp only [bc]); exact ay.o⟩, ⟨HBd.o⟩⟩
                     rw [if_neg c13] at Hd; exact absurd Hd (by simp)
                    rw [if_neg c12] at Hd; exact absurd Hd (by simp)
                   rw [if_neg c11] at Hd; exact absurd Hd (by simp)
                  rw [if_neg c10] at Hd; exact absurd Hd (by simp)
                 rw [if_neg c9] at Hd; exact absurd Hd (by simp)
                rw [if_neg c8] at Hd; exact absurd Hd (by simp)
               rw [if_neg c7] at Hd; exact absurd Hd (by simp)
              rw [if_neg c6] at Hd; have eO := decide_eq_false c6; clear c6; obtain rfl := (Option.some.inj Hd).symm; clear HKd1; have ho0 := ay.o; have hb := HBd.o; clear ay HBd
              (replace aA := A_ (Kd.R_elder' aA.o (Kd.S_base ho0) hb); have cN := A_ (Kd.S_lower (Kd.S_new' (Kd.S_new' ho0 (Kd.R_lt ar.o)) (Kd.R_lt an.o)) (below_size HB.o)); replace ar := A_ (Kd.R_below ar.o hb); replace an := A_ (Kd.R_below an.o hb); replace ae := bb_ ae hb; replace ac := bb_ ac hb; replace ai := bb_ ai hb; replace HB := bs_ HB hb; clear hb ho0; have hf := am.o; have hH := ag.o; have fh := bq4 ai.o; obtain ⟨fv, fE, fT⟩ := Kd.S_slice cN.o; subst fT)
              go_wp2_with (first | ((with_reducible refine gate_builtin (b := .append) (xs := #[.tmp 130, .tmp 132]) rfl ?_); at_builtin; refine Kd.R_append (Kd.slice 23 (Kd.slice 3 (Kd.int .i64))) (w0 := wb) wb.heap.size rfl (.tmp 130) (.tmp 132) 27 22 (.slice none 0 0) 24 rfl Try.underlying27 info22 rfl (by decide) (by omega) bi aV a6 [.slice fv a6.length fE] (o2 aJ aT) (fun k_ => ((o2 aJ aT)) k_ ∧ some k_ ≠ (bi : Value).ownBlock) rfl rfl ?aP (fun _ hk => hk) ?aF ?aO ?aB ?aS ?aL ?_; (case aP => exact Kd.M_row (Kd.R_mono (Kd.R_apart' ((Kd.S_R cN.o)) (Kd.R_typed aA.o) (by decide)) (fun k_ hk => ⟨⟨hk.1.1.2, hk.1.2⟩, hk.2⟩))); (case aB => exact HB.o); (case aF => exact (fun k_ hk => ⟨Kd.fresh' (Kd.R_lt ar.o) k_ hk, Kd.fresh' (Kd.R_lt an.o) k_ hk⟩)); (case aO => exact (by exact Kd.R_mono aA.o (fun _ hk => ⟨hk.1.1, hk.1.2⟩))); (case aS => exact (below_size HB.o)); (case aL => have := ep.o; omega); intro ic w65 ho hb hg hat; rw [← eC.o] at ho; replace ar := A_ (Kd.R_over' ar.o (Kd.R_typed aA.o) (by decide) hg); replace an := A_ (Kd.R_over' an.o (Kd.R_typed aA.o) (by decide) hg); replace ae := gR_ aA ae hg; replace ac := gR_ aA ac hg; replace ai := gR_ aA ai hg; replace HB := A_ (hb); have dH := A_ (ho); clear aA cN; clear ho hb hg hat; obtain ⟨di, dl, fU⟩ := Kd.R_slice dH.o; subst fU; have fi := bq4 ai.o))
              (try subst bf)
              go_roundg k3
              case measure => have := fd.o; have := fe.o; have := gv.o; omega
              case rel => exact ⟨(wrap64 (aq + 1)), (cJ), (.slice di cJ.length dl), (by rfl), H', ⟨by have := fd.o; have := fe.o; have := gv.o; omega⟩, ⟨by exact Kd.R_mono (Kd.R_far (p := ⟨ak, 2, none⟩) (Kd.R_types ar.o ai.o (by decide)) (fun _ hk => hk.2) (.slice di cJ.length dl)) (fun _ hk => hk.1)⟩, ⟨by exact Kd.R_mono (Kd.R_far (p := ⟨ak, 2, none⟩) (Kd.R_types dH.o ai.o (by decide)) (fun _ hk => hk.2) (.slice di cJ.length dl)) (fun _ hk => ⟨hk.1.1, hk.1.2⟩)⟩, ⟨by exact Kd.R_mono (Kd.R_far (p := ⟨ak, 2, none⟩) (Kd.R_types an.o ai.o (by decide)) (fun _ hk => hk.2) (.slice di cJ.length dl)) (fun _ hk => hk.1)⟩, ⟨by exact fa_ ag ae.o⟩, ⟨by exact fa_ af ac.o⟩, ⟨by exact pu_ 2 ai.o rfl⟩, ⟨by repeat (first | (with_reducible first | exact HB.o | apply below_alloc | apply pw_below_drewN | apply below_drew1 | refine below_set ?_ bq.o | refine below_set ?_ bI.o | refine below_set ?_ aU.o) | exact HB.o)⟩⟩
           rw [if_neg c58] at H
           cases H
          rw [if_neg c56] at H; have eN := decide_eq_false c56; clear c56; simp only [Option.some.injEq, Prod.mk.injEq] at H; obtain ⟨rfl, rfl, rfl, rfl, rfl⟩ := H; have hh := am.o; have hI := ag.o; have ht := aj.o; have hJ := af.o; have fj := bq4 ai.o; have hu := aC.o; have hL := aX.o; have fk := bq4 ae.o; obtain ⟨fw, fF, fV⟩ := Kd.R_slice ar.o; subst fV; obtain ⟨fx, fG, fW⟩ := Kd.R_slice aA.o; subst fW; obtain ⟨fy, fH, fX⟩ := Kd.R_slice an.o; subst fX
          go_wp2
          refine bodyPost_ret (results_ct rfl _ _ aH 29 #[.int .i64 av, .slice fw aE.length fF, .slice fx aV.length fG, .slice fy az.length fH] (0, 0) _ rfl (by exact pu_ 3 (pu_ 2 (pu_ 1 (pu_ 0 ae.o rfl) rfl) rfl) rfl) Try.underlying29 rfl (by kernel_rfl)) rfl ?_; exact ⟨wb, HBW.o, _, _, _, by first | rfl | (simp [errW_none, errW_some] <;> rfl) | (simp only [← bf]; first | rfl | (simp [errW_none, errW_some] <;> rfl)) | (simp [*, errW_none, errW_some] <;> rfl), by exact Kd.R_mono (gR4_ (tR_ ar ae)) (fun _ hk => hk.1), by exact Kd.R_mono (gR4_ (tR_ aA ae)) (fun _ hk => ⟨hk.1.1, hk.1.2⟩), by exact Kd.R_mono (gR4_ (tR_ an ae)) (fun _ hk => hk.1), by repeat (first | (with_reducible first | exact (below_step HBW.o HB.o) | apply below_alloc | apply pw_below_drewN | apply below_drew1 | refine below_set ?_ bq.o) | exact (below_step HBW.o HB.o))⟩
     rw [if_neg c17] at H
     cases H
    rw [if_neg c16] at H
    cases H
   rw [if_neg c15] at H
   cases H
theorem impl_CountingForm.calls (k : Nat) (bl : Int) (P0_1_ : Nat → Prop) (bG : Option Addr) (bJ : Nat) (a9 : List (List Int)) (bX : Option Addr) (bZ : Nat) (ba : List Int) (a1 : Int) (r1 : Int) (r2 : List Int) (r3 : List (List (List Int))) (r4 : List Int) (r5 : Bool) (w : World) (hs0_1 : Kd.V (Kd.slice 3 (Kd.int .i64)) 23 w w.heap.size (fun k_ => P0_1_ k_) (.slice bG a9.length bJ) a9) (cw : Kd.C (Kd.int .i64) w bX ba.length ba) (cc : ba.length ≤ bZ) (h : impl_CountingForm.f k bl a9 ba a1 = some (r1, r2, r3, r4, r5)) :
  Calls Try.prog 9 #[.agg #[.int .i64 bl, .slice bG a9.length bJ, .slice bX ba.length bZ], .int .i64 a1] w fun e w' => ∃ v1_ v2_ v3_ : Value, e = .returned (.tuple #[.agg #[.int .i64 r1, v1_, v2_, v3_], .bool r5]) ∧ Kd.R (Kd.int .i64) 3 w' w.heap.size (fun k_ => (w.heap.size ≤ k_) ∧ some k_ ≠ (v3_ : Value).ownBlock) v1_ r2 ∧ Kd.N (Kd.slice 23 (Kd.slice 3 (Kd.int .i64))) 22 w' w.heap.size (fun k_ => (P0_1_ k_ ∨ w.heap.size ≤ k_) ∧ some k_ ≠ (v1_ : Value).ownBlock ∧ some k_ ≠ (v3_ : Value).ownBlock) v2_ r3 ∧ Kd.R (Kd.int .i64) 3 w' w.heap.size (fun k_ => (w.heap.size ≤ k_) ∧ some k_ ≠ (v1_ : Value).ownBlock) v3_ r4 ∧ Below w.heap.size w w' := by
 obtain ⟨⟨b_, n_, o_, k_⟩, hm_, hc_⟩ := Option.bind_eq_some_iff.mp h; refine (impl_CountingForm.calls1 k bl P0_1_ bG bJ a9 bX bZ ba a1 r1 r2 r3 r4 r5 w hs0_1 cw cc b_ n_ o_ k_ hm_ hc_).mono ?_; rintro e w' ⟨wb, hbw, v1_, v2_, v3_, he, h1, h2, h3, hB⟩; refine ⟨v1_, v2_, v3_, he, Kd.R_mono (Kd.R_bound (Kd.R_lower h1 hbw.size)) (fun _ hk => ⟨hk.2.1, hk.1⟩), Kd.N_mono (Kd.R_N (Kd.R_bound (Kd.R_lower h2 hbw.size))) (fun _ hk => ⟨.inr hk.2.1, hk.1⟩), Kd.R_mono (Kd.R_bound (Kd.R_lower h3 hbw.size)) (fun _ hk => ⟨hk.2.1, hk.1⟩), hB⟩


end Go.Proofs.Ytgmfjcckmapkbaa.PFnExactPrefixSum

