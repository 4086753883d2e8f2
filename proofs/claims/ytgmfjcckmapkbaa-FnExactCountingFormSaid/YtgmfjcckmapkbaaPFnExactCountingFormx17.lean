/- Walks of the functions that the law reaches. -/
import Derived.Test.YtgmfjcckmapkbaaPFnExactCountingFormx16
namespace Go.Proofs.Ytgmfjcckmapkbaa.PFnExactCountingForm
open Go.RowKit Go.Proofs.YtgmfjcckmapkbaaW.PrintWords Go.Proofs.YtgmfjcckmapkbaaW.PrintLast Go.Proofs.YtgmfjcckmapkbaaW.PrintMore
attribute [local go_sem] max2_int min2_int max_two min_two max_three min_three max_four min_four
set_option linter.unusedVariables false
set_option maxHeartbeats 8000000
set_option maxRecDepth 100000
set_option linter.unusedSimpArgs false

mutual
def impl_digitMatrix.l0 : Nat → Int → Int → List (List Int) → List (List Int) → Int → Int → Option ((List (List Int)))
 | 0, _, _, _, _, _, _ => none
 | k + 1, x8, cW, bP, cU, eB, bE => if bE < eB then (if 0 ≤ bE then (if bE < (cU.length : Int) then (if bE < (bP.length : Int) then (if 0 ≤ cW then (if cW < ((rd_L1 cU bE).length : Int) then (if 0 ≤ (rd (rd_L1 cU bE) cW) then (if (rd (rd_L1 cU bE) cW) < ((rd_L1 bP bE).length : Int) then (impl_digitMatrix.l1 k x8 cW (bP.set (bE : Int).toNat ((rd_L1 bP bE).set ((rd (rd_L1 cU bE) cW) : Int).toNat (wrap64 ((rd (rd_L1 bP bE) (rd (rd_L1 cU bE) cW)) + 1)))) bE cU eB bE (rd_L1 cU bE) ((rd_L1 cU bE).length : Int) 0) else (none)) else (none)) else (none)) else (none)) else (none)) else (none)) else (none)) else (some bP)
def impl_digitMatrix.l1 : Nat → Int → Int → List (List Int) → Int → List (List Int) → Int → Int → List Int → Int → Int → Option ((List (List Int)))
 | 0, _, _, _, _, _, _, _, _, _, _ => none
 | k + 1, x8, cW, bP, bJ, cU, eB, bE, cN, gL, b5 => if b5 < gL then (if 0 ≤ b5 then (if b5 < (cN.length : Int) then (if b5 < cW then (if 0 ≤ bJ then (if bJ < (bP.length : Int) then (if 0 ≤ (wrap64 (x8 + (rd cN b5))) then (if (wrap64 (x8 + (rd cN b5))) < ((rd_L1 bP bJ).length : Int) then ((some (bP.set (bJ : Int).toNat ((rd_L1 bP bJ).set ((wrap64 (x8 + (rd cN b5))) : Int).toNat (wrap64 ((rd (rd_L1 bP bJ) (wrap64 (x8 + (rd cN b5)))) + 1))) : List (List Int))).bind fun aG => (if 0 ≤ (wrap64 (x8 + bJ)) then (if (wrap64 (x8 + bJ)) < (bP.length : Int) then (if (wrap64 (x8 + (rd cN b5))) < ((rd_L1 aG (wrap64 (x8 + bJ))).length : Int) then (impl_digitMatrix.l1 k x8 cW (aG.set ((wrap64 (x8 + bJ)) : Int).toNat ((rd_L1 aG (wrap64 (x8 + bJ))).set ((wrap64 (x8 + (rd cN b5))) : Int).toNat (wrap64 ((rd (rd_L1 aG (wrap64 (x8 + bJ))) (wrap64 (x8 + (rd cN b5)))) + 1)))) bJ cU eB bE cN gL (wrap64 (b5 + 1))) else (none)) else (none)) else (none))) else (none)) else (none)) else (none)) else (none)) else (if 0 ≤ (wrap64 (x8 + bJ)) then (if (wrap64 (x8 + bJ)) < (bP.length : Int) then (if 0 ≤ (wrap64 (x8 + (rd cN b5))) then (if (wrap64 (x8 + (rd cN b5))) < ((rd_L1 bP (wrap64 (x8 + bJ))).length : Int) then (impl_digitMatrix.l1 k x8 cW (bP.set ((wrap64 (x8 + bJ)) : Int).toNat ((rd_L1 bP (wrap64 (x8 + bJ))).set ((wrap64 (x8 + (rd cN b5))) : Int).toNat (wrap64 ((rd (rd_L1 bP (wrap64 (x8 + bJ))) (wrap64 (x8 + (rd cN b5)))) + 1)))) bJ cU eB bE cN gL (wrap64 (b5 + 1))) else (none)) else (none)) else (none)) else (none))) else (none)) else (none)) else (impl_digitMatrix.l0 k x8 cW bP cU eB (wrap64 (bE + 1)))
end
def impl_digitMatrix.f (k : Nat) (l0 : List (List Int)) (a1 : Int) (a2 : Int) : Option ((List (List Int))) := (impl_square.f k (wrap64 (2 * a1))).bind fun ce => (impl_digitMatrix.l0 k a1 a2 ce l0 (l0.length : Int) 0)
def impl_digitMatrix.T19 : Bool × List (List Nat × List Nat) := (true, [([], []), ([], []), ([0, 1], [0, 1]), ([2], [2]), ([], []), ([], []), ([4, 5], [4, 5]), ([6], [6]), ([3, 7], [3, 7]), ([8], [8]), ([9], [9]), ([3, 7, 0, 1, 2, 3, 4, 5, 6, 7, 8, 9, 10], [3, 7]), ([11, 10, 0, 1, 2, 3, 4, 5, 6, 7, 8, 9, 10], [10, 11])])
def impl_digitMatrix.B19 : List Nat := [0, 0, 3, 7, 0, 0, 48, 112, 255, 511, 1023, 2047, 4095]
theorem impl_digitMatrix.tab19 : rtab .any (opsOf Try.f9 19) = impl_digitMatrix.T19 := by kernel_rfl
theorem impl_digitMatrix.bits19 : waitsOk impl_digitMatrix.T19.2 impl_digitMatrix.B19 = true := by kernel_rfl
mutual
def impl_CountingForm2.j0 : Nat → Int → Bool → Int → List (List Int) → List Int → Option (Int × List Int × (List (List (List Int))) × List Int × Bool)
 | 0, _, _, _, _, _ => none
 | k + 1, x1, iT, bb, aK, bc => if iT = true then (some (0, ([] : List Int), ([] : List (List (List Int))), ([] : List Int), false)) else (if 0 ≤ (wrap64 (2 * (aK.length : Int))) then (if (wrap64 (2 * (aK.length : Int)) : Int).toNat ≤ 35184372088832 then ((some (List.replicate (wrap64 (2 * (aK.length : Int)) : Int).toNat 0 : List Int)).bind fun aM => (if 0 < (aM.length : Int) then (impl_CountingForm2.l0 k x1 (aK.length : Int) bc (bc.length : Int) 0 bb aK bc bb (aM.set (0 : Int).toNat 1) (List.replicate (wrap64 (2 * (aK.length : Int)) : Int).toNat 0)) else (none))) else (none)) else (none))
def impl_CountingForm2.l0 : Nat → Int → Int → List Int → Int → Int → Int → List (List Int) → List Int → Int → List Int → List Int → Option (Int × List Int × (List (List (List Int))) × List Int × Bool)
 | 0, _, _, _, _, _, _, _, _, _, _, _ => none
 | k + 1, x1, x8, gJ, iA, dT, bb, aK, bc, bp, bq, bk => if dT < iA then (if 0 ≤ dT then (if dT < (gJ.length : Int) then ((impl_oneIf.f ((rd gJ dT) == x1)).bind fun cf => (if 0 ≤ (wrap64 (x8 + dT)) then (if (wrap64 (x8 + dT)) < (bk.length : Int) then (impl_CountingForm2.l0 k x1 x8 gJ iA (wrap64 (dT + 1)) bb aK bc bp bq (bk.set ((wrap64 (x8 + dT)) : Int).toNat cf)) else (none)) else (none))) else (none)) else (none)) else (impl_CountingForm2.l1 k x8 bb 0 bb aK bc bp bq ([] : List (List (List Int))) bk)
def impl_CountingForm2.l1 : Nat → Int → Int → Int → Int → List (List Int) → List Int → Int → List Int → List (List (List Int)) → List Int → Option (Int × List Int × (List (List (List Int))) × List Int × Bool)
 | 0, _, _, _, _, _, _, _, _, _, _ => none
 | k + 1, x8, iB, gK, bb, aK, bc, bp, bq, bQ, bk => if gK < iB then ((impl_digitMatrix.f k aK x8 gK).bind fun bd => (if bQ.length < 5864062014805 then (impl_CountingForm2.l1 k x8 iB (wrap64 (gK + 1)) bb aK bc bp bq (bQ ++ [bd]) bk) else (none))) else (some (bp, bq, bQ, bk, true))
end
def impl_CountingForm2.f (k : Nat) (bh : Int) (aY : List (List Int)) (aX : List Int) (a1 : Int) (a2 : Bool) : Option (Int × List Int × (List (List (List Int))) × List Int × Bool) := if a2 = true then ((impl_isTerm.f a1).bind fun cS => (impl_CountingForm2.j0 k a1 (!cS) bh aY aX)) else (impl_CountingForm2.j0 k a1 true bh aY aX)
def impl_CountingForm2.T5 : Bool × List (List Nat × List Nat) := (true, [([], []), ([0], [0]), ([], []), ([2], [2]), ([3, 3], [3]), ([], []), ([5], [5]), ([6, 6], [6]), ([1, 4, 7], [1, 4, 7]), ([], []), ([9, 8, 0, 1, 2, 3, 4, 5, 6, 7, 8, 9], [8, 9])])
def impl_CountingForm2.B5 : List Nat := [0, 1, 0, 4, 12, 0, 32, 96, 255, 0, 1023]
theorem impl_CountingForm2.tab5 : rtab .any (opsOf Try.f9 5) = impl_CountingForm2.T5 := by kernel_rfl
theorem impl_CountingForm2.bits5 : waitsOk impl_CountingForm2.T5.2 impl_CountingForm2.B5 = true := by kernel_rfl
def impl_CountingForm2.T10 : Bool × List (List Nat × List Nat) := (true, [([], []), ([0], [0]), ([], []), ([], []), ([2, 3], [2, 3]), ([], []), ([], []), ([5, 6], [5, 6]), ([7], [7]), ([1, 4, 0, 1, 2, 3, 4, 5, 6, 7, 8], [1, 4]), ([9, 8, 8, 0, 1, 2, 3, 4, 5, 6, 7, 8], [8, 9])])
def impl_CountingForm2.B10 : List Nat := [0, 1, 0, 0, 12, 0, 0, 96, 224, 511, 1023]
theorem impl_CountingForm2.tab10 : rtab .any (opsOf Try.f9 10) = impl_CountingForm2.T10 := by kernel_rfl
theorem impl_CountingForm2.bits10 : waitsOk impl_CountingForm2.T10.2 impl_CountingForm2.B10 = true := by kernel_rfl
def impl_CountingForm.f (k : Nat) (bh : Int) (aY : List (List Int)) (aX : List Int) (a1 : Int) : Option (Int × List Int × (List (List (List Int))) × List Int × Bool) := (impl_MinimalForm.f k bh aY aX).bind fun t => impl_CountingForm2.f k t.1 t.2.1 t.2.2.1 a1 t.2.2.2
def sS {α : Type} (e : Nat) (d : Kd α) : Kd (List α) where
 sz := 1
 E := e :: d.E
 K := (Kd.slice e d).K
 M := fun w base ok xs cs => ∃ v, cs = [v] ∧ Kd.S d e w base ok v xs
 K_len := (Kd.slice e d).K_len
 K_one := (Kd.slice e d).K_one
 K_below := (Kd.slice e d).K_below
 K_of_M := by
  rintro w base ok x cs ⟨v, rfl, h⟩; exact (Kd.slice e d).K_of_M ⟨v, rfl, Kd.S_R h⟩
 M_mono := by
  rintro w base ok ok' x cs hok ⟨v, rfl, h⟩; exact ⟨v, rfl, Kd.S_mono h hok⟩
 M_bound := by
  rintro w base ok x cs ⟨v, rfl, h⟩; exact ⟨v, rfl, Kd.S_bound h⟩
 M_move := by
  rintro w w1 base ok x cs hm ⟨v, rfl, h⟩; exact ⟨v, rfl, Kd.S_move h hm⟩
 M_lower := by
  rintro w base base' ok x cs hb ⟨v, rfl, h⟩; exact ⟨v, rfl, Kd.S_lower h hb⟩
theorem sS_R {α : Type} {d : Kd α} {e e' base : Nat} {w : World} {ok : Nat → Prop} {v : Value} {xs : List (List α)} (h : Kd.S (sS e d) e' w base ok v xs) : Kd.R (Kd.slice e d) e' w base ok v xs := by
 obtain ⟨h0, h1⟩ := Kd.S_R h; refine ⟨h0, h1.imp_ ?_⟩; rintro x cs ⟨u, rfl, hu⟩; exact ⟨u, rfl, Kd.S_R hu⟩
theorem impl_CountingForm.calls1 (k : Nat) (bh : Int) (P0_1_ : Nat → Prop) (bs : Option Addr) (bt : Nat) (aY : List (List Int)) (bx : Option Addr) (bA : Nat) (aX : List Int) (a1 : Int) (r1 : Int) (r2 : List Int) (r3 : List (List (List Int))) (r4 : List Int) (r5 : Bool) (w : World) (hs0_1 : Kd.V (Kd.slice 3 (Kd.int .i64)) 23 w w.heap.size (fun k_ => P0_1_ k_) (.slice bs aY.length bt) aY) (bI : Kd.C (Kd.int .i64) w bx aX.length aX) (bH : aX.length ≤ bA) (av : Int) (ab : List (List Int)) (aw : List Int) (dq : Bool) (hm_ : impl_MinimalForm.f k bh aY aX = some (av, ab, aw, dq)) (hc_ : impl_CountingForm2.f k av ab aw a1 dq = some (r1, r2, r3, r4, r5)) :
  Calls Try.prog 9 #[.agg #[.int .i64 bh, .slice bs aY.length bt, .slice bx aX.length bA], .int .i64 a1] w fun e w' => ∃ wb : World, Below w.heap.size w wb ∧ ∃ v1_ v2_ v3_ : Value, e = .returned (.tuple #[.agg #[.int .i64 r1, v1_, v2_, v3_], .bool r5]) ∧ Kd.R (Kd.int .i64) 3 w' wb.heap.size (o1 v3_) v1_ r2 ∧ Kd.S (sS 23 (Kd.slice 3 (Kd.int .i64))) 22 w' wb.heap.size (o2 v1_ v3_) v2_ r3 ∧ Kd.R (Kd.int .i64) 3 w' wb.heap.size (o1 v1_) v3_ r4 ∧ Below w.heap.size w w' := by
 have hu29 := Try.underlying29; have hu32 := Try.underlying32; have bG := A_ (show Kd.V (Kd.slice 3 (Kd.int .i64)) 23 w w.heap.size (fun k_ => (P0_1_ k_ ∨ w.heap.size ≤ k_)) (.slice bs aY.length bt) aY from Kd.V_mono hs0_1 (fun k_ hk => .inl hk)); have dR := A_ bI; have dP := A_ bH; clear bI bH; have HB := A_ (Below.refl w.heap.size w); have A3 := A_ hm_; have HH := A_ hc_; clear hm_ hc_
 have H : (if dq = true then ((impl_isTerm.f a1).bind fun cS => (impl_CountingForm2.j0 k a1 (!cS) av ab aw)) else (impl_CountingForm2.j0 k a1 true av ab aw)) = some (r1, r2, r3, r4, r5) := HH.o
 have HC4 := A_ H; clear H; go_enter Try.func9, Try.ntmps9
 go_upto_region 2 with (first | ((with_reducible refine gate_dst (N := 2) rfl ?_); refine box_event rfl (N := 2) rfl (cs := #[.int .i64 bh, .slice bs aY.length bt, .slice bx aX.length bA]) (t := 32) (by go_simp; done) ?_; intro dS hg w4 hbox hb; replace bG := A_ (Kd.V_below (Kd.V_elderB bG.o dS (Nat.le_of_eq hg.symm)) hb); have bF := A_ (hbox); have eD := A_ (lg_ (below_size HB.o) hg); have eC := A_ (lg_ (below_size HB.o) hg); replace HB := bs_ HB hb; clear hb hbox hg) | ((with_reducible refine gate_dst (N := 4) rfl ?_); refine box_event rfl (N := 4) rfl (cs := #[.int .i64 0, .slice none 0 0, .slice none 0 0, .slice none 0 0]) (t := 29) (by go_simp; done) ?_; intro aH hg w5 hbox hb; replace bG := A_ (Kd.V_below (Kd.V_elderB bG.o aH (Nat.le_of_eq hg.symm)) hb); have ae := A_ (hbox); have gN := A_ (lg_ (below_size HB.o) hg); have bz := A_ (lg_ (below_size HB.o) hg); replace HB := bs_ HB hb; have cP := nl_ bF hg; have cO := ng_ bF hg; replace bF := bb_ bF hb; clear hb hbox hg; have iH := cP.o; have iJ := cO.o; have gi := bq3 bF.o) | ((with_reducible refine gc_ 25 rfl ?_); refine cM_ E25 20 (impl_MinimalForm.calls k bh (fun k_ => (((P0_1_ k_ ∨ w.heap.size ≤ k_) ∧ k_ ≠ dS) ∧ k_ ≠ aH)) _ _ aY _ _ aX av ab aw dq _ bG.o (Kd.C_below dR.o HB.o) dP.o A3.o) ?_; rintro e wb ⟨iO, iP, rfl, ho0, ho1, hb⟩; refine ⟨_, rfl, ?_⟩; obtain ⟨At, ct, et_⟩ := Kd.N_slice ho0; subst et_; obtain ⟨Au, cu, eu_⟩ := Kd.R_slice ho1; subst eu_; have HRa := A_ (Kd.N_reads' ho0).2.2; have HCa := A_ (Kd.N_reads' ho0).2.1; have HRb := A_ (Kd.R_reads' ho1).2.2; have HCb := A_ (Kd.R_reads' ho1).2.1; have BKn_ := bb_ ae hb; have HBW := bs_ HB hb; clear ae HB bG dR dP bF eD eC; have ae := BKn_; clear BKn_; have HB := A_ (Below.refl wb.heap.size wb)) | ((with_reducible refine gate_dst (N := 6) rfl ?_); refine box_event rfl (N := 6) rfl (cs := #[.int .i64 0, .slice none 0 0, .slice none 0 0]) (t := 32) (by go_simp; done) ?_; intro ao hg w6 hbox hb; have ac := A_ (hbox); have gO := A_ ((by rw [hg]; exact (below_size HB.o) : wb.heap.size ≤ ao)); have bS := A_ ((by rw [hg]; exact (below_size HB.o) : wb.heap.size ≤ ao)); replace HB := bs_ HB hb; have aC := nl_ ae hg; have aZ := ng_ ae hg; replace ae := bb_ ae hb; clear hb hbox hg; have iI := aZ.o; have iK := aC.o; have ef := bq3 ac.o))
 (try simp only [Act.put, mD, mE, mF])
 go_cut [29] (fun iL wc => ∃ (kq : Nat) (cL : Bool), iL = .bool cL ∧ Aside0 (impl_CountingForm2.j0 kq a1 cL av ab aw = some (r1, r2, r3, r4, r5)) ∧ Aside0 (kq ≤ k) ∧ Aside0 (wc.heap[aH]? = some (.cells #[.int .i64 0, (.slice none 0 0), (.slice none 0 0), (.slice none 0 0)] 29 (0, 0))) ∧ Aside0 (wc.heap[ao]? = some (.cells #[.int .i64 av, (.slice At ab.length ct), (.slice Au aw.length cu)] 32 (0, 0))) ∧ Aside0 (Below wb.heap.size wb wc))
 case first =>
  have H := HC4.o; clear HC4
  by_cases c9 : dq = true
  ·subst c9; rw [if_pos rfl] at H; replace H := bA_ H; obtain ⟨cS, A10, H⟩ := H
   have H' := A_ H
   clear H
   go_wp2_with (first | (go_at_call 26; (with_reducible refine (impl_isTerm.calls a1 cS _ A10.o).mono ?_); rintro e w' ⟨rfl, ⟨nd, rfl⟩⟩))
   go_meet
   case rel => exact ⟨_, (!cS), (by rfl), H', ⟨by omega⟩, ⟨by (with_reducible repeat (first | refine blk_drewN ?_ _ | refine blk_drew ?_ | refine blk_alloc ?_ _)); exact fa_ aC (fa_ aC (fa_ aC ae.o))⟩, ⟨by (with_reducible repeat (first | refine blk_drewN ?_ _ | refine blk_drew ?_ | refine blk_alloc ?_ _)); exact pu_ 2 (pu_ 1 (pu_ 0 ac.o rfl) rfl) rfl⟩, ⟨by repeat (first | (with_reducible first | exact HB.o | apply below_alloc | apply pw_below_drewN | apply below_drew1 | refine below_set ?_ bz.o | refine below_set ?_ bS.o) | exact HB.o)⟩⟩
  replace c9 := Bool.eq_false_iff.mpr c9; subst c9; rw [if_neg nf_] at H
  have H' := A_ H
  clear H
  go_wp2
  go_meet
  case rel => exact ⟨_, (true), (by rfl), H', ⟨by omega⟩, ⟨by exact fa_ aC (fa_ aC (fa_ aC ae.o))⟩, ⟨by exact pu_ 2 (pu_ 1 (pu_ 0 ac.o rfl) rfl) rfl⟩, ⟨by repeat (first | (with_reducible first | exact HB.o | apply below_alloc | apply pw_below_drewN | apply below_drew1 | refine below_set ?_ bz.o | refine below_set ?_ bS.o) | exact HB.o)⟩⟩
 case rest =>
  clear HC4
  try clear ef
  obtain ⟨kq, cL, rfl, HA, fr, ae, ac, HB⟩ := hcut
  cases kq with
  | zero => exact nz_ HA.o
  | succ kj3 =>
   have H := HA.o; clear HA; simp only [impl_CountingForm2.j0] at H
   by_cases c11 : cL = true
   ·subst c11; rw [if_pos rfl] at H; simp only [Option.some.injEq, Prod.mk.injEq] at H; obtain ⟨rfl, rfl, rfl, rfl, rfl⟩ := H; have hX := aC.o; have ik := aZ.o; have ft := bq4 ae.o
    go_wp2
    refine bodyPost_ret (results_ct rfl _ _ aH 29 #[.int .i64 0, .slice none 0 0, .slice none 0 0, .slice none 0 0] (0, 0) _ rfl (by exact pu_ 3 (pu_ 2 (pu_ 1 (pu_ 0 ae.o rfl) rfl) rfl) rfl) Try.underlying29 rfl (by kernel_rfl)) rfl ?_; exact ⟨wb, HBW.o, _, _, _, by rfl, by exact Kd.R_nil _ _ _ _ _, by exact Kd.S_nil _ _ _ _ _, by exact Kd.R_nil _ _ _ _ _, by repeat (first | (with_reducible first | exact (below_step HBW.o HB.o) | apply below_alloc | apply pw_below_drewN | apply below_drew1 | refine below_set ?_ bz.o) | exact (below_step HBW.o HB.o))⟩
   replace c11 := Bool.eq_false_iff.mpr c11; subst c11; rw [if_neg nf_] at H; obtain ⟨aW, bl⟩ : ∃ j_ : Int, (wrap64 (2 * (ab.length : Int))) = j_ := ⟨_, rfl⟩; replace H : (if 0 ≤ (aW) then (if (aW : Int).toNat ≤ 35184372088832 then ((some (List.replicate (aW : Int).toNat 0 : List Int)).bind fun aM => (if 0 < (aM.length : Int) then (impl_CountingForm2.l0 kj3 a1 (ab.length : Int) aw (aw.length : Int) 0 av ab aw av (aM.set (0 : Int).toNat 1) (List.replicate (aW : Int).toNat 0)) else (none))) else (none)) else (none)) = some (r1, r2, r3, r4, r5) := by first | (rw [bl] at H; exact H) | (simp only [bl] at H ⊢; exact H)
   have go : (IntKind.i64.wrap (2 * (ab.length : Int))) = aW := (i64_w _).trans bl
   by_cases c15 : 0 ≤ (aW)
   ·rw [if_pos c15] at H; have gW := eq_true c15; have gX := decide_eq_true c15; clear c15
    by_cases c16 : (aW : Int).toNat ≤ 35184372088832
    ·rw [if_pos c16] at H; have gY := eq_true c16; have gZ := decide_eq_true c16; clear c16; obtain ⟨aM, di⟩ := ex_ ((List.replicate (aW : Int).toNat 0) : List Int); replace H : (if 0 < (aM.length : Int) then (impl_CountingForm2.l0 kj3 a1 (ab.length : Int) aw (aw.length : Int) 0 av ab aw av (aM.set (0 : Int).toNat 1) (List.replicate (aW : Int).toNat 0)) else (none)) = some (r1, r2, r3, r4, r5) := by (have H2_ := (Option.bind_some _ _).symm.trans H; rw [di]; with_reducible exact H2_)
     have cj := A_ di; clear di; obtain ⟨bg, dj⟩ := ex_ ((List.replicate (aW : Int).toNat 0) : List Int); replace H : (if 0 < (aM.length : Int) then (impl_CountingForm2.l0 kj3 a1 (ab.length : Int) aw (aw.length : Int) 0 av ab aw av (aM.set (0 : Int).toNat 1) bg) else (none)) = some (r1, r2, r3, r4, r5) := by (rw [dj]; with_reducible exact H)
     have ck := A_ dj; clear dj
     by_cases c17 : 0 < (aM.length : Int)
     ·rw [if_pos c17] at H; have g4 := decide_eq_true c17
      have g5 : decide (0 < aM.length) = true := decide_eq_true (by omega)
      clear c17; obtain ⟨ez, dk⟩ := ex_ ((aM.set (0 : Int).toNat 1) : List Int); replace H : (impl_CountingForm2.l0 kj3 a1 (ab.length : Int) aw (aw.length : Int) 0 av ab aw av ez bg) = some (r1, r2, r3, r4, r5) := by (rw [dk]; with_reducible exact H)
      have eO := A_ dk; clear dk
      have H' := A_ H
      clear H; have hY := aZ.o; have il := aC.o; have fu := bq3 ac.o
      try go_wp2
      replace ae := A_ (blk_drew ae.o); replace ac := A_ (blk_drew ac.o); replace HB := A_ (below_drew1 HB.o); refine start_ (n := 11) (S := fun w' => w'.cell? ⟨ao, 0, none⟩ = some (.int .i64 av) ∧ w'.cell? ⟨ao, 1, none⟩ = some (.slice At ab.length ct) ∧ w'.cell? ⟨ao, 2, none⟩ = some (.slice Au aw.length cu)) (ds := []) (mk_ 11 0) (by kernel_rfl) rfl rfl (bc3 ac) (fun al => ?_); refine with_tabW impl_CountingForm2.tab5 impl_CountingForm2.bits5 (fun a9 d0 => ?_)
      generalize wc.drew = w21 at ae ac HB al ⊢
      refine pw_ 0 34 (mk_ 11 1) a9 ?_; refine pw_ 2 36 (mk_ 11 5) a9 ?_; refine pw_ 3 37 (mk_ 11 13) a9 ?_; refine pw_ 5 39 (mk_ 11 45) a9 ?_; refine pw_ 6 40 (mk_ 11 109) a9 ?_; refine tk_ 1 35 (mk_ 11 111) a9 d0 al ?_; refine join_ (σ := Value × Value × Nat) 1 (mk_ 11 1023) (fun s_ => [(38, s_.1), (41, s_.2.1), (9, .pointer (some ⟨s_.2.2, 0, none⟩)), (42, .agg #[.int .i64 av, s_.1, .slice none 0 0, s_.2.1])]) (fun s_ w' => (w'.cell? ⟨ao, 0, none⟩ = some (.int .i64 av) ∧ w'.cell? ⟨ao, 1, none⟩ = some (.slice At ab.length ct) ∧ w'.cell? ⟨ao, 2, none⟩ = some (.slice Au aw.length cu)) ∧ (Kd.R (Kd.int .i64) 3 w' wb.heap.size (o1 s_.2.1) s_.1 aM) ∧ (Kd.R (Kd.int .i64) 3 w' wb.heap.size (o1 s_.1) s_.2.1 bg) ∧ (w'.heap[aH]? = some (.cells #[.int .i64 0, .slice none 0 0, .slice none 0 0, .slice none 0 0] 29 (0, 0))) ∧ (w'.heap[ao]? = some (.cells #[.int .i64 av, .slice At ab.length ct, .slice Au aw.length cu] 32 (0, 0))) ∧ (w'.heap[s_.2.2]? = some (.cells #[.int .i64 0, .slice none 0 0, .slice none 0 0, .slice none 0 0] 29 (0, 0))) ∧ (wb.heap.size ≤ s_.2.2) ∧ (wb.heap.size ≤ s_.2.2) ∧ (aH ≠ s_.2.2) ∧ (s_.2.2 ≠ aH) ∧ (ao ≠ s_.2.2) ∧ (s_.2.2 ≠ ao) ∧ (Below wb.heap.size wb w')) ?_ ?_; rotate_left
      ·intro hJ4_7_9; refine join_ (σ := Value × Value) 2 (mk_ 11 511) (fun s_ => [(38, s_.1), (41, s_.2), (42, .agg #[.int .i64 av, s_.1, .slice none 0 0, s_.2])]) (fun s_ w' => (w'.cell? ⟨ao, 0, none⟩ = some (.int .i64 av) ∧ w'.cell? ⟨ao, 1, none⟩ = some (.slice At ab.length ct) ∧ w'.cell? ⟨ao, 2, none⟩ = some (.slice Au aw.length cu)) ∧ (Kd.R (Kd.int .i64) 3 w' wb.heap.size (o1 s_.2) s_.1 aM) ∧ (Kd.R (Kd.int .i64) 3 w' wb.heap.size (o1 s_.1) s_.2 bg) ∧ (w'.heap[aH]? = some (.cells #[.int .i64 0, .slice none 0 0, .slice none 0 0, .slice none 0 0] 29 (0, 0))) ∧ (w'.heap[ao]? = some (.cells #[.int .i64 av, .slice At ab.length ct, .slice Au aw.length cu] 32 (0, 0))) ∧ (Below wb.heap.size wb w')) ?_ ?_; rotate_left
       ·intro hJ4_7; refine join_ (σ := Value × Nat) 3 (mk_ 11 639) (fun s_ => [(38, s_.1), (9, .pointer (some ⟨s_.2, 0, none⟩))]) (fun s_ w' => (w'.cell? ⟨ao, 0, none⟩ = some (.int .i64 av) ∧ w'.cell? ⟨ao, 1, none⟩ = some (.slice At ab.length ct) ∧ w'.cell? ⟨ao, 2, none⟩ = some (.slice Au aw.length cu)) ∧ (Kd.R (Kd.int .i64) 3 w' wb.heap.size (fun _ => True) s_.1 aM) ∧ (w'.heap[aH]? = some (.cells #[.int .i64 0, .slice none 0 0, .slice none 0 0, .slice none 0 0] 29 (0, 0))) ∧ (w'.heap[ao]? = some (.cells #[.int .i64 av, .slice At ab.length ct, .slice Au aw.length cu] 32 (0, 0))) ∧ (w'.heap[s_.2]? = some (.cells #[.int .i64 0, .slice none 0 0, .slice none 0 0, .slice none 0 0] 29 (0, 0))) ∧ (wb.heap.size ≤ s_.2) ∧ (wb.heap.size ≤ s_.2) ∧ (aH ≠ s_.2) ∧ (s_.2 ≠ aH) ∧ (ao ≠ s_.2) ∧ (s_.2 ≠ ao) ∧ (Below wb.heap.size wb w')) ?_ ?_; rotate_left
        ·intro hJ4_9; refine join_ (σ := Value × Nat) 3 (mk_ 11 751) (fun s_ => [(41, s_.1), (9, .pointer (some ⟨s_.2, 0, none⟩))]) (fun s_ w' => (w'.cell? ⟨ao, 0, none⟩ = some (.int .i64 av) ∧ w'.cell? ⟨ao, 1, none⟩ = some (.slice At ab.length ct) ∧ w'.cell? ⟨ao, 2, none⟩ = some (.slice Au aw.length cu)) ∧ (Kd.R (Kd.int .i64) 3 w' wb.heap.size (fun _ => True) s_.1 bg) ∧ (w'.heap[aH]? = some (.cells #[.int .i64 0, .slice none 0 0, .slice none 0 0, .slice none 0 0] 29 (0, 0))) ∧ (w'.heap[ao]? = some (.cells #[.int .i64 av, .slice At ab.length ct, .slice Au aw.length cu] 32 (0, 0))) ∧ (w'.heap[s_.2]? = some (.cells #[.int .i64 0, .slice none 0 0, .slice none 0 0, .slice none 0 0] 29 (0, 0))) ∧ (wb.heap.size ≤ s_.2) ∧ (wb.heap.size ≤ s_.2) ∧ (aH ≠ s_.2) ∧ (s_.2 ≠ aH) ∧ (ao ≠ s_.2) ∧ (s_.2 ≠ ao) ∧ (Below wb.heap.size wb w')) ?_ ?_; rotate_left
         ·intro hJ7_9; refine join_ (σ := Value) 4 (mk_ 11 127) (fun s_ => [(38, s_)]) (fun s_ w' => (w'.cell? ⟨ao, 0, none⟩ = some (.int .i64 av) ∧ w'.cell? ⟨ao, 1, none⟩ = some (.slice At ab.length ct) ∧ w'.cell? ⟨ao, 2, none⟩ = some (.slice Au aw.length cu)) ∧ (Kd.R (Kd.int .i64) 3 w' wb.heap.size (fun _ => True) s_ aM) ∧ (w'.heap[aH]? = some (.cells #[.int .i64 0, .slice none 0 0, .slice none 0 0, .slice none 0 0] 29 (0, 0))) ∧ (w'.heap[ao]? = some (.cells #[.int .i64 av, .slice At ab.length ct, .slice Au aw.length cu] 32 (0, 0))) ∧ (Below wb.heap.size wb w')) ?_ ?_; rotate_left
          ·intro hJ4; refine join_ (σ := Value) 4 (mk_ 11 239) (fun s_ => [(41, s_)]) (fun s_ w' => (w'.cell? ⟨ao, 0, none⟩ = some (.int .i64 av) ∧ w'.cell? ⟨ao, 1, none⟩ = some (.slice At ab.length ct) ∧ w'.cell? ⟨ao, 2, none⟩ = some (.slice Au aw.length cu)) ∧ (Kd.R (Kd.int .i64) 3 w' wb.heap.size (fun _ => True) s_ bg) ∧ (w'.heap[aH]? = some (.cells #[.int .i64 0, .slice none 0 0, .slice none 0 0, .slice none 0 0] 29 (0, 0))) ∧ (w'.heap[ao]? = some (.cells #[.int .i64 av, .slice At ab.length ct, .slice Au aw.length cu] 32 (0, 0))) ∧ (Below wb.heap.size wb w')) ?_ ?_; rotate_left
           ·intro hJ7; refine join_ (σ := Nat) 4 (mk_ 11 623) (fun s_ => [(9, .pointer (some ⟨s_, 0, none⟩))]) (fun s_ w' => (w'.cell? ⟨ao, 0, none⟩ = some (.int .i64 av) ∧ w'.cell? ⟨ao, 1, none⟩ = some (.slice At ab.length ct) ∧ w'.cell? ⟨ao, 2, none⟩ = some (.slice Au aw.length cu)) ∧ (w'.heap[aH]? = some (.cells #[.int .i64 0, .slice none 0 0, .slice none 0 0, .slice none 0 0] 29 (0, 0))) ∧ (w'.heap[ao]? = some (.cells #[.int .i64 av, .slice At ab.length ct, .slice Au aw.length cu] 32 (0, 0))) ∧ (w'.heap[s_]? = some (.cells #[.int .i64 0, .slice none 0 0, .slice none 0 0, .slice none 0 0] 29 (0, 0))) ∧ (wb.heap.size ≤ s_) ∧ (wb.heap.size ≤ s_) ∧ (aH ≠ s_) ∧ (s_ ≠ aH) ∧ (ao ≠ s_) ∧ (s_ ≠ ao) ∧ (Below wb.heap.size wb w')) ?_ ?_; rotate_left
            ·intro hJ9; refine three_ (i := 4) (j := 7) (k := 9) (Ni := some 38) (Nj := some 41) (Nk := some 9) (mk_ 11 127) (mk_ 11 239) (mk_ 11 623) rfl rfl rfl rfl rfl rfl (three_of a9.o (by kernel_rfl)) (by decide) (by decide) (by decide) (fun K hK => ?_) (fun K hK => ?_) (fun K hK => ?_)
             ·skip
              refine Kd.R_make_step (Kd.int .i64) _ 3 (by rfl) (N := 38) rfl 23 _ _ rfl aW rfl rfl Try.underlying23 (.int .i64 0) 8 info3 rfl (by decide) (by omega) 0 (ok := fun _ => True) (okp := fun _ => True) rfl (fun _ hk => hk) trivial oa_ (Nat.le_trans (Nat.mul_le_mul_right _ (oa_ : aW.toNat ≤ 35184372088832)) (by omega)) (Below.refl _ _) (Nat.le_refl _) ?_; intro bC w22 b7 hb hg_ hnew_; clear hg_ hnew_
              (rw [← cj.o] at b7)
              have ap := A_ (Kd.R_lower b7 (below_size HB.o)); replace ae := bb_ ae hb; replace ac := bb_ ac hb; replace HB := bs_ HB hb; clear hb b7; refine hK.out _ _ (bc3 ac) (fun al => ?_); clear hK K; refine nm_ 38 ?_; exact norm_ (by simp only [putAll, Act.put, mD, mE, mF]; first | done | rfl) (hJ4 (bC) _ ⟨al, ap.o, ae.o, ac.o, HB.o⟩)
             ·skip
              refine Kd.R_make_step (Kd.int .i64) _ 3 (by rfl) (N := 41) rfl 23 _ _ rfl aW rfl rfl Try.underlying23 (.int .i64 0) 8 info3 rfl (by decide) (by omega) 0 (ok := fun _ => True) (okp := fun _ => True) rfl (fun _ hk => hk) trivial oa_ (Nat.le_trans (Nat.mul_le_mul_right _ (oa_ : aW.toNat ≤ 35184372088832)) (by omega)) (Below.refl _ _) (Nat.le_refl _) ?_; intro bD w22 b7 hb hg_ hnew_; clear hg_ hnew_
              (rw [← ck.o] at b7)
              have au := A_ (Kd.R_lower b7 (below_size HB.o)); replace ae := bb_ ae hb; replace ac := bb_ ac hb; replace HB := bs_ HB hb; clear hb b7; refine hK.out _ _ (bc3 ac) (fun al => ?_); clear hK K; refine nm_ 41 ?_; exact norm_ (by simp only [putAll, Act.put, mD, mE, mF]; first | done | rfl) (hJ7 (bD) _ ⟨al, au.o, ae.o, ac.o, HB.o⟩)
             skip
             refine box_step rfl (N := 9) rfl (cs := #[.int .i64 0, .slice none 0 0, .slice none 0 0, .slice none 0 0]) (t := 29) (by go_simp; done) ?_; intro ak hg w22 hbox hb; have ai := A_ (hbox); have a8 := A_ ((by rw [hg]; exact (below_size HB.o) : wb.heap.size ≤ ak)); have aU := A_ ((by rw [hg]; exact (below_size HB.o) : wb.heap.size ≤ ak)); replace HB := bs_ HB hb; have ag := nl_ ae hg; have am := ng_ ae hg; replace ae := bb_ ae hb; have af := nl_ ac hg; have aj := ng_ ac hg; replace ac := bb_ ac hb; clear hb hbox hg; refine hK.out _ _ (bc3 ac) (fun al => ?_); clear hK K; refine nm_ 9 ?_; exact norm_ (by simp only [putAll, Act.put, mD, mE, mF]; first | done | rfl) (hJ9 (ak) _ ⟨al, ae.o, ac.o, ai.o, a8.o, aU.o, ag.o, am.o, af.o, aj.o, HB.o⟩)
            skip
            rintro ak w23 ⟨al, h0_, h1_, h2_, h3_, h4_, h5_, h6_, h7_, h8_, h9_⟩
            clear ae ac HB; try dsimp only at al h0_ h1_ h2_ h3_ h4_ h5_ h6_ h7_ h8_ h9_
            have ae := A_ h0_; have ac := A_ h1_; have ai := A_ h2_; have a8 := A_ h3_; have aU := A_ h4_; have ag := A_ h5_; have am := A_ h6_; have af := A_ h7_; have aj := A_ h8_; have HB := A_ h9_; clear h0_ h1_ h2_ h3_ h4_ h5_ h6_ h7_ h8_ h9_
            refine norm_ (by simp only [putAll, Act.put, mD, mE, mF]; rfl) ?_
            refine two_ (i := 4) (j := 7) (Ni := some 38) (Nj := some 41) (mk_ 11 639) (mk_ 11 751) rfl rfl rfl rfl (two_of a9.o (by kernel_rfl)) (by decide) (by decide) (fun K hK => ?_) (fun K hK => ?_)
            ·skip
             refine Kd.R_make_step (Kd.int .i64) _ 3 (by rfl) (N := 38) rfl 23 _ _ rfl aW rfl rfl Try.underlying23 (.int .i64 0) 8 info3 rfl (by decide) (by omega) 0 (ok := fun _ => True) (okp := fun _ => True) rfl (fun _ hk => hk) trivial oa_ (Nat.le_trans (Nat.mul_le_mul_right _ (oa_ : aW.toNat ≤ 35184372088832)) (by omega)) (Below.refl _ _) (Nat.le_refl _) ?_; intro bC w24 b8 hb hg_ hnew_; clear hg_ hnew_
             (rw [← cj.o] at b8)
             have ap := A_ (Kd.R_lower b8 (below_size HB.o)); replace ae := bb_ ae hb; replace ac := bb_ ac hb; replace ai := bb_ ai hb; replace HB := bs_ HB hb; clear hb b8; refine hK.out _ _ (bc3 ac) (fun al => ?_); clear hK K; refine nm_ 38 ?_; exact norm_ (by simp only [putAll, Act.put, mD, mE, mF]; first | done | rfl) (hJ4_9 (bC, ak) _ ⟨al, ap.o, ae.o, ac.o, ai.o, a8.o, aU.o, ag.o, am.o, af.o, aj.o, HB.o⟩)
            skip
            refine Kd.R_make_step (Kd.int .i64) _ 3 (by rfl) (N := 41) rfl 23 _ _ rfl aW rfl rfl Try.underlying23 (.int .i64 0) 8 info3 rfl (by decide) (by omega) 0 (ok := fun _ => True) (okp := fun _ => True) rfl (fun _ hk => hk) trivial oa_ (Nat.le_trans (Nat.mul_le_mul_right _ (oa_ : aW.toNat ≤ 35184372088832)) (by omega)) (Below.refl _ _) (Nat.le_refl _) ?_; intro bD w24 b8 hb hg_ hnew_; clear hg_ hnew_
            (rw [← ck.o] at b8)
            have au := A_ (Kd.R_lower b8 (below_size HB.o)); replace ae := bb_ ae hb; replace ac := bb_ ac hb; replace ai := bb_ ai hb; replace HB := bs_ HB hb; clear hb b8; refine hK.out _ _ (bc3 ac) (fun al => ?_); clear hK K; refine nm_ 41 ?_; exact norm_ (by simp only [putAll, Act.put, mD, mE, mF]; first | done | rfl) (hJ7_9 (bD, ak) _ ⟨al, au.o, ae.o, ac.o, ai.o, a8.o, aU.o, ag.o, am.o, af.o, aj.o, HB.o⟩)
           skip
           rintro bD w24 ⟨al, h0_, h1_, h2_, h3_⟩
           clear ae ac HB; try dsimp only at al h0_ h1_ h2_ h3_
           have au := A_ h0_; have ae := A_ h1_; have ac := A_ h2_; have HB := A_ h3_; clear h0_ h1_ h2_ h3_
           refine norm_ (by simp only [putAll, Act.put, mD, mE, mF]; rfl) ?_
           refine two_ (i := 4) (j := 9) (Ni := some 38) (Nj := some 9) (mk_ 11 255) (mk_ 11 751) rfl rfl rfl rfl (two_of a9.o (by kernel_rfl)) (by decide) (by decide) (fun K hK => ?_) (fun K hK => ?_)
           ·skip
            refine Kd.R_make_step (Kd.int .i64) _ 3 (by rfl) (N := 38) rfl 23 _ _ rfl aW rfl rfl Try.underlying23 (.int .i64 0) 8 info3 rfl (by decide) (by omega) 0 (ok := fun _ => True) (okp := fun _ => True) rfl (fun _ hk => hk) trivial oa_ (Nat.le_trans (Nat.mul_le_mul_right _ (oa_ : aW.toNat ≤ 35184372088832)) (by omega)) (Below.refl _ _) (Nat.le_refl _) ?_; intro bC w25 bM hb hg_ hnew_; clear hg_ hnew_
            (rw [← cj.o] at bM)
            have ap := A_ (Kd.R_lower (Kd.R_new' bM (Kd.R_lt au.o)) (below_size HB.o)); replace au := A_ (Kd.R_elder' au.o (Kd.R_base bM) hb); replace ae := bb_ ae hb; replace ac := bb_ ac hb; replace HB := bs_ HB hb; clear hb bM; obtain ⟨dU, d8, de⟩ := Kd.R_slice au.o
            (first | subst de | (injection de with f1_ f2_ f3_; have f4_ := f1_.symm; have f5_ := f3_.symm; clear f1_ f2_ f3_; subst f4_; subst f5_))
            obtain ⟨b6, bT, bm⟩ := Kd.R_slice ap.o
            (first | subst bm | (injection bm with f1_ f2_ f3_; have f4_ := f1_.symm; have f5_ := f3_.symm; clear f1_ f2_ f3_; subst f4_; subst f5_))
            refine hK.out _ _ (bc3 ac) (fun al => ?_); clear hK K; refine nm_ 38 ?_; refine pw_ 8 42 (mk_ 11 511) a9 ?_; exact norm_ (by simp only [putAll, Act.put, mD, mE, mF]; first | done | rfl) (hJ4_7 (.slice b6 aM.length bT, .slice dU bg.length d8) _ ⟨al, (by exact Kd.R_mono ap.o (fun _ hk => hk.2)), (by exact Kd.R_mono au.o (fun _ hk => hk.2)), ae.o, ac.o, HB.o⟩)
           skip
           refine box_step rfl (N := 9) rfl (cs := #[.int .i64 0, .slice none 0 0, .slice none 0 0, .slice none 0 0]) (t := 29) (by go_simp; done) ?_; intro ak hg w25 hbox hb; replace au := A_ (Kd.R_below au.o hb); have ai := A_ (hbox); have a8 := A_ ((by rw [hg]; exact (below_size HB.o) : wb.heap.size ≤ ak)); have aU := A_ ((by rw [hg]; exact (below_size HB.o) : wb.heap.size ≤ ak)); replace HB := bs_ HB hb; have ag := nl_ ae hg; have am := ng_ ae hg; replace ae := bb_ ae hb; have af := nl_ ac hg; have aj := ng_ ac hg; replace ac := bb_ ac hb; clear hb hbox hg; refine hK.out _ _ (bc3 ac) (fun al => ?_); clear hK K; refine nm_ 9 ?_; exact norm_ (by simp only [putAll, Act.put, mD, mE, mF]; first | done | rfl) (hJ7_9 (bD, ak) _ ⟨al, au.o, ae.o, ac.o, ai.o, a8.o, aU.o, ag.o, am.o, af.o, aj.o, HB.o⟩)
          skip
          rintro bC w24 ⟨al, h0_, h1_, h2_, h3_⟩
          clear ae ac HB; try dsimp only at al h0_ h1_ h2_ h3_
          have ap := A_ h0_; have ae := A_ h1_; have ac := A_ h2_; have HB := A_ h3_; clear h0_ h1_ h2_ h3_
          refine norm_ (by simp only [putAll, Act.put, mD, mE, mF]; rfl) ?_
          refine two_ (i := 7) (j := 9) (Ni := some 41) (Nj := some 9) (mk_ 11 255) (mk_ 11 639) rfl rfl rfl rfl (two_of a9.o (by kernel_rfl)) (by decide) (by decide) (fun K hK => ?_) (fun K hK => ?_)
          ·skip
           refine Kd.R_make_step (Kd.int .i64) _ 3 (by rfl) (N := 41) rfl 23 _ _ rfl aW rfl rfl Try.underlying23 (.int .i64 0) 8 info3 rfl (by decide) (by omega) 0 (ok := fun _ => True) (okp := fun _ => True) rfl (fun _ hk => hk) trivial oa_ (Nat.le_trans (Nat.mul_le_mul_right _ (oa_ : aW.toNat ≤ 35184372088832)) (by omega)) (Below.refl _ _) (Nat.le_refl _) ?_; intro bD w25 bM hb hg_ hnew_; clear hg_ hnew_
           (rw [← ck.o] at bM)
           have au := A_ (Kd.R_lower (Kd.R_new' bM (Kd.R_lt ap.o)) (below_size HB.o)); replace ap := A_ (Kd.R_elder' ap.o (Kd.R_base bM) hb); replace ae := bb_ ae hb; replace ac := bb_ ac hb; replace HB := bs_ HB hb; clear hb bM; obtain ⟨dU, d8, de⟩ := Kd.R_slice au.o
           (first | subst de | (injection de with f1_ f2_ f3_; have f4_ := f1_.symm; have f5_ := f3_.symm; clear f1_ f2_ f3_; subst f4_; subst f5_))
           obtain ⟨b6, bT, bm⟩ := Kd.R_slice ap.o
           (first | subst bm | (injection bm with f1_ f2_ f3_; have f4_ := f1_.symm; have f5_ := f3_.symm; clear f1_ f2_ f3_; subst f4_; subst f5_))
           refine hK.out _ _ (bc3 ac) (fun al => ?_); clear hK K; refine nm_ 41 ?_; refine pw_ 8 42 (mk_ 11 511) a9 ?_; exact norm_ (by simp only [putAll, Act.put, mD, mE, mF]; first | done | rfl) (hJ4_7 (.slice b6 aM.length bT, .slice dU bg.length d8) _ ⟨al, (by exact Kd.R_mono ap.o (fun _ hk => hk.2)), (by exact Kd.R_mono au.o (fun _ hk => hk.2)), ae.o, ac.o, HB.o⟩)
          skip
          refine box_step rfl (N := 9) rfl (cs := #[.int .i64 0, .slice none 0 0, .slice none 0 0, .slice none 0 0]) (t := 29) (by go_simp; done) ?_; intro ak hg w25 hbox hb; replace ap := A_ (Kd.R_below ap.o hb); have ai := A_ (hbox); have a8 := A_ ((by rw [hg]; exact (below_size HB.o) : wb.heap.size ≤ ak)); have aU := A_ ((by rw [hg]; exact (below_size HB.o) : wb.heap.size ≤ ak)); replace HB := bs_ HB hb; have ag := nl_ ae hg; have am := ng_ ae hg; replace ae := bb_ ae hb; have af := nl_ ac hg; have aj := ng_ ac hg; replace ac := bb_ ac hb; clear hb hbox hg; refine hK.out _ _ (bc3 ac) (fun al => ?_); clear hK K; refine nm_ 9 ?_; exact norm_ (by simp only [putAll, Act.put, mD, mE, mF]; first | done | rfl) (hJ4_9 (bC, ak) _ ⟨al, ap.o, ae.o, ac.o, ai.o, a8.o, aU.o, ag.o, am.o, af.o, aj.o, HB.o⟩)
         skip
         rintro ⟨bD, ak⟩ w25 ⟨al, h0_, h1_, h2_, h3_, h4_, h5_, h6_, h7_, h8_, h9_, bB⟩
         clear ae ac HB; try dsimp only at al h0_ h1_ h2_ h3_ h4_ h5_ h6_ h7_ h8_ h9_ bB
         have au := A_ h0_; have ae := A_ h1_; have ac := A_ h2_; have ai := A_ h3_; have a8 := A_ h4_; have aU := A_ h5_; have ag := A_ h6_; have am := A_ h7_; have af := A_ h8_; have aj := A_ h9_; have HB := A_ bB; clear h0_ h1_ h2_ h3_ h4_ h5_ h6_ h7_ h8_ h9_ bB
         refine norm_ (by simp only [putAll, Act.put, mD, mE, mF]; rfl) ?_
         refine one_ (i := 4) (N := some 38) (mk_ 11 767) rfl rfl (one_of a9.o (by kernel_rfl)) (by decide) (fun K hK => ?_); refine Kd.R_make_step (Kd.int .i64) _ 3 (by rfl) (N := 38) rfl 23 _ _ rfl aW rfl rfl Try.underlying23 (.int .i64 0) 8 info3 rfl (by decide) (by omega) 0 (ok := fun _ => True) (okp := fun _ => True) rfl (fun _ hk => hk) trivial oa_ (Nat.le_trans (Nat.mul_le_mul_right _ (oa_ : aW.toNat ≤ 35184372088832)) (by omega)) (Below.refl _ _) (Nat.le_refl _) ?_; intro bC w26 bN hb hg_ hnew_; clear hg_ hnew_
         (rw [← cj.o] at bN)
         have ap := A_ (Kd.R_lower (Kd.R_new' bN (Kd.R_lt au.o)) (below_size HB.o)); replace au := A_ (Kd.R_elder' au.o (Kd.R_base bN) hb); replace ae := bb_ ae hb; replace ac := bb_ ac hb; replace ai := bb_ ai hb; replace HB := bs_ HB hb; clear hb bN; obtain ⟨b6, bT, bm⟩ := Kd.R_slice au.o
         (first | subst bm | (injection bm with f1_ f2_ f3_; have f4_ := f1_.symm; have f5_ := f3_.symm; clear f1_ f2_ f3_; subst f4_; subst f5_))
         obtain ⟨cX, dd, bV⟩ := Kd.R_slice ap.o
         (first | subst bV | (injection bV with f1_ f2_ f3_; have f4_ := f1_.symm; have f5_ := f3_.symm; clear f1_ f2_ f3_; subst f4_; subst f5_))
         refine hK.out _ _ (bc3 ac) (fun al => ?_); clear hK K; refine nm_ 38 ?_; refine pw_ 8 42 (mk_ 11 1023) a9 ?_; exact norm_ (by simp only [putAll, Act.put, mD, mE, mF]; first | done | rfl) (hJ4_7_9 (.slice cX aM.length dd, .slice b6 bg.length bT, ak) _ ⟨al, (by exact Kd.R_mono ap.o (fun _ hk => hk.2)), (by exact Kd.R_mono au.o (fun _ hk => hk.2)), ae.o, ac.o, ai.o, a8.o, aU.o, ag.o, am.o, af.o, aj.o, HB.o⟩)
        skip
        rintro ⟨bC, ak⟩ w25 ⟨al, h0_, h1_, h2_, h3_, h4_, h5_, h6_, h7_, h8_, h9_, bB⟩
        clear ae ac HB; try dsimp only at al h0_ h1_ h2_ h3_ h4_ h5_ h6_ h7_ h8_ h9_ bB
        have ap := A_ h0_; have ae := A_ h1_; have ac := A_ h2_; have ai := A_ h3_; have a8 := A_ h4_; have aU := A_ h5_; have ag := A_ h6_; have am := A_ h7_; have af := A_ h8_; have aj := A_ h9_; have HB := A_ bB; clear h0_ h1_ h2_ h3_ h4_ h5_ h6_ h7_ h8_ h9_ bB
        refine norm_ (by simp only [putAll, Act.put, mD, mE, mF]; rfl) ?_
        refine one_ (i := 7) (N := some 41) (mk_ 11 767) rfl rfl (one_of a9.o (by kernel_rfl)) (by decide) (fun K hK => ?_); refine Kd.R_make_step (Kd.int .i64) _ 3 (by rfl) (N := 41) rfl 23 _ _ rfl aW rfl rfl Try.underlying23 (.int .i64 0) 8 info3 rfl (by decide) (by omega) 0 (ok := fun _ => True) (okp := fun _ => True) rfl (fun _ hk => hk) trivial oa_ (Nat.le_trans (Nat.mul_le_mul_right _ (oa_ : aW.toNat ≤ 35184372088832)) (by omega)) (Below.refl _ _) (Nat.le_refl _) ?_; intro bD w26 bN hb hg_ hnew_; clear hg_ hnew_
        (rw [← ck.o] at bN)
        have au := A_ (Kd.R_lower (Kd.R_new' bN (Kd.R_lt ap.o)) (below_size HB.o)); replace ap := A_ (Kd.R_elder' ap.o (Kd.R_base bN) hb); replace ae := bb_ ae hb; replace ac := bb_ ac hb; replace ai := bb_ ai hb; replace HB := bs_ HB hb; clear hb bN; obtain ⟨b6, bT, bm⟩ := Kd.R_slice au.o
        (first | subst bm | (injection bm with f1_ f2_ f3_; have f4_ := f1_.symm; have f5_ := f3_.symm; clear f1_ f2_ f3_; subst f4_; subst f5_))
        obtain ⟨cX, dd, bV⟩ := Kd.R_slice ap.o
        (first | subst bV | (injection bV with f1_ f2_ f3_; have f4_ := f1_.symm; have f5_ := f3_.symm; clear f1_ f2_ f3_; subst f4_; subst f5_))
        refine hK.out _ _ (bc3 ac) (fun al => ?_); clear hK K; refine nm_ 41 ?_; refine pw_ 8 42 (mk_ 11 1023) a9 ?_; exact norm_ (by simp only [putAll, Act.put, mD, mE, mF]; first | done | rfl) (hJ4_7_9 (.slice cX aM.length dd, .slice b6 bg.length bT, ak) _ ⟨al, (by exact Kd.R_mono ap.o (fun _ hk => hk.2)), (by exact Kd.R_mono au.o (fun _ hk => hk.2)), ae.o, ac.o, ai.o, a8.o, aU.o, ag.o, am.o, af.o, aj.o, HB.o⟩)
       skip
       rintro ⟨bC, bD⟩ w28 ⟨al, h0_, h1_, h2_, h3_, h4_⟩
       clear ae ac HB; try dsimp only at al h0_ h1_ h2_ h3_ h4_
       have ap := A_ h0_; have au := A_ h1_; have ae := A_ h2_; have ac := A_ h3_; have HB := A_ h4_; clear h0_ h1_ h2_ h3_ h4_
       obtain ⟨cX, dd, bV⟩ := Kd.R_slice au.o
       (first | subst bV | (injection bV with f1_ f2_ f3_; have f4_ := f1_.symm; have f5_ := f3_.symm; clear f1_ f2_ f3_; subst f4_; subst f5_))
       obtain ⟨bR, bU, df⟩ := Kd.R_slice ap.o
       (first | subst df | (injection df with f1_ f2_ f3_; have f4_ := f1_.symm; have f5_ := f3_.symm; clear f1_ f2_ f3_; subst f4_; subst f5_))
       refine norm_ (by simp only [putAll, Act.put, mD, mE, mF]; rfl) ?_
       refine one_ (i := 9) (N := some 9) (mk_ 11 1023) rfl rfl (one_of a9.o (by kernel_rfl)) (by decide) (fun K hK => ?_); refine box_step rfl (N := 9) rfl (cs := #[.int .i64 0, .slice none 0 0, .slice none 0 0, .slice none 0 0]) (t := 29) (by go_simp; done) ?_; intro ak hg w31 hbox hb; replace ap := A_ (Kd.R_below ap.o hb); replace au := A_ (Kd.R_below au.o hb); have ai := A_ (hbox); have a8 := A_ ((by rw [hg]; exact (below_size HB.o) : wb.heap.size ≤ ak)); have aU := A_ ((by rw [hg]; exact (below_size HB.o) : wb.heap.size ≤ ak)); replace HB := bs_ HB hb; have ag := nl_ ae hg; have am := ng_ ae hg; replace ae := bb_ ae hb; have af := nl_ ac hg; have aj := ng_ ac hg; replace ac := bb_ ac hb; clear hb hbox hg; refine hK.out _ _ (bc3 ac) (fun al => ?_); clear hK K; refine nm_ 9 ?_; exact norm_ (by simp only [putAll, Act.put, mD, mE, mF]; first | done | rfl) (hJ4_7_9 (.slice bR aM.length bU, .slice cX bg.length dd, ak) _ ⟨al, ap.o, au.o, ae.o, ac.o, ai.o, a8.o, aU.o, ag.o, am.o, af.o, aj.o, HB.o⟩)
      rintro ⟨bC, bD, ak⟩ w29 ⟨al, h0_, h1_, h2_, h3_, h4_, h5_, h6_, h7_, h8_, h9_, bB, ee⟩
      clear ae ac HB; try dsimp only at al h0_ h1_ h2_ h3_ h4_ h5_ h6_ h7_ h8_ h9_ bB ee
      have ap := A_ h0_; have au := A_ h1_; have ae := A_ h2_; have ac := A_ h3_; have ai := A_ h4_; have a8 := A_ h5_; have aU := A_ h6_; have ag := A_ h7_; have am := A_ h8_; have af := A_ h9_; have aj := A_ bB; have HB := A_ ee; clear h0_ h1_ h2_ h3_ h4_ h5_ h6_ h7_ h8_ h9_ bB ee
      obtain ⟨bR, bU, df⟩ := Kd.R_slice au.o
      (first | subst df | (injection df with f1_ f2_ f3_; have f4_ := f1_.symm; have f5_ := f3_.symm; clear f1_ f2_ f3_; subst f4_; subst f5_))
      obtain ⟨dr, cQ, e8⟩ := Kd.R_slice ap.o
      (first | subst e8 | (injection e8 with f1_ f2_ f3_; have f4_ := f1_.symm; have f5_ := f3_.symm; clear f1_ f2_ f3_; subst f4_; subst f5_))
      refine norm_ (by simp only [putAll, Act.put, mD, mE, mF]; rfl) ?_
      refine one_ (i := 10) (N := none) (mk_ 11 2047) rfl rfl (one_of a9.o (by kernel_rfl)) (by decide) (fun K hK => ?_)
      have hs32 : w29.cell? ⟨ak, 0, none⟩ = some (.int .i64 0) := bz0 ai.o
      have hfs32 := blk_frozen ai.o 0; have hns32_0 := ag.o; have hns32_1 := af.o; have hms32_0 := am.o; have hms32_1 := aj.o
      have hs33 : w29.cell? ⟨ak, 1, none⟩ = some (.slice none 0 0) := bz1 ai.o
      have hfs33 := blk_frozen ai.o 1; have hns33_0 := ag.o; have hns33_1 := af.o; have hms33_0 := am.o; have hms33_1 := aj.o
      have hs34 : w29.cell? ⟨ak, 2, none⟩ = some (.slice none 0 0) := bz2 ai.o
      have hfs34 := blk_frozen ai.o 2; have hns34_0 := ag.o; have hns34_1 := af.o; have hms34_0 := am.o; have hms34_1 := aj.o
      have hs35 : w29.cell? ⟨ak, 3, none⟩ = some (.slice none 0 0) := bz3 ai.o
      have hfs35 := blk_frozen ai.o 3; have hns35_0 := ag.o; have hns35_1 := af.o; have hms35_0 := am.o; have hms35_1 := aj.o; refine skip_ (w1 := ?_) (by rfl) rfl ?_ ?_; rotate_left
      ·go_simp
       rfl
      refine hK.out _ _ ⟨((cell_far (p := ⟨ak, _, none⟩) af.o _).trans (((cell_far (p := ⟨ak, _, none⟩) af.o _).trans (((cell_far (p := ⟨ak, _, none⟩) af.o _).trans (((cell_far (p := ⟨ak, _, none⟩) af.o _).trans (al.1)))))))), ((cell_far (p := ⟨ak, _, none⟩) af.o _).trans (((cell_far (p := ⟨ak, _, none⟩) af.o _).trans (((cell_far (p := ⟨ak, _, none⟩) af.o _).trans (((cell_far (p := ⟨ak, _, none⟩) af.o _).trans (al.2.1)))))))), ((cell_far (p := ⟨ak, _, none⟩) af.o _).trans (((cell_far (p := ⟨ak, _, none⟩) af.o _).trans (((cell_far (p := ⟨ak, _, none⟩) af.o _).trans (((cell_far (p := ⟨ak, _, none⟩) af.o _).trans (al.2.2))))))))⟩ (fun al => ?_); clear hK K; refine done_ (done_of a9.o (by kernel_rfl)) ?_
      generalize h_ : ((((w29.setCell ⟨ak, 0, none⟩ (.int .i64 av)).setCell ⟨ak, 1, none⟩ (.slice dr aM.length cQ)).setCell ⟨ak, 2, none⟩ (.slice none 0 0)).setCell ⟨ak, 3, none⟩ (.slice bR bg.length bU)) = w36
      replace ap : Aside0 (Kd.R (Kd.int .i64) 3 w36 wb.heap.size (o1 (.slice bR bg.length bU)) (.slice dr aM.length cQ) aM) := ⟨by rw [← h_]; exact Kd.R_mono (gR4_ (tR_ ap ai)) (fun _ hk => hk.1)⟩; replace au : Aside0 (Kd.R (Kd.int .i64) 3 w36 wb.heap.size (o1 (.slice dr aM.length cQ)) (.slice bR bg.length bU) bg) := ⟨by rw [← h_]; exact Kd.R_mono (gR4_ (tR_ au ai)) (fun _ hk => hk.1)⟩; replace ae : Aside0 (w36.heap[aH]? = some (.cells #[.int .i64 0, .slice none 0 0, .slice none 0 0, .slice none 0 0] 29 (0, 0))) := ⟨by rw [← h_]; exact fa_ ag (fa_ ag (fa_ ag (fa_ ag ae.o)))⟩; replace ac : Aside0 (w36.heap[ao]? = some (.cells #[.int .i64 av, .slice At ab.length ct, .slice Au aw.length cu] 32 (0, 0))) := ⟨by rw [← h_]; exact fa_ af (fa_ af (fa_ af (fa_ af ac.o)))⟩; replace ai : Aside0 (w36.heap[ak]? = some (.cells #[.int .i64 av, .slice dr aM.length cQ, .slice none 0 0, .slice bR bg.length bU] 29 (0, 0))) := ⟨by rw [← h_]; exact pu_ 3 (pu_ 2 (pu_ 1 (pu_ 0 ai.o rfl) rfl) rfl) rfl⟩; replace HB : Aside0 (Below wb.heap.size wb w36) := ⟨by rw [← h_]; repeat (first | (with_reducible first | exact HB.o | apply below_alloc | apply pw_below_drewN | apply below_drew1 | refine below_set ?_ bz.o | refine below_set ?_ bS.o | refine below_set ?_ aU.o) | exact HB.o)⟩; clear h_; have hZ := am.o; have im := ag.o; have h8 := aj.o; have io := af.o; have dy := bq4 ai.o
      have fA : 0 ≤ (0 : Int) := (by omega)
      have fC : (0 : Int) < ((aM.length : Int) : Int) := oa_
      have qi18 : (0 < aM.length) = True := eq_true (by omega)
      obtain ⟨dx, iE, e7, fd, gl18, cl18, HG18⟩ := Kd.R_form ap.o (by omega)
      (first | cases e7 | (injection e7 with ea_ en_ ec_; (first | subst ea_ | (injection ea_ with ea_; subst ea_)); subst ec_; clear en_))
      have GB18 := A_ fd; have GG18 := A_ HG18; clear fd gl18 HG18; obtain ⟨b9, dg⟩ := Kd.R_celln 0 ap.o (0 : Int) fA fC
      (try rw [show ((0 : Int)).toNat = 0 from rfl] at b9)
      (try simp only [Nat.reduceMul, Nat.zero_mul, Nat.zero_add, Nat.reduceAdd] at b9)
      (try rw [show ((0 : Int)).toNat = 0 from rfl] at dg)
      (try simp only [Nat.reduceMul, Nat.zero_mul, Nat.zero_add, Nat.reduceAdd] at dg)
      replace fA := eq_true fA; replace fC := eq_true fC; obtain ⟨hy40_, hz40_⟩ := Kd.R_celln 0 ap.o (0 : Int) (by omega) oa_
      (try simp only [Int.reduceToNat, Int.toNat_zero, Int.toNat_ofNat, Nat.reduceMul, Nat.zero_mul, Nat.zero_add] at hy40_ hz40_)
      (try rw [show ((0 : Int)).toNat = 0 from rfl] at hy40_)
      (try rw [show ((0 : Int)).toNat = 0 from rfl] at hz40_)
      have dX := Kd.R_putg ap.o (0 : Int) 1
      try go_wp2_with (first | ((with_reducible refine gate_store (t := 3) (p := 45) rfl ?_); refine store_event (t := 3) (p := 45) (v := ?vo_w41) (w1 := (w36.setCell ⟨dx, (0 : Int).toNat, none⟩ (.int .i64 1))) ?hg ?ho ?hn ?hr ?_; (case ho => rfl); (case hg => rfl); (case hn => rfl); (case hr => first | (go_simp; done) | (go_simp; rfl) | (obtain ⟨_, _, rfl⟩ := Kd.R_slice ap.o; go_simp; first | done | rfl) | (obtain ⟨_, _, rfl⟩ := Kd.R_slice (Kd.S_R ap.o); go_simp; first | done | rfl)); intro w41 hw; have hg : w36.grownBy w41 (some dx) := (by rw [hw]; exact dX.2); have hp_ : Kd.R (Kd.int .i64) 3 w41 wb.heap.size (o1 (.slice bR bg.length bU)) (.slice (some ⟨dx, 0, none⟩) aM.length cQ) ez := (by rw [hw, eO.o]; exact dX.1); clear dX; replace ae := gR_ ap ae hg; replace ac := gR_ ap ac hg; replace au := rB_ (ok := (fun _ => True)) hp_ au (fun _ hk => ⟨trivial, hk⟩) hg; replace ai := gR_ ap ai hg; replace ap := A_ (hp_); replace HB := A_ ((by rw [hw]; exact below_set (HB.o) GB18.o : Below wb.heap.size wb w41)); clear hg hw hp_; have dz := bq3 ac.o))
      go_loopg [49] kj3 (fun kq iM w' => ∃ (ba : Int) (aE : List Int) (az : List Int) (aJ : Value) (aT : Value), iM = .int .i64 ba ∧ Aside0 (impl_CountingForm2.l0 kq a1 (ab.length : Int) aw (aw.length : Int) ba av ab aw av aE az = some (r1, r2, r3, r4, r5)) ∧ Aside0 (kq ≤ kj3) ∧ Aside0 (Kd.R (Kd.int .i64) 3 w' wb.heap.size (o1 aT) aJ aE) ∧ Aside0 (Kd.R (Kd.int .i64) 3 w' wb.heap.size (o1 aJ) aT az) ∧ Aside0 (w'.heap[aH]? = some (.cells #[.int .i64 0, (.slice none 0 0), (.slice none 0 0), (.slice none 0 0)] 29 (0, 0))) ∧ Aside0 (w'.heap[ao]? = some (.cells #[.int .i64 av, (.slice At ab.length ct), (.slice Au aw.length cu)] 32 (0, 0))) ∧ Aside0 (w'.heap[ak]? = some (.cells #[.int .i64 av, aJ, (.slice none 0 0), aT] 29 (0, 0))) ∧ Aside0 (Below wb.heap.size wb w'))
      case atStart => exact ⟨(0), (ez), (bg), (.slice (some ⟨dx, 0, none⟩) aM.length cQ), (.slice bR bg.length bU), (by rfl), H', ⟨Nat.le_refl _⟩, ⟨ap.o⟩, ⟨by exact Kd.R_mono au.o (fun _ hk => hk.2)⟩, ⟨ae.o⟩, ⟨ac.o⟩, ⟨ai.o⟩, ⟨HB.o⟩⟩
      case round =>
       clear H'
       clear fA fC qi18 dy dz b9
       obtain ⟨ba, aE, az, aJ, aT, rfl, HA, fs, ar, an, ae, ac, ai, HB⟩ := hrel
       cases gk with
       | zero => exact nz_ HA.o
       | succ k2 =>
        have H := HA.o; clear HA; simp only [impl_CountingForm2.l0] at H
        by_cases c43 : ba < (aw.length : Int)
        ·rw [if_pos c43] at H; have dc := decide_eq_true c43; clear c43
         by_cases c44 : 0 ≤ ba
         ·rw [if_pos c44] at H; have hP := decide_eq_true c44; clear c44
          by_cases c45 : ba < (aw.length : Int)
          ·rw [if_pos c45] at H; have hU := decide_eq_true c45; clear c45; replace H := bA_ H; obtain ⟨cf, A46, H⟩ := H; obtain ⟨bu, bW⟩ : ∃ j_ : Int, (wrap64 ((ab.length : Int) + ba)) = j_ := ⟨_, rfl⟩; replace H : (if 0 ≤ (bu) then (if (bu) < (az.length : Int) then (impl_CountingForm2.l0 k2 a1 (ab.length : Int) aw (aw.length : Int) (wrap64 (ba + 1)) av ab aw av aE (az.set ((bu) : Int).toNat cf)) else (none)) else (none)) = some (r1, r2, r3, r4, r5) := by first | (rw [bW] at H; exact H) | (simp only [bW] at H ⊢; exact H)
           (try rw [bW] at A46)
           have gu : (IntKind.i64.wrap ((ab.length : Int) + ba)) = bu := (i64_w _).trans bW
           by_cases c48 : 0 ≤ (bu)
           ·rw [if_pos c48] at H; have hV := decide_eq_true c48; clear c48
            by_cases c49 : (bu) < (az.length : Int)
            ·rw [if_pos c49] at H; have hW := decide_eq_true c49; clear c49; obtain ⟨fk, dl⟩ := ex_ ((az.set ((bu) : Int).toNat cf) : List Int); replace H : (impl_CountingForm2.l0 k2 a1 (ab.length : Int) aw (aw.length : Int) (wrap64 (ba + 1)) av ab aw av aE fk) = some (r1, r2, r3, r4, r5) := by (rw [dl]; with_reducible exact H)
             have eP := A_ dl; clear dl
             have H' := A_ H
             clear H
             have ek : 0 ≤ (ba : Int) := oa_
             have ep : ba < (aw.length : Int) := oa_
             obtain ⟨gV, ga, bO⟩ := Kd.at_int HRb.o ba ek ep
             cases ga
             replace bO := (HB.o.cell (World.block_lt_of_cell? wb _ bO)).trans bO; replace ek := eq_true ek; replace ep := eq_true ep
             try go_wp2
             replace ar := A_ (Kd.R_drew ar.o); replace an := A_ (Kd.R_drew an.o); replace ae := A_ (blk_drew ae.o); replace ac := A_ (blk_drew ac.o); replace ai := A_ (blk_drew ai.o); replace HB := A_ (below_drew1 HB.o); refine start_ (n := 11) (S := fun w' => w'.cell? ⟨ak, 0, none⟩ = some (.int .i64 av) ∧ w'.cell? ⟨ak, 1, none⟩ = some (aJ) ∧ w'.cell? ⟨ak, 2, none⟩ = some (.slice none 0 0) ∧ w'.cell? ⟨ak, 3, none⟩ = some (aT)) (ds := [10]) (mk_ 11 0) (by kernel_rfl) rfl rfl (bc4 ai) (fun al => ?_); refine with_tabW impl_CountingForm2.tab10 impl_CountingForm2.bits10 (fun a9 d0 => ?_)
             generalize wr.drew = w51 at ar an ae ac ai HB al ⊢
             refine pw_ 0 54 (mk_ 11 1) a9 ?_; refine pw_ 2 56 (mk_ 11 5) a9 ?_; refine pw_ 3 57 (mk_ 11 13) a9 ?_; refine pw_ 4 58 (mk_ 11 29) a9 ?_; refine pw_ 5 59 (mk_ 11 61) a9 ?_; refine pw_ 6 60 (mk_ 11 125) a9 ?_; refine pw_ 7 61 (mk_ 11 253) a9 ?_; refine tk_ 1 55 (mk_ 11 255) a9 d0 al ?_; refine one_ (i := 8) (N := some 62) (mk_ 11 511) rfl rfl (one_of a9.o (by kernel_rfl)) (by decide) (fun K hK => ?_); refine cS_ E27 rfl rfl rfl (impl_oneIf.calls ((rd aw ba) == a1) cf _ A46.o) (by simp only [mA, mB, mC]; rfl) ?_; rintro e w' ⟨rfl, ⟨nd, rfl⟩⟩; refine ⟨_, rfl, ?_⟩
             have gD : 0 ≤ ((bu) : Int) := oa_
             have gH : ((bu) : Int) < ((az.length : Int) : Int) := oa_
             obtain ⟨ed, fQ, fb, fh, gl50, cl50, HG50⟩ := Kd.R_form an.o (by omega)
             (first | cases fb | (injection fb with ea_ en_ ec_; (first | subst ea_ | (injection ea_ with ea_; subst ea_)); subst ec_; clear en_))
             have GB50 := A_ fh; have GG50 := A_ HG50; clear fh gl50 HG50; obtain ⟨gy, gn⟩ := Kd.R_celln 0 an.o ((bu) : Int) gD gH; replace gD := eq_true gD; replace gH := eq_true gH; have dZ := Kd.R_putn an.o ((bu) : Int) cf; rw [← eP.o] at dZ; have HQ52 := A_ dZ; clear dZ; refine hK.out _ _ (bc4 ai) (fun al => ?_); clear hK K; refine nm_ 62 ?_; refine pw_ 9 63 (mk_ 11 1023) a9 ?_; refine last_ (i := 10) (N := none) (mk_ 11 2047) rfl rfl (one_of a9.o (by kernel_rfl)) (by decide) (fun K hK => ?_); refine skip_ (w1 := ?_) (by rfl) rfl ?_ ?_; rotate_left
             ·go_simp
              rfl
             refine hK.out _ _ ?_; clear hK K; refine done_ (done_of a9.o (by kernel_rfl)) ?_
             try go_wp2
             (try subst bl)
             go_roundg k2
             case measure => have := fr.o; have := fs.o; omega
             case rel => exact ⟨(wrap64 (ba + 1)), (aE), (fk), (aJ), (.slice (some ⟨ed, 0, none⟩) az.length fQ), (by rfl), H', ⟨by have := fr.o; have := fs.o; omega⟩, ⟨by exact Kd.R_mono (Kd.R_far (p := ⟨ed, ((bu) : Int).toNat, none⟩) (Kd.R_mono ar.o (fun k_ hk => (⟨hk, fun e_ => hk (by rw [e_]; rfl)⟩ : _ ∧ k_ ≠ ed))) (fun _ hk => hk.2) (.int .i64 cf)) (fun _ hk => hk.1)⟩, ⟨HQ52.o⟩, ⟨by refine blk_far ?_ (by have h_ := Kd.R_ne an.o ae.o (by decide); intro e_; exact h_ (by rw [e_]; rfl)) _; (with_reducible repeat (first | refine blk_drewN ?_ _ | refine blk_drew ?_ | refine blk_alloc ?_ _)); exact ae.o⟩, ⟨by refine blk_far ?_ (by have h_ := Kd.R_ne an.o ac.o (by decide); intro e_; exact h_ (by rw [e_]; rfl)) _; (with_reducible repeat (first | refine blk_drewN ?_ _ | refine blk_drew ?_ | refine blk_alloc ?_ _)); exact ac.o⟩, ⟨by refine blk_far ?_ (by have h_ := Kd.R_ne an.o ai.o (by decide); intro e_; exact h_ (by rw [e_]; rfl)) _; (with_reducible repeat (first | refine blk_drewN ?_ _ | refine blk_drew ?_ | refine blk_alloc ?_ _)); exact ai.o⟩, ⟨by repeat (first | (with_reducible first | exact HB.o | apply below_alloc | apply pw_below_drewN | apply below_drew1 | refine below_set ?_ GB50.o | refine below_set ?_ bz.o | refine below_set ?_ bS.o | refine below_set ?_ aU.o) | exact HB.o)⟩⟩
            rw [if_neg c49] at H
            cases H
           rw [if_neg c48] at H
           cases H
          rw [if_neg c45] at H
          cases H
         rw [if_neg c44] at H
         cases H
        rw [if_neg c43] at H; have dc := decide_eq_false c43; clear c43
        have H' := A_ H
        clear H; have h9 := aZ.o; have ip := aC.o; have ia := af.o; have iq := aj.o; have dA := bq3 ac.o
        go_wp2
        go_loopg [67] k2 (fun kq iQ w' => ∃ (aq : Int) (aV : List (List (List Int))) (bo : Value), iQ = .int .i64 aq ∧ Aside0 (impl_CountingForm2.l1 kq (ab.length : Int) av aq av ab aw av aE aV az = some (r1, r2, r3, r4, r5)) ∧ Aside0 (kq ≤ k2) ∧ Aside0 (Kd.R (Kd.int .i64) 3 w' wb.heap.size (o1 aT) aJ aE) ∧ Aside0 (Kd.S (sS 23 (Kd.slice 3 (Kd.int .i64))) 22 w' wb.heap.size (o2 aJ aT) bo aV) ∧ Aside0 (Kd.R (Kd.int .i64) 3 w' wb.heap.size (o1 aJ) aT az) ∧ Aside0 (w'.heap[aH]? = some (.cells #[.int .i64 0, (.slice none 0 0), (.slice none 0 0), (.slice none 0 0)] 29 (0, 0))) ∧ Aside0 (w'.heap[ao]? = some (.cells #[.int .i64 av, (.slice At ab.length ct), (.slice Au aw.length cu)] 32 (0, 0))) ∧ Aside0 (w'.heap[ak]? = some (.cells #[.int .i64 av, aJ, bo, aT] 29 (0, 0))) ∧ Aside0 (Below wb.heap.size wb w'))
        case atStart => exact ⟨(0), (([] : List (List (List Int)))), (.slice none 0 0), (by rfl), H', ⟨Nat.le_refl _⟩, ⟨ar.o⟩, ⟨by exact Kd.S_nil _ _ _ _ _⟩, ⟨an.o⟩, ⟨ae.o⟩, ⟨ac.o⟩, ⟨ai.o⟩, ⟨HB.o⟩⟩
        case round =>
         clear H'
         clear dc dA
         obtain ⟨aq, aV, bo, rfl, HA, gP, ar, aA, an, ae, ac, ai, HB⟩ := hrel
         cases gk with
         | zero => exact nz_ HA.o
         | succ k3 =>
          have H := HA.o; clear HA; simp only [impl_CountingForm2.l1] at H
          by_cases c56 : aq < av
          ·rw [if_pos c56] at H; have e3 := decide_eq_true c56; clear c56; replace H := bA_ H; obtain ⟨bd, A57, H⟩ := H
           by_cases c58 : aV.length < 5864062014805
           ·rw [if_pos c58] at H; have eF := A_ c58; clear c58; obtain ⟨cV, dm⟩ := ex_ ((aV ++ [bd]) : List (List (List Int))); replace H : (impl_CountingForm2.l1 k3 (ab.length : Int) av (wrap64 (aq + 1)) av ab aw av aE cV az) = some (r1, r2, r3, r4, r5) := by (rw [dm]; with_reducible exact H)
            have eQ := A_ dm; clear dm
            have H' := A_ H
            clear H; have ib := aZ.o; have ir := aC.o; have ic := af.o; have iu := aj.o; have cm := bq3 ac.o; obtain ⟨wd, hwd⟩ : ∃ wd, wd = wr := ⟨_, rfl⟩; subst hwd; have HRd := A_ (Kd.C_below HRa.o HB.o); have HBd := A_ (Below.refl wd.heap.size wd); have HHd := A_ A57.o
            (try subst bl)
            (try subst bW)
            have Hd : ((impl_square.f k3 (wrap64 (2 * (ab.length : Int)))).bind fun ce => (impl_digitMatrix.l0 k3 (ab.length : Int) aq ce ab (ab.length : Int) 0)) = some bd := HHd.o
            replace Hd := Option.bind_eq_some_iff.mp Hd; obtain ⟨ce, A40, Hd⟩ := Hd; replace Hd : (impl_digitMatrix.l0 k3 (ab.length : Int) aq ce ab (ab.length : Int) 0) = some bd := Hd; have A4 := A_ A40; clear A40
            have Hd' := A_ Hd
            clear Hd
            go_wp2_with (first | ((with_reducible refine gc_ 28 rfl ?_); refine cM_ E28 72 (impl_square.calls k3 (wrap64 (2 * (ab.length : Int))) ce _ A4.o) ?_; rintro e w5 ⟨gI, rfl, ho0, hb⟩; refine ⟨_, rfl, ?_⟩; have eE := A_ (Kd.S_lower ho0 (below_size HBd.o)); replace HBd := bs_ HBd hb; clear hb ho0; have hcd_ := (HBd.o.cell (World.block_lt_of_cell? wd _ cm.1.2.1)).trans cm.1.2.1))
            go_loopg [76] k3 (fun kq iR w' => ∃ (aN : List (List Int)) (aa : Int), iR = .int .i64 aa ∧ Aside0 (impl_digitMatrix.l0 kq (ab.length : Int) aq aN ab (ab.length : Int) aa = some bd) ∧ Aside0 (kq ≤ k3) ∧ Aside0 (Kd.S (Kd.slice 3 (Kd.int .i64)) 23 w' wd.heap.size (fun _ => True) gI aN) ∧ Aside0 (Below wd.heap.size wd w'))
            case atStart => exact ⟨(ce), (0), (by rfl), Hd', ⟨Nat.le_refl _⟩, ⟨eE.o⟩, ⟨HBd.o⟩⟩
            case round =>
             clear Hd'; obtain ⟨aN, aa, rfl, HAd, HKd1, ay, HBd⟩ := hrel
             cases gk with
             | zero => exact nz_ HAd.o
             | succ kd1 =>
              have Hd := HAd.o; clear HAd; simp only [impl_digitMatrix.l0] at Hd
              by_cases c6 : aa < (ab.length : Int)
              ·rw [if_pos c6] at Hd; have e4 := decide_eq_true c6; clear c6
               by_cases c7 : 0 ≤ aa
               ·rw [if_pos c7] at Hd; have fN := decide_eq_true c7; clear c7
                by_cases c8 : aa < (ab.length : Int)
                ·rw [if_pos c8] at Hd; have fO := decide_eq_true c8; clear c8
                 by_cases c9 : aa < (aN.length : Int)
                 ·rw [if_pos c9] at Hd; have fP := decide_eq_true c9; clear c9
                  by_cases c10 : 0 ≤ aq
                  ·rw [if_pos c10] at Hd; have eV := decide_eq_true c10; clear c10
                   by_cases c11 : aq < ((rd_L1 ab aa).length : Int)
                   ·rw [if_pos c11] at Hd; have eW := decide_eq_true c11; clear c11
                    by_cases c12 : 0 ≤ (rd (rd_L1 ab aa) aq)
                    ·rw [if_pos c12] at Hd; have eX := decide_eq_true c12; clear c12
                     by_cases c13 : (rd (rd_L1 ab aa) aq) < ((rd_L1 aN aa).length : Int)
                     ·rw [if_pos c13] at Hd; have eY := decide_eq_true c13; clear c13; obtain ⟨eq, bX⟩ := ex_ (((rd_L1 aN aa).set ((rd (rd_L1 ab aa) aq) : Int).toNat (wrap64 ((rd (rd_L1 aN aa) (rd (rd_L1 ab aa) aq)) + 1))) : List Int); replace Hd : (impl_digitMatrix.l1 kd1 (ab.length : Int) aq (aN.set (aa : Int).toNat eq) aa ab (ab.length : Int) aa (rd_L1 ab aa) ((rd_L1 ab aa).length : Int) 0) = some bd := by first | (rw [bX]; with_reducible exact Hd) | (have H2_ := (Option.bind_some _ _).symm.trans Hd; rw [bX]; with_reducible exact H2_) | (have H2_ := (Option.bind_some _ _).symm.trans Hd; with_reducible exact H2_) | with_reducible exact Hd | (rw [bX]; exact Hd) | exact Hd
                      have eG := A_ bX; clear bX; obtain ⟨fj, bY⟩ := ex_ ((aN.set (aa : Int).toNat eq) : List (List Int)); replace Hd : (impl_digitMatrix.l1 kd1 (ab.length : Int) aq fj aa ab (ab.length : Int) aa (rd_L1 ab aa) ((rd_L1 ab aa).length : Int) 0) = some bd := by first | (rw [bY]; with_reducible exact Hd) | (have H2_ := (Option.bind_some _ _).symm.trans Hd; rw [bY]; with_reducible exact H2_) | (have H2_ := (Option.bind_some _ _).symm.trans Hd; with_reducible exact H2_) | with_reducible exact Hd | (rw [bY]; exact Hd) | exact Hd
                      have eH := A_ bY; clear bY
                      have Hd' := A_ Hd
                      clear Hd
                      have dE : 0 ≤ (aa : Int) := oa_
                      have dK : aa < (ab.length : Int) := oa_
                      obtain ⟨gQ, fD, fM, fV, bv, cC, co⟩ := at_L1 HRd.o aa dE dK
                      cases fV
                      replace bv := (HBd.o.cell (World.block_lt_of_cell? wd _ bv)).trans bv; have bK := A_ co; have fl := A_ cC; clear co cC; replace dE := eq_true dE; replace dK := eq_true dK
                      try go_wp2
                      replace ay := A_ (Kd.S_drew ay.o); replace HBd := A_ (below_drew1 HBd.o); obtain ⟨iC, dv, e6⟩ := Kd.S_slice ay.o
                      (first | subst e6 | (injection e6 with f1_ f2_ f3_; have f4_ := f1_.symm; have f5_ := f3_.symm; clear f1_ f2_ f3_; subst f4_; subst f5_))
                      have dn : 0 ≤ (aa : Int) := oa_
                      have dp : aa < (aN.length : Int) := oa_
                      obtain ⟨br, fE, d4, fW, bn, cD, cq⟩ := at_L1 (Kd.S_reads' ay.o).2.2 aa dn dp
                      cases fW
                      obtain ⟨ce573, hce573, hMe573, hcc573⟩ := Kd.S_get ay.o [] aa dn (by exact dp); obtain ⟨ve573_0, rfl, ge573_0⟩ := hMe573; have hv573_0 := hcc573 0 _ rfl; rw [Nat.add_zero, show ((Kd.slice 3 (Kd.int .i64))).sz = 1 from rfl, Nat.mul_one] at hv573_0; replace hv573_0 := Option.some.inj (hv573_0.symm.trans bn); rw [hv573_0] at ge573_0; have HL573_0 := A_ (show Kd.R (Kd.int .i64) 3 _ _ _ _ (rd_L1 aN aa) from ge573_0); clear hv573_0 ge573_0; have HX573_0 := A_ bn; clear hcc573 hce573; have bL := A_ cq; have fm := A_ cD; clear cq cD; replace dn := eq_true dn; replace dp := eq_true dp
                      have dF : 0 ≤ (aq : Int) := oa_
                      have dL : aq < ((rd_L1 ab aa).length : Int) := oa_
                      obtain ⟨da, fX, bj⟩ := Kd.at_int bK.o aq dF dL; have cH := bj
                      cases fX
                      replace bj := (HBd.o.cell (World.block_lt_of_cell? wd _ bj)).trans bj; replace dF := eq_true dF; replace dL := eq_true dL
                      have dG : 0 ≤ ((rd (rd_L1 ab aa) aq) : Int) := oa_
                      have dM : (rd (rd_L1 ab aa) aq) < ((rd_L1 aN aa).length : Int) := oa_
                      obtain ⟨gR, fY, bw⟩ := Kd.at_int (by repeat (first | (with_reducible exact bL.o) | (with_reducible refine Kd.C_alloc ?_ _) | (with_reducible refine Kd.C_drewN ?_ _) | (with_reducible refine Kd.C_drew ?_) | exact bL.o)) (rd (rd_L1 ab aa) aq) dG dM
                      cases fY
                      replace dG := eq_true dG; replace dM := eq_true dM
                      have fz : 0 ≤ ((rd (rd_L1 ab aa) aq) : Int) := oa_
                      have fB : ((rd (rd_L1 ab aa) aq) : Int) < (((rd_L1 aN aa).length : Int) : Int) := oa_
                      obtain ⟨fi, iD, e5, fc, gl14, cl14, HG14⟩ := Kd.R_form HL573_0.o (by omega)
                      (first | cases e5 | (injection e5 with ea_ en_ ec_; (first | subst ea_ | (injection ea_ with ea_; subst ea_)); subst ec_; clear en_))
                      have GB14 := A_ fc; have GG14 := A_ HG14; clear fc gl14 HG14
                      (first | simp only [add_plain] at bw | skip)
                      obtain ⟨dh, eg⟩ := Kd.R_celln 0 HL573_0.o ((rd (rd_L1 ab aa) aq) : Int) fz fB; replace fz := eq_true fz; replace fB := eq_true fB
                      have hq17 : (aa : Int) < (aN.length : Int) := (by have h_ : (aa : Int) < ((aN.length : Int) : Int) := oa_; first | exact h_ | (have e_ := (Kd.S_reads' ay.o).1; omega) | simpa only [List.length_set, List.length_set] using h_)
                      obtain ⟨oki17, ce17, hcl17, hM17, hcc17, hok17, hbk17⟩ := Kd.S_borrow ay.o [] (aa : Int) oa_ hq17; obtain ⟨ve17_0, rfl, ge17_0⟩ := hM17; have hv17 := hcc17 0 _ rfl; rw [Nat.add_zero, show ((Kd.slice 3 (Kd.int .i64))).sz = 1 from rfl, Nat.mul_one] at hv17; replace hv17 := Option.some.inj (hv17.symm.trans HX573_0.o); subst hv17; clear hcc17 hcl17; replace ge17_0 := (show Kd.R (Kd.int .i64) 3 _ _ _ _ (rd_L1 aN aa) from ge17_0); have du := Kd.R_putg ge17_0 ((rd (rd_L1 ab aa) aq) : Int) (wrap64 ((rd (rd_L1 aN aa) (rd (rd_L1 ab aa) aq)) + 1)); rw [← eG.o] at du; have HS17 := hbk17 du.2 (fun k_ e_ => by injection e_ with e_; subst e_; exact ge17_0.1 _ rfl) (x' := eq) (Kd.M_row du.1); rw [← eH.o] at HS17; have HQ17 := A_ HS17; clear du HS17 hbk17 hok17; refine start_ (n := 13) (S := fun w' => w'.cell? (br.add (aa).toNat) = some (.slice (some ⟨fi, 0, none⟩) (rd_L1 aN aa).length d4) ∧ w'.cell? (da.add (aq).toNat) = some (.int .i64 (rd (rd_L1 ab aa) aq)) ∧ w'.cell? ⟨fi, ((rd (rd_L1 ab aa) aq)).toNat, none⟩ = some (.int .i64 (rd (rd_L1 aN aa) (rd (rd_L1 ab aa) aq)))) (ds := [12]) (mk_ 13 0) (by kernel_rfl) rfl rfl ⟨bn, ((HBd.o.cell (World.block_lt_of_cell? wd _ cH)).trans cH), bw⟩ (fun al => ?_); refine with_tabW impl_digitMatrix.tab19 impl_digitMatrix.bits19 (fun a9 d0 => ?_)
                      generalize wr.drew = w15 at ay HBd GG14 HL573_0 HQ17 bL HX573_0 eg dh bn bj bw al ⊢
                      refine pw_ 0 81 (mk_ 13 1) a9 ?_; refine pw_ 1 82 (mk_ 13 3) a9 ?_; refine pw_ 2 83 (mk_ 13 7) a9 ?_; refine pw_ 4 85 (mk_ 13 23) a9 ?_; refine pw_ 5 86 (mk_ 13 55) a9 ?_; refine pw_ 6 87 (mk_ 13 119) a9 ?_; refine tk_ 3 84 (mk_ 13 127) a9 d0 al ?_; refine tk_ 7 88 (mk_ 13 255) a9 d0 al ?_; refine pw_ 8 89 (mk_ 13 511) a9 ?_; refine tk_ 9 90 (mk_ 13 1023) a9 d0 al ?_; refine pw_ 10 91 (mk_ 13 2047) a9 ?_; refine pw_ 11 92 (mk_ 13 4095) a9 ?_; refine last_ (i := 12) (N := none) (mk_ 13 8191) rfl rfl (one_of a9.o (by kernel_rfl)) (by decide) (fun K hK => ?_); refine skip_ (w1 := ?_) (by rfl) rfl ?_ ?_; rotate_left
                      ·go_simp
                       rfl
                      refine hK.out _ _ ?_; clear hK K; refine done_ (done_of a9.o (by kernel_rfl)) ?_
                      try go_wp2
                      go_loopg [95] kd1 (fun kq iS w' => ∃ (ah : List (List Int)) (ax : Int), iS = .int .i64 ax ∧ Aside0 (impl_digitMatrix.l1 kq (ab.length : Int) aq ah aa ab (ab.length : Int) aa (rd_L1 ab aa) ((rd_L1 ab aa).length : Int) ax = some bd) ∧ Aside0 (kq ≤ kd1) ∧ Aside0 (Kd.S (Kd.slice 3 (Kd.int .i64)) 23 w' wd.heap.size (fun _ => True) (.slice (some br) aN.length dv) ah) ∧ Aside0 (Below wd.heap.size wd w'))
                      case atStart => exact ⟨(fj), (0), (by rfl), Hd', ⟨Nat.le_refl _⟩, ⟨HQ17.o⟩, ⟨by repeat (first | (with_reducible first | exact HBd.o | apply below_alloc | apply pw_below_drewN | apply below_drew1 | refine below_set ?_ GB14.o) | exact HBd.o)⟩⟩
                      case round =>
                       clear Hd'
                       clear e4 fN fO fP eV eW eX eY fz fB dh bv bn bj bw dE dn dF dG dK dp dL dM
                       obtain ⟨ah, ax, rfl, HAd, HKd2, ay, HBd⟩ := hrel; have bi := (Kd.S_reads' ay.o).1; rw [bi] at ay
                       (try simp only [bi])
                       cases gk with
                       | zero => exact nz_ HAd.o
                       | succ kd2 =>
                        have Hd := HAd.o; clear HAd; simp only [impl_digitMatrix.l1] at Hd
                        by_cases c19 : ax < ((rd_L1 ab aa).length : Int)
                        ·rw [if_pos c19] at Hd; have eZ := decide_eq_true c19; clear c19
                         by_cases c20 : 0 ≤ ax
                         ·rw [if_pos c20] at Hd; have g7 := decide_eq_true c20; clear c20
                          by_cases c21 : ax < ((rd_L1 ab aa).length : Int)
                          ·rw [if_pos c21] at Hd; have hf := decide_eq_true c21; clear c21
                           by_cases c22 : ax < aq
                           ·rw [if_pos c22] at Hd; have e0 := decide_eq_true c22; clear c22
                            by_cases c23 : 0 ≤ aa
                            ·rw [if_pos c23] at Hd; have hh := decide_eq_true c23; clear c23
                             by_cases c24 : aa < (ah.length : Int)
                             ·rw [if_pos c24] at Hd; have ht := decide_eq_true c24; clear c24; obtain ⟨aD, cx⟩ : ∃ j_ : Int, (wrap64 ((ab.length : Int) + (rd (rd_L1 ab aa) ax))) = j_ := ⟨_, rfl⟩; replace Hd : (if 0 ≤ (aD) then (if (aD) < ((rd_L1 ah aa).length : Int) then ((some (ah.set (aa : Int).toNat ((rd_L1 ah aa).set ((aD) : Int).toNat (wrap64 ((rd (rd_L1 ah aa) (aD)) + 1))) : List (List Int))).bind fun aG => (if 0 ≤ (wrap64 ((ab.length : Int) + aa)) then (if (wrap64 ((ab.length : Int) + aa)) < (ah.length : Int) then (if (aD) < ((rd_L1 aG (wrap64 ((ab.length : Int) + aa))).length : Int) then (impl_digitMatrix.l1 kd2 (ab.length : Int) aq (aG.set ((wrap64 ((ab.length : Int) + aa)) : Int).toNat ((rd_L1 aG (wrap64 ((ab.length : Int) + aa))).set ((aD) : Int).toNat (wrap64 ((rd (rd_L1 aG (wrap64 ((ab.length : Int) + aa))) (aD)) + 1)))) aa ab (ab.length : Int) aa (rd_L1 ab aa) ((rd_L1 ab aa).length : Int) (wrap64 (ax + 1))) else (none)) else (none)) else (none))) else (none)) else (none)) = some bd := by first | (rw [cx] at Hd; exact Hd) | (simp only [cx] at Hd ⊢; exact Hd)
                              have gp : (IntKind.i64.wrap ((ab.length : Int) + (rd (rd_L1 ab aa) ax))) = aD := (i64_w _).trans cx
                              by_cases c26 : 0 ≤ (aD)
                              ·rw [if_pos c26] at Hd; have hv := decide_eq_true c26; clear c26
                               by_cases c27 : (aD) < ((rd_L1 ah aa).length : Int)
                               ·rw [if_pos c27] at Hd; have hy := decide_eq_true c27; clear c27; obtain ⟨er, bZ⟩ := ex_ (((rd_L1 ah aa).set ((aD) : Int).toNat (wrap64 ((rd (rd_L1 ah aa) (aD)) + 1))) : List Int); replace Hd : ((some (ah.set (aa : Int).toNat er : List (List Int))).bind fun aG => (if 0 ≤ (wrap64 ((ab.length : Int) + aa)) then (if (wrap64 ((ab.length : Int) + aa)) < (ah.length : Int) then (if (aD) < ((rd_L1 aG (wrap64 ((ab.length : Int) + aa))).length : Int) then (impl_digitMatrix.l1 kd2 (ab.length : Int) aq (aG.set ((wrap64 ((ab.length : Int) + aa)) : Int).toNat ((rd_L1 aG (wrap64 ((ab.length : Int) + aa))).set ((aD) : Int).toNat (wrap64 ((rd (rd_L1 aG (wrap64 ((ab.length : Int) + aa))) (aD)) + 1)))) aa ab (ab.length : Int) aa (rd_L1 ab aa) ((rd_L1 ab aa).length : Int) (wrap64 (ax + 1))) else (none)) else (none)) else (none))) = some bd := by first | (rw [bZ]; with_reducible exact Hd) | (have H2_ := (Option.bind_some _ _).symm.trans Hd; rw [bZ]; with_reducible exact H2_) | (have H2_ := (Option.bind_some _ _).symm.trans Hd; with_reducible exact H2_) | with_reducible exact Hd | (rw [bZ]; exact Hd) | exact Hd
                                have eI := A_ bZ; clear bZ; obtain ⟨aG, b0⟩ := ex_ ((ah.set (aa : Int).toNat er) : List (List Int)); replace Hd : (if 0 ≤ (wrap64 ((ab.length : Int) + aa)) then (if (wrap64 ((ab.length : Int) + aa)) < (ah.length : Int) then (if (aD) < ((rd_L1 aG (wrap64 ((ab.length : Int) + aa))).length : Int) then (impl_digitMatrix.l1 kd2 (ab.length : Int) aq (aG.set ((wrap64 ((ab.length : Int) + aa)) : Int).toNat ((rd_L1 aG (wrap64 ((ab.length : Int) + aa))).set ((aD) : Int).toNat (wrap64 ((rd (rd_L1 aG (wrap64 ((ab.length : Int) + aa))) (aD)) + 1)))) aa ab (ab.length : Int) aa (rd_L1 ab aa) ((rd_L1 ab aa).length : Int) (wrap64 (ax + 1))) else (none)) else (none)) else (none)) = some bd := by first | (rw [b0]; with_reducible exact Hd) | (have H2_ := (Option.bind_some _ _).symm.trans Hd; rw [b0]; with_reducible exact H2_) | (have H2_ := (Option.bind_some _ _).symm.trans Hd; with_reducible exact H2_) | with_reducible exact Hd | (rw [b0]; exact Hd) | exact Hd
                                have cZ := A_ b0; clear b0; obtain ⟨aQ, cy⟩ : ∃ j_ : Int, (wrap64 ((ab.length : Int) + aa)) = j_ := ⟨_, rfl⟩; replace Hd : (if 0 ≤ (aQ) then (if (aQ) < (ah.length : Int) then (if (aD) < ((rd_L1 aG (aQ)).length : Int) then (impl_digitMatrix.l1 kd2 (ab.length : Int) aq (aG.set ((aQ) : Int).toNat ((rd_L1 aG (aQ)).set ((aD) : Int).toNat (wrap64 ((rd (rd_L1 aG (aQ)) (aD)) + 1)))) aa ab (ab.length : Int) aa (rd_L1 ab aa) ((rd_L1 ab aa).length : Int) (wrap64 (ax + 1))) else (none)) else (none)) else (none)) = some bd := by first | (rw [cy] at Hd; exact Hd) | (simp only [cy] at Hd ⊢; exact Hd)
                                have gq : (IntKind.i64.wrap ((ab.length : Int) + aa)) = aQ := (i64_w _).trans cy
                                by_cases c30 : 0 ≤ (aQ)
                                ·rw [if_pos c30] at Hd; have hC := decide_eq_true c30; clear c30
                                 by_cases c31 : (aQ) < (ah.length : Int)
                                 ·rw [if_pos c31] at Hd; have hF := decide_eq_true c31; clear c31
                                  by_cases c32 : (aD) < ((rd_L1 aG (aQ)).length : Int)
                                  ·rw [if_pos c32] at Hd; have hG := decide_eq_true c32; clear c32; obtain ⟨ev, b1⟩ := ex_ (((rd_L1 aG (aQ)).set ((aD) : Int).toNat (wrap64 ((rd (rd_L1 aG (aQ)) (aD)) + 1))) : List Int); replace Hd : (impl_digitMatrix.l1 kd2 (ab.length : Int) aq (aG.set ((aQ) : Int).toNat ev) aa ab (ab.length : Int) aa (rd_L1 ab aa) ((rd_L1 ab aa).length : Int) (wrap64 (ax + 1))) = some bd := by first | (rw [b1]; with_reducible exact Hd) | (have H2_ := (Option.bind_some _ _).symm.trans Hd; rw [b1]; with_reducible exact H2_) | (have H2_ := (Option.bind_some _ _).symm.trans Hd; with_reducible exact H2_) | with_reducible exact Hd | (rw [b1]; exact Hd) | exact Hd
                                   have eJ := A_ b1; clear b1; obtain ⟨ew, b2⟩ := ex_ ((aG.set ((aQ) : Int).toNat ev) : List (List Int)); replace Hd : (impl_digitMatrix.l1 kd2 (ab.length : Int) aq ew aa ab (ab.length : Int) aa (rd_L1 ab aa) ((rd_L1 ab aa).length : Int) (wrap64 (ax + 1))) = some bd := by first | (rw [b2]; with_reducible exact Hd) | (have H2_ := (Option.bind_some _ _).symm.trans Hd; rw [b2]; with_reducible exact H2_) | (have H2_ := (Option.bind_some _ _).symm.trans Hd; with_reducible exact H2_) | with_reducible exact Hd | (rw [b2]; exact Hd) | exact Hd
                                   have eK := A_ b2; clear b2
                                   have Hd' := A_ Hd
                                   clear Hd
                                   have cc : 0 ≤ (ax : Int) := oa_
                                   have cd : ax < ((rd_L1 ab aa).length : Int) := oa_
                                   obtain ⟨db, d9, be⟩ := Kd.at_int bK.o ax cc cd; obtain rfl : da = db := (by injection d9); replace be := (HBd.o.cell (World.block_lt_of_cell? wd _ be)).trans be; replace cc := eq_true cc; replace cd := eq_true cd
                                   have dH : 0 ≤ (aa : Int) := oa_
                                   have dN : aa < (ah.length : Int) := oa_
                                   obtain ⟨eR, fF, d5, fZ, cI, cE, cr⟩ := at_L1 (Kd.S_reads' ay.o).2.2 aa dH dN; obtain rfl : br = eR := (by injection fZ); obtain ⟨ce580, hce580, hMe580, hcc580⟩ := Kd.S_get ay.o [] aa dH (by exact dN); obtain ⟨ve580_0, rfl, ge580_0⟩ := hMe580; have hv580_0 := hcc580 0 _ rfl; rw [Nat.add_zero, show ((Kd.slice 3 (Kd.int .i64))).sz = 1 from rfl, Nat.mul_one] at hv580_0; replace hv580_0 := Option.some.inj (hv580_0.symm.trans cI); rw [hv580_0] at ge580_0; have HL580_0 := A_ (show Kd.R (Kd.int .i64) 3 _ _ _ _ (rd_L1 ah aa) from ge580_0); clear hv580_0 ge580_0; have HX580_0 := A_ cI; clear hcc580 hce580; have cg := A_ cr; have fo := A_ cE; clear cr cE; replace dH := eq_true dH; replace dN := eq_true dN
                                   have eh : 0 ≤ ((aD) : Int) := oa_
                                   have el : (aD) < ((rd_L1 ah aa).length : Int) := oa_
                                   obtain ⟨gS, f0, dB⟩ := Kd.at_int (by repeat (first | (with_reducible exact cg.o) | (with_reducible refine Kd.C_alloc ?_ _) | (with_reducible refine Kd.C_drewN ?_ _) | (with_reducible refine Kd.C_drew ?_) | exact cg.o)) (aD) eh el
                                   cases f0
                                   replace eh := eq_true eh; replace el := eq_true el
                                   have gz : 0 ≤ ((aD) : Int) := oa_
                                   have gE : ((aD) : Int) < (((rd_L1 ah aa).length : Int) : Int) := oa_
                                   obtain ⟨ea, bT, bm, fe, gl28, cl28, HG28⟩ := Kd.R_form HL580_0.o (by omega)
                                   (first | cases bm | (injection bm with ea_ en_ ec_; (first | subst ea_ | (injection ea_ with ea_; subst ea_)); subst ec_; clear en_))
                                   have GB28 := A_ fe; have GG28 := A_ HG28; clear fe gl28 HG28
                                   (first | simp only [add_plain] at dB | skip)
                                   obtain ⟨gv, gj⟩ := Kd.R_celln 0 HL580_0.o ((aD) : Int) gz gE; replace gz := eq_true gz; replace gE := eq_true gE
                                   have hq34 : (aa : Int) < (ah.length : Int) := (by have h_ : (aa : Int) < ((ah.length : Int) : Int) := oa_; first | exact h_ | (have e_ := (Kd.S_reads' ay.o).1; omega) | simpa only [List.length_set, List.length_set] using h_)
                                   obtain ⟨oki34, ce34, hcl34, hM34, hcc34, hok34, hbk34⟩ := Kd.S_borrow ay.o [] (aa : Int) oa_ hq34; obtain ⟨ve34_0, rfl, ge34_0⟩ := hM34; have hv34 := hcc34 0 _ rfl; rw [Nat.add_zero, show ((Kd.slice 3 (Kd.int .i64))).sz = 1 from rfl, Nat.mul_one] at hv34; replace hv34 := Option.some.inj (hv34.symm.trans HX580_0.o); subst hv34; clear hcc34 hcl34; replace ge34_0 := (show Kd.R (Kd.int .i64) 3 _ _ _ _ (rd_L1 ah aa) from ge34_0); have dV := Kd.R_putg ge34_0 ((aD) : Int) (wrap64 ((rd (rd_L1 ah aa) (aD)) + 1))
                                   go_wp2_with (first | ((with_reducible refine gate_store (t := 3) (p := 113) rfl ?_); refine store_event (t := 3) (p := 113) (w1 := (wr.setCell ⟨ea, ((aD) : Int).toNat, none⟩ (.int .i64 (wrap64 ((rd (rd_L1 ah aa) (aD)) + 1))))) rfl rfl rfl (by go_simp; done) ?_; intro w35 hw; have hg : wr.grownBy w35 (some ea) := (by rw [hw]; exact dV.2); have hz_ : Kd.R (Kd.int .i64) 3 w35 wd.heap.size oki34 (.slice (some ⟨ea, 0, none⟩) (rd_L1 ah aa).length d5) er := (by rw [hw, eI.o]; exact dV.1); have hp_ : Kd.S (Kd.slice 3 (Kd.int .i64)) 23 w35 wd.heap.size (fun _ => True) (.slice (some br) ah.length dv) aG := (by rw [cZ.o]; exact hbk34 hg (fun k_ e_ => by injection e_ with e_; subst e_; exact ge34_0.1 _ rfl) (Kd.M_row hz_)); have hm_ := Kd.R_mono hz_ hok34; clear dV hbk34; replace ay := A_ (hp_); replace HBd := A_ ((by rw [hw]; exact below_set (HBd.o) GB28.o : Below wd.heap.size wd w35)); have HL595 := A_ (hm_); have HC583 := A_ ((Kd.R_reads' hm_).2.1); clear HL580_0; clear hg hw hp_ hz_ hm_ hok34; have dI : 0 ≤ ((aQ) : Int) := oa_; have em : (aQ) < (aG.length : Int) := (by have h_ : ((aQ) : Int) < ((ah.length : Int) : Int) := oa_; first | (have e_ := (Kd.S_reads' ay.o).1; omega) | simpa only [cZ.o, List.length_set] using h_); have iz : (((aQ) : Int) < ((ah.length : Int) : Int)) = True := eq_true oa_; obtain ⟨eS, fG, d6, f4, cJ, cF, cv⟩ := at_L1 (Kd.S_reads' ay.o).2.2 (aQ) dI em; obtain rfl : br = eS := (by injection f4); obtain ⟨ce585, hce585, hMe585, hcc585⟩ := Kd.S_get ay.o [] (aQ) dI (by exact of_decide_eq_true (by first | (with_reducible assumption) | assumption)); obtain ⟨ve585_0, rfl, ge585_0⟩ := hMe585; have hv585_0 := hcc585 0 _ rfl; rw [Nat.add_zero, show ((Kd.slice 3 (Kd.int .i64))).sz = 1 from rfl, Nat.mul_one] at hv585_0; replace hv585_0 := Option.some.inj (hv585_0.symm.trans cJ); rw [hv585_0] at ge585_0; have HL585_0 := A_ (show Kd.R (Kd.int .i64) 3 _ _ _ _ (rd_L1 aG (aQ)) from ge585_0); clear hv585_0 ge585_0; have HX585_0 := A_ cJ; clear hcc585 hce585; have ch := A_ cv; have fp := A_ cF; clear cv cF; replace dI := eq_true dI; replace em := eq_true em; have ei : 0 ≤ ((aD) : Int) := oa_; have en : (aD) < ((rd_L1 aG (aQ)).length : Int) := oa_; obtain ⟨gT, f5, dC⟩ := Kd.at_int (by repeat (first | (with_reducible exact ch.o) | (with_reducible refine Kd.C_alloc ?_ _) | (with_reducible refine Kd.C_drewN ?_ _) | (with_reducible refine Kd.C_drew ?_) | exact ch.o)) (aD) ei en; cases f5; replace ei := eq_true ei; replace en := eq_true en; have gB : 0 ≤ ((aD) : Int) := oa_; have gF : ((aD) : Int) < (((rd_L1 aG (aQ)).length : Int) : Int) := oa_; obtain ⟨eb, iF, e9, ff, gl33, cl33, HG33⟩ := Kd.R_form HL585_0.o (by omega); (first | cases e9 | (injection e9 with ea_ en_ ec_; (first | subst ea_ | (injection ea_ with ea_; subst ea_)); subst ec_; clear en_)); have GB33 := A_ ff; have GG33 := A_ HG33; clear ff gl33 HG33; (first | simp only [add_plain] at dC | skip); obtain ⟨gw, gl⟩ := Kd.R_celln 0 HL585_0.o ((aD) : Int) gB gF; replace gB := eq_true gB; replace gF := eq_true gF; have hq36 : ((aQ) : Int) < (ah.length : Int) := (by have h_ : ((aQ) : Int) < ((ah.length : Int) : Int) := oa_; first | exact h_ | (have e_ := (Kd.S_reads' ay.o).1; omega) | simpa only [cZ.o, List.length_set] using h_); obtain ⟨oki36, ce36, hcl36, hM36, hcc36, hok36, hbk36⟩ := Kd.S_borrow ay.o [] ((aQ) : Int) oa_ hq36; obtain ⟨ve36_0, rfl, ge36_0⟩ := hM36; have hv36 := hcc36 0 _ rfl; rw [Nat.add_zero, show ((Kd.slice 3 (Kd.int .i64))).sz = 1 from rfl, Nat.mul_one] at hv36; replace hv36 := Option.some.inj (hv36.symm.trans HX585_0.o); subst hv36; clear hcc36 hcl36; replace ge36_0 := (show Kd.R (Kd.int .i64) 3 _ _ _ _ (rd_L1 aG (aQ)) from ge36_0); have dW := Kd.R_putg ge36_0 ((aD) : Int) (wrap64 ((rd (rd_L1 aG (aQ)) (aD)) + 1))) | ((with_reducible refine gate_store (t := 3) (p := 126) rfl ?_); refine store_event (t := 3) (p := 126) (w1 := (w35.setCell ⟨eb, ((aD) : Int).toNat, none⟩ (.int .i64 (wrap64 ((rd (rd_L1 aG (aQ)) (aD)) + 1))))) rfl rfl rfl (by go_simp; done) ?_; intro w37 hw; have hg : w35.grownBy w37 (some eb) := (by rw [hw]; exact dW.2); have hz_ : Kd.R (Kd.int .i64) 3 w37 wd.heap.size oki36 (.slice (some ⟨eb, 0, none⟩) (rd_L1 aG (aQ)).length d6) ev := (by rw [hw, eJ.o]; exact dW.1); have hp_ : Kd.S (Kd.slice 3 (Kd.int .i64)) 23 w37 wd.heap.size (fun _ => True) (.slice (some br) ah.length dv) ew := (by rw [eK.o]; exact hbk36 hg (fun k_ e_ => by injection e_ with e_; subst e_; exact ge36_0.1 _ rfl) (Kd.M_row hz_)); have hm_ := Kd.R_mono hz_ hok36; clear dW hbk36; replace ay := A_ (hp_); replace HBd := A_ ((by rw [hw]; exact below_set (HBd.o) GB33.o : Below wd.heap.size wd w37)); have HL596 := A_ (hm_); have HC588 := A_ ((Kd.R_reads' hm_).2.1); clear HL595 HL585_0; clear hg hw hp_ hz_ hm_ hok36))
                                   (try simp only [← bi])
                                   (try subst bl)
                                   (try subst cx)
                                   (try subst cy)
                                   go_roundg kd2
                                   case measure => have := HKd1.o; have := HKd2.o; omega
                                   case rel => exact ⟨(ew), (wrap64 (ax + 1)), (by rfl), Hd', ⟨by have := HKd1.o; have := HKd2.o; omega⟩, ⟨by (try simp only [bi]); exact ay.o⟩, ⟨HBd.o⟩⟩
                                  rw [if_neg c32] at Hd; exact absurd Hd (by simp)
                                 rw [if_neg c31] at Hd; exact absurd Hd (by simp)
                                rw [if_neg c30] at Hd; exact absurd Hd (by simp)
                               rw [if_neg c27] at Hd; exact absurd Hd (by simp)
                              rw [if_neg c26] at Hd; exact absurd Hd (by simp)
                             rw [if_neg c24] at Hd; exact absurd Hd (by simp)
                            rw [if_neg c23] at Hd; exact absurd Hd (by simp)
                           rw [if_neg c22] at Hd; have e0 := decide_eq_false c22; clear c22; obtain ⟨aI, cA⟩ : ∃ j_ : Int, (wrap64 ((ab.length : Int) + aa)) = j_ := ⟨_, rfl⟩; replace Hd : (if 0 ≤ (aI) then (if (aI) < (ah.length : Int) then (if 0 ≤ (wrap64 ((ab.length : Int) + (rd (rd_L1 ab aa) ax))) then (if (wrap64 ((ab.length : Int) + (rd (rd_L1 ab aa) ax))) < ((rd_L1 ah (aI)).length : Int) then (impl_digitMatrix.l1 kd2 (ab.length : Int) aq (ah.set ((aI) : Int).toNat ((rd_L1 ah (aI)).set ((wrap64 ((ab.length : Int) + (rd (rd_L1 ab aa) ax))) : Int).toNat (wrap64 ((rd (rd_L1 ah (aI)) (wrap64 ((ab.length : Int) + (rd (rd_L1 ab aa) ax)))) + 1)))) aa ab (ab.length : Int) aa (rd_L1 ab aa) ((rd_L1 ab aa).length : Int) (wrap64 (ax + 1))) else (none)) else (none)) else (none)) else (none)) = some bd := by first | (rw [cA] at Hd; exact Hd) | (simp only [cA] at Hd ⊢; exact Hd)
                           have gs : (IntKind.i64.wrap ((ab.length : Int) + aa)) = aI := (i64_w _).trans cA
                           by_cases c39 : 0 ≤ (aI)
                           ·rw [if_pos c39] at Hd; have hI := decide_eq_true c39; clear c39
                            by_cases c40 : (aI) < (ah.length : Int)
                            ·rw [if_pos c40] at Hd; have hJ := decide_eq_true c40; clear c40; obtain ⟨bf, cB⟩ : ∃ j_ : Int, (wrap64 ((ab.length : Int) + (rd (rd_L1 ab aa) ax))) = j_ := ⟨_, rfl⟩; replace Hd : (if 0 ≤ (bf) then (if (bf) < ((rd_L1 ah (aI)).length : Int) then (impl_digitMatrix.l1 kd2 (ab.length : Int) aq (ah.set ((aI) : Int).toNat ((rd_L1 ah (aI)).set ((bf) : Int).toNat (wrap64 ((rd (rd_L1 ah (aI)) (bf)) + 1)))) aa ab (ab.length : Int) aa (rd_L1 ab aa) ((rd_L1 ab aa).length : Int) (wrap64 (ax + 1))) else (none)) else (none)) = some bd := by first | (rw [cB] at Hd; exact Hd) | (simp only [cB] at Hd ⊢; exact Hd)
                             have gt : (IntKind.i64.wrap ((ab.length : Int) + (rd (rd_L1 ab aa) ax))) = bf := (i64_w _).trans cB
                             by_cases c42 : 0 ≤ (bf)
                             ·rw [if_pos c42] at Hd; have hL := decide_eq_true c42; clear c42
                              by_cases c43 : (bf) < ((rd_L1 ah (aI)).length : Int)
                              ·rw [if_pos c43] at Hd; have dc := decide_eq_true c43; clear c43; obtain ⟨ex, b3⟩ := ex_ (((rd_L1 ah (aI)).set ((bf) : Int).toNat (wrap64 ((rd (rd_L1 ah (aI)) (bf)) + 1))) : List Int); replace Hd : (impl_digitMatrix.l1 kd2 (ab.length : Int) aq (ah.set ((aI) : Int).toNat ex) aa ab (ab.length : Int) aa (rd_L1 ab aa) ((rd_L1 ab aa).length : Int) (wrap64 (ax + 1))) = some bd := by first | (rw [b3]; with_reducible exact Hd) | (have H2_ := (Option.bind_some _ _).symm.trans Hd; rw [b3]; with_reducible exact H2_) | (have H2_ := (Option.bind_some _ _).symm.trans Hd; with_reducible exact H2_) | with_reducible exact Hd | (rw [b3]; exact Hd) | exact Hd
                               have eL := A_ b3; clear b3; obtain ⟨ey, b4⟩ := ex_ ((ah.set ((aI) : Int).toNat ex) : List (List Int)); replace Hd : (impl_digitMatrix.l1 kd2 (ab.length : Int) aq ey aa ab (ab.length : Int) aa (rd_L1 ab aa) ((rd_L1 ab aa).length : Int) (wrap64 (ax + 1))) = some bd := by first | (rw [b4]; with_reducible exact Hd) | (have H2_ := (Option.bind_some _ _).symm.trans Hd; rw [b4]; with_reducible exact H2_) | (have H2_ := (Option.bind_some _ _).symm.trans Hd; with_reducible exact H2_) | with_reducible exact Hd | (rw [b4]; exact Hd) | exact Hd
                               have eN := A_ b4; clear b4
                               have Hd' := A_ Hd
                               clear Hd
                               have cc : 0 ≤ (ax : Int) := oa_
                               have cd : ax < ((rd_L1 ab aa).length : Int) := oa_
                               obtain ⟨db, d9, be⟩ := Kd.at_int bK.o ax cc cd; obtain rfl : da = db := (by injection d9); replace be := (HBd.o.cell (World.block_lt_of_cell? wd _ be)).trans be; replace cc := eq_true cc; replace cd := eq_true cd
                               have dJ : 0 ≤ ((aI) : Int) := oa_
                               have dO : (aI) < (ah.length : Int) := oa_
                               obtain ⟨eU, fH, d7, f6, cK, cG, cw⟩ := at_L1 (Kd.S_reads' ay.o).2.2 (aI) dJ dO; obtain rfl : br = eU := (by injection f6); obtain ⟨ce590, hce590, hMe590, hcc590⟩ := Kd.S_get ay.o [] (aI) dJ (by exact dO); obtain ⟨ve590_0, rfl, ge590_0⟩ := hMe590; have hv590_0 := hcc590 0 _ rfl; rw [Nat.add_zero, show ((Kd.slice 3 (Kd.int .i64))).sz = 1 from rfl, Nat.mul_one] at hv590_0; replace hv590_0 := Option.some.inj (hv590_0.symm.trans cK); rw [hv590_0] at ge590_0; have HL590_0 := A_ (show Kd.R (Kd.int .i64) 3 _ _ _ _ (rd_L1 ah (aI)) from ge590_0); clear hv590_0 ge590_0; have HX590_0 := A_ cK; clear hcc590 hce590; have ci := A_ cw; have fq := A_ cG; clear cw cG; replace dJ := eq_true dJ; replace dO := eq_true dO
                               have ej : 0 ≤ ((bf) : Int) := oa_
                               have eo : (bf) < ((rd_L1 ah (aI)).length : Int) := oa_
                               obtain ⟨gU, f8, dD⟩ := Kd.at_int (by repeat (first | (with_reducible exact ci.o) | (with_reducible refine Kd.C_alloc ?_ _) | (with_reducible refine Kd.C_drewN ?_ _) | (with_reducible refine Kd.C_drew ?_) | exact ci.o)) (bf) ej eo
                               cases f8
                               replace ej := eq_true ej; replace eo := eq_true eo
                               have gC : 0 ≤ ((bf) : Int) := oa_
                               have gG : ((bf) : Int) < (((rd_L1 ah (aI)).length : Int) : Int) := oa_
                               obtain ⟨ec, iG, fa, fg, gl44, cl44, HG44⟩ := Kd.R_form HL590_0.o (by omega)
                               (first | cases fa | (injection fa with ea_ en_ ec_; (first | subst ea_ | (injection ea_ with ea_; subst ea_)); subst ec_; clear en_))
                               have GB44 := A_ fg; have GG44 := A_ HG44; clear fg gl44 HG44
                               (first | simp only [add_plain] at dD | skip)
                               obtain ⟨gx, gm⟩ := Kd.R_celln 0 HL590_0.o ((bf) : Int) gC gG; replace gC := eq_true gC; replace gG := eq_true gG
                               have hq45 : ((aI) : Int) < (ah.length : Int) := (by have h_ : ((aI) : Int) < ((ah.length : Int) : Int) := oa_; first | exact h_ | (have e_ := (Kd.S_reads' ay.o).1; omega) | simpa only [List.length_set, List.length_set] using h_)
                               obtain ⟨oki45, ce45, hcl45, hM45, hcc45, hok45, hbk45⟩ := Kd.S_borrow ay.o [] ((aI) : Int) oa_ hq45; obtain ⟨ve45_0, rfl, ge45_0⟩ := hM45; have hv45 := hcc45 0 _ rfl; rw [Nat.add_zero, show ((Kd.slice 3 (Kd.int .i64))).sz = 1 from rfl, Nat.mul_one] at hv45; replace hv45 := Option.some.inj (hv45.symm.trans HX590_0.o); subst hv45; clear hcc45 hcl45; replace ge45_0 := (show Kd.R (Kd.int .i64) 3 _ _ _ _ (rd_L1 ah (aI)) from ge45_0); have dY := Kd.R_putg ge45_0 ((bf) : Int) (wrap64 ((rd (rd_L1 ah (aI)) (bf)) + 1))
                               go_wp2_with (first | ((with_reducible refine gate_store (t := 3) (p := 126) rfl ?_); refine store_event (t := 3) (p := 126) (w1 := (wr.setCell ⟨ec, ((bf) : Int).toNat, none⟩ (.int .i64 (wrap64 ((rd (rd_L1 ah (aI)) (bf)) + 1))))) rfl rfl rfl (by go_simp; done) ?_; intro w46 hw; have hg : wr.grownBy w46 (some ec) := (by rw [hw]; exact dY.2); have hz_ : Kd.R (Kd.int .i64) 3 w46 wd.heap.size oki45 (.slice (some ⟨ec, 0, none⟩) (rd_L1 ah (aI)).length d7) ex := (by rw [hw, eL.o]; exact dY.1); have hp_ : Kd.S (Kd.slice 3 (Kd.int .i64)) 23 w46 wd.heap.size (fun _ => True) (.slice (some br) ah.length dv) ey := (by rw [eN.o]; exact hbk45 hg (fun k_ e_ => by injection e_ with e_; subst e_; exact ge45_0.1 _ rfl) (Kd.M_row hz_)); have hm_ := Kd.R_mono hz_ hok45; clear dY hbk45; replace ay := A_ (hp_); replace HBd := A_ ((by rw [hw]; exact below_set (HBd.o) GB44.o : Below wd.heap.size wd w46)); have HL597 := A_ (hm_); have HC593 := A_ ((Kd.R_reads' hm_).2.1); clear HL590_0; clear hg hw hp_ hz_ hm_ hok45))
                               (try simp only [← bi])
                               (try subst bl)
                               (try subst cA)
                               (try subst cB)
                               go_roundg kd2
                               case measure => have := HKd1.o; have := HKd2.o; omega
                               case rel => exact ⟨(ey), (wrap64 (ax + 1)), (by rfl), Hd', ⟨by have := HKd1.o; have := HKd2.o; omega⟩, ⟨by (try simp only [bi]); exact ay.o⟩, ⟨HBd.o⟩⟩
                              rw [if_neg c43] at Hd; exact absurd Hd (by simp)
                             rw [if_neg c42] at Hd; exact absurd Hd (by simp)
                            rw [if_neg c40] at Hd; exact absurd Hd (by simp)
                           rw [if_neg c39] at Hd; exact absurd Hd (by simp)
                          rw [if_neg c21] at Hd; exact absurd Hd (by simp)
                         rw [if_neg c20] at Hd; exact absurd Hd (by simp)
                        rw [if_neg c19] at Hd; have eZ := decide_eq_false c19; clear c19
                        have Hd' := A_ Hd
                        clear Hd
                        go_wp2
                        (try simp only [← bi])
                        (try subst bl)
                        go_roundg kd2
                        case measure => have := HKd1.o; have := HKd2.o; omega
                        case rel => exact ⟨(ah), (wrap64 (aa + 1)), (by rfl), Hd', ⟨by have := HKd1.o; have := HKd2.o; omega⟩, ⟨by (try simp only [bi]); exact ay.o⟩, ⟨HBd.o⟩⟩
                     rw [if_neg c13] at Hd; exact absurd Hd (by simp)
                    rw [if_neg c12] at Hd; exact absurd Hd (by simp)
                   rw [if_neg c11] at Hd; exact absurd Hd (by simp)
                  rw [if_neg c10] at Hd; exact absurd Hd (by simp)
                 rw [if_neg c9] at Hd; exact absurd Hd (by simp)
                rw [if_neg c8] at Hd; exact absurd Hd (by simp)
               rw [if_neg c7] at Hd; exact absurd Hd (by simp)
              rw [if_neg c6] at Hd; have e4 := decide_eq_false c6; clear c6; obtain rfl := (Option.some.inj Hd).symm; clear HKd1; have ho0 := ay.o; have hb := HBd.o; clear ay HBd
              (replace aA := A_ (Kd.S_old aA.o hb); have cY := A_ (Kd.S_lower (Kd.S_new' (Kd.S_new' (Kd.S_mono (Kd.S_bound ho0) (fun _ hk => hk.2.1)) (Kd.R_lt ar.o)) (Kd.R_lt an.o)) (below_size HB.o)); replace ar := A_ (Kd.R_below ar.o hb); replace an := A_ (Kd.R_below an.o hb); replace ae := bb_ ae hb; replace ac := bb_ ac hb; replace ai := bb_ ai hb; replace HB := bs_ HB hb; clear hb ho0; have ie := am.o; have iv := ag.o; have fv := bq4 ai.o; obtain ⟨fI, fR, gc⟩ := Kd.S_slice cY.o; subst gc)
              go_wp2_with (first | ((with_reducible refine gate_builtin (b := .append) (xs := #[.tmp 130, .tmp 132]) rfl ?_); at_builtin; refine Kd.S_append (sS 23 (Kd.slice 3 (Kd.int .i64))) (w0 := wb) wb.heap.size rfl (.tmp 130) (.tmp 132) 27 22 (.slice none 0 0) 24 rfl Try.underlying27 info22 rfl (by decide) (by omega) bo aV bd [.slice fI bd.length fR] (o2 aJ aT) (fun k_ => ((o2 aJ aT) k_ ∧ some k_ ≠ (bo : Value).ownBlock) ∧ wd.heap.size ≤ k_) rfl rfl ?aP (fun _ hk => hk.1) ?aF ?aO ?aB ?aS ?aL ?_; (case aP => exact ⟨_, rfl, Kd.S_mono (Kd.S_apart' cY.o (Kd.S_typed aA.o) (by decide)) (fun k_ hk => ⟨⟨⟨hk.1.1.2, hk.1.2⟩, hk.2⟩, hk.1.1.1⟩)⟩); (case aB => exact HB.o); (case aF => exact (fun k_ hk => ⟨Kd.fresh' (Kd.R_lt ar.o) k_ hk, Kd.fresh' (Kd.R_lt an.o) k_ hk⟩)); (case aO => exact Kd.S_mono aA.o (fun _ hk => ⟨hk.1, fun h2_ => absurd h2_.2 (Nat.not_le.mpr hk.2)⟩)); (case aS => exact (below_size HB.o)); (case aL => have := eF.o; omega); intro iN w65 ho hb hg hat; rw [← eQ.o] at ho; replace ar := A_ (Kd.R_over' ar.o (Kd.S_typed aA.o) (by decide) hg); replace an := A_ (Kd.R_over' an.o (Kd.S_typed aA.o) (by decide) hg); replace ae := gS_ aA ae hg; replace ac := gS_ aA ac hg; replace ai := gS_ aA ai hg; replace HB := A_ (hb); have dQ := A_ (ho); clear aA cY; clear ho hb hg hat; obtain ⟨dt, dw, gd⟩ := Kd.S_slice dQ.o; subst gd; have fw := bq4 ai.o))
              (try subst bl)
              go_roundg k3
              case measure => have := fr.o; have := fs.o; have := gP.o; omega
              case rel => exact ⟨(wrap64 (aq + 1)), (cV), (.slice dt cV.length dw), (by rfl), H', ⟨by have := fr.o; have := fs.o; have := gP.o; omega⟩, ⟨by exact Kd.R_mono (Kd.R_far (p := ⟨ak, 2, none⟩) (Kd.R_types ar.o ai.o (by decide)) (fun _ hk => hk.2) (.slice dt cV.length dw)) (fun _ hk => hk.1)⟩, ⟨by exact Kd.S_mono (Kd.S_far (p := ⟨ak, 2, none⟩) (Kd.S_types dQ.o ai.o (by decide)) (fun _ hk => hk.2) (.slice dt cV.length dw)) (fun _ hk => ⟨hk.1.1, hk.1.2⟩)⟩, ⟨by exact Kd.R_mono (Kd.R_far (p := ⟨ak, 2, none⟩) (Kd.R_types an.o ai.o (by decide)) (fun _ hk => hk.2) (.slice dt cV.length dw)) (fun _ hk => hk.1)⟩, ⟨by exact fa_ ag ae.o⟩, ⟨by exact fa_ af ac.o⟩, ⟨by exact pu_ 2 ai.o rfl⟩, ⟨by repeat (first | (with_reducible first | exact HB.o | apply below_alloc | apply pw_below_drewN | apply below_drew1 | refine below_set ?_ bz.o | refine below_set ?_ bS.o | refine below_set ?_ aU.o) | exact HB.o)⟩⟩
           rw [if_neg c58] at H
           cases H
          rw [if_neg c56] at H; have e3 := decide_eq_false c56; clear c56; simp only [Option.some.injEq, Prod.mk.injEq] at H; obtain ⟨rfl, rfl, rfl, rfl, rfl⟩ := H; have ig := am.o; have iw := ag.o; have ii := aj.o; have ix := af.o; have fx := bq4 ai.o; have ij := aC.o; have iy := aZ.o; have fy := bq4 ae.o; obtain ⟨fJ, fS, gf⟩ := Kd.R_slice ar.o; subst gf; obtain ⟨fK, fT, gg⟩ := Kd.S_slice aA.o; subst gg; obtain ⟨fL, fU, gh⟩ := Kd.R_slice an.o; subst gh
          go_wp2
          refine bodyPost_ret (results_ct rfl _ _ aH 29 #[.int .i64 av, .slice fJ aE.length fS, .slice fK aV.length fT, .slice fL az.length fU] (0, 0) _ rfl (by exact pu_ 3 (pu_ 2 (pu_ 1 (pu_ 0 ae.o rfl) rfl) rfl) rfl) Try.underlying29 rfl (by kernel_rfl)) rfl ?_; exact ⟨wb, HBW.o, _, _, _, by first | rfl | (simp [errW_none, errW_some] <;> rfl) | (simp only [← bl]; first | rfl | (simp [errW_none, errW_some] <;> rfl)) | (simp [*, errW_none, errW_some] <;> rfl), by exact Kd.R_mono (gR4_ (tR_ ar ae)) (fun _ hk => hk.1), by exact Kd.S_mono (gS4_ (tS_ aA ae)) (fun _ hk => ⟨hk.1.1, hk.1.2⟩), by exact Kd.R_mono (gR4_ (tR_ an ae)) (fun _ hk => hk.1), by repeat (first | (with_reducible first | exact (below_step HBW.o HB.o) | apply below_alloc | apply pw_below_drewN | apply below_drew1 | refine below_set ?_ bz.o) | exact (below_step HBW.o HB.o))⟩
     rw [if_neg c17] at H
     cases H
    rw [if_neg c16] at H
    cases H
   rw [if_neg c15] at H
   cases H
theorem impl_CountingForm.callsS (k : Nat) (bh : Int) (bs : Option Addr) (bt : Nat) (aY : List (List Int)) (bx : Option Addr) (bA : Nat) (aX : List Int) (a1 : Int) (r1 : Int) (r2 : List Int) (r3 : List (List (List Int))) (r4 : List Int) (r5 : Bool) (w : World) (hs0_1 : Kd.V (Kd.slice 3 (Kd.int .i64)) 23 w w.heap.size (fun _ => True) (.slice bs aY.length bt) aY) (bI : Kd.C (Kd.int .i64) w bx aX.length aX) (bH : aX.length ≤ bA) (h : impl_CountingForm.f k bh aY aX a1 = some (r1, r2, r3, r4, r5)) :
  Calls Try.prog 9 #[.agg #[.int .i64 bh, .slice bs aY.length bt, .slice bx aX.length bA], .int .i64 a1] w fun e w' => ∃ v1_ v2_ v3_ : Value, e = .returned (.tuple #[.agg #[.int .i64 r1, v1_, v2_, v3_], .bool r5]) ∧ Kd.R (Kd.int .i64) 3 w' w.heap.size (o1 v3_) v1_ r2 ∧ Kd.S (sS 23 (Kd.slice 3 (Kd.int .i64))) 22 w' w.heap.size (o2 v1_ v3_) v2_ r3 ∧ Kd.R (Kd.int .i64) 3 w' w.heap.size (o1 v1_) v3_ r4 ∧ Below w.heap.size w w' := by
 obtain ⟨⟨b_, n_, o_, k_⟩, hm_, hc_⟩ := Option.bind_eq_some_iff.mp h; refine (impl_CountingForm.calls1 k bh (fun _ => True) bs bt aY bx bA aX a1 r1 r2 r3 r4 r5 w hs0_1 bI bH b_ n_ o_ k_ hm_ hc_).mono ?_; rintro e w' ⟨wb, hbw, v1_, v2_, v3_, he, h1, h2, h3, hB⟩; exact ⟨v1_, v2_, v3_, he, Kd.R_lower h1 hbw.size, Kd.S_lower h2 hbw.size, Kd.R_lower h3 hbw.size, hB⟩
end Go.Proofs.Ytgmfjcckmapkbaa.PFnExactCountingForm

